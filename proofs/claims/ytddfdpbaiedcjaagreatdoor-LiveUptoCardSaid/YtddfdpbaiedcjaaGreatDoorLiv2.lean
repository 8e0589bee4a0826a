/- A part of Live's proof. Conditions: none. Part 2 of 15. -/
import Derived.Laws.CopyOwn
import Derived.Test.YtddfdpbaiedcjaaGreatDoorRows
import Derived.BigQuiet
import Derived.WalkSpells
import Derived.Test.YtddfdpbaiedcjaaGreatDoorLiv1
import Derived.RangeFuncNested
import Derived.Shelf.Abstract
import Derived.OwnWalkIn
import Derived.TacticsInMore
import Derived.LoopNIn
import Derived.LoopIn
import Derived.Laws.EntriesVeiled
import Derived.Lib.LazyBuf
import Derived.WalkLawsBesides
import Derived.Lib.Overlaps
set_option maxRecDepth 100000
set_option maxHeartbeats 16000000
set_option linter.all false
namespace Go.Proofs.YtddfdpbaiedcjaaGreatDoor
section
open Go.RowKit Go.Proofs.Tryz
def zb{p:Prop}(h:p):AA p:=h
abbrev zC:=List (Nat×Nat)
def DZ(rs:zC)(i:Nat):Nat:=(rs.getD i (0,0)).1
def DX(rs:zC)(i:Nat):Nat:=(rs.getD i (0,0)).2
def zq:zC->List Value
 | []=>[]
 | r::rs=>.int .u64 r.1 :: .int .u64 r.2::zq rs
theorem zP(rs:zC):(zq rs).length=rs.length*2:=by
 induction rs with
 | nil=>rfl
 | cons r rs ih=>simp only[zq,AR,ih];omega
theorem Jw(a b:zC):zq (a++b)=zq a++zq b:=by
 induction a with
 | nil=>rfl
 | cons r rs ih=>simp[zq,ih]
theorem ib(rs:zC):∀i,i<rs.length->(zq rs)[i*2]?=some (.int .u64 (DZ rs i:Int)):=by
 induction rs with
 | nil=>intro i h;simp at h
 | cons r rs ih =>
  intro i h;cases i with
  | zero=>rfl
  | succ i =>
   have e:(i+1)*2=i*2+1+1:=I;rw[e];simp only[zq,DG,DZ,List.getD_cons_succ];exact ih i (nF h)
theorem ia(rs:zC):∀i,i<rs.length->(zq rs)[i*2+1]?=some (.int .u64 (DX rs i:Int)):=by
 induction rs with
 | nil=>intro i h;simp at h
 | cons r rs ih =>
  intro i h;cases i with
  | zero=>rfl
  | succ i =>
   have e:(i+1)*2+1=i*2+1+1+1:=I;rw[e];simp only[zq,DG,DX,List.getD_cons_succ];exact ih i (nF h)
theorem Pn(rs:zC):∀k,(zq rs).take (k*2)=zq (rs.take k):=by
 induction rs with
 | nil=>intro k;simp[zq]
 | cons r rs ih =>
  intro k;cases k with
  | zero=>simp[zq]
  | succ k =>
   have e:(k+1)*2=k*2+1+1:=I;rw[e];simp[zq,ih]
theorem WR(rs:zC):∀k,(zq rs).drop (k*2)=zq (rs.drop k):=by
 induction rs with
 | nil=>intro k;simp[zq]
 | cons r rs ih =>
  intro k;cases k with
  | zero=>simp[zq]
  | succ k =>
   have e:(k+1)*2=k*2+1+1:=I;rw[e];simp[zq,ih]
variable{base cap e g:Nat}{rs:zC}{w:World}
def Ir{n:Nat}(h:w.ownsRow base e 2 (.slice g n cap) rs.length (zq rs)):∀i,i<rs.length->w.cell? ⟨g,i*2,none⟩=some (.int .u64 (DZ rs i:Int))/\w.cell? ⟨g,i*2+1,none⟩=some (.int .u64 (DX rs i:Int)):=by
 intro i hi;have hc:=h.cells (g:=g) rfl;have a:∀j,(⟨g,0,none⟩:Addr).add j=⟨g,j,none⟩:=λj=>by unfold Addr.add;split<;>simp_all
 exact⟨by rw[<-a];exact hc _ _ (ib rs i hi),by rw[<-a];exact hc _ _ (ia rs i hi)⟩
variable{sz:Nat}{v:Value}{xs:nJ}
def zk{n:Nat}(h:w.ownsRow base e sz v n xs):∃a cap,v=.slice a n cap/\n<=cap/\cap<=maxLen/\(0<n->∃g,a=some ⟨g,0,none⟩):=by
 rcases h.2 with⟨rfl,rfl⟩|⟨g,cap,cur,rfl,_,_,h1,h2,_⟩
 .exact⟨none,0,rfl,AF _,AM _,λh=>absurd h (Nat.lt_irrefl _)⟩
 exact⟨_,cap,rfl,h1,h2,λ_=>⟨g,rfl⟩⟩
structure DW(S:Nat->Prop)(w w':World):Prop where
 os:w'.os=w.os
 tape:w'.tape=w.tape
 output:w'.output=w.output
 size:w.heap.size<=w'.heap.size
 block:∀k,k<w.heap.size->¬S k->w'.heap[k]?=w.heap[k]?
def DY:Nat->Prop:=λ_=>False
section
variable {S:Nat->Prop} {w w' w'':World}
def DW.refl(S:Nat->Prop)(w:World):DW S w w:=⟨rfl,rfl,rfl,AF _,λ_ _ _=>rfl⟩
def DW.trans(h:DW S w w')(k:DW S w' w''):DW S w w'' :=
 ⟨k.os.trans h.os,k.tape.trans h.tape,k.output.trans h.output,AJ h.size k.size,λi hi a=>(k.block i (A7 hi h.size) a).trans (h.block i hi a)⟩
def DW.then{S':Nat->Prop}(h:DW S w w')(k:DW S' w' w'')(hs:∀i,S' i->S i\/w.heap.size<=i):DW S w w'' :=
 ⟨k.os.trans h.os,k.tape.trans h.tape,k.output.trans h.output,AJ h.size k.size,
  λi hi a=>(k.block i (A7 hi h.size) (λx=>(hs i x).elim a (λy=>I))).trans (h.block i hi a)⟩
def DW.mono{S':Nat->Prop}(h:DW S w w')(hs:∀i,S i->S' i\/w.heap.size<=i):DW S' w w' :=
 ⟨h.os,h.tape,h.output,h.size,λi hi hn=>h.block i hi (λx=>(hs i x).elim hn (λy=>I))⟩
def DW.drewN(h:DW S w w')(n:Nat):DW S w (w'.drewN n):=⟨h.os,h.tape,h.output,h.size,h.block⟩
def DW.drew(h:DW S w w'):DW S w w'.drew:=⟨h.os,h.tape,h.output,h.size,h.block⟩
def DW.alloc(h:DW S w w')(o:Obj):DW S w (w'.alloc o) :=
 ⟨h.os,h.tape,h.output,AJ h.size mv,λi hi hn=>(Below.heap_alloc w' o i (A7 hi h.size)).trans (h.block i hi hn)⟩
def AB{W W1:World}{o:Obj}(h:W.alloc o=W1):DW DY W W1:=h ▸ (DW.refl _ _).alloc _
def AC{W W1:World}{o:Obj}(h:W.alloc o=W1):W1.heap.size=W.heap.size+1:=by rw[<-h];simp
def AD{W W1:World}{o:Obj}(h:W.alloc o=W1):W1.heap[W.heap.size]?=some o:=by rw[<-h];exact heap_alloc_new W _
def DW.setCell(h:DW S w w'){p:Addr}(a:S p.block\/w.heap.size<=p.block)(u:Value):DW S w (w'.setCell p u) :=
 ⟨h.os,h.tape,h.output,by simpa [World.setCell]using h.size,λi hi b=>(Below.heap_setCell w' p u i (by
  rintro rfl;rcases a with a|a
  .exact b a
  omega)).trans (h.block i hi b)⟩
def DW.grown{row:Option Nat}(h:DW S w w')(hg:w'.grownBy w'' row)(hr:∀k,row=some k->S k\/w.heap.size<=k):DW S w w'' :=
 ⟨hg.os.trans h.os,hg.tape.trans h.tape,hg.output.trans h.output,AJ h.size hg.size,
  λi hi a=>(hg.block i (A7 hi h.size) (λe=>by
   rcases hr i e.symm with x|x
   .exact a x
   omega)).trans (h.block i hi a)⟩
def DW.of_below(h:Below w.heap.size w w'):DW S w w':=⟨h.os,h.tape,h.output,h.size,λi hi _=>h.block i hi⟩
def DW.below(h:DW DY w w'):Below w.heap.size w w':=⟨h.os,h.tape,h.output,h.size,λi hi=>h.block i hi (λx=>x)⟩
def DW.cell(h:DW S w w'){a:Addr}(hs:¬S a.block)(hc:w.cell? a=some v):w'.cell? a=some v :=
 (World.cell?_of_block (h.block a.block (World.block_lt_of_cell? w a hc) hs)).trans hc
variable{k:Nat}
def DW.obj(h:DW S w w'){o:Obj}(hs:¬S k)(hc:w.heap[k]?=some o):w'.heap[k]?=some o :=
 (h.block k (AH.1 hc).1 hs).trans hc
def DW.owns(h:DW S w w'){n:Nat}(b:w.ownsRow base e sz v n xs)(hs:∀g,v.ownBlock=some g->¬S g):w'.ownsRow base e sz v n xs:=by
 refine⟨b.1,?_⟩;rcases b.2 with hn|⟨g,cap,a,rfl,hb,hg,rest⟩
 .exact .inl hn
 exact .inr ⟨g,cap,a,rfl,hb,h.obj (hs g rfl) hg,rest⟩
end
variable{b o:Nat}
def zm(h:w.cell? (b,o)=some v):b<w.heap.size:=World.block_lt_of_cell? w _ h
variable{cs:Array Value}{fz:Nat×Nat}{k t:Nat}
def za(h:w.heap[k]?=some (.cells cs t fz))(hv:cs[o]?=some v):w.cell? (k,o)=some v:=by
 unfold World.cell?;simp only[h];simpa using hv
def zg(h:w.heap[k]?=some (.cells cs t (0,0))):w.frozen? ⟨k,o,none⟩=false:=by
 unfold World.frozen?;simp only[h];simp
variable{j:Nat}
def Pm{R:Nat}{x:Value}{a:Addr}(h:w.cell? a=some v)(ne:¬a.block=R):(w.setCell (R,j) x).cell? a=some v :=
 ((DW.refl (λk=>k=R) w).setCell (p:=(R,j)) (.inl rfl) x).cell ne h
def MJ{R:Nat}{x:Value}{a:Addr}(h:w.cell? a=some v)(ne:¬a.block=R):(w.setCell (R,j) x).drew.cell? a=some v:=Pm h ne
def MI{R:Nat}{x y:Value}{a:Addr}(h:w.cell? a=some v)(ne:¬a.block=R):((w.setCell (R,j) x).setCell (R,k) y).drew.cell? a=some v:=Pm (Pm h ne) ne
variable{w':World}
def Ni(h:w'.heap[b]?=w.heap[b]?)(o:Nat)(v:Value):(w'.setCell (b,o) v).heap[b]?=(w.setCell (b,o) v).heap[b]?:=by
 simp only[World.setCell,CJ,h]
variable{P:Program}
def Pb {f : FuncId} {fn : Func} {c : Code} (hf : P.funcs[f]? = some fn) (a : (fn.name == "runtime.NumGoroutine") = false) (hb : fn.body = some c) (args : Array Value) (w : World):(callFunc f args).run P w=.ok (.enter f args) w:=by
 have h1 : fn.name ≠ "runtime.NumGoroutine" := nF a
 simp[callFunc,hf,h1,hb]
section
variable {P:Program}
def zZ(g o j:Nat):(⟨g,o,none⟩:Addr).add j=⟨g,o+j,none⟩:=by unfold Addr.add;split<;>simp_all
theorem Wj(hk:(P.info? e).map (·.size)=some k)(w:World):(sizeOf e).run P w=.ok k w:=by
 cases hq:P.info? e with
 | none=>simp[hq]at hk
 | some i=>simp[hq]at hk;simp[sizeOf,typeInfo,hq,hk]
def U4{a:nJ}(hg:w.heap[g]?=some (.cells a.toArray t fz))(o n:Nat):∀j v,((a.drop o).take n)[j]?=some v->w.cell? ((⟨g,o,none⟩:Addr).add j)=some v:=by
 intro j v b;rw[zZ];rw[CU]at b;split at b
 .rw[BD]at b;simpa [World.cell?,hg]using b
 cases b
def Mm(w:World)(f sT ty e k:Nat)(hu:P.underlying f=some (.slice e))(hk:(P.info? e).map (·.size)=some k)
  (g d dl dc h os sl i n:Nat) (b src:nJ) (t t':Nat) (fz:Nat×Nat)
  (hg:w.heap[g]?=some (.cells b.toArray t (0,0))) (hh:w.heap[h]?=some (.cells src.toArray t' fz)) (hn1:n<=sl) (hn2:n<=dl) (hn3:n=sl\/n=dl)
  (hs:os+n*k<=src.length) (hd:d+n*k<=b.length) (h1:∀v∈(src.drop os).take (n*k),v.oneCell'=true) :
  (Builtin.copy_ #[f,sT] ty #[.slice (g,d) dl dc,.slice (h,os) sl i]).run P w =
   .ok (goInt n) (w.setRow g (splice b d ((src.drop os).take (n*k))).toArray):=by
 have hn:n=Nat.min sl dl:=by
  show n=min sl dl;omega
 have a:((src.drop os).take (n*k)).length=n*k:=my;have hl:=run_firstCells_some (P:=P) (w:=w) k n ⟨h,os,none⟩ sl i _ a (U4 hh os (n*k));have c:=run_storeCells_at P g d t ((src.drop os).take (n*k)) 0 b.toArray w hg my h1;have hz:=Wj hk;subst hn;simp only[B7,a]at c;have j:=c;simp[Builtin.copy_,run_underlying hu,Builtin.lenOf,hz,hl,c,splice,a];try omega
def mG(z:Array Value)(n:Nat)(h1:∀v∈z.toList,v.oneCell'=true):∀v∈(Builtin.zeroCells z n).toList,v.oneCell'=true:=by
 intro v b;simp only[Builtin.zeroCells,Array.toList_map,BQ]at b;obtain⟨i,hi,rfl⟩:=b;by_cases hz:z.size=0
 .simp[hz]at hi
 have a:i % z.size<z.size:=Nat.mod_lt _ I;apply h1;rw[getElem!_pos z _ a];exact Array.getElem_mem_toList a
theorem Mn(w:World)(T ty e:Nat)(z:Value)(k:Nat)(f:P.underlying T=some (.slice e))(hv:∀w,(zeroValue e).run P w=.ok z w)(hz:z.cells.size=k)
  (h1:∀v∈z.cells.toList,v.oneCell'=true) (g o n c:Nat) (a:nJ) (t:Nat) (hg:w.heap[g]?=some (.cells a.toArray t (0,0))) (hd:o+n*k<=a.length) :
  (Builtin.clear_ #[T] ty #[.slice (g,o) n c]).run P w=.ok (.tuple #[]) (w.setRow g (splice a o (Builtin.zeroCells z.cells n).toList).toArray):=by
 have b:(Builtin.zeroCells z.cells n).toList.length=n*k:=by simp[size_zeroCells,hz]
 have d:=run_storeCells_at P g o t (Builtin.zeroCells z.cells n).toList 0 a.toArray w hg (by rw[b];simpa using hd) (mG _ _ h1);simp only[B7,b]at d;cases n with
 | zero =>
  have e1:(Builtin.zeroCells z.cells 0).toList=[]:=by simp[Builtin.zeroCells]
  have:=setRow_self w g a.toArray t (0,0) hg;simp[Builtin.clear_,run_underlying f,e1,splice,this]
 | succ n =>
  simp only[Builtin.clear_];simp[run_underlying f,hv,d,splice,b]
def EA(w:World)(v v':Value):Prop:=∀k,v'.ownBlock=some k->v.ownBlock=some k\/w.heap.size<=k
def EA.refl(w:World)(v:Value):EA w v v:=λ_ h=>.inl h
def zV(w:World)(t e:Nat)(i:TypeInfo)(z:Value)(size bytes:Nat)(D:P.underlying t=some (.slice e))(hi:P.info? e=some i)(L:i.zero=some z)
  (r:i.size=size) (F:i.bytes=bytes) (G:z.cells.size=size) (hsz:0<size)
  (v:Value) (n:Nat) (xs:nJ) (d:w.ownsRow 0 e size v n xs)
  (a:Addr) (m c:Nat) (b:nJ) (hl:b.length=m*size) (f:∀j u,b[j]?=some u->w.cell? (a.add j)=some u) (h1:∀u∈b,u.oneCell'=true)
  (A:n+m<=maxLen) (l:(n+m)*bytes<=140737488355328) :
  ∃v' w',(∀ty,(Builtin.append_ #[t,t] ty #[v,.slice (some a) m c]).run P w=.ok v' w')/\w'.ownsRow 0 e size v' (n+m) (xs++b)/\w.grownBy w' v.ownBlock/\EA w v v':=by
 subst r;subst F;have E:n+m<=9223372036854775807:=by simp only[maxLen]at A;omega
 have o:(xs++b).length=(n+m)*i.size:=by rw[AG,d.1,hl,DV]
 have grown:∀(old:Nat),old<n+m->∀(row:Option Nat),
   (w.drew.alloc (.cells (xs.toArray++b.toArray++Builtin.zeroCells z.cells (grownCap w (n+m) old e-(n+m))) e)).ownsRow 0 e i.size
    (.slice w.heap.size (n+m) (grownCap w (n+m) old e)) (n+m) (xs++b) /\
   w.grownBy (w.drew.alloc (.cells (xs.toArray++b.toArray++Builtin.zeroCells z.cells (grownCap w (n+m) old e-(n+m))) e)) row:=by
  intro old ho row;have H:=grownCap_ge w (n+m) old e;have s:=grownCap_le_maxLen w (n+m) old e A;refine⟨⟨o,.inr ⟨w.heap.size,_,_,rfl,AM _,heap_alloc_new w.drew _,H,s,?_,?_⟩⟩,⟨rfl,rfl,rfl,mv,λk hk _=>Below.heap_alloc w.drew _ k hk⟩⟩
  .simp only[DR,Am,size_zeroCells,G,d.1,hl,<-Nat.add_mul];congr 1;omega
  simp only[DN,Ap];rw[<-List.append_assoc,<-o];exact BT
 have q:∀c n v,EA w v (.slice w.heap.size n c):=λc n v k hk=>by
  simp[Value.ownBlock]at hk;omega
 rcases d.2 with⟨rfl,rfl⟩|⟨g,cap,x,rfl,J,hg,hnc,s,K,y⟩
 .have hx:=Aj (nF d.1);subst hx;by_cases hm:m=0
  .subst hm;have hn:=Aj (nF hl);subst hn;refine⟨.slice none 0 0,w,λty=>?_,World.ownsRow_nil w 0 e i.size,⟨rfl,rfl,rfl,AF _,λ_ _ _=>rfl⟩,EA.refl _ _⟩;simp[Builtin.append_,run_underlying D,sizeOf,typeInfo,hi,Builtin.lenOf,Builtin.firstCells,loadCells,loadCellsFrom]
  have B:=λty=>run_append_nil (P:=P) w t ty e i z D hi L a m c b hl f I I (by have hb:=l;simp only[A6]at hb;omega)
  have p:=grown 0 I (Value.ownBlock (.slice none 0 0));simp only[A6,An,Array.empty_append]at p ⊢;exact⟨_,_,B,p.1,p.2,q _ _ _⟩
 by_cases h:n+m<=cap
 .have C:n*i.size+b.length<=x.size:=by rw[hl,K,<-Nat.add_mul];exact B8 _ h
  have B:=λty=>run_append_room (P:=P) w t ty e i D hi g n cap x hg a m c b hl f h1 h C
  refine⟨_,_,B,⟨o,.inr ⟨g,cap,_,rfl,J,setRow_heap w g x _ e _ hg,h,s,?_,?_⟩⟩,⟨rfl,rfl,rfl,mv,λk _ hk=>setRow_other w g k _ (λe=>hk (by simp[Value.ownBlock,e]))⟩,λk hk=>.inl hk⟩
  .simp only[Am,AG,AU,Ac,CA];omega
  rw[y,<-o];exact BT
 have holds:=d.cells (g:=g) rfl;have B:=λty=>run_append_grow (P:=P) w t ty e i z D hi L ⟨g,0,none⟩ n cap xs d.1 holds a m c b hl f I I (growslice_fits I l)
 have p:=grown cap I (Value.ownBlock (.slice g n cap));exact⟨_,_,B,p.1,p.2,q _ _ _⟩
def me(w:World)(t u ty e:Nat)(ik:IntKind)(i:TypeInfo)(z:Value)(ht:P.underlying t=some (.slice e))(hu:P.underlying u=some (.int ik))(hi:P.info? e=some i)(hz:i.zero=some z)
  (b:Addr) (a c n:Nat) (d:nJ) (m:d.length=a*i.size) (holds:∀j v,d[j]?=some v->w.cell? (b.add j)=some v)
  (hg:c<a+n) (h63:a+n<=9223372036854775807) (hb:(a+n)*i.bytes<=140737488355328) (hnz:0<n*i.size) :
  (Builtin.append_ #[t,u] ty #[.slice (some b) a c,.int .i64 n]).run P w =
   .ok (.slice w.heap.size (a+n) (grownCap w (a+n) c e))
    (w.drew.alloc (.cells (d.toArray++Builtin.zeroCells z.cells n++Builtin.zeroCells z.cells (grownCap w (a+n) c e-(a+n))) e)):=by
 have hn:¬(a+n<=c):=I;have g:¬(9223372036854775807<((a:Int)+(n:Int))):=I;have q:=growslice_fits hg hb;have h:¬(281474976710656<Builtin.nextslicecap (a+n) c*i.bytes):=I;have hw:IntKind.i64.wrap (n:Int)=(n:Int):=IntWalk.i64_in _ I;have k:¬((n:Int)<0):=I;have hbn:n*i.bytes<=281474976710656:=by rw[DV]at hb;omega
 have l:¬(281474976710656<(n:Int)*(i.bytes:Int)):=by
  have:((n*i.bytes:Nat):Int)<=281474976710656:=I;rw[Int.natCast_mul]at this;omega
 have f:¬(n*i.size=0):=I;have o:=run_firstCells_some (P:=P) w.drew i.size a b a c d m (nF holds);have p:Sem.run P (asIntOf (.int .i64 n)) w=.ok (.i64,(n:Int)) w:=rfl;simp[Builtin.append_,run_underlying ht,run_underlying hu,sizeOf,typeInfo,zeroValue,hi,hz,asInt,p,hw,k,l,hn,g,h,f,Question.forced,o,newRow,grownCap]
variable{Q:Exit->Act->World->Prop}{ops:Array Oper}{w1:World}
def zn{rest:List Oper}{o:Oper}{a:Act}(c:o.guard=none)(s x:Operand)(t u:TypeId)
  (ho:o.op=.call { callee:=.builtin .append,args:=#[s,x],argTypes:=#[t,u] }) (d e v':Value) (hs:a.eval s=d) (hx:a.eval x=e)
  (De:∀ty,(Builtin.append_ #[t,u] ty #[d,e]).run P w=.ok v' w1) (h:wpList P ops Q rest (a.put o.dst v') w1):wpList P ops Q (o::rest) a w:=by
 refine wpList_plain c λK hK=>?_
 have b:=De o.type;unfold Oper.wp;simp[execOp,ho,resolve,invoke,builtin,hs,hx,b,Result.andThen];exact hK _ _ h
def zS{o:Oper}{a:Act}{K:Act->World->Prop}{E:Prop}(c:o.guard=none)(s x:Operand)(t u:TypeId)
  (ho:o.op=.call { callee:=.builtin .append,args:=#[s,x],argTypes:=#[t,u] }) (d e v':Value) (hs:a.eval s=d) (hx:a.eval x=e)
  (De:∀ty,(Builtin.append_ #[t,u] ty #[d,e]).run P w=.ok v' w1) (h:K (a.put o.dst v') w1) :
  if Region.wanted o (yielded ops a.tmps)=true then Oper.wp P o a w K Q else E:=by
 have hw:Region.wanted o (yielded ops a.tmps)=true:=by simp[Region.wanted,c]
 rw[AQ hw];have b:=De o.type;unfold Oper.wp;simp[execOp,ho,resolve,invoke,builtin,hs,hx,b,Result.andThen];exact h
end
section
variable {P:Program}
def K3(w:World)(t e:Nat)(i:TypeInfo)(z:Value)(size bytes:Nat)(E:P.underlying t=some (.slice e))(hi:P.info? e=some i)(N:i.zero=some z)
  (y:i.size=size) (G:i.bytes=bytes) (H:z.cells.size=size) (hsz:0<size)
  (v:Value) (n:Nat) (xs:nJ) (d:w.ownsRow 0 e size v n xs)
  (a:Addr) (m c:Nat) (b:nJ) (hl:b.length=m*size) (f:∀j u,b[j]?=some u->w.cell? (a.add j)=some u) (h1:∀u∈b,u.oneCell'=true)
  (A:n+m<=maxLen) (l:(n+m)*bytes<=140737488355328) :
  ∃v' w',(∀ty,(Builtin.append_ #[t,t] ty #[v,.slice (some a) m c]).run P w=.ok v' w')/\w'.ownsRow 0 e size v' (n+m) (xs++b)/\w.grownBy w' v.ownBlock/\EA w v v'/\w'.ownsRow 0 e size v n xs:=by
 subst y;subst G;have F:n+m<=9223372036854775807:=by simp only[maxLen]at A;omega
 have o:(xs++b).length=(n+m)*i.size:=by rw[AG,d.1,hl,DV]
 have grown:∀(old:Nat),old<n+m->∀(row:Option Nat),
   (w.drew.alloc (.cells (xs.toArray++b.toArray++Builtin.zeroCells z.cells (grownCap w (n+m) old e-(n+m))) e)).ownsRow 0 e i.size
    (.slice w.heap.size (n+m) (grownCap w (n+m) old e)) (n+m) (xs++b) /\
   w.grownBy (w.drew.alloc (.cells (xs.toArray++b.toArray++Builtin.zeroCells z.cells (grownCap w (n+m) old e-(n+m))) e)) row:=by
  intro old ho row;have J:=grownCap_ge w (n+m) old e;have s:=grownCap_le_maxLen w (n+m) old e A;refine⟨⟨o,.inr ⟨w.heap.size,_,_,rfl,AM _,heap_alloc_new w.drew _,J,s,?_,?_⟩⟩,⟨rfl,rfl,rfl,mv,λk hk _=>Below.heap_alloc w.drew _ k hk⟩⟩
  .simp only[DR,Am,size_zeroCells,H,d.1,hl,<-Nat.add_mul];congr 1;omega
  simp only[DN,Ap];rw[<-List.append_assoc,<-o];exact BT
 have q:∀c n v,EA w v (.slice w.heap.size n c):=λc n v k hk=>by
  simp[Value.ownBlock]at hk;omega
 rcases d.2 with⟨rfl,rfl⟩|⟨g,cap,x,rfl,B,hg,K,s,L,r⟩
 .have hx:=Aj (nF d.1);subst hx;by_cases hm:m=0
  .subst hm;have hn:=Aj (nF hl);subst hn;refine⟨.slice none 0 0,w,λty=>?_,World.ownsRow_nil w 0 e i.size,⟨rfl,rfl,rfl,AF _,λ_ _ _=>rfl⟩,EA.refl _ _,World.ownsRow_nil w 0 e i.size⟩;simp[Builtin.append_,run_underlying E,sizeOf,typeInfo,hi,Builtin.lenOf,Builtin.firstCells,loadCells,loadCellsFrom]
  have C:=λty=>run_append_nil (P:=P) w t ty e i z E hi N a m c b hl f I I (by have hb:=l;simp only[A6]at hb;omega)
  have p:=grown 0 I (Value.ownBlock (.slice none 0 0));simp only[A6,An,Array.empty_append]at p ⊢;exact⟨_,_,C,p.1,p.2,q _ _ _,World.ownsRow_nil _ 0 e i.size⟩
 by_cases h:n+m<=cap
 .have D:n*i.size+b.length<=x.size:=by rw[hl,L,<-Nat.add_mul];exact B8 _ h
  have C:=λty=>run_append_room (P:=P) w t ty e i E hi g n cap x hg a m c b hl f h1 h D
  refine⟨_,_,C,⟨o,.inr ⟨g,cap,_,rfl,B,setRow_heap w g x _ e _ hg,h,s,?_,?_⟩⟩,⟨rfl,rfl,rfl,mv,λk _ hk=>setRow_other w g k _ (λe=>hk (by simp[Value.ownBlock,e]))⟩,λk hk=>.inl hk,⟨d.1,.inr ⟨g,cap,_,rfl,B,setRow_heap w g x _ e _ hg,K,s,?_,?_⟩⟩⟩
  .simp only[Am,AG,AU,Ac,CA];omega
  .rw[r,<-o];exact BT
  .simp only[Am,AG,AU,Ac,CA];omega
  rw[r,<-d.1,Ap];exact BT
 have holds:=d.cells (g:=g) rfl;have C:=λty=>run_append_grow (P:=P) w t ty e i z E hi N ⟨g,0,none⟩ n cap xs d.1 holds a m c b hl f I I (growslice_fits I l)
 have p:=grown cap I (Value.ownBlock (.slice g n cap));have M:=grown cap I none;exact⟨_,_,C,p.1,p.2,q _ _ _,d.kept M.2 (by simp[Value.ownBlock])⟩
def mi(w:World)(t u e:Nat)(i:TypeInfo)(B:P.underlying t=some (.slice e))(C:P.underlying u=some .string)(hi:P.info? e=some i)(M:i.zero=some (.int .u8 0))
  (d:i.size=1) (x:i.bytes=1) (v:Value) (n:Nat) (xs:nJ) (a:w.ownsRow 0 e 1 v n xs) (s:ByteArray) (y:n+s.size<=maxLen) (D:n+s.size<=140737488355328) :
  ∃v' w',(∀ty,(Builtin.append_ #[t,u] ty #[v,.string s]).run P w=.ok v' w')/\w'.ownsRow 0 e 1 v' (n+s.size) (xs++Lib.strCells s)/\w.grownBy w' v.ownBlock/\EA w v v'/\w'.ownsRow 0 e 1 v n xs:=by
 have E:n+s.size<=9223372036854775807:=by simp only[maxLen]at y;omega
 have o:xs.length=n:=nF a.1;have f:(xs++Lib.strCells s).length=(n+s.size)*1:=by rw[AG,o,Lib.strCells_length,DJ]
 have grown:∀(old:Nat),old<n+s.size->∀(row:Option Nat),
   (w.drew.alloc (.cells (xs.toArray++(Lib.strCells s).toArray++Builtin.zeroCells (Value.int .u8 0).cells (grownCap w (n+s.size) old e-(n+s.size))) e)).ownsRow 0 e 1
    (.slice w.heap.size (n+s.size) (grownCap w (n+s.size) old e)) (n+s.size) (xs++Lib.strCells s) /\
   w.grownBy (w.drew.alloc (.cells (xs.toArray++(Lib.strCells s).toArray++Builtin.zeroCells (Value.int .u8 0).cells (grownCap w (n+s.size) old e-(n+s.size))) e)) row:=by
  intro old ho row;have G:=grownCap_ge w (n+s.size) old e;have p:=grownCap_le_maxLen w (n+s.size) old e y;refine⟨⟨f,.inr ⟨w.heap.size,_,_,rfl,AM _,heap_alloc_new w.drew _,G,p,?_,?_⟩⟩,⟨rfl,rfl,rfl,mv,λk hk _=>Below.heap_alloc w.drew _ k hk⟩⟩
  .have H:(Value.int IntKind.u8 0).cells.size=1:=rfl;simp only[DR,Am,size_zeroCells,H,o,Lib.strCells_length];omega
  simp only[DN,Ap];rw[<-List.append_assoc,<-f];exact BT
 have j:∀c n v,EA w v (.slice w.heap.size n c):=λc n v k hk=>by
  simp[Value.ownBlock]at hk;omega
 rcases a.2 with⟨rfl,rfl⟩|⟨g,cap,l,rfl,z,hg,J,p,K,q⟩
 .have hx:=Aj o;subst hx;by_cases F:s.size=0
  .have hn:=Aj (by rw[Lib.strCells_length];exact F);refine⟨.slice none 0 0,w,λty=>?_,by rw[F,hn];exact World.ownsRow_nil w 0 e 1,⟨rfl,rfl,rfl,AF _,λ_ _ _=>rfl⟩,EA.refl _ _,World.ownsRow_nil w 0 e 1⟩;have hf:=Lib.run_firstCells_string (P:=P) w 1 s;rw[F]at hf;simp[Builtin.append_,run_underlying B,run_underlying C,sizeOf,typeInfo,hi,d,Builtin.lenOf,F,hf]
  have r:=λty=>run_append_nil_string (P:=P) w t u ty e i (.int .u8 0) B C hi M s I I (by rw[x];omega)
  have h:=grown 0 I (Value.ownBlock (.slice none 0 0));simp only[A6,An,Array.empty_append]at h ⊢;have e1:(s.data.map λb=>Value.int .u8 b.toNat)=(Lib.strCells s).toArray:=by
   apply Array.ext';simp[Lib.strCells]
  rw[e1]at r;exact⟨_,_,r,h.1,h.2,j _ _ _,World.ownsRow_nil _ 0 e 1⟩
 by_cases m:n+s.size<=cap
 .have N:l.size=cap:=nF K;have A:l.toList.take n=xs:=nF q;have r:=λty=>Lib.run_append_room_string (P:=P) w t u ty e i B C hi d g n cap l hg s m I
  refine⟨_,_,r,⟨f,.inr ⟨g,cap,_,rfl,z,setRow_heap w g l _ e _ hg,m,p,?_,?_⟩⟩,⟨rfl,rfl,rfl,mv,λk _ hk=>setRow_other w g k _ (λe=>hk (by simp[Value.ownBlock,e]))⟩,λk hk=>.inl hk,⟨a.1,.inr ⟨g,cap,_,rfl,z,setRow_heap w g l _ e _ hg,J,p,?_,?_⟩⟩⟩
  .simp only[Am,AG,AU,Ac,CA,Lib.strCells_length];omega
  .rw[A,<-f];exact BT
  .simp only[Am,AG,AU,Ac,CA,Lib.strCells_length];omega
  rw[A,<-a.1,Ap];exact BT
 have holds:=a.cells (g:=g) rfl;have r:=λty=>Lib.run_append_grow_string (P:=P) w t u ty e i (.int .u8 0) B C hi M ⟨g,0,none⟩ n cap xs (by rw[d];simpa using o) holds s I I (by rw[x];exact growslice_fits I I)
 have h:=grown cap I (Value.ownBlock (.slice g n cap));have L:=grown cap I none;exact⟨_,_,r,h.1,h.2,j _ _ _,a.kept L.2 (by simp[Value.ownBlock])⟩
end
def zU(l:nG):List Value:=l.map λc=>.int .u8 (c.toNat:Int)
def JH(l:nG):(zU l).length=l.length:=by simp[zU]
def Nh(a b:nG):zU (a++b)=zU a++zU b:=by simp[zU]
def Ri(l:nG):∀u∈zU l,u.oneCell'=true:=by
 intro u a;simp only[zU,BQ]at a;obtain⟨_,_,rfl⟩:=a;rfl
def OB(w:World)(v:Value)(l:nG):Prop:=w.ownsRow 0 5 1 v l.length (zU l)
def OB.nil(w:World):OB w (.slice none 0 0) []:=World.ownsRow_nil w 0 _ 1
structure Dz(w:World)(v:Value)(l new:nG)(v':Value)(w':World):Prop where
 own:OB w' v' (l++new)
 old:OB w' v l
 grown:w.grownBy w' v.ownBlock
 at_:EA w v v'
variable{m:Nat}{v':Value}
def jA{n:Nat}{j:nJ}(h:w.ownsRow 0 e sz v n xs)(h':w.ownsRow 0 e sz v' m (xs++j))(hb:v'.ownBlock=v.ownBlock)(k:w'.ownsRow 0 e sz v' m (xs++j)):w'.ownsRow 0 e sz v n xs:=by
 rcases h.2 with⟨rfl,rfl⟩|⟨g,cap,cur,rfl,hbg,hg,l,o,p,q⟩
 .have:=Aj (nF h.1);subst this;exact World.ownsRow_nil w' 0 e sz
 rcases h'.2 with⟨rfl,_⟩|⟨g',t,u,rfl,_,c,x,y,d,i⟩
 .simp[Value.ownBlock]at hb
 simp[Value.ownBlock]at hb;subst hb;rw[hg]at c;cases c;rcases k.2 with⟨r,_⟩|⟨g2,z,b,r,_,s,A,B,f,a⟩
 .cases r
 cases r;refine⟨h.1,.inr ⟨g',cap,b,rfl,AM _,s,l,o,by rw[f,<-d,p],?_⟩⟩;have C:=h.1;have D:(b.toList.take (m*sz)).take (n*sz)=(xs++j).take (n*sz):=by rw[a]
 rw[Bf,<-C,BT]at D;have e3:=k.1;simp only[AG]at e3
 rwa [BZ I,C]at D
variable{l:nG}{w1:World}
theorem Dz.trans{c:World}{d j:Value}{a b:nG}(h:Dz w v l a d w1)(k:Dz w1 d (l++a) b j c):Dz w v l (a++b) j c:=by
 have f:w.grownBy c v.ownBlock:=⟨k.grown.os.trans h.grown.os,k.grown.tape.trans h.grown.tape,k.grown.output.trans h.grown.output,AJ h.grown.size k.grown.size,λi hi m =>
  (k.grown.block i (A7 hi h.grown.size) (λe=>by
   rcases h.at_ i e.symm with x|x
   .exact m x.symm
   omega)).trans (h.grown.block i hi m)⟩
 refine⟨by rw[<-List.append_assoc];exact k.own,?_,f,λi hi=>?_⟩
 .by_cases hb:d.ownBlock=v.ownBlock
  .have h1:=h.own;have h2:=k.old;unfold OB at h1 h2 ⊢;rw[Nh]at h1 h2;exact jA h.old h1 hb h2
  refine h.old.kept k.grown ?_;cases hv:v.ownBlock with
  | none=>simp
  | some g=>simpa [hv]using λe=>hb (e.symm.trans hv.symm)
 rcases k.at_ i hi with x|x
 .exact h.at_ i x
 exact .inr (AJ h.grown.size x)
def zH(n:Nat):nG :=
 if n<64 then [UInt8.ofNat n]
 else if n<16384 then [UInt8.ofNat (n / 256+64),UInt8.ofNat n]
 else if n<1073741824 then [UInt8.ofNat (n / 16777216+128),UInt8.ofNat (n / 65536),UInt8.ofNat (n / 256),UInt8.ofNat n]
 else [UInt8.ofNat (n / 72057594037927936+192),UInt8.ofNat (n / 281474976710656),UInt8.ofNat (n / 1099511627776),UInt8.ofNat (n / 4294967296),UInt8.ofNat (n / 16777216),UInt8.ofNat (n / 65536),UInt8.ofNat (n / 256),UInt8.ofNat n]
def Ox:(prog.info? 5).map (λi=>(i.zero,i.size,i.bytes))=some (some (.int .u8 0),1,1):=mr
def Ma(w:World)(v:Value)(l new:nG)(cs:Array Value)(m:Nat)(h:OB w v l)(c:cs.toList=zU new)(f:new.length=m)(hl:l.length+m<=140737488355328):∃v' w',(∀ty,(Builtin.append_ #[60,60] ty #[v,.slice w.heap.size m m]).run prog (w.alloc (.cells cs 5))=.ok v' w')/\Dz w v l new v' w':=by
 obtain⟨i,hi,hz,d,e⟩:=info_parts Ox;have b:(w.alloc (.cells cs 5)).ownsRow 0 5 1 v l.length (zU l):=World.ownsRow.alloc h _;have a:∀(j:Nat) u,(zU new)[j]?=some u->(w.alloc (.cells cs 5)).cell? ((⟨w.heap.size,0,none⟩:Addr).add j)=some u:=by
  intro j u hj;rw[zZ];refine za (heap_alloc_new w _) ?_;rw[A6,<-Array.getElem?_toList,c];exact hj
 obtain⟨v',w',h1,h2,h3,h4,h5⟩:=K3 (P:=prog) (w.alloc (.cells cs 5)) 60 5 i (.int .u8 0) 1 1 underlying60 hi hz d e rfl mu v l.length (zU l) b
  ⟨w.heap.size,0,none⟩ m m (zU new) (by rw[JH,f,DJ]) a (Ri new) mz I
 refine⟨v',w',h1,⟨?_,h5,?_,?_⟩⟩
 .unfold OB;rw[AG,f,Nh];exact h2
 .exact⟨h3.os,h3.tape,h3.output,AJ mv h3.size,λk hk hn=>(h3.block k my hn).trans (Below.heap_alloc w _ k hk)⟩
 intro k hk;rcases h4 k hk with x|x
 .exact .inl x
 exact .inr (by simp at x;omega)
def P5:∀a:Fin 64,bits BinOp.or IntKind.u8 ((a.val:Nat):Int) 64=((a.val+64:Nat):Int)/\bits BinOp.or IntKind.u8 ((a.val:Nat):Int) 128=((a.val+128:Nat):Int)/\bits BinOp.or IntKind.u8 ((a.val:Nat):Int) 192=((a.val+192:Nat):Int):=nA
def Ow(n:Nat):Value.int .u8 ((UInt8.ofNat n).toNat:Int)=.int .u8 ((n:Int) % 256):=by
 rw[By];congr 1
def dN(v:Value)(l:nG)(n:Nat)(w:World)(h:OB w v l)(hl:l.length<=70368744177664)(b:n<64):Calls prog 83 #[v,n] w λe w'=>∃v',e=.returned v'/\Dz w v l (zH n) v' w':=by
 have d1:(n:Int)<64:=I;obtain⟨v',w',hr,De⟩:=Ma w v l (zH n) #[.int .u8 (n:Int)] 1 h (by simp[zH,b,zU];omega) (by simp[zH,b]) I;obtain⟨a,cap,rfl,_⟩:=zk h;have H:=zb De;clear De;go_enter func83,ntmps83;go_wp2_with (at_builtin;refine zn rfl _ _ _ _ rfl _ _ _ rfl rfl hr ?_);go_ret;exact⟨_,rfl,H.z⟩
def dM(v:Value)(l:nG)(n:Nat)(w:World)(h:OB w v l)(hl:l.length<=70368744177664)(hn:64<=n)(b:n<16384):Calls prog 83 #[v,n] w λe w'=>∃v',e=.returned v'/\Dz w v l (zH n) v' w':=by
 have d1:¬(n:Int)<64:=I;have d2:(n:Int)<16384:=I;have c:(#[.int .u8 (bits BinOp.or IntKind.u8 ((n:Int) / 256) 64),.int .u8 ((n:Int) % 256)]:Array Value).toList=zU (zH n):=by
  have o:=P5 ⟨n / 256,I⟩;have e:((n / 256:Nat):Int)=(n:Int) / 256:=I;simp only[e]at o;simp only[o.1];unfold zH;simp only[(I:¬n<64),b,BC,Be,zU,Bq,C4,Ow];simp;omega
 obtain⟨v',w',hr,De⟩:=Ma w v l (zH n) (#[.int .u8 (bits BinOp.or IntKind.u8 ((n:Int) / 256) 64),.int .u8 ((n:Int) % 256)]:Array Value) 2 h c (by rw[<-JH,<-c];rfl) I;clear c;obtain⟨a,cap,rfl,_⟩:=zk h;have H:=zb De;clear De;go_enter func83,ntmps83;go_wp2_with (at_builtin;refine zn rfl _ _ _ _ rfl _ _ _ rfl rfl hr ?_);go_ret;exact⟨_,rfl,H.z⟩
def dL(v:Value)(l:nG)(n:Nat)(w:World)(h:OB w v l)(hl:l.length<=70368744177664)(hn:16384<=n)(b:n<1073741824):Calls prog 83 #[v,n] w λe w'=>∃v',e=.returned v'/\Dz w v l (zH n) v' w':=by
 have d1:¬(n:Int)<64:=I;have d2:¬(n:Int)<16384:=I;have d3:(n:Int)<1073741824:=I;have c:(#[.int .u8 (bits BinOp.or IntKind.u8 ((n:Int) / 16777216) 128),.int .u8 ((n:Int) / 65536 % 256),.int .u8 ((n:Int) / 256 % 256),.int .u8 ((n:Int) % 256)]:Array Value).toList=zU (zH n):=by
  have o:=P5 ⟨n / 16777216,I⟩;have e:((n / 16777216:Nat):Int)=(n:Int) / 16777216:=I;simp only[e]at o;simp only[o.2.1];unfold zH;simp only[(I:¬n<64),(I:¬n<16384),b,BC,Be,zU,Bq,C4,Ow];simp;omega
 obtain⟨v',w',hr,De⟩:=Ma w v l (zH n) (#[.int .u8 (bits BinOp.or IntKind.u8 ((n:Int) / 16777216) 128),.int .u8 ((n:Int) / 65536 % 256),.int .u8 ((n:Int) / 256 % 256),.int .u8 ((n:Int) % 256)]:Array Value) 4 h c (by rw[<-JH,<-c];rfl) I;clear c;obtain⟨a,cap,rfl,_⟩:=zk h;have H:=zb De;clear De;go_enter func83,ntmps83;go_wp2_with (at_builtin;refine zn rfl _ _ _ _ rfl _ _ _ rfl rfl hr ?_);go_ret;exact⟨_,rfl,H.z⟩
def dK(v:Value)(l:nG)(n:Nat)(w:World)(h:OB w v l)(hl:l.length<=70368744177664)(hn:1073741824<=n)(hn2:n<4611686018427387904):Calls prog 83 #[v,n] w λe w'=>∃v',e=.returned v'/\Dz w v l (zH n) v' w':=by
 have d1:¬(n:Int)<64:=I;have d2:¬(n:Int)<16384:=I;have d3:¬(n:Int)<1073741824:=I;have b:(#[.int .u8 (bits BinOp.or IntKind.u8 ((n:Int) / 72057594037927936) 192),.int .u8 ((n:Int) / 281474976710656 % 256),.int .u8 ((n:Int) / 1099511627776 % 256),.int .u8 ((n:Int) / 4294967296 % 256),.int .u8 ((n:Int) / 16777216 % 256),.int .u8 ((n:Int) / 65536 % 256),.int .u8 ((n:Int) / 256 % 256),.int .u8 ((n:Int) % 256)]:Array Value).toList=zU (zH n):=by
  have o:=P5 ⟨n / 72057594037927936,I⟩;have e:((n / 72057594037927936:Nat):Int)=(n:Int) / 72057594037927936:=I;simp only[e]at o;simp only[o.2.2];unfold zH;simp only[(I:¬n<64),(I:¬n<16384),(I:¬n<1073741824),Be,zU,Bq,C4,Ow];simp;omega
 obtain⟨v',w',hr,De⟩:=Ma w v l (zH n) (#[.int .u8 (bits BinOp.or IntKind.u8 ((n:Int) / 72057594037927936) 192),.int .u8 ((n:Int) / 281474976710656 % 256),.int .u8 ((n:Int) / 1099511627776 % 256),.int .u8 ((n:Int) / 4294967296 % 256),.int .u8 ((n:Int) / 16777216 % 256),.int .u8 ((n:Int) / 65536 % 256),.int .u8 ((n:Int) / 256 % 256),.int .u8 ((n:Int) % 256)]:Array Value) 8 h b (by rw[<-JH,<-b];rfl) I;clear b;obtain⟨a,cap,rfl,_⟩:=zk h;have H:=zb De;clear De;go_enter func83,ntmps83;go_wp2_with (at_builtin;refine zn rfl _ _ _ _ rfl _ _ _ rfl rfl hr ?_);go_ret;exact⟨_,rfl,H.z⟩
def GQ(v:Value)(l:nG)(n:Nat)(w:World)(h:OB w v l)(hl:l.length<=70368744177664)(hn:n<4611686018427387904):Calls prog 83 #[v,n] w λe w'=>∃v',e=.returned v'/\Dz w v l (zH n) v' w':=by
 by_cases h1:n<64
 .exact dN v l n w h hl h1
 by_cases h2:n<16384
 .exact dM v l n w h hl I h2
 by_cases h3:n<1073741824
 .exact dL v l n w h hl I h3
 exact dK v l n w h hl I hn
def JD(n:Int):IntKind.u32.wrap n=n % 4294967296:=by simp[IntKind.wrap,IntKind.bits,IntKind.signed]
def Ov(a b:Nat)(ha:a<4294967296)(hb:b<4294967296):bits .xor .u32 (a:Int) (b:Int)=((a ^^^ b:Nat):Int):=by
 have hx:a ^^^ b<2 ^ 32:=C6 I I;have h1:(BitVec.ofInt 32 (a:Int)).toNat=a:=by
  rw[Br,B6];exact CD I
 have h2:(BitVec.ofInt 32 (b:Int)).toNat=b:=by
  rw[Br,B6];exact CD I
 show IntKind.u32.wrap ((BitVec.ofInt 32 (a:Int) ^^^ BitVec.ofInt 32 (b:Int)).toNat:Int)=_;rw[BitVec.toNat_xor,h1,h2,JD];omega
def X0(a b:Nat)(ha:a<4294967296)(hb:b<4294967296):bits .and .u32 (a:Int) (b:Int)=((a &&& b:Nat):Int):=by
 have hx:a &&& b<2 ^ 32:=Nat.and_lt_two_pow _ I;have h1:(BitVec.ofInt 32 (a:Int)).toNat=a:=by
  rw[Br,B6];exact CD I
 have h2:(BitVec.ofInt 32 (b:Int)).toNat=b:=by
  rw[Br,B6];exact CD I
 show IntKind.u32.wrap ((BitVec.ofInt 32 (a:Int) &&& BitVec.ofInt 32 (b:Int)).toNat:Int)=_;rw[BitVec.toNat_and,h1,h2,JD];omega
def U3(a:Nat)(ha:a<4294967296):bits .and .u32 (a:Int) 15=((a % 16:Nat):Int):=by
 have:=X0 a 15 ha I;rw[show a &&& 15=a % 16 from Nat.and_two_pow_sub_one_eq_mod a 4]at this;exact this
def Ld:List Nat:=[0,498536548,997073096,651767980,1994146192,1802195444,1303535960,1342533948,3988292384,4027552580,3604390888,3412177804,2607071920,2262029012,2685067896,3183342108]
def ct(i:Nat):Nat:=Ld.getD i 0
def P4(i:Nat):ct i<4294967296:=by
 unfold ct;by_cases h:i<16
 .have:∀j:Fin 16,Ld.getD j.val 0<4294967296:=mu;exact this ⟨i,h⟩
 rw[Ak,CX (by simp[Ld];omega)];decide
def IU(c:Nat):Nat:=(c / 16) ^^^ ct (c % 16)
def Hz(c:Nat)(x:UInt8):Nat:=IU (IU (c ^^^ x.toNat))
def Eo(l:nG):Nat:=l.foldl Hz 4294967295
def D3(l:nG):Nat:=4294967295 ^^^ Eo l
def Kl(c:Nat)(h:c<4294967296):IU c<4294967296:=C6 (n:=32) I (P4 _)
def In(c:Nat)(x:UInt8)(h:c<4294967296):c ^^^ x.toNat<4294967296:=C6 (n:=32) h (nC x.toNat_lt)
def NK(c:Nat)(x:UInt8)(h:c<4294967296):Hz c x<4294967296:=Kl _ (Kl _ (In c x h))
def iZ(l:nG)(x:UInt8):Eo (l++[x])=Hz (Eo l) x:=by simp[Eo]
theorem Wi(l:nG):∀c,c<4294967296->l.foldl Hz c<4294967296:=by
 induction l with
 | nil=>intro c h;exact h
 | cons x l ih=>intro c h;exact ih _ (NK c x h)
def Qd(l:nG):Eo l<4294967296:=Wi l _ I
def BR(w:World)(v:Value)(l:nG):Prop :=
 ∃a cap,v=.slice a l.length cap/\l.length<=cap/\cap<=maxLen/\∀i c,l[i]?=some c->∃g o,a=some ⟨g,o,none⟩/\w.cell? ⟨g,o+i,none⟩=some (.int .u8 (c.toNat:Int))
def OB.br(h:OB w v l):BR w v l:=by
 obtain⟨a,cap,rfl,h1,h2,h3⟩:=zk h;refine⟨a,cap,rfl,h1,h2,λi c hc=>?_⟩;have hi:=(AN.1 hc).1;obtain⟨g,rfl⟩:=h3 I;refine⟨g,0,rfl,?_⟩;have:=h.cells (g:=g) rfl i (.int .u8 (c.toNat:Int)) (by simp[zU,hc])
 rwa [zZ]at this
def GA(w:World):Prop:=∀i,i<16->w.cell? ⟨1,i,none⟩=some (.int .u32 (ct i:Int))
variable{S:Nat->Prop}
def GA.mod(h:GA w)(m:DW S w w')(hs:¬S 1):GA w':=λi hi=>m.cell (a:=⟨1,i,none⟩) hs (h i hi)
def GA.lt(h:GA w):1<w.heap.size:=zm (h 0 I)
def Wh(l:nG)(k:Nat)(c:UInt8)(h:l[k]?=some c):l.take (k+1)=l.take k++[c]:=by
 rw[BG,h];rfl
def Qc(v:Value)(l:nG)(w:World)(h:BR w v l)(q:GA w):Calls prog 125 #[v] w λe w'=>e=.returned (.int .u32 (D3 l:Int))/\w=w':=by
 obtain⟨a,cap,rfl,h1,h2,h3⟩:=h;unfold maxLen at h2;go_enter func125,ntmps125;go_wp2_with fail
 go_loop [3,8] (λc i=>∃k:Nat,k<=l.length/\i=.int .i64 k/\c=.int .u32 (Eo (l.take k):Int)) (λ_ i=>l.length-(intOf i).toNat)
 case atStart=>exact⟨0,AM _,rfl,rfl⟩
 case round =>
  obtain⟨k,hk,rfl,rfl⟩:=hrel;by_cases r:k<l.length
  .obtain⟨c,hc⟩:∃c,l[k]?=some c:=⟨l[k],AK r⟩;obtain⟨g,o,rfl,f⟩:=h3 k c hc;have A:=zb (A8 Eo (Wh l k c hc));obtain⟨x,hx⟩:=nm (Eo (l.take k));have j:=Qd (l.take k);rw[hx]at j;have s:AA (Eo (l.take (k+1))=Hz x c):=by
    show _=_;rw[A.z,iZ,hx]
   rw[hx];have t:=c.toNat_lt;obtain⟨d,hd⟩:=nm c.toNat;rw[hd]at f t;have e1:=Ov x d j I;have p:=In x c j;rw[hd]at p;obtain⟨y,m⟩:=nm (x ^^^ d);rw[m]at e1 p;have e2:=U3 y p;have t1:=q (y % 16) I;have B:=Ov (y / 16) (ct (y % 16)) I (P4 _);have C:=Kl y p;obtain⟨z,b⟩:=nm (IU y);rw[show(y / 16 ^^^ ct (y % 16))=z from b]at B;rw[b]at C;have e4:=U3 z C;have t2:=q (z % 16) I;have e5:=Ov (z / 16) (ct (z % 16)) I (P4 _);have u:AA (Hz x c=(z / 16 ^^^ ct (z % 16))):=by
    show IU (IU (x ^^^ c.toNat))=_;rw[hd,m,b];rfl
   rw[(I:((y / 16:Nat):Int)=(y:Int) / 16)]at B;rw[(I:((z / 16:Nat):Int)=(z:Int) / 16)]at e5;clear A hx hd m b h3 q hc;go_wp2_with fail
   go_round
   case rel=>exact⟨k+1,I,by go_num,by rw[s.z,u.z]⟩
   simp[intOf];omega
  have n:l.take k=l:=Aa I;rw[n];have HE:AA (bits .xor .u32 IntKind.u32.max (Eo l:Int)=(D3 l:Int)):=Ov 4294967295 (Eo l) I (Qd l);clear n;go_wp2_with fail;go_ret;exact⟨by rw[HE.z];rfl,rfl⟩
def MP(l:nG):D3 l<4294967296:=C6 (n:=32) I (Qd l)
def ES(s:Nat):nG:=[UInt8.ofNat (s / 16777216),UInt8.ofNat (s / 65536),UInt8.ofNat (s / 256),UInt8.ofNat s]
def dJ(v:Value)(l:nG)(w:World)(h:OB w v l)(hl:l.length<=70368744177664)(d:GA w):Calls prog 86 #[v] w λe w'=>∃v',e=.returned v'/\Dz w v l (ES (D3 l)) v' w':=by
 have b:=Qc v l w h.br d;have hc:=MP l;obtain⟨s,c⟩:=nm (D3 l);rw[c]at b hc;rw[c];obtain⟨v',w',hr,De⟩:=Ma w v l (ES s) #[.int .u8 ((s:Int) / 16777216),.int .u8 ((s:Int) / 65536 % 256),.int .u8 ((s:Int) / 256 % 256),.int .u8 ((s:Int) % 256)] 4 h (by
  simp only[ES,zU,Bq,C4,Ow];simp;omega) rfl I
 obtain⟨a,cap,rfl,_⟩:=zk h;have H:=zb De;clear De c d;go_enter func86,ntmps86;go_wp2_with (first|(go_at_call 125;refine b.mono ?_;rintro e w' ⟨rfl,rfl⟩)|(at_builtin;refine zn rfl _ _ _ _ rfl _ _ _ rfl rfl hr ?_));go_ret;exact⟨_,rfl,H.z⟩
def Xz(w:World)(v:Value)(l:nG)(s:ByteArray)(h:OB w v l)(hl:l.length+s.size<=140737488355328):∃v' w',(∀ty,(Builtin.append_ #[60,9] ty #[v,.string s]).run prog w=.ok v' w')/\Dz w v l s.data.toList v' w':=by
 obtain⟨i,hi,hz,a,b⟩:=info_parts Ox;obtain⟨v',w',h1,h2,h3,h4,h5⟩:=mi (P:=prog) w 60 9 5 i underlying60 underlying9 hi hz a b v l.length (zU l) h s mz I;refine⟨v',w',h1,⟨?_,h5,h3,h4⟩⟩;unfold OB;rw[AG,Nh];exact h2
def zu(l:nG):ByteArray:=⟨l.toArray⟩
def zJ(l:nG):(zu l).size=l.length:=by simp[zu,ByteArray.size]
def Iq(l:nG):(zu l).data.toList=l:=by simp[zu]
def zx(n:Nat):(zH n).length<=8:=by
 unfold zH;split
 .simp
 split
 .simp
 split<;>simp
def Qq(v:Value)(l s:nG)(w:World)(h:OB w v l)(hl:l.length<=70368744177664)(hs:s.length<=35184372088832):Calls prog 181 #[v,.string (zu s)] w λe w'=>∃v',e=.returned v'/\Dz w v l (zH s.length++s) v' w':=by
 have hv:=GQ v l s.length w h hl I;have hz:=zJ s;have hzm:(zu s).size<=9223372036854775807:=I;obtain⟨a,cap,rfl,_⟩:=zk h;go_enter func181,ntmps181;have hvl:(zH s.length).length<=8:=zx _;go_wp2_with (first|(go_at_call 83;refine hv.mono ?_;rintro e w1 ⟨v1,rfl,b⟩;obtain⟨v2,w2,d,c⟩:=Xz w1 v1 _ (zu s) b.own (by rw[AG];omega);rw[Iq]at c;have H:=zb (b.trans c);clear b c)|(at_builtin;refine zn rfl _ _ _ _ rfl _ _ _ rfl rfl d ?_));go_ret;exact⟨_,rfl,H.z⟩
structure Da where
 kind:Int
 stream:Int
 off:Nat
 rel:Nat
 lim:Nat
 fin:Bool
 id:Nat
 dl:Nat
 data:nG
 rngs:zC
def zl(f:Da)(rv:Value):Array Value :=
 #[.int .i64 f.kind,.int .i64 f.stream,.int .u64 f.off,.int .u64 f.rel,.int .u64 f.lim,.bool f.fin,.int .u64 f.id,.int .u64 f.dl,.string (zu f.data),rv]
def zj(w:World)(b:Nat)(f:Da)(rv:Value):Prop:=w.heap[b]?=some (.cells (zl f rv) 65 (0,0))
variable{f:Da}{i:Nat}{rv:Value}
def zj.cell(h:zj w b f rv)(hv:(zl f rv)[i]?=some v):w.cell? (b,i)=some v:=za h hv
def zj.mod(h:zj w b f rv)(m:DW S w w')(hs:¬S b):zj w' b f rv:=m.obj hs h
variable{new:nG}
def Dz.mod(h:Dz w v l new v' w'):DW (λk=>v.ownBlock=some k) w w':=(DW.refl _ w).grown h.grown (λk hk=>.inl hk)
def OB.apart(h:OB w v l)(hf:zj w b f rv):¬v.ownBlock=some b:=by
 intro hb;rcases h.2 with⟨rfl,_⟩|⟨g,cap,cur,rfl,_,hg,_⟩
 .cases hb
 simp[Value.ownBlock]at hb;subst hb;unfold zj at hf;rw[hg]at hf;simp at hf
def zj.app(hf:zj w b f rv)(h:OB w v l)(ha:Dz w v l new v' w'):zj w' b f rv :=
 hf.mod ha.mod (h.apart hf)
def Jj(w:World)(v:Value)(l:nG)(t:UInt8)(z:Int)(h:OB w v l)(hz:z=(t.toNat:Int))(hl:l.length<=70368744177664):∃v' w',(∀ty,(Builtin.append_ #[60,60] ty #[v,.slice w.heap.size 1 1]).run prog (w.alloc (.cells #[.int .u8 z] 5))=.ok v' w')/\Dz w v l [t] v' w' :=
 Ma w v l [t] #[.int .u8 z] 1 h (by simp[zU,hz]) rfl I
def zj.cells(h:zj w b f rv):w.cell? b=some (.int .i64 f.kind)/\w.cell? (b,1)=some (.int .i64 f.stream)/\w.cell? (b,2)=some (.int .u64 f.off)/\w.cell? (b,3)=some (.int .u64 f.rel)/\w.cell? (b,4)=some (.int .u64 f.lim) /\
  w.cell? (b,5)=some (.bool f.fin)/\w.cell? (b,6)=some (.int .u64 f.id)/\w.cell? (b,7)=some (.int .u64 f.dl)/\w.cell? (b,8)=some (.string (zu f.data))/\w.cell? (b,9)=some rv :=
 ⟨h.cell rfl,h.cell rfl,h.cell rfl,h.cell rfl,h.cell rfl,h.cell rfl,h.cell rfl,h.cell rfl,h.cell rfl,h.cell rfl⟩
def Dz.drew(h:Dz w.drew v l new v' w'):Dz w v l new v' w' :=
 ⟨h.own,h.old,⟨h.grown.os,h.grown.tape,h.grown.output,h.grown.size,h.grown.block⟩,h.at_⟩
def Pa(v:Value)(l:nG)(z:Int)(w:World)(h:OB w v l)(hl:l.length<=70368744177664)(h0:0<=z)(hn:z<4611686018427387904):Calls prog 83 #[v,z] w λe w'=>∃v',e=.returned v'/\Dz w v l (zH z.toNat) v' w':=by
 have:=GQ v l z.toNat w h hl I
 rwa [Int.toNat_of_nonneg h0]at this
structure Da.Bounds(f:Da):Prop where
 s0:0<=f.stream
 s8:f.stream<8
 bo:f.off<4611686018427387904
 br:f.rel<4611686018427387904
 bl:f.lim<4611686018427387904
 bi:f.id<4611686018427387904
 bd:f.dl<4611686018427387904
 bt:f.data.length<=35184372088832
def Gf(w:World)(tb ab:Nat)(t:UInt8):Prop:=w.cell? tb=some (.int .u8 (t.toNat:Int))/\w.cell? ab=some (.func (.func 186) #[] #[])
def Gf.mod{tb b:Nat}{t:UInt8}(h:Gf w tb b t)(m:DW S w w')(h1:¬S tb)(h2:¬S b):Gf w' tb b t:=⟨m.cell (a:=tb) h1 h.1,m.cell (a:=b) h2 h.2⟩
def Gf.app{tb b:Nat}{t:UInt8}(h:Gf w tb b t)(h1:¬v.ownBlock=some tb)(h2:¬v.ownBlock=some b)(a:Dz w v l new v' w'):Gf w' tb b t:=h.mod a.mod h1 h2
def RM(b:Nat)(w:World):Calls prog 186 #[(b,0)] w λe w'=>e=.returned (.pointer (b,4))/\w=w':=by
 go_enter func186,ntmps186;go_wp2_with fail;go_ret;exact⟨rfl,rfl⟩
def Ib(w:World)(v:Value)(l new:nG)(e:Ending)(w':World):Prop:=∃v',e=.returned v'/\Dz w v l new v' w'
def Jm(f:Da):nG:=[17]++zH f.stream.toNat++zH f.lim
def K8(v:Value)(l:nG)(b:Nat)(f:Da)(rv:Value)(w:World)(hf:zj w b f rv)(h:OB w v l)(hl:l.length<=35184372088832)(hb:f.Bounds):Calls prog 187 #[v,(b,0)] w (Ib w v l (Jm f)):=by
 obtain⟨s0,s8,bo,br,bl,bi,bd,bt⟩:=hb;have hwr:IntKind.u64.wrap f.stream=f.stream:=by rw[IntKind.wrap_u64];omega
 obtain⟨v1,w1,i,g⟩:=Jj w.drew v l 17 17 h rfl I;have r:=zj.app (w:=w.drew) hf h g;have L1:(l++[(17:UInt8)]).length<=35184372088832+1:=my;go_enter func187,ntmps187;go_wp2_with fail;refine zo 15 (λw'=>zj w' b f rv) (hf) ?_;refine GI 0 ?_;refine GV rfl ?_;try simp only[PS]
 refine GI 3 ?_;iterate 5
  refine GV rfl ?_;try simp only[PS]
 refine GI 9 ?_;iterate 4
  refine GV rfl ?_;try simp only[PS]
 refine zE 1 rfl (λK c=>?_);go_simp;refine c.z _ _ ?_ ?_
 .exact zj.mod (w:=w.drew) (S:=DY) hf ((DW.refl _ _).alloc _) (λx=>x)
 clear c K;try simp only[PS]
 refine zE 2 rfl (λK c=>?_);refine zS rfl _ _ _ _ rfl _ _ _ rfl rfl i ?_;refine c.z _ _ r ?_;clear c K;try simp only[PS]
 refine zE 8 rfl (λK c=>?_);go_simp;refine(Pa v1 (l++([17])) (f.stream) w1 g.own I I I).mono ?_;rintro e w2 ⟨v2,rfl,d⟩;have s:=r.app g.own d;have q:=g.trans d;have L2:(l++([17]++zH f.stream.toNat)).length<=35184372088832+9:=by have:=zx (f.stream.toNat);simp at this L1 ⊢;omega
 refine c.z _ _ s ?_;clear d;clear c K;try simp only[PS]
 refine zE 13 rfl (λK c=>?_);go_simp;refine(GQ v2 (l++([17]++zH f.stream.toNat)) (f.lim) w2 q.own I I).mono ?_;rintro e w3 ⟨v3,rfl,d⟩;have F3:=s.app q.own d;have A3:=q.trans d;have L3:(l++([17]++zH f.stream.toNat++zH f.lim)).length<=35184372088832+17:=by have:=zx (f.lim);simp at this L2 ⊢;omega
 refine c.z _ _ F3 ?_;clear d;clear c K;try simp only[PS]
 refine GI 14 ?_;refine GV rfl ?_;try simp only[PS]
 refine zr ?_;go_wp2_with fail;go_ret;exact⟨_,rfl,A3.drew⟩
def Jl(f:Da):nG:=[36]++zH f.stream.toNat++zH f.off++zH f.rel
def LA(v:Value)(l:nG)(b:Nat)(f:Da)(rv:Value)(w:World)(hf:zj w b f rv)(h:OB w v l)(hl:l.length<=35184372088832)(hb:f.Bounds):Calls prog 176 #[v,(b,0)] w (Ib w v l (Jl f)):=by
 obtain⟨s0,s8,bo,br,bl,bi,bd,bt⟩:=hb;have hwr:IntKind.u64.wrap f.stream=f.stream:=by rw[IntKind.wrap_u64];omega
 obtain⟨v1,w1,p,g⟩:=Jj w.drew v l 36 36 h rfl I;have s:=zj.app (w:=w.drew) hf h g;have L1:(l++[(36:UInt8)]).length<=35184372088832+1:=my;go_enter func176,ntmps176;go_wp2_with fail;refine zo 20 (λw'=>zj w' b f rv) (hf) ?_;refine GI 0 ?_;refine GV rfl ?_;try simp only[PS]
 refine GI 3 ?_;iterate 5
  refine GV rfl ?_;try simp only[PS]
 refine GI 9 ?_;iterate 4
  refine GV rfl ?_;try simp only[PS]
 refine GI 14 ?_;iterate 4
  refine GV rfl ?_;try simp only[PS]
 refine zE 1 rfl (λK c=>?_);go_simp;refine c.z _ _ ?_ ?_
 .exact zj.mod (w:=w.drew) (S:=DY) hf ((DW.refl _ _).alloc _) (λx=>x)
 clear c K;try simp only[PS]
 refine zE 2 rfl (λK c=>?_);refine zS rfl _ _ _ _ rfl _ _ _ rfl rfl p ?_;refine c.z _ _ s ?_;clear c K;try simp only[PS]
 refine zE 8 rfl (λK c=>?_);go_simp;refine(Pa v1 (l++([36])) (f.stream) w1 g.own I I I).mono ?_;rintro e w2 ⟨v2,rfl,d⟩;have t:=s.app g.own d;have q:=g.trans d;have L2:(l++([36]++zH f.stream.toNat)).length<=35184372088832+9:=by have:=zx (f.stream.toNat);simp at this L1 ⊢;omega
 refine c.z _ _ t ?_;clear d;clear c K;try simp only[PS]
 refine zE 13 rfl (λK c=>?_);go_simp;refine(GQ v2 (l++([36]++zH f.stream.toNat)) (f.off) w2 q.own I I).mono ?_;rintro e w3 ⟨v3,rfl,d⟩;have u:=t.app q.own d;have r:=q.trans d;have L3:(l++([36]++zH f.stream.toNat++zH f.off)).length<=35184372088832+17:=by have:=zx (f.off);simp at this L2 ⊢;omega
 refine c.z _ _ u ?_;clear d;clear c K;try simp only[PS]
 refine zE 18 rfl (λK c=>?_);go_simp;refine(GQ v3 (l++([36]++zH f.stream.toNat++zH f.off)) (f.rel) w3 r.own I I).mono ?_;rintro e w4 ⟨v4,rfl,d⟩;have F4:=u.app r.own d;have A4:=r.trans d;have L4:(l++([36]++zH f.stream.toNat++zH f.off++zH f.rel)).length<=35184372088832+25:=by have:=zx (f.rel);simp at this L3 ⊢;omega
 refine c.z _ _ F4 ?_;clear d;clear c K;try simp only[PS]
 refine GI 19 ?_;refine GV rfl ?_;try simp only[PS]
 refine zr ?_;go_wp2_with fail;go_ret;exact⟨_,rfl,A4.drew⟩
def Jk(f:Da):nG:=[48]++zH f.id++zH f.dl++(zH f.data.length++f.data)
def K7(v:Value)(l:nG)(b:Nat)(f:Da)(rv:Value)(w:World)(hf:zj w b f rv)(h:OB w v l)(hl:l.length<=35184372088832)(hb:f.Bounds):Calls prog 189 #[v,(b,0)] w (Ib w v l (Jk f)):=by
 obtain⟨s0,s8,bo,br,bl,bi,bd,bt⟩:=hb;have hwr:IntKind.u64.wrap f.stream=f.stream:=by rw[IntKind.wrap_u64];omega
 obtain⟨v1,w1,p,g⟩:=Jj w.drew v l 48 48 h rfl I;have s:=zj.app (w:=w.drew) hf h g;have L1:(l++[(48:UInt8)]).length<=35184372088832+1:=my;go_enter func189,ntmps189;go_wp2_with fail;refine zo 19 (λw'=>zj w' b f rv) (hf) ?_;refine GI 0 ?_;refine GV rfl ?_;try simp only[PS]
 refine GI 3 ?_;iterate 4
  refine GV rfl ?_;try simp only[PS]
 refine GI 8 ?_;iterate 4
  refine GV rfl ?_;try simp only[PS]
 refine GI 13 ?_;iterate 4
  refine GV rfl ?_;try simp only[PS]
 refine zE 1 rfl (λK c=>?_);go_simp;refine c.z _ _ ?_ ?_
 .exact zj.mod (w:=w.drew) (S:=DY) hf ((DW.refl _ _).alloc _) (λx=>x)
 clear c K;try simp only[PS]
 refine zE 2 rfl (λK c=>?_);refine zS rfl _ _ _ _ rfl _ _ _ rfl rfl p ?_;refine c.z _ _ s ?_;clear c K;try simp only[PS]
 refine zE 7 rfl (λK c=>?_);go_simp;refine(GQ v1 (l++([48])) (f.id) w1 g.own I I).mono ?_;rintro e w2 ⟨v2,rfl,d⟩;have t:=s.app g.own d;have q:=g.trans d;have L2:(l++([48]++zH f.id)).length<=35184372088832+9:=by have:=zx (f.id);simp at this L1 ⊢;omega
 refine c.z _ _ t ?_;clear d;clear c K;try simp only[PS]
 refine zE 12 rfl (λK c=>?_);go_simp;refine(GQ v2 (l++([48]++zH f.id)) (f.dl) w2 q.own I I).mono ?_;rintro e w3 ⟨v3,rfl,d⟩;have u:=t.app q.own d;have r:=q.trans d;have L3:(l++([48]++zH f.id++zH f.dl)).length<=35184372088832+17:=by have:=zx (f.dl);simp at this L2 ⊢;omega
 refine c.z _ _ u ?_;clear d;clear c K;try simp only[PS]
 refine zE 17 rfl (λK c=>?_);go_simp;refine(Qq v3 (l++([48]++zH f.id++zH f.dl)) f.data w3 r.own I bt).mono ?_;rintro e w4 ⟨v4,rfl,d⟩;have F4:=u.app r.own d;have A4:=r.trans d;refine c.z _ _ F4 ?_;clear d;clear c K;try simp only[PS]
 refine GI 18 ?_;refine GV rfl ?_;try simp only[PS]
 refine zr ?_;go_wp2_with fail;go_ret;exact⟨_,rfl,A4.drew⟩
def Jc(f:Da):nG:=[8]++zH f.stream.toNat++zH f.off++(zH f.data.length++f.data)
def K9(v:Value)(l:nG)(b:Nat)(f:Da)(rv:Value)(w:World)(hf:zj w b f rv)(h:OB w v l)(hl:l.length<=35184372088832)(hb:f.Bounds)(g:f.fin=false):Calls prog 180 #[v,(b,0)] w (Ib w v l (Jc f)):=by
 obtain⟨s0,s8,bo,br,bl,bi,bd,bt⟩:=hb;have hwr:IntKind.u64.wrap f.stream=f.stream:=by rw[IntKind.wrap_u64];omega
 obtain⟨v1,w1,q,i⟩:=Jj w.drew v l 8 8 h rfl I;have t:=zj.app (w:=w.drew) hf h i;have L1:(l++[(8:UInt8)]).length<=35184372088832+1:=my;have d5:w.cell? (b,5)=some (.bool false):=by rw[<-g];exact hf.cell rfl
 go_enter func180,ntmps180;go_wp2_with fail;refine zo 21 (λw'=>zj w' b f rv) (hf) ?_;refine GI 0 ?_;iterate 2
  refine GV rfl ?_;try simp only[PS]
 refine GI 4 ?_;iterate 5
  refine GV rfl ?_;try simp only[PS]
 refine GI 10 ?_;iterate 4
  refine GV rfl ?_;try simp only[PS]
 refine GI 15 ?_;iterate 4
  refine GV rfl ?_;try simp only[PS]
 refine zE 2 rfl (λK c=>?_);go_simp;refine c.z _ _ ?_ ?_
 .exact zj.mod (w:=w.drew) (S:=DY) hf ((DW.refl _ _).alloc _) (λx=>x)
 clear c K;try simp only[PS]
 refine zE 3 rfl (λK c=>?_);refine zS rfl _ _ _ _ rfl _ _ _ rfl rfl q ?_;refine c.z _ _ t ?_;clear c K;try simp only[PS]
 refine zE 9 rfl (λK c=>?_);go_simp;refine(Pa v1 (l++([8])) (f.stream) w1 i.own I I I).mono ?_;rintro e w2 ⟨v2,rfl,d⟩;have u:=t.app i.own d;have r:=i.trans d;have L2:(l++([8]++zH f.stream.toNat)).length<=35184372088832+9:=by have:=zx (f.stream.toNat);simp at this L1 ⊢;omega
 refine c.z _ _ u ?_;clear d;clear c K;try simp only[PS]
 refine zE 14 rfl (λK c=>?_);go_simp;refine(GQ v2 (l++([8]++zH f.stream.toNat)) (f.off) w2 r.own I I).mono ?_;rintro e w3 ⟨v3,rfl,d⟩;have y:=u.app r.own d;have s:=r.trans d;have L3:(l++([8]++zH f.stream.toNat++zH f.off)).length<=35184372088832+17:=by have:=zx (f.off);simp at this L2 ⊢;omega
 refine c.z _ _ y ?_;clear d;clear c K;try simp only[PS]
 refine zE 19 rfl (λK c=>?_);go_simp;refine(Qq v3 (l++([8]++zH f.stream.toNat++zH f.off)) f.data w3 s.own I bt).mono ?_;rintro e w4 ⟨v4,rfl,d⟩;have F4:=y.app s.own d;have A4:=s.trans d;refine c.z _ _ F4 ?_;clear d;clear c K;try simp only[PS]
 refine GI 20 ?_;refine GV rfl ?_;try simp only[PS]
 refine zr ?_;go_wp2_with fail;go_ret;exact⟨_,rfl,A4.drew⟩
def Ji(f:Da):nG:=[9]++zH f.stream.toNat++zH f.off++(zH f.data.length++f.data)
def Xy(v:Value)(l:nG)(b:Nat)(f:Da)(rv:Value)(w:World)(hf:zj w b f rv)(h:OB w v l)(hl:l.length<=35184372088832)(hb:f.Bounds)(g:f.fin=true):Calls prog 180 #[v,(b,0)] w (Ib w v l (Ji f)):=by
 obtain⟨s0,s8,bo,br,bl,bi,bd,bt⟩:=hb;have hwr:IntKind.u64.wrap f.stream=f.stream:=by rw[IntKind.wrap_u64];omega
 obtain⟨v1,w1,q,i⟩:=Jj w.drew v l 9 9 h rfl I;have t:=zj.app (w:=w.drew) hf h i;have L1:(l++[(9:UInt8)]).length<=35184372088832+1:=my;have d5:w.cell? (b,5)=some (.bool true):=by rw[<-g];exact hf.cell rfl
 go_enter func180,ntmps180;go_wp2_with fail;refine zo 21 (λw'=>zj w' b f rv) (hf) ?_;refine GI 0 ?_;iterate 2
  refine GV rfl ?_;try simp only[PS]
 refine GI 4 ?_;iterate 5
  refine GV rfl ?_;try simp only[PS]
 refine GI 10 ?_;iterate 4
  refine GV rfl ?_;try simp only[PS]
 refine GI 15 ?_;iterate 4
  refine GV rfl ?_;try simp only[PS]
 refine zE 2 rfl (λK c=>?_);go_simp;refine c.z _ _ ?_ ?_
 .exact zj.mod (w:=w.drew) (S:=DY) hf ((DW.refl _ _).alloc _) (λx=>x)
 clear c K;try simp only[PS]
 refine zE 3 rfl (λK c=>?_);refine zS rfl _ _ _ _ rfl _ _ _ rfl rfl q ?_;refine c.z _ _ t ?_;clear c K;try simp only[PS]
 refine zE 9 rfl (λK c=>?_);go_simp;refine(Pa v1 (l++([9])) (f.stream) w1 i.own I I I).mono ?_;rintro e w2 ⟨v2,rfl,d⟩;have u:=t.app i.own d;have r:=i.trans d;have L2:(l++([9]++zH f.stream.toNat)).length<=35184372088832+9:=by have:=zx (f.stream.toNat);simp at this L1 ⊢;omega
 refine c.z _ _ u ?_;clear d;clear c K;try simp only[PS]
 refine zE 14 rfl (λK c=>?_);go_simp;refine(GQ v2 (l++([9]++zH f.stream.toNat)) (f.off) w2 r.own I I).mono ?_;rintro e w3 ⟨v3,rfl,d⟩;have y:=u.app r.own d;have s:=r.trans d;have L3:(l++([9]++zH f.stream.toNat++zH f.off)).length<=35184372088832+17:=by have:=zx (f.off);simp at this L2 ⊢;omega
 refine c.z _ _ y ?_;clear d;clear c K;try simp only[PS]
 refine zE 19 rfl (λK c=>?_);go_simp;refine(Qq v3 (l++([9]++zH f.stream.toNat++zH f.off)) f.data w3 s.own I bt).mono ?_;rintro e w4 ⟨v4,rfl,d⟩;have F4:=y.app s.own d;have A4:=s.trans d;refine c.z _ _ F4 ?_;clear d;clear c K;try simp only[PS]
 refine GI 20 ?_;refine GV rfl ?_;try simp only[PS]
 refine zr ?_;go_wp2_with fail;go_ret;exact⟨_,rfl,A4.drew⟩
def Hy(t:UInt8)(f:Da):nG:=[t]++zH f.lim
def U2(v:Value)(l:nG)(b tb d:Nat)(t:UInt8)(f:Da)(rv:Value)(w:World)(hf:zj w b f rv)(hc:Gf w tb d t)(g:¬v.ownBlock=some tb)(i:¬v.ownBlock=some d)(h:OB w v l)(hl:l.length<=35184372088832)(hb:f.Bounds):Calls prog 213 #[v,(b,0),(tb,0),(d,0)] w (Ib w v l (Hy t f)):=by
 obtain⟨s0,s8,bo,br,bl,bi,bd,bt⟩:=hb;obtain⟨v1,j,m,k⟩:=Jj w.drew v l t (t.toNat:Int) h rfl I;have z:zj j b f rv/\Gf j tb d t:=⟨zj.app (w:=w.drew) hf h k,Gf.app (w:=w.drew) hc g i k⟩;have L1:(l++[t]).length<=35184372088832+1:=my;go_enter func213,ntmps213;go_wp2_with fail;refine zo 11 (λw'=>zj w' b f rv/\Gf w' tb d t) (⟨hf,hc⟩) ?_;refine GI 0 ?_;iterate 2
  refine GV rfl ?_;try simp only[PS]
 refine GI 4 ?_;iterate 2
  refine GV rfl ?_;try simp only[PS]
 refine zE 2 rfl (λK c=>?_);go_simp;refine c.z _ _ ?_ ?_
 .exact⟨zj.mod (w:=w.drew) (S:=DY) hf ((DW.refl _ _).alloc _) (λx=>x),Gf.mod (w:=w.drew) (S:=DY) hc ((DW.refl _ _).alloc _) (λx=>x) (λx=>x)⟩
 clear c K;try simp only[PS]
 refine zE 3 rfl (λK c=>?_);refine zS rfl _ _ _ _ rfl _ _ _ rfl rfl m ?_;refine c.z _ _ z ?_;clear c K;try simp only[PS]
 refine zE 6 rfl (λK c=>?_);go_simp;refine(RM b j).mono ?_;rintro e w' ⟨rfl,rfl⟩;refine c.z _ _ z ?_;clear c K;try simp only[PS]
 refine GI 7 ?_;iterate 2
  refine GV rfl ?_;try simp only[PS]
 refine zE 9 rfl (λK c=>?_);go_simp;refine(GQ v1 (l++[t]) f.lim j k.own I bl).mono ?_;rintro e A ⟨v2,rfl,B⟩;have y:=k.trans B;have F2:zj A b f rv/\Gf A tb d t:=⟨zj.app (w:=w.drew) hf h y,Gf.app (w:=w.drew) hc g i y⟩;refine c.z _ _ F2 ?_;clear B;clear c K;try simp only[PS]
 refine GI 10 ?_;refine GV rfl ?_;try simp only[PS]
 refine zr ?_;go_wp2_with fail;go_ret;exact⟨_,rfl,y.drew⟩
def LC(v:Value)(l:nG)(b:Nat)(w:World)(h:OB w v l)(hl:l.length<=35184372088832):Calls prog 170 #[v,(b,0)] w (Ib w v l [1]):=by
 obtain⟨v1,w1,c,d⟩:=Jj w v l 1 1 h rfl I;obtain⟨a,cap,rfl,_⟩:=zk h;have H:=zb d;clear d;go_enter func170,ntmps170;go_wp2_with (at_builtin;refine zn rfl _ _ _ _ rfl _ _ _ rfl rfl c ?_);go_ret;exact⟨_,rfl,H.z⟩
def RR(w:World)(v:Value)(rs:zC):Prop :=
 ∃a cap,v=.slice a rs.length cap/\rs.length<=cap/\cap<=maxLen/\∀i,i<rs.length->∃g o,a=some ⟨g,o,none⟩/\w.cell? ⟨g,o+i*2,none⟩=some (.int .u64 (DZ rs i:Int))/\w.cell? ⟨g,o+i*2+1,none⟩=some (.int .u64 (DX rs i:Int))/\DZ rs i<18446744073709551616/\DX rs i<18446744073709551616
def Dp(S:Nat->Prop)(v:Value):Prop:=∀g o n c,v=.slice (some ⟨g,o,none⟩) n c->¬S g
def RR.mod(h:RR w v rs)(m:DW S w w')(b:Dp S v):RR w' v rs:=by
 obtain⟨a,cap,rfl,h1,h2,h3⟩:=h;refine⟨a,cap,rfl,h1,h2,λi hi=>?_⟩;obtain⟨g,o,rfl,c1,c2,c3⟩:=h3 i hi;exact⟨g,o,rfl,m.cell (a:=⟨g,_,none⟩) (b g o _ _ rfl) c1,m.cell (a:=⟨g,_,none⟩) (b g o _ _ rfl) c2,c3⟩
def Dp.no(v:Value):Dp DY v:=λ_ _ _ _ _ x=>x
def Ia(rs:zC)(i:Nat):Bool :=
 decide (DZ rs i<=DX rs i)&&decide (DX rs i<=4611686018427387903)&&(decide (i=0)||(decide (2<=DZ rs (i-1))&&decide (DX rs i+2<=DZ rs (i-1))))
def IZ(rs:zC)(k:Nat):Bool:=(List.range k).all (Ia rs)
def iY(rs:zC)(k:Nat):IZ rs (k+1)=(IZ rs k&&Ia rs k):=by simp[IZ,Bp]
def FE(rs:zC):Bool:=IZ rs rs.length&&decide (0<rs.length)
def iz(hk:k<rs.length)(h:Ia rs k=false):FE rs=false:=by
 unfold FE;have:IZ rs rs.length=false:=by
  cases hq:IZ rs rs.length
  .rfl
  unfold IZ at hq;rw[Ct]at hq;have:=hq k (Bn.2 hk);rw[h]at this;cases this
 rw[this];rfl
def Iz(w:World)(x:Bool)(e:Ending)(w':World):Prop:=e=.returned (.bool x)/\DW DY w w'
def Wf(b:Nat)(f:Da)(rv:Value)(w:World)(hf:zj w b f rv)(v:RR w rv f.rngs)(hb:f.rngs.length<=1099511627776):Calls prog 175 #[(b,0)] w (Iz w (FE f.rngs)):=by
 have c9:=hf.cells.2.2.2.2.2.2.2.2.2;obtain⟨a,cap,rfl,h1,h2,h3⟩:=id v;unfold maxLen at h2;clear h3;go_enter func175,ntmps175;go_wp2_with fail
 go_loopw [10] (λi wr=>∃k:Nat,k<=f.rngs.length/\i=.int .i64 k/\IZ f.rngs k=true/\DW DY w wr) (λi _=>f.rngs.length-(intOf i).toNat)
 case atStart=>exact⟨0,AM _,rfl,rfl,DW.refl _ _⟩
 case round =>
  obtain⟨k,hk,rfl,q,c⟩:=hrel;have d:=zb q;clear q;by_cases r:k<f.rngs.length
  .obtain⟨a',D,hv,_,_,h3⟩:=v.mod c (Dp.no _);cases hv;obtain⟨g,o,rfl,E,e2,b1,b2⟩:=h3 k r;have p:0<k->wr.cell? (g,o+(k-1)*2)=some (.int .u64 (DZ f.rngs (k-1):Int))/\DZ f.rngs (k-1)<18446744073709551616:=λh0=>by
    obtain⟨g',o',hg,p,_,b3,_⟩:=h3 (k-1) I;cases hg;exact⟨p,b3⟩
   have s:=(hf.mod c (λx=>x)).cells.2.2.2.2.2.2.2.2.2;have hbl:=zm s;have hgl:=zm E;have F:=zb (iY f.rngs k);have u:=zb (λh=>iz (rs:=f.rngs) r h);have e:AA (Ia f.rngs k=(decide (DZ f.rngs k<=DX f.rngs k)&&decide (DX f.rngs k<=4611686018427387903)&&(decide (k=0)||(decide (2<=DZ f.rngs (k-1))&&decide (DX f.rngs k+2<=DZ f.rngs (k-1)))))):=rfl;obtain⟨lo,j⟩:=nm (DZ f.rngs k);obtain⟨hi,l⟩:=nm (DX f.rngs k);obtain⟨m,n⟩:=nm (DZ f.rngs (k-1));rw[j,l,n]at e;rw[j]at E b1;rw[l]at e2 b2;rw[n]at p;clear j l n h3 v;clear hf c9;by_cases d1:hi<lo
   .have y:decide (hi<lo)=true:=nF d1;go_wp2_with fail;go_quiet (fail);go_wp2_with fail;go_ret;exact⟨by rw[u.z (by rw[e.z];simp;omega)];rfl,(c.alloc _).drewN _⟩
   have y:decide (hi<lo)=false:=nF d1;by_cases d2:(4611686018427387903:Int)<hi
   .have z:decide ((4611686018427387903:Int)<hi)=true:=nF d2;go_wp2_with fail;go_quiet (fail);go_wp2_with fail;go_ret;exact⟨by rw[u.z (by rw[e.z];simp;omega)];rfl,(c.alloc _).drewN _⟩
   have z:decide ((4611686018427387903:Int)<hi)=false:=nF d2;by_cases G:0<k
   .have A:decide (0<k)=true:=nF G;obtain⟨e4,b4⟩:=p I;have s1:IntKind.i64.wrap ((k:Int)-1)=(k:Int)-1:=IntWalk.i64_in _ I;have s2:((k:Int)-1).toNat=k-1:=I;have s3:0<=(k:Int)-1:=I;have s4:(k:Int)-1<f.rngs.length:=I;clear p;by_cases H:(m:Int)<2
    .have B:decide ((m:Int)<2)=true:=nF H;go_wp2_with fail;go_quiet (fail);go_wp2_with fail;go_ret;exact⟨by rw[u.z (by rw[e.z];simp;omega)];rfl,(c.alloc _).drewN _⟩
    have B:decide ((m:Int)<2)=false:=nF H;have s5:=wu ((m:Int)-2) I;by_cases J:(m:Int)-2<hi
    .have C:decide ((m:Int)-2<hi)=true:=nF J;go_wp2_with fail;go_quiet (fail);go_wp2_with fail;go_ret;exact⟨by rw[u.z (by rw[e.z];simp;omega)];rfl,(c.alloc _).drewN _⟩
    have C:decide ((m:Int)-2<hi)=false:=nF J;go_wp2_with fail;go_quiet (fail);go_wp2_with fail;go_roundw
    case rel=>exact⟨k+1,I,by go_num,by rw[F.z,d.z,e.z];simp;omega,(c.alloc _).drewN _⟩
    simp[intOf];omega
   have A:decide (0<k)=false:=nF G;clear p;go_wp2_with fail;go_quiet (fail);go_wp2_with fail;go_roundw
   case rel=>exact⟨k+1,I,by go_num,by rw[F.z,d.z,e.z];simp;omega,(c.alloc _).drewN _⟩
   simp[intOf];omega
  have t:k=f.rngs.length:=I;have HE:AA (FE f.rngs=decide (0<f.rngs.length)):=by
   show _=_;unfold FE;have:=d.z;rw[t]at this;rw[this];simp
  have s:=(hf.mod c (λx=>x)).cells.2.2.2.2.2.2.2.2.2;clear t;go_wp2_with fail;go_ret;exact⟨by rw[HE.z];rfl,c⟩
end
section
open Go.RowKit Go.Proofs.Tryz Go.Shelf
attribute [local go_sem] Oper.semAt_some
def FO(rs:zC)(k:Nat):List (Nat×(Nat×Nat)):=(List.range k).map λj=>(rs.length-1-j,(DZ rs (rs.length-1-j),DX rs (rs.length-1-j)))
def lQ(rs:zC)(k:Nat):FO rs (k+1)=FO rs k++[(rs.length-1-k,(DZ rs (rs.length-1-k),DX rs (rs.length-1-k)))]:=by simp[FO,Bp]
def mD(rs:zC)(k:Nat):(FO rs k).length=k:=by simp[FO]
def JQ(x:Nat×(Nat×Nat)):Array Value:=#[.int .i64 x.1,.agg #[.int .u64 x.2.1,.int .u64 x.2.2]]
def FW(b:Nat)(a:nI)(W W':World):Prop:=W'.heap[b]?=W.heap[b]?/\∀g o,a=some ⟨g,o,none⟩->W'.heap[g]?=W.heap[g]?
def FW.refl(Bs:Nat)(a:nI)(W:World):FW Bs a W W:=⟨rfl,λ_ _ _=>rfl⟩
variable{a:nI}
def FW.trans{b:Nat}{A B C:World}(h:FW b a A B)(k:FW b a B C):FW b a A C:=⟨k.1.trans h.1,λg o e=>(k.2 g o e).trans (h.2 g o e)⟩
variable{v:Value}
def FW.box{b:Nat}{A B:World}(h:FW b a A B)(hc:A.cell? b=some v):B.cell? b=some v:=(World.cell?_of_block h.1).trans hc
variable{g o:Nat}
def FW.row{Bs x:Nat}{A B:World}(h:FW Bs (some ⟨g,o,none⟩) A B)(hc:A.cell? (g,x)=some v):B.cell? (g,x)=some v:=(World.cell?_of_block (h.2 g o rfl)).trans hc
def dI(F:Fence)(n:Nat)(hF:F.fn 215)(z:F.round=none)(hn:1<=n)(l w cap:Nat)(a:nI)(rs:zC)(J y:List (Nat×(Nat×Nat))->World->Prop)
  (A:∀pre x W,J pre W->pre.length<rs.length->YieldAt F (n-1) prog l (JQ x) W λe W' =>
   (e=.returned (.bool true)/\J (pre++[x]) W'/\FW w a W W')\/(e=.returned (.bool false)/\y (pre++[x]) W'))
  (W:World) (h:W.cell? w=some (.slice a rs.length cap)) (hr:RR W (.slice a rs.length cap) rs) (h0:J [] W) :
  CallsIn F n prog 215 #[.func (.yield l) #[] #[],.pointer w] W λe W'=>(∃v,e=.returned v) /\
   ((∃ys,ys=FO rs rs.length/\J ys W')\/(∃pre,(∃k,k<=rs.length/\pre=FO rs k)/\y pre W')):=by
 obtain⟨_,_,e,r1,r2,B⟩:=hr;cases e;unfold maxLen at r2;have H:(rs.length:Int)<=9223372036854775807:=I;refine callsIn_of_wp func215 rfl hF ?_ z;simp only[ntmps215,Am,AR,Ad,Nat.reduceAdd,Nat.reduceSub,BA,A9,BK,BE,An,BS];gi_wp2
 gi_loopw [3] (λi wr=>∃k:Nat,k<=rs.length/\i=.int .i64 ((rs.length:Int)-1-k)/\J (FO rs k) wr/\FW w a W wr) (λi _=>(intOf i+1).toNat)
 case atStart=>exact⟨0,AM _,mv,h0,FW.refl _ _ _⟩
 case round =>
  obtain⟨k,hk,rfl,c,b⟩:=hrel;by_cases C:k<rs.length
  .obtain⟨q,K⟩:=nm (rs.length-1-k);have j:(rs.length:Int)-1-k=(q:Int):=I;have D:q<rs.length:=I;obtain⟨g,o,rfl,c1,c2,_,_⟩:=B q D;have d:=b.box h;have p:=b.row c1;have r:=b.row c2;obtain⟨fn,tmps,assign,body,L,M⟩:=A _ (q,(DZ rs q,DX rs q)) wr c (by rw[mD];exact C);have HB:=zb (lQ rs k);have N:=zb K;have O:=zb c;have E:=zb j;unfold JQ at L;dsimp only at L;rw[j];clear K c B c1 c2 j;gi_wp2;refine M.mono ?_;clear M A;rintro e P (⟨rfl,s,t⟩|⟨rfl,f⟩)
   .have m:AA (J (FO rs (k+1)) P):=by
     show J _ _;rw[HB.z,N.z];exact s
    have G:=zb (b.trans t);clear s t b d p r h;gi_wp2;go_roundw
    case rel=>exact⟨k+1,I,by rw[<-E.z];congr 1;omega,m.z,G.z⟩
    simp[intOf]
   have m:AA (y (FO rs (k+1)) P):=by
    show y _ _;rw[HB.z,N.z];exact f
   clear f b d p r h;gi_wp2;refine bodyPost_ret (results_none rfl _ _ _) rfl ?_;exact⟨⟨_,rfl⟩,.inr ⟨_,⟨k+1,I,rfl⟩,m.z⟩⟩
  have u:k=rs.length:=I;have O:=zb c;have HK:=zb u;have Q:¬(0:Int)<=(rs.length:Int)-1-k:=I;clear c u B A;gi_wp2
  go_end0
  exact⟨⟨_,rfl⟩,.inl (by rw[<-HK.z];exact O.z)⟩
def TZ(F:Fence)(n:Nat)(hF:F.fn 194)(b:F.round=none)(a:nI)(len cap:Nat)(w:World):CallsIn F n prog 194 #[.slice a len cap] w λe w'=>e=.returned (.func (.func 215) #[] #[.pointer w.heap.size])/\w'=w.alloc (.cells #[.slice a len cap] 63):=by
 refine callsIn_of_wp func194 rfl hF ?_ b;simp only[ntmps194,Am,AR,Ad,Nat.reduceAdd,Nat.reduceSub,BA,A9,BK,BE,An,BS];gi_wp2;go_ret;exact⟨rfl,rfl⟩
def iy(F:Fence)(n:Nat)(hF:F.fn 215)(d:F.round=none)(hn:1<=n)(b cap:Nat)(a:nI)(rs:zC)(w:World)(c:w.cell? b=some (.slice a rs.length cap))(hr:RR w (.slice a rs.length cap) rs):SeqStopsK F n prog 215 #[.pointer b] JQ (FW b a) (λys=>ys=FO rs rs.length) (λpre=>∃k,k<=rs.length/\pre=FO rs k) rs.length w:=λl J Jx W f _ _ hY h0=>by
 have h:=zm c;refine dI F n hF d hn l b cap a rs J Jx hY W ((f.cell (p:=b) h).trans c) ?_ h0;obtain⟨_,_,e,h1,h2,h3⟩:=hr;cases e;refine⟨_,_,rfl,h1,h2,λi hi=>?_⟩;obtain⟨g,o,e,j,q2,q3,q4⟩:=h3 i hi;have hl:=zm j;exact⟨g,o,e,(f.cell (p:=⟨g,_,none⟩) hl).trans j,(f.cell (p:=⟨g,_,none⟩) hl).trans q2,q3,q4⟩
end
section
open Go.RowKit Go.Proofs.Tryz
def Lp(F:FuncId)(a:Array Value)(n:Nat)(p:Nat->Bool)(w:World):Prop :=
 ∀i k,i<n->Calls prog F (#[.int .i64 i]++a) (w.drewN k) λe w'=>e=.returned (.bool (p i))/\∃k,w'=w.drewN k
def Od(F:FuncId):Prop:=∀args w,(callFunc F args).run prog w=.ok (.enter F args) w
def FD(n:Nat)(p:Nat->Bool)(m:Nat):Prop:=m<=n/\(0<m->p (m-1)=false)/\(m<n->p m=true)
def QK(n:Nat)(F:FuncId)(c:Array Value)(p:Nat->Bool)(w:World)(hn:n<=4611686018427387904)(hF:Od F)(hp:Lp F c n p w):Calls prog 152 #[[n],.func (.func F) #[] c] w λe w'=>∃m:Nat,FD n p m/\e=.returned (.int .i64 m)/\∃k,w'=w.drewN k:=by
 go_enter func152,ntmps152;go_wp2_with fail
 go_loopw [5,6] (λi j w'=>∃a b:Nat,a<=b/\b<=n/\i=.int .i64 a/\j=.int .i64 b/\(0<a->p (a-1)=false)/\(b<n->p b=true)/\∃k,w'=w.drewN k) (λi j _=>((intOf j)-(intOf i)).toNat)
 case atStart=>exact⟨0,n,I,I,rfl,rfl,I,I,0,rfl⟩
 case round =>
  obtain⟨a,b,hab,hbn,rfl,rfl,h1,h2,k,rfl⟩:=hrel;by_cases hlt:a<b
  .have e1:(a+b) / 2<n:=I;have H:=hp ((a+b) / 2) k e1;have e2:0<=(a:Int)+b:=I;have g:(((a+b) / 2:Nat):Int)=((a:Int)+b) / 2:=I;rw[g]at H;have hF':∀args w,(callFunc F args).run prog w=.ok (.enter F args) w:=hF;clear g;cases hpv:p ((a+b) / 2)
   .rw[hpv]at H;have d:AA (p ((a+b) / 2)=false):=hpv;clear hpv;go_wp2_with (refine H.mono ?_;rintro e w' ⟨rfl,f,rfl⟩);go_roundw
    case rel=>exact⟨(a+b) / 2+1,b,I,I,by go_num,rfl,λ_=>d,h2,f,rfl⟩
    simp[intOf];omega
   rw[hpv]at H;have d:AA (p ((a+b) / 2)=true):=hpv;clear hpv;go_wp2_with (refine H.mono ?_;rintro e w' ⟨rfl,f,rfl⟩);go_roundw
   case rel=>exact⟨a,(a+b) / 2,I,I,rfl,by go_num,h1,λ_=>d,f,rfl⟩
   simp[intOf];omega
  go_wp2_with fail;go_ret;exact⟨a,⟨I,h1,λh=>by have e:a=b:=I;rw[e];exact h2 I⟩,rfl,k,rfl⟩
structure El(w:World)(b o:Nat)(v:Value)(rs:zC)(fl most:Nat):Prop where
 cl:w.cell? (b,o)=some v
 cf:w.cell? (b,o+1)=some (.int .u64 fl)
 cm:w.cell? (b,o+2)=some (.int .i64 most)
 own:w.ownsRow 0 214 2 v rs.length (zq rs)
 len:rs.length<=1099511627776
 fz:∀j,w.frozen? ⟨b,j,none⟩=false
variable{S:Nat->Prop}{b o:Nat}{rs:zC}{v:Value}{w w':World}
def El.mod{fl most:Nat}(h:El w b o v rs fl most)(m:DW S w w')(hb:¬S b)(hs:∀g,v.ownBlock=some g->¬S g):El w' b o v rs fl most :=
 ⟨m.cell hb h.cl,m.cell hb h.cf,m.cell hb h.cm,m.owns h.own hs,h.len,λj=>by rw[World.frozen?_of_block (w:=w) (m.block b (zm h.cl) hb)];exact h.fz j⟩
def Kb(rs:zC)(n:Nat)(i:Nat):Bool:=decide (n<=DX rs i)
def dH(rs:zC)(fl most i b o c d n:Nat)(v:Value)(w:World)
  (hs:w.cell? c=some (.pointer (b,o))) (hn:w.cell? d=some (.int .u64 n))
  (h:El w b o v rs fl most) (hi:i<rs.length) :
  Calls prog 153 #[[i],(c,0),(d,0)] w λe w'=>e=.returned (.bool (Kb rs n i))/\∃k,w'=w.drewN k:=by
 obtain⟨a,cap,rfl,h1,h2,h3⟩:=zk h.own;obtain⟨g,rfl⟩:=h3 I;have hl:=h.cl;have hr:=(Ir h.own i hi).2;have hi1:(i:Int)<rs.length:=I;have hi0:0<=(i:Int):=I;unfold maxLen at h2;clear h3;go_enter func153,ntmps153;go_wp2_with fail;go_quiet (fail);go_wp2_with fail;go_ret;exact⟨rfl,_,rfl⟩
def Hi(rs:zC)(fl n:Nat):Bool:=decide (n<fl)||rs.any λr=>decide (r.1<=n)&&decide (n<=r.2)
def lP:Od 153:=λargs w=>Pb func153 mr rfl args w
def dG(rs:zC)(fl most b o n:Nat)(v:Value)(w:World)(h:El w b o v rs fl most):Calls prog 87 #[(b,o),n] w λe w'=>∃m,FD rs.length (Kb rs n) m/\e=.returned (.bool (decide (n<fl)||decide (m<rs.length)&&decide (DZ rs m<=n)))/\Below w.heap.size w w':=by
 have hbw:=zm h.cl;have f:=h.len;obtain⟨a,cap,hv,h1,h2,h3⟩:=zk h.own;unfold maxLen at h2;have c:=QK rs.length 153 #[.pointer w.heap.size,.pointer (U (w.heap.size+1) 0)] (Kb rs n) ((w.alloc (.cells #[(b,o)] 114)).alloc (.cells #[n] 43)) I lP (by
  intro i k hi;have d:DW DY w (((w.alloc (.cells #[(b,o)] 114)).alloc (.cells #[n] 43)).drewN k):=(((DW.refl _ _).alloc _).alloc _).drewN k;exact(dH rs fl most i b o w.heap.size (w.heap.size+1) n v _ mv mv (h.mod d (λx=>x) (λ_ _ x=>x)) hi).mono λe w' ⟨he,k',hw⟩=>⟨he,k+k',by rw[hw,World.drewN_drewN]⟩)
 have hl:=h.cl;have hf:=h.cf;subst hv;go_enter func87,ntmps87;go_wp2_with (go_at_call 152;refine c.mono ?_;rintro e w' ⟨m,d,rfl,k,rfl⟩);have fin:∀j,Below w.heap.size w ((((w.alloc (.cells #[(b,o)] 114)).alloc (.cells #[n] 43)).drewN k).drewN j):=λj=>(((((DW.refl DY _).alloc _).alloc _).drewN k).drewN j).below
 by_cases c1:n<fl
 .have d1:decide ((n:Int)<fl)=true:=my;go_quiet (fail);go_wp2_with fail;go_ret;exact⟨m,d,by simp[c1],fin _⟩
 have d1:decide ((n:Int)<fl)=false:=my;by_cases c2:m<rs.length
 .have d2:decide ((m:Int)<rs.length)=true:=my;obtain⟨g,rfl⟩:=h3 I;have hr:=(Ir h.own m c2).1;have hg:=zm hr;clear h3 c;go_quiet (fail);go_wp2_with fail;go_ret;exact⟨m,d,by simp[c1,c2],fin _⟩
 have d2:decide ((m:Int)<rs.length)=false:=my;clear h3 c;go_quiet (fail);go_wp2_with fail;go_ret;exact⟨m,d,by simp[c1,c2],fin _⟩
def WQ(most:Int)(w:World)(hm:most<=9223372036854775807)(hl : -9223372036854775808<=most):Calls prog 102 #[[most]] w λe w'=>e=.returned (.pointer w.heap.size)/\w'=w.alloc (.cells #[.slice none 0 0,.int .u64 0,.int .i64 (max most 1)] 116):=by
 go_enter func102,ntmps102;go_wp2_with fail
 .go_ret;exact⟨rfl,by rw[(I:max most 1=1)]⟩
 go_ret;exact⟨rfl,by rw[(I:max most 1=most)]⟩
end
section
open Go.RowKit Go.Proofs.Tryz Go.Shelf
attribute [local go_sem] Oper.semAt_some
def Xx(F:Fence)(n:Nat)(hF:F.fn 141)(a:F.round=none)(b:Nat)(w:World):CallsIn F n prog 141 #[.pointer b] w λe w'=>e=.returned (.func (.func 193) #[] #[.pointer w.heap.size])/\w'=w.alloc (.cells #[(b,0)] 114):=by
 refine callsIn_of_wp func141 rfl hF ?_ a;simp only[ntmps141,Am,AR,Ad,Nat.reduceAdd,Nat.reduceSub,BA,A9,BK,BE,An,BS];gi_wp2;go_ret;exact⟨rfl,rfl⟩
def Ja(lb lr:Nat)(a:nI)(W:World)(k:Nat):Prop:=k=lb\/k=lr\/((∀g o,a=some ⟨g,o,none⟩->k≠g)/\∃cs fz,W.heap[k]?=some (.cells cs 214 fz))
def ME(x:Nat×Nat):Array Value:=#[.agg #[.int .u64 x.1,.int .u64 x.2]]
def dF(F:Fence)(n:Nat)(p:∀f,F.fn f)(q:F.round=none)(hn:4<=n)(l O b lb cap:Nat)(a:nI)(rs:zC)(J Jx:List (Nat×Nat)->World->Prop)(W:World)
  (hY:∀m pre x W1,J pre W1->pre.length<rs.length->YieldAt F m prog l (ME x) W1 λe W' =>
   DW (Ja lb l a W1) W1 W'/\((e=.returned (.bool true)/\J (pre++[x]) W')\/(e=.returned (.bool false)/\Jx (pre++[x]) W')))
  (hJ:OwnFrom W.heap.size J) (P:OwnFrom W.heap.size Jx) (w:W.cell? O=some (.pointer b)) (hb:W.cell? b=some (.slice a rs.length cap)) (j:RR W (.slice a rs.length cap) rs) (hlb:lb<W.heap.size) (hl:l<W.heap.size) (Q:∀g o,a=some ⟨g,o,none⟩->g<W.heap.size/\g≠lb/\g≠l) (h0:J [] W) :
  CallsIn F n prog 193 #[.func (.yield l) #[] #[],.pointer O] W λe W'=>(∃v,e=.returned v) /\
   (J ((FO rs rs.length).map (·.2)) W'\/∃k,k<=rs.length/\Jx ((FO rs k).map (·.2)) W'):=by
 have R:=zb hJ;have S:=zb P;have HY:=zb hY;have HR:=zb j;have H0:=zb h0;have ac:(W.alloc (.cells #[.func (.yield l) #[] #[]] 300)).cell? O=some (.pointer b):=((DW.refl DY W).alloc _).cell (a:=O) id w;have ad:(W.alloc (.cells #[.func (.yield l) #[] #[]] 300)).cell? b=some (.slice a rs.length cap):=((DW.refl DY W).alloc _).cell (a:=b) id hb;have h1:1<=n:=I;clear hJ P hY j h0;refine callsIn_of_wp_marks func193 rfl (p _) ?_ q;simp only[ntmps193,Am,AR,Ad,Nat.reduceAdd,Nat.reduceSub,BA,A9,BK,BE,An,BS]
 gi_wp2_with (gi_at_call 194;refine(TZ F (n-1) (p _) q _ _ _ _).mono ?_;rintro e w' ⟨rfl,rfl⟩)
 obtain⟨d,y⟩:=nm W.heap.size;have bY:Boxed ((W.alloc (.cells #[.func (.yield l) #[] #[]] 300)).alloc (.cells #[.slice a rs.length cap] 63)) d 300 (.func (.yield l) #[] #[]):=by
  rw[<-y];exact(Boxed.new W _ _).alloc _
 have bS:Boxed ((W.alloc (.cells #[.func (.yield l) #[] #[]] 300)).alloc (.cells #[.slice a rs.length cap] 63)) (d+1) 63 (.slice a rs.length cap):=by
  have:=Boxed.new (W.alloc (.cells #[.func (.yield l) #[] #[]] 300)) 63 (.slice a rs.length cap);rw[World.size_alloc,y]at this;exact this
 have m0:DW DY W ((W.alloc (.cells #[.func (.yield l) #[] #[]] 300)).alloc (.cells #[.slice a rs.length cap] 63)):=((DW.refl _ _).alloc _).alloc _;obtain⟨w1,t⟩:=nm (((W.alloc (.cells #[.func (.yield l) #[] #[]] 300)).alloc (.cells #[.slice a rs.length cap] 63)));have hs1:w1.heap.size=d+2:=by rw[<-t];simp;omega
 have ae:J [] w1:=by rw[<-t];exact R.z.alloc _ (R.z.alloc _ H0.z)
 rw[t]at bY bS m0 ⊢;rw[y];have af:=HR.z.mod m0 (Dp.no _);clear t ac ad;refine wpIn_rangeFunc_ownH q h1 (gf:=215) (lb:=#[.pointer (U (d+1) 0)]) rfl (p _) (enters_of func215 mr rfl)
  (iy F (n-1) (p _) q I (d+1) cap a rs w1 bS.cell af) (λh k=>h.trans k) ?hKb (Below.refl _ _) (λ_=>rfl)
  (λpre X=>(J (pre.map (·.2)) X/\Boxed X d 300 (.func (.yield l) #[] #[]))/\Boxed X (d+1) 63 (.slice a rs.length cap))
  (λc pre X=>c=.ret/\Jx (pre.map (·.2)) X) ?hI ?hIx ⟨⟨ae,bY⟩,bS⟩
  (λx a' X=>∃rb,a'={ tmps:=#[.func (.yield l) #[] #[],.pointer O,.pointer d,undef,.pointer (some ⟨rb,0,none⟩),.pointer b,.pointer b,.pointer b,.slice a rs.length cap,.func (.func 215) #[] #[.pointer (U (d+1) 0)],.int .i64 x.1,.agg #[.int .u64 x.2.1,.int .u64 x.2.2],undef,undef,undef,undef],defers:=[] } /\
   X.heap[rb]?=some (.cells #[x.2.1,x.2.2] 214 (0,0))) ?hAx ?assign ?body ?done ?stop
 case hKb =>
  intro X l2 o o' hl2 _ _ _;exact⟨World.putObj_heap_other I,λg o e=>World.putObj_heap_other (nC ((Q g o e).1))⟩
 case hI =>
  exact OwnFrom.and (OwnFrom.and (λs A B row w hg j=>R.z _ A B row w hg (λr e=>⟨nC ((j r e).1),(j r e).2⟩)) (Own.from (boxed_own d _ (λ_=>_)) _)) (Own.from (boxed_own (d+1) _ (λ_=>_)) _)
 case hIx =>
  intro c s A B row w hg j;exact⟨w.1,S.z _ A B row w.2 hg (λr e=>⟨nC ((j r e).1),(j r e).2⟩)⟩
 case hAx =>
  intro x a' s A B row w hg j;obtain⟨rb,e,z⟩:=w;refine⟨rb,e,(hg.block rb (AH.1 z).1 (λe2=>?_)).trans z⟩;obtain⟨_,o,T,C⟩:=j rb e2.symm;rw[z]at T;cases T;cases C
 case assign =>
  intro l' pre x X K hI E;unfold JQ;gi_wp2;refine E _ _ ((KeepsOthers.alloc X _).from _) ⟨Below.heap_alloc _ _ _ hI.2.lt,λg o e=>Below.heap_alloc _ _ _ ?_⟩ ⟨⟨?_,hI.1.2.alloc _⟩,hI.2.alloc _⟩ ⟨X.heap.size,rfl,heap_alloc_new X _⟩
  .have q1:=(Q g o e).1;have q2:=hI.2.lt;omega
  exact R.z.alloc _ hI.1.1
 case body =>
  rintro l' pre x a' X hl' V ⟨⟨G,hy⟩,H⟩ ⟨rb,rfl,Y⟩ ah;have yc:=hy.cell;have r0:X.cell? rb=some (.int .u64 x.2.1):=za Y rfl;have r1:X.cell? (rb,1)=some (.int .u64 x.2.2):=za Y rfl;obtain⟨fn,tmps,assign,body,L,hR⟩:=HY.z (n-1-1-1) (pre.map (·.2)) x.2 X G (nF ah);unfold ME at L;have hn1:1<=n-1-1:=I;have HJP:=zb G;clear G V;have ai:=zb hR;clear hR;gi_wp2;refine RoundIn.mono (F:=F.inRound l') (show RoundIn (F.inRound l') _ _ _ _ _ _ _ _ _ from ai.z) ?_;rintro e X3 ⟨M,Z⟩;have aa:=hy.lt;have i:=H.lt;have nY:¬Ja lb l a X d:=by
   rintro(h|h|⟨_,cs,fz,h⟩)
   .omega
   .omega
   rw[show X.heap[d]?=_ from hy]at h;simp at h
  have nS:¬Ja lb l a X (d+1):=by
   rintro(h|h|⟨_,cs,fz,h⟩)
   .omega
   .omega
   rw[show X.heap[d+1]?=_ from H]at h;simp at h
  have ab:AA (KeepsFrom w1.heap.size X X3):=⟨M.size,λk o hk z C=>by
   refine(M.block k (AH.1 z).1 ?_).trans z;rintro(h|h|⟨_,cs,fz,h⟩)
   .omega
   .omega
   rw[z]at h;cases h;cases C⟩
  have aj:AA (FW (d+1) a X X3):=⟨M.block _ i nS,λg o e=>M.block _ (nC ((Q g o e).1)) (by
   rintro(h|h|⟨h,_⟩)
   .exact(Q g o e).2.1 h
   .exact(Q g o e).2.2 h
   exact h g o e rfl)⟩
  have ak:AA (Boxed X3 d 300 (.func (.yield l) #[] #[])):=(M.block _ aa nY).trans hy;have al:AA (Boxed X3 (d+1) 63 (.slice a rs.length cap)):=(M.block _ i nS).trans H;clear nY nS M aa i;rcases Z with⟨rfl,u⟩|⟨rfl,u⟩
  .have N:=zb u;clear u yc L;gi_wp2;exact⟨ab.z,aj.z,⟨by rw[Ba];exact N.z,ak.z⟩,al.z⟩
  have N:=zb u;clear u yc L;gi_wp2;exact⟨ab.z,rfl,by rw[Ba];exact N.z⟩
 case done =>
  rintro D ys X hD rfl ⟨⟨u,_⟩,_⟩ E;gi_wp2;refine⟨mv,.inl ⟨_,_,rfl,run_takeDeferred E,?_⟩⟩;exact⟨_,results_none rfl _ _ _,⟨_,rfl⟩,.inl (R.z.putObj _ u I E rfl)⟩
 case stop =>
  rintro D c pre X hD ⟨k,hk,rfl⟩ ⟨rfl,u⟩ E;gi_wp2;refine⟨mv,.inl ⟨_,_,rfl,run_takeDeferred E,?_⟩⟩;exact⟨_,results_none rfl _ _ _,⟨_,rfl⟩,.inr ⟨k,hk,S.z.putObj _ u I E rfl⟩⟩
end
section
open Go.RowKit Go.Proofs.Tryz
def D8(rs:zC):Nat->nG
 | 0=>[]
 | k+1=>(D8 rs k++zH (DZ rs k-DX rs (k+1)-2))++zH (DX rs (k+1)-DZ rs (k+1))
theorem R8(rs:zC):∀k,(D8 rs k).length<=16*k
 | 0=>by simp[D8]
 | k+1=>by
  have h1:=R8 rs k;have h2:=zx (DZ rs k-DX rs (k+1)-2);have h3:=zx (DX rs (k+1)-DZ rs (k+1));simp only[D8,AG];omega
def Gm(f:Da):nG:=((([2]++zH (DX f.rngs 0))++zH (f.rngs.length-1))++zH (DX f.rngs 0-DZ f.rngs 0))++D8 f.rngs (f.rngs.length-1)
variable{i:Nat}{rs:zC}
def Xw(h:FE rs=true)(hi:i<rs.length):Ia rs i=true:=by
 unfold FE IZ at h;simp only[AZ,Ct,Bn]at h;exact h.1 i hi
def Mf(h:FE rs=true)(hi:i<rs.length):DZ rs i<=DX rs i/\DX rs i<=4611686018427387903/\(0<i->DX rs i+2<=DZ rs (i-1)):=by
 have:=Xw h hi;simp only[Ia,AZ,Bb,Ah]at this;obtain⟨⟨h1,h2⟩,h3⟩:=this;refine⟨h1,h2,λh0=>?_⟩;rcases h3 with h3|h3
 .omega
 exact h3.2
variable{l new:nG}{v v':Value}{w w':World}
def Dz.alloc(h:Dz w v l new v' w')(o:Obj):Dz w v l new v' (w'.alloc o) :=
 ⟨World.ownsRow.alloc h.own o,World.ownsRow.alloc h.old o,⟨h.grown.os,h.grown.tape,h.grown.output,AJ h.grown.size mv,λk hk hn=>(Below.heap_alloc w' o k (A7 hk h.grown.size)).trans (h.grown.block k hk hn)⟩,h.at_⟩
def Dz.drewR(h:Dz w v l new v' w'):Dz w v l new v' w'.drew :=
 ⟨h.own,h.old,⟨h.grown.os,h.grown.tape,h.grown.output,h.grown.size,h.grown.block⟩,h.at_⟩
variable{g o:Nat}
def RR.cell0{n c:Nat}(h:RR w (.slice (g,o) n c) rs)(hp:0<rs.length):w.cell? (g,o+0*2)=some (.int .u64 (DZ rs 0:Int)):=by
 obtain⟨a,cap,hv,_,_,h3⟩:=h;obtain⟨g',o',e,e1,_⟩:=h3 0 hp;cases hv;cases e;exact e1
def OB.mod0(h:OB w v l)(m:DW DY w w'):OB w' v l:=m.owns h (λ_ _ x=>x)
def P3(h:OB w v l):∀g,v.ownBlock=some g->g<w.heap.size:=by
 intro g hg;rcases h.2 with⟨rfl,_⟩|⟨g',cap,cur,rfl,_,h0,_⟩
 .cases hg
 simp[Value.ownBlock]at hg;subst hg;exact(AH.1 h0).1
def LB(v:Value)(l:nG)(b:Nat)(f:Da)(rv:Value)(w:World)(hf:zj w b f rv)(hr:RR w rv f.rngs)(hs:FE f.rngs=true)(hn:f.rngs.length<=1099511627776)(H:Dp (λk=>v.ownBlock=some k) rv)(h:OB w v l)(hl:l.length<=35184372088832):Calls prog 173 #[v,(b,0)] w (Ib w v l (Gm f)):=by
 have D:=hf.cells.2.2.2.2.2.2.2.2.2;have hbl:=zm D;have J:0<f.rngs.length:=by
  unfold FE at hs;simp only[AZ,Ah]at hs;exact hs.2
 obtain⟨a,cap,rfl,h1,h2,h3⟩:=id hr;unfold maxLen at h2;obtain⟨g,o,rfl,L,e2,b1,b2⟩:=h3 0 J;have an:=zm L;obtain⟨k1,k2,_⟩:=Mf hs J;have HB:AA (Gm f=((([2]++zH (DX f.rngs 0))++zH (f.rngs.length-1))++zH (DX f.rngs 0-DZ f.rngs 0))++D8 f.rngs (f.rngs.length-1)):=rfl;have hH:∀i,i<f.rngs.length->DZ f.rngs i<=DX f.rngs i/\DX f.rngs i<=4611686018427387903/\(0<i->DX f.rngs i+2<=DZ f.rngs (i-1)):=λi hi=>Mf hs hi
 have HH:=zb hH;clear hH;obtain⟨lo,R⟩:=nm (DZ f.rngs 0);obtain⟨hi,T⟩:=nm (DX f.rngs 0);rw[R]at L b1 k1;rw[T]at e2 b2 k1 k2;rw[R,T]at HB;simp only[Cd,B7]at L e2;clear R T h3;have z1:IntKind.i64.wrap ((f.rngs.length:Int)-1)=(f.rngs.length:Int)-1:=IntWalk.i64_in _ I;have z2:IntKind.u64.wrap ((f.rngs.length:Int)-1)=((f.rngs.length-1:Nat):Int):=by rw[IntKind.wrap_u64];omega
 have z3:IntKind.u64.wrap ((hi:Int)-lo)=((hi-lo:Nat):Int):=by rw[IntKind.wrap_u64];omega
 go_enter func173,ntmps173;go_wp2_with fail;obtain⟨t,B⟩:=nm ((w.alloc (.cells #[lo,hi] 214)).drew);have z:DW DY w t:=by rw[<-B];exact((DW.refl _ _).alloc _).drew
 have A:=hf.mod z (λx=>x);have hB:t.heap[w.heap.size]?=some (.cells #[lo,hi] 214 (0,0)):=by rw[<-B];exact heap_alloc_new w _
 have j:t.cell? w.heap.size=some (.int .u64 lo):=za hB rfl;have m:t.cell? (w.heap.size,1)=some (.int .u64 hi):=za hB rfl;have n:¬v.ownBlock=some w.heap.size:=λhx=>nC (P3 h _ hx)
 have hX:=h.mod0 z;obtain⟨v1,w1,ae,A1⟩:=Jj t v l 2 2 hX rfl I;have F1:zj w1 b f (.slice (g,o) f.rngs.length cap)/\w1.cell? w.heap.size=some (.int .u64 lo)/\w1.cell? (w.heap.size,1)=some (.int .u64 hi):=⟨zj.app (w:=t) A (h.mod0 z) A1,A1.mod.cell (a:=w.heap.size) n j,A1.mod.cell (a:=U w.heap.size 1) n m⟩;have L1:(l++[(2:UInt8)]).length<=35184372088832+1:=my;have V:=zb (z.trans (S:=DY) (DW.refl _ _));refine zo 21 (λw'=>zj w' b f (.slice (g,o) f.rngs.length cap)/\w'.cell? w.heap.size=some (.int .u64 lo)/\w'.cell? (U w.heap.size 1)=some (.int .u64 hi)) ?_ ?_
 .rw[B];exact⟨A,j,m⟩
 rw[B];clear B;refine GI 0 ?_;refine GV rfl ?_;try simp only[PS]
 refine GI 3 ?_;iterate 2
  refine GV rfl ?_;try simp only[PS]
 refine GI 6 ?_;iterate 7
  refine GV rfl ?_;try simp only[PS]
 refine GI 14 ?_;iterate 5
  refine GV rfl ?_;try simp only[PS]
 refine zE 1 rfl (λK p=>?_);go_simp;refine p.z _ _ ?_ ?_
 .exact⟨A.mod (S:=DY) ((DW.refl _ _).alloc _) (λx=>x),((DW.refl DY t).alloc _).cell (a:=w.heap.size) id j,((DW.refl DY t).alloc _).cell (a:=U w.heap.size 1) id m⟩
 clear p K;try simp only[PS]
 refine zE 2 rfl (λK p=>?_);refine zS rfl _ _ _ _ rfl _ _ _ rfl rfl ae ?_;refine p.z _ _ F1 ?_;clear p K;try simp only[PS]
 refine zE 5 rfl (λK p=>?_);go_simp;refine(GQ v1 (l++([2])) hi w1 A1.own I I).mono ?_;rintro e w2 ⟨v2,rfl,M⟩;have A2:=A1.trans M;have F2:zj w2 b f (.slice (g,o) f.rngs.length cap)/\w2.cell? w.heap.size=some (.int .u64 lo)/\w2.cell? (w.heap.size,1)=some (.int .u64 hi):=⟨zj.app (w:=t) A (h.mod0 z) A2,A2.mod.cell (a:=w.heap.size) n j,A2.mod.cell (a:=U w.heap.size 1) n m⟩;have L2:(l++([2]++zH hi)).length<=35184372088832+9:=by have:=zx hi;simp at this L1 ⊢;omega
 refine p.z _ _ F2 ?_;clear M;clear p K;try simp only[PS]
 refine zE 13 rfl (λK p=>?_);go_simp;refine(GQ v2 (l++([2]++zH hi)) (f.rngs.length-1) w2 A2.own I I).mono ?_;rintro e w3 ⟨v3,rfl,M⟩;have A3:=A2.trans M;have F3:zj w3 b f (.slice (g,o) f.rngs.length cap)/\w3.cell? w.heap.size=some (.int .u64 lo)/\w3.cell? (w.heap.size,1)=some (.int .u64 hi):=⟨zj.app (w:=t) A (h.mod0 z) A3,A3.mod.cell (a:=w.heap.size) n j,A3.mod.cell (a:=U w.heap.size 1) n m⟩;have L3:(l++([2]++zH hi++zH (f.rngs.length-1))).length<=35184372088832+17:=by have:=zx (f.rngs.length-1);simp at this L2 ⊢;omega
 refine p.z _ _ F3 ?_;clear M;clear p K;try simp only[PS]
 refine zE 19 rfl (λK p=>?_);go_simp;refine(GQ v3 (l++([2]++zH hi++zH (f.rngs.length-1))) (hi-lo) w3 A3.own I I).mono ?_;rintro e w4 ⟨v4,rfl,M⟩;have A4:=A3.trans M;have F4:zj w4 b f (.slice (g,o) f.rngs.length cap)/\w4.cell? w.heap.size=some (.int .u64 lo)/\w4.cell? (w.heap.size,1)=some (.int .u64 hi):=⟨zj.app (w:=t) A (h.mod0 z) A4,A4.mod.cell (a:=w.heap.size) n j,A4.mod.cell (a:=U w.heap.size 1) n m⟩;have L4:(l++([2]++zH hi++zH (f.rngs.length-1)++zH (hi-lo))).length<=35184372088832+25:=by have:=zx (hi-lo);simp at this L3 ⊢;omega
 refine p.z _ _ F4 ?_;clear M;clear p K;try simp only[PS]
 refine GI 20 ?_;refine GV rfl ?_;try simp only[PS]
 refine zr ?_;have c9b:=F4.1.cells.2.2.2.2.2.2.2.2.2;have af:=hr.mod z (Dp.no _);have aa:=zb A4;have ao:=zb A;have HvB:=zb n;obtain⟨acc,C⟩:=nm ([2]++zH hi++zH (f.rngs.length-1)++zH (hi-lo));rw[C]at aa HB;have N:(l++acc).length<=35184372088832+25:=by rw[<-C];exact L4
 have aq:=zb hX;have ah:=zb af;clear F1 F2 F3 F4 A1 A2 A3 A4 L1 L2 L3 L4 C z1 z2 z3 hf hr h hX af ae j m hB z A n k1 k2 b1 b2 L e2 D;have O:AA (∀k vb wr,Gm f=acc++D8 f.rngs k->Dz t v l (acc++D8 f.rngs k) vb wr->Dz w v l (Gm f) vb wr):=by
  intro k vb wr hq s;rw[hq];exact⟨s.own,s.old,⟨s.grown.os.trans V.z.os,s.grown.tape.trans V.z.tape,s.grown.output.trans V.z.output,AJ V.z.size s.grown.size,λi hi hn=>(s.grown.block i (A7 hi V.z.size) hn).trans (V.z.block i hi (λx=>x))⟩,λi hi=>(s.at_ i hi).imp id (λq=>AJ V.z.size q)⟩
 by_cases ar:f.rngs.length<=1
 .have HF:AA (Gm f=acc++D8 f.rngs 0):=by
   have:f.rngs.length-1=0:=I;show _=_;rw[HB.z,this]
  have Hn:=zb ar;have hn2:(f.rngs.length:Int)-1<=0:=I;have hn3:f.rngs.length-1<=0:=I;go_wp2_with fail;all_goals
   refine wp_loop_rounds 1 ?_;rw[rounds_succ];go_wp2_with fail
  all_goals
   go_ret;exact⟨_,rfl,O.z 0 _ _ HF.z (by simpa [D8]using aa.z)⟩
 have au:1<cap:=I;have av:¬(1=cap):=I;have aw:¬(cap=1):=I;go_wp2_with fail
 go_loopw [0,40] (λvb i wr=>∃k:Nat,k<=f.rngs.length-1/\i=.int .i64 k/\Dz t v l (acc++D8 f.rngs k) vb wr) (λ_ i _=>f.rngs.length-1-(intOf i).toNat)
 case atStart=>exact⟨0,AM _,rfl,by simpa [D8]using aa.z⟩
 case round =>
  obtain⟨k,hk,rfl,s⟩:=hrel;have ax:=P3 s.own;have ay:=ah.z.mod s.mod H;have ab:=zj.app ao.z aq.z s;have ai:=ab.cells.2.2.2.2.2.2.2.2.2;have aA:=zm ai;obtain⟨_,_,az,_,_,h3⟩:=ay;cases az;by_cases hlt:k<f.rngs.length-1
  .obtain⟨g',o',ac,L,_,b1,_⟩:=h3 k I;cases ac;obtain⟨g',o',ac,e3,e4,b3,b4⟩:=h3 (k+1) I;cases ac;obtain⟨q1,q2,q3⟩:=HH.z (k+1) I;have q4:=q3 I;obtain⟨r1,r2,_⟩:=HH.z k I;simp only[CF]at q4;have an:=zm L;have aB:k<f.rngs.length:=I;have HS:AA (D8 f.rngs (k+1)=(D8 f.rngs k++zH (DZ f.rngs k-DX f.rngs (k+1)-2))++zH (DX f.rngs (k+1)-DZ f.rngs (k+1))):=rfl;have HL:=R8 f.rngs k;obtain⟨E,aj⟩:=nm (DZ f.rngs k);obtain⟨r,P⟩:=nm (DZ f.rngs (k+1));obtain⟨d,Q⟩:=nm (DX f.rngs (k+1));rw[aj]at L b1 q4 HS r1;have r3:=AJ r1 r2;clear r1 r2;rw[P]at e3 b3 q1 HS;rw[Q]at e4 b4 q1 q2 q4 HS;clear aj P Q q3 h3;have p1:o+(k+1)*2=o+2+k*2:=I;rw[p1]at e3 e4;have z1:=wu ((E:Int)-d) I;have z2:IntKind.u64.wrap ((E:Int)-d-2)=((E-d-2:Nat):Int):=by rw[IntKind.wrap_u64];omega
   have z3:IntKind.u64.wrap ((d:Int)-r)=((d-r:Nat):Int):=by rw[IntKind.wrap_u64];omega
   have F:=zb s;clear s p1;go_wp2_with fail;obtain⟨Y,hY⟩:=nm ((wr.alloc (.cells #[r,d] 214)).drew);have z:DW DY wr Y:=by rw[<-hY];exact((DW.refl _ _).alloc _).drew
   have AY:Dz t v l (acc++D8 f.rngs k) u0 Y:=by rw[<-hY];exact(F.z.alloc _).drewR
   have ad:=AY.own;have A:=ab.mod z (λx=>x);have hB:Y.heap[wr.heap.size]?=some (.cells #[r,d] 214 (0,0)):=by rw[<-hY];exact heap_alloc_new wr _
   have j:Y.cell? wr.heap.size=some (.int .u64 r):=za hB rfl;have m:Y.cell? (wr.heap.size,1)=some (.int .u64 d):=za hB rfl;have eX:=z.cell (a:=⟨g,_,none⟩) id L;have G:¬u0.ownBlock=some wr.heap.size:=λhx=>nC (ax _ hx)
   have ak:¬u0.ownBlock=some g:=λhx=>by
    rcases F.z.at_ _ hx with h1|h1
    .exact H g o _ _ rfl h1
    exact absurd (zm (ah.z.cell0 I)) I
   clear ab ai;refine zo 21 (λw'=>zj w' b f (.slice (g,o) f.rngs.length cap)/\w'.cell? wr.heap.size=some (.int .u64 r)/\w'.cell? (U wr.heap.size 1)=some (.int .u64 d)/\w'.cell? (g,o+k*2)=some (.int .u64 E)) ?_ ?_
   .rw[hY];exact⟨A,j,m,eX⟩
   rw[hY];clear hY;refine GI 0 ?_;iterate 13
    refine GV rfl ?_;try simp only[PS]
   refine GI 14 ?_;iterate 5
    refine GV rfl ?_;try simp only[PS]
   refine zE 13 rfl (λK p=>?_);go_simp;refine(GQ u0 (l++(acc++D8 f.rngs k)) (E-d-2) Y ad (by simp at N ⊢;omega) I).mono ?_;rintro e y1 ⟨x1,rfl,y⟩;have G1:zj y1 b f (.slice (g,o) f.rngs.length cap)/\y1.cell? wr.heap.size=some (.int .u64 r)/\y1.cell? (wr.heap.size,1)=some (.int .u64 d)/\y1.cell? (g,o+k*2)=some (.int .u64 E):=⟨zj.app A (ad) y,y.mod.cell (a:=wr.heap.size) G j,y.mod.cell (a:=U wr.heap.size 1) G m,y.mod.cell (a:=⟨g,_,none⟩) ak eX⟩;have B1:=AY.trans y;have hl1:=zx (E-d-2);refine p.z _ _ G1 ?_;clear p K;try simp only[PS]
   refine zE 19 rfl (λK p=>?_);go_simp;refine(GQ x1 (l++(acc++D8 f.rngs k++zH (E-d-2))) (d-r) y1 B1.own (by simp at N ⊢;omega) I).mono ?_;rintro e y2 ⟨x2,rfl,al⟩;have B2:=B1.trans al;have u:=y.trans (by rw[Ap];exact al);have G2:zj y2 b f (.slice (g,o) f.rngs.length cap)/\y2.cell? wr.heap.size=some (.int .u64 r)/\y2.cell? (wr.heap.size,1)=some (.int .u64 d)/\y2.cell? (g,o+k*2)=some (.int .u64 E):=⟨zj.app A (ad) u,u.mod.cell (a:=wr.heap.size) G j,u.mod.cell (a:=U wr.heap.size 1) G m,u.mod.cell (a:=⟨g,_,none⟩) ak eX⟩;refine p.z _ _ G2 ?_;clear p K;try simp only[PS]
   refine GI 20 ?_;refine GV rfl ?_;try simp only[PS]
   refine zr ?_;go_wp2_with fail;go_roundw
   case rel=>exact⟨k+1,I,by go_num,by rw[HS.z,<-List.append_assoc,<-List.append_assoc];exact B2⟩
   simp[intOf];omega
  have am:k=f.rngs.length-1:=I;have HF:AA (Gm f=acc++D8 f.rngs k):=by rw[am];exact HB.z
  have F:=zb s;clear s am;go_wp2_with fail;go_ret;exact⟨_,rfl,O.z k _ _ HF.z F.z⟩
def Es(F:FuncId):Prop:=∀args w,(callFunc F args).run prog w=.ok (.enter F args) w
def Im(w:World)(b:Nat)(wv rv sv:Value):Prop:=w.cell? b=some wv/\w.cell? (b,1)=some rv/\w.cell? (b,2)=some sv
variable{S:Nat->Prop}{b:Nat}{rv:Value}
def Im.mod{d e:Value}(h:Im w b d rv e)(m:DW S w w')(c:¬S b):Im w' b d rv e :=
 ⟨m.cell (a:=b) c h.1,m.cell (a:=U b 1) c h.2.1,m.cell (a:=U b 2) c h.2.2⟩
def EB(F:FuncId):Value:=.func (.func F) #[] #[]
def MX(w:World)(wv rv sv:Value)(e:Ending)(w':World):Prop:=∃b,e=.returned (.pointer (some ⟨b,0,none⟩))/\Im w' b wv rv sv/\DW DY w w'/\w.heap.size<=b
def KO(w:World)(t:UInt8)(e:Ending)(w':World):Prop:=∃b tb ab,e=.returned (.pointer (some ⟨b,0,none⟩))/\Im w' b (.func (.func 213) #[] #[.pointer (some ⟨tb,0,none⟩),.pointer (some ⟨ab,0,none⟩)]) (.func (.func 214) #[] #[.pointer (some ⟨ab,0,none⟩)]) (EB 172)/\Gf w' tb ab t/\DW DY w w'/\w.heap.size<=b/\w.heap.size<=tb/\w.heap.size<=ab
def Vu(t:UInt8)(w:World):Calls prog 185 #[.int .u8 (t.toNat:Int),.func (.func 186) #[] #[]] w λe w'=>e=.returned (.agg #[.func (.func 213) #[] #[.pointer w.heap.size,.pointer (w.heap.size+1,0)],.func (.func 214) #[] #[.pointer (w.heap.size+1,0)],.func (.func 172) #[] #[]]) /\
  w'=((w.alloc (.cells #[.int .u8 (t.toNat:Int)] 5)).alloc (.cells #[.func (.func 186) #[] #[]] 284)).alloc (.cells #[.func (.func 213) #[] #[.pointer w.heap.size,.pointer (w.heap.size+1,0)],.func (.func 214) #[] #[.pointer (w.heap.size+1,0)],.func (.func 172) #[] #[]] 241):=by
 go_enter func185,ntmps185;go_wp2_with fail;exact bodyPost_ret (by simp[results,results185,go_sem]) rfl ⟨rfl,rfl⟩
def N9(w:World):Calls prog 131 #[.int .i64 1] w (MX w (EB 170) (EB 171) (EB 172)):=by
 go_enter func131,ntmps131;go_wp2_with fail;go_ret;exact⟨w.heap.size,rfl,⟨by simp[EB],by simp[EB],by simp[EB]⟩,(DW.refl _ _).alloc _,AF _⟩
def N8(w:World):Calls prog 131 #[.int .i64 2] w (MX w (EB 173) (EB 174) (EB 175)):=by
 go_enter func131,ntmps131;go_wp2_with fail;go_ret;exact⟨w.heap.size,rfl,⟨by simp[EB],by simp[EB],by simp[EB]⟩,(DW.refl _ _).alloc _,AF _⟩
def Nz(w:World):Calls prog 131 #[.int .i64 3] w (MX w (EB 176) (EB 177) (EB 179)):=by
 go_enter func131,ntmps131;go_wp2_with fail;go_ret;exact⟨w.heap.size,rfl,⟨by simp[EB],by simp[EB],by simp[EB]⟩,(DW.refl _ _).alloc _,AF _⟩
def Ny(w:World):Calls prog 131 #[.int .i64 4] w (MX w (EB 180) (EB 182) (EB 184)):=by
 go_enter func131,ntmps131;go_wp2_with fail;go_ret;exact⟨w.heap.size,rfl,⟨by simp[EB],by simp[EB],by simp[EB]⟩,(DW.refl _ _).alloc _,AF _⟩
def Nw(w:World):Calls prog 131 #[.int .i64 6] w (MX w (EB 187) (EB 188) (EB 172)):=by
 go_enter func131,ntmps131;go_wp2_with fail;go_ret;exact⟨w.heap.size,rfl,⟨by simp[EB],by simp[EB],by simp[EB]⟩,(DW.refl _ _).alloc _,AF _⟩
def Nv(w:World):Calls prog 131 #[.int .i64 7] w (MX w (EB 189) (EB 190) (EB 172)):=by
 go_enter func131,ntmps131;go_wp2_with fail;go_ret;exact⟨w.heap.size,rfl,⟨by simp[EB],by simp[EB],by simp[EB]⟩,(DW.refl _ _).alloc _,AF _⟩
def Ty(w:World)(o o':Obj)(t:UInt8)(z:Int)(T b:Nat)(hz:z=(t.toNat:Int)):Gf ((((w.alloc o).alloc (.cells #[.int .u8 z] T)).alloc (.cells #[.func (.func 186) #[] #[]] b)).alloc o') (w.heap.size+1) (w.heap.size+1+1) t:=by
 subst hz;have e1:(w.alloc o).heap.size=w.heap.size+1:=mv;have e2:((w.alloc o).alloc (.cells #[.int .u8 (t.toNat:Int)] T)).heap.size=w.heap.size+1+1:=mv;have c1:((w.alloc o).alloc (.cells #[.int .u8 (t.toNat:Int)] T)).cell? (w.heap.size+1,0)=some (.int .u8 (t.toNat:Int)):=by rw[<-e1];exact za (heap_alloc_new _ _) rfl
 have c2:(((w.alloc o).alloc (.cells #[.int .u8 (t.toNat:Int)] T)).alloc (.cells #[.func (.func 186) #[] #[]] b)).cell? (w.heap.size+1+1,0)=some (.func (.func 186) #[] #[]):=by rw[<-e2];exact za (heap_alloc_new _ _) rfl
 exact⟨(((DW.refl DY _).alloc _).alloc _).cell (a:=⟨_,0,none⟩) id c1,((DW.refl DY _).alloc _).cell (a:=⟨_,0,none⟩) id c2⟩
def Nx(w:World):Calls prog 131 #[.int .i64 5] w (KO w 16):=by
 go_enter func131,ntmps131;go_wp2_with (go_at_call 185;refine(Vu 16 _).mono ?_;rintro e w' ⟨rfl,rfl⟩);go_ret;refine⟨w.heap.size,w.heap.size+1,w.heap.size+1+1,rfl,?_,?_,?_,AF _,I,I⟩
 .have h0:∀(a b c:Value),Im (w.alloc (.cells #[a,b,c] 241)) w.heap.size a b c:=λa b c=>⟨za (heap_alloc_new w _) rfl,za (heap_alloc_new w _) rfl,za (heap_alloc_new w _) rfl⟩
  exact(h0 _ _ _).mod ((((DW.refl DY _).alloc _).alloc _).alloc _) (λx=>x)
 .exact Ty w _ _ _ _ _ _ rfl
 exact((((DW.refl _ _).alloc _).alloc _).alloc _).alloc _
def Nu(w:World):Calls prog 131 #[.int .i64 8] w (KO w 28):=by
 go_enter func131,ntmps131;go_wp2_with (go_at_call 185;refine(Vu 28 _).mono ?_;rintro e w' ⟨rfl,rfl⟩);go_ret;refine⟨w.heap.size,w.heap.size+1,w.heap.size+1+1,rfl,?_,?_,?_,AF _,I,I⟩
 .have h0:∀(a b c:Value),Im (w.alloc (.cells #[a,b,c] 241)) w.heap.size a b c:=λa b c=>⟨za (heap_alloc_new w _) rfl,za (heap_alloc_new w _) rfl,za (heap_alloc_new w _) rfl⟩
  exact(h0 _ _ _).mod ((((DW.refl DY _).alloc _).alloc _).alloc _) (λx=>x)
 .exact Ty w _ _ _ _ _ _ rfl
 exact((((DW.refl _ _).alloc _).alloc _).alloc _).alloc _
def Nt(k:Int)(hk:k<1\/8<k)(w:World):Calls prog 131 #[[k]] w λe w'=>e=.returned (.pointer none)/\DW DY w w':=by
 have d1:(k==1)=false:=my;have d2:(k==2)=false:=my;have d3:(k==3)=false:=my;have d4:(k==4)=false:=my;have d5:(k==5)=false:=my;have d6:(k==6)=false:=my;have d7:(k==7)=false:=my;have d8:(k==8)=false:=my;go_enter func131,ntmps131;go_wp2_with fail;go_ret;exact⟨rfl,(DW.refl _ _).alloc _⟩
def Ip(p:Value)(w:World):Calls prog 172 #[p] w (Iz w true):=by
 go_enter func172,ntmps172;go_wp2_with fail;go_ret;exact⟨rfl,DW.refl _ _⟩
def Sq(b:Nat)(f:Da)(rv:Value)(w:World)(hf:zj w b f rv):Calls prog 179 #[(b,0)] w (Iz w (decide (f.rel<=f.off))):=by
 obtain⟨c0,c1,c2,c3,c4,c5,c6,c7,c8,c9⟩:=hf.cells;go_enter func179,ntmps179;go_wp2_with fail;go_quiet (fail);go_wp2_with fail;go_ret;exact⟨rfl,(DW.refl _ _).drewN _⟩
def Sp(b:Nat)(f:Da)(rv:Value)(w:World)(hf:zj w b f rv)(ho:f.off<=4611686018427387903)(hd:f.data.length<=4611686018427387903):Calls prog 184 #[(b,0)] w (Iz w (decide (f.data.length+f.off<=4611686018427387903))):=by
 obtain⟨c0,c1,c2,c3,c4,c5,c6,c7,c8,c9⟩:=hf.cells;have hz:=zJ f.data;have e1:=wu (4611686018427387903-(f.off:Int)) I;have e2:IntKind.u64.wrap (f.data.length:Int)=(f.data.length:Int):=by rw[IntKind.wrap_u64];omega
 have HE:AA (decide ((f.data.length:Int)<=4611686018427387903-(f.off:Int))=decide (f.data.length+f.off<=4611686018427387903)):=by
  show _=_;rw[decide_eq_decide];omega
 go_enter func184,ntmps184;go_wp2_with fail;go_quiet (fail);go_wp2_with fail;go_ret;exact⟨by rw[<-HE.z];rfl,(DW.refl _ _).drewN _⟩
def nums(f:Da):List Nat:=[f.off,f.rel,f.lim,f.id,f.dl]
def Ef(f:Da):Bool:=(nums f).all λn=>decide (n<=4611686018427387903)
def J1(f:Da)(k:Nat):Nat:=(nums f).getD k 0
variable{f:Da}{k:Nat}
def lR(hk:k<5)(h:4611686018427387903<J1 f k):Ef f=false:=by
 cases hq:Ef f
 .rfl
 unfold Ef at hq;rw[Ct]at hq;have hm:J1 f k∈nums f:=by
  unfold J1;rw[Ak,AK (by simpa [nums]using hk)];exact DF _
 have:=hq _ hm;simp at this;omega
def lO(h:∀k,k<5->J1 f k<=4611686018427387903):Ef f=true:=by
 have h0:=h 0 I;have h1:=h 1 I;have h2:=h 2 I;have h3:=h 3 I;have h4:=h 4 I;simp[J1,nums]at h0 h1 h2 h3 h4;simp[Ef,nums];omega
def Rr(h:Ef f=true):f.off<=4611686018427387903/\f.rel<=4611686018427387903/\f.lim<=4611686018427387903/\f.id<=4611686018427387903/\f.dl<=4611686018427387903:=by
 simpa [Ef,nums]using h
def Ek(f:Da):Bool:=decide (0<=f.stream)&&decide (f.stream<8)
theorem U1(b cb:Nat)(f:Da)(rv wv ev:Value)(G:FuncId)(D:Bool)(w:World)(hf:zj w b f rv)(hc:Im w cb wv ev (.func (.func G) #[] #[]))(E:Es G)
  (F:∀w',DW DY w w'->Ef f=true->Calls prog G #[.pointer b] w' (Iz w' D)) :
  Calls prog 132 #[(b,0),(cb,0)] w (Iz w (Ef f&&Ek f&&D)):=by
 have u:=zm hf.cells.1;have hE':∀args w,(callFunc G args).run prog w=.ok (.enter G args) w:=E;have HG:=zb F;clear F E;go_enter func132,ntmps132;go_wp2_with fail;refine zo 23 (λw'=>zj w' b f rv) (hf) ?_;refine GI 0 ?_;iterate 20
  refine GV rfl ?_;try simp only[PS]
 refine GI 22 ?_;refine GV rfl ?_;try simp only[PS]
 refine zE 20 rfl (λK P=>?_);go_simp;refine P.z _ _ ?_ ?_
 .exact zj.mod (w:=w.drew) (S:=DY) hf ((DW.refl _ _).alloc _) (λx=>x)
 clear P K;try simp only[PS]
 refine GI 21 ?_;refine GV rfl ?_;try simp only[PS]
 refine zr ?_;obtain⟨X,s⟩:=nm ((w.alloc (.cells #[f.off,f.rel,f.lim,f.id,f.dl] 43)).drew);have t:DW DY w X:=by rw[<-s];exact((DW.refl _ _).alloc _).drew
 have v:∀k,k<5->X.cell? ⟨w.heap.size,k,none⟩=some (.int .u64 (J1 f k:Int)):=λk hk=>by
  rw[<-s];refine za (heap_alloc_new w _) ?_
  match k,hk with
  | 0,_=>rfl
  | 1,_=>rfl
  | 2,_=>rfl
  | 3,_=>rfl
  | 4,_=>rfl
 rw[s];have Q:=hf.mod t (λx=>x);have cX:=(hc.mod t (λx=>x)).2.2;have c1:=Q.cells.2.1;clear s hf hc Q u;have o:=zb t;clear t;go_wp2_with fail
 go_loop [6,29] (λ_ i=>∃k:Nat,k<=5/\i=.int .i64 k/\AA (∀j,j<k->J1 f j<=4611686018427387903)) (λ_ i=>5-(intOf i).toNat)
 case atStart=>exact⟨0,I,rfl,zb (λj y=>absurd y (A5 j))⟩
 case round =>
  obtain⟨k,hk,rfl,z⟩:=hrel;by_cases p:k<5
  .have c:=v k p;obtain⟨n,d⟩:=nm (J1 f k);rw[d]at c;have R:=zb d;clear v d;by_cases q:4611686018427387903<n
   .have HF:=zb (lR p (by rw[R.z];exact q));have g:(4611686018427387903:Int)<n:=I;go_wp2_with fail;go_ret;exact⟨by rw[HF.z];rfl,o.z⟩
   have g:¬(4611686018427387903:Int)<n:=I;go_wp2_with fail
   go_round
   case rel=>exact⟨k+1,I,by go_num,zb (λj y=>by
    by_cases h:j<k
    .exact z.z j h
    have:j=k:=I;rw[this,R.z];omega)⟩
   simp[intOf];omega
  have A:k=5:=I;have l:=lO (f:=f) (λj y=>z.z j I);have B:=zb l;have m:=HG.z X o.z l;clear l v A z;by_cases d1:0<=f.stream
  .by_cases d2:f.stream<8
   .have r:AA (Ek f=true):=by show _=_;simp[Ek,d1,d2]
    have T:decide (0<=f.stream)=true:=nF d1;have e2:decide (f.stream<8)=true:=nF d2;go_wp2_with (refine m.mono ?_;rintro e w' ⟨rfl,C⟩);go_ret;exact⟨by rw[B.z,r.z,Bi,Bi];rfl,o.z.trans C⟩
   have r:AA (Ek f=false):=by show _=_;simp[Ek,d2]
   have T:decide (0<=f.stream)=true:=nF d1;have e2:decide (f.stream<8)=false:=nF d2;go_wp2_with fail;go_ret;exact⟨by rw[B.z,r.z,Bi,Bool.false_and];rfl,o.z⟩
  have r:AA (Ek f=false):=by show _=_;simp[Ek,d1]
  have T:decide (0<=f.stream)=false:=nF d1;go_wp2_with fail;go_ret;exact⟨by rw[B.z,r.z,Bi,Bool.false_and];rfl,o.z⟩
def Dz.after{Y:World}(m:DW DY w Y)(h:Dz Y v l new v' w'):Dz w v l new v' w' :=
 ⟨h.own,h.old,⟨h.grown.os.trans m.os,h.grown.tape.trans m.tape,h.grown.output.trans m.output,AJ m.size h.grown.size,λi hi hn=>(h.grown.block i (A7 hi m.size) hn).trans (m.block i hi (λx=>x))⟩,λi hi=>(h.at_ i hi).imp id (λq=>AJ m.size q)⟩
def I9(f:Da)(rv:Value)(l new:nG)(a:Bool)(w:World)(e:Ending)(w':World):Prop :=
 ∃b F caps G ev,e=.returned (.pointer (some ⟨b,0,none⟩))/\Im w' b (.func (.func F) #[] caps) ev (.func (.func G) #[] #[])/\Es F/\Es G/\DW DY w w' /\
  (∀Y bf,DW DY w' Y->zj Y bf f rv->Ef f=true->Calls prog G #[.pointer (some ⟨bf,0,none⟩)] Y (Iz Y a)) /\
  (∀Y v bf,DW DY w' Y->zj Y bf f rv->OB Y v l->(∀g,v.ownBlock=some g->g<w.heap.size)->(0<f.rngs.length->Dp (λk=>v.ownBlock=some k) rv)->(Ef f&&Ek f&&a)=true->Calls prog F (#[v,.pointer (some ⟨bf,0,none⟩)]++caps) Y (Ib Y v l new))
def O7(w:World)(v:Value)(l:nG)(ok:Bool)(new:nG)(e:Ending)(w':World):Prop :=
 (ok=true/\Ib w v l new e w')\/(ok=false/\e=.returned (.slice none 0 0)/\DW DY w w')
def Jp(v:Value)(l:nG)(f:Da)(rv:Value)(new:nG)(y:Bool)(w:World)(h:OB w v l)(i:0<f.rngs.length->Dp (λk=>v.ownBlock=some k) rv)
  (s:∀w1,DW DY w w1->Calls prog 131 #[[f.kind]] w1 (I9 f rv l new y w1)) :
  Calls prog 144 #[v,.agg (zl f rv)] w (O7 w v l (Ef f&&Ek f&&y) new):=by
 have m0:DW DY w (w.alloc (.cells (zl f rv) 65)):=(DW.refl _ _).alloc _;have d:zj (w.alloc (.cells (zl f rv) 65)) w.heap.size f rv:=heap_alloc_new w _;have c0:=d.cells.1;have c:=s _ m0;have t:=P3 h;have j:=zb i;obtain⟨X,E⟩:=nm (w.alloc (.cells (zl f rv) 65));rw[E]at c d c0 m0;have z:=m0.size;have HH:=zb h;have A:=zb d;have n:=zb m0;have B:=zb t;clear h s i d m0 t;obtain⟨ok,o⟩:=nm ((Ef f&&Ek f&&y));have u:=zb o;rw[o];unfold zl at E ⊢;cases ok;all_goals
  clear o;go_enter func144,ntmps144;go_wp2_with fail;refine c.mono ?_;rintro e w1 ⟨b,F,H,G,ev,rfl,hc,J,K,m1,L,M⟩;have f1:=A.z.mod m1 (λx=>x);have a:=U1 w.heap.size b f rv _ ev G y w1 f1 hc K (λw' m hn=>L w' _ m (f1.mod m (λx=>x)) hn);rw[u.z]at a;have Hc:=zb hc;have p:=zb m1;have Hw:=zb M;have C:=zb f1;have hF':∀args w,(callFunc F args).run prog w=.ok (.enter F args) w:=J;clear hc m1 M L f1 K J c;go_wp2_with fail;refine a.mono ?_;rintro e w2 ⟨rfl,q⟩;clear a
 .go_wp2_with fail;go_ret;exact .inr ⟨rfl,rfl,(n.z.trans p.z).trans q⟩
 have hc2:=(Hc.z.mod q (λx=>x)).1;have r:=Hw.z w2 v w.heap.size q (C.z.mod q (λx=>x)) (((HH.z.mod0 n.z).mod0 p.z).mod0 q) (λg hg=>A7 (B.z g hg) z) j.z u.z;have D:=zb q;clear q;go_wp2_with fail;refine r.mono ?_;rintro e w3 ⟨v3,rfl,N⟩;have Ha:=zb N;clear N;go_wp2_with fail;go_ret;exact .inl ⟨rfl,_,rfl,Dz.after ((n.z.trans p.z).trans D.z) Ha.z⟩
def zO(f:Da):Bool :=
 if f.kind=2 then FE f.rngs
 else if f.kind=3 then decide (f.rel<=f.off)
 else if f.kind=4 then decide (f.data.length+f.off<=4611686018427387903)
 else decide (1<=f.kind)&&decide (f.kind<=8)
def zX(f:Da):Bool:=Ef f&&Ek f&&zO f
def zA(f:Da):nG :=
 if f.kind=1 then [1]
 else if f.kind=2 then Gm f
 else if f.kind=3 then Jl f
 else if f.kind=4 then(if f.fin then Ji f else Jc f)
 else if f.kind=5 then Hy 16 f
 else if f.kind=6 then Jm f
 else if f.kind=7 then Jk f
 else Hy 28 f
def Kz{sc:Bool}(h:(Ef f&&Ek f&&sc)=true)(hd:f.data.length<=35184372088832):f.Bounds:=by
 simp only[AZ]at h;obtain⟨⟨h1,h2⟩,_⟩:=h;obtain⟨a,b,c,d,e⟩:=Rr h1;simp only[Ek,AZ,Ah]at h2;exact⟨h2.1,h2.2,I,I,I,I,I,hd⟩
def F6 {F : FuncId} {fn : Func} {c : Code} (hf : prog.funcs[F]? = some fn) (a : (fn.name == "runtime.NumGoroutine") = false) (hb : fn.body = some c) : Es F := λargs w => Pb hf a hb args w
def Io:Es 172:=F6 func172 mr rfl
def Tx:Es 213:=F6 func213 mr rfl
def dD:Es 170:=F6 func170 mr rfl
def dC:Es 189:=F6 func189 mr rfl
def dB:Es 176:=F6 func176 mr rfl
def Tw:Es 179:=F6 func179 mr rfl
def dA:Es 180:=F6 func180 mr rfl
def Tv:Es 184:=F6 func184 mr rfl
def cZ:Es 187:=F6 func187 mr rfl
def Tu:Es 175:=F6 func175 mr rfl
def cY:Es 173:=F6 func173 mr rfl
def cW(f:Da)(rv:Value)(l:nG)(w:World)(hk:f.kind=1)(hr:RR w rv f.rngs)(hn:f.rngs.length<=1099511627776)(hd:f.data.length<=35184372088832)(hl:l.length<=35184372088832):Calls prog 131 #[[f.kind]] w (I9 f rv l ([1]) (true) w):=by
 rw[hk];refine(N9 w).mono ?_;rintro e w' ⟨b,rfl,hc,hm,hb⟩;refine⟨b,170,#[],172,_,rfl,hc,dD,Io,hm,λY a m hf hq=>Ip _ Y,λY v a m hf ho hlt c hok=>?_⟩;exact LC v l a Y ho hl
def cV(f:Da)(rv:Value)(l:nG)(w:World)(hk:f.kind=2)(h:RR w rv f.rngs)(i:f.rngs.length<=1099511627776)(hd:f.data.length<=35184372088832)(hl:l.length<=35184372088832):Calls prog 131 #[[f.kind]] w (I9 f rv l (Gm f) (FE f.rngs) w):=by
 rw[hk];refine(N8 w).mono ?_;rintro e w' ⟨b,rfl,hc,d,hb⟩;refine⟨b,173,#[],175,_,rfl,hc,cY,Tu,d,λY g m hf hq=>Wf g f rv Y hf (h.mod (d.trans m) (Dp.no _)) i,λY v g m hf ho hlt c a=>?_⟩;exact LB v l g f rv Y hf (h.mod (d.trans m) (Dp.no _)) (by simp only[AZ]at a;exact a.2) i (c (by simp only[AZ,FE,Ah]at a;exact a.2.2)) ho hl
def cU(f:Da)(rv:Value)(l:nG)(w:World)(hk:f.kind=3)(hr:RR w rv f.rngs)(hn:f.rngs.length<=1099511627776)(hd:f.data.length<=35184372088832)(hl:l.length<=35184372088832):Calls prog 131 #[[f.kind]] w (I9 f rv l (Jl f) (decide (f.rel<=f.off)) w):=by
 rw[hk];refine(Nz w).mono ?_;rintro e w' ⟨b,rfl,hc,hm,hb⟩;refine⟨b,176,#[],179,_,rfl,hc,dB,Tw,hm,λY a m hf hq=>Sq a f rv Y hf,λY v a m hf ho hlt d c=>?_⟩;exact LA v l a f rv Y hf ho hl (Kz c hd)
def cT(f:Da)(rv:Value)(l:nG)(w:World)(hk:f.kind=4)(hr:RR w rv f.rngs)(hn:f.rngs.length<=1099511627776)(hd:f.data.length<=35184372088832)(hl:l.length<=35184372088832):Calls prog 131 #[[f.kind]] w (I9 f rv l (if f.fin then Ji f else Jc f) (decide (f.data.length+f.off<=4611686018427387903)) w):=by
 rw[hk];refine(Ny w).mono ?_;rintro e w' ⟨b,rfl,hc,hm,hb⟩;refine⟨b,180,#[],184,_,rfl,hc,dA,Tv,hm,λY c m hf hq=>Sp c f rv Y hf (Rr hq).1 I,λY v c m hf d hlt g a=>?_⟩;cases hfin:f.fin
 .exact K9 v l c f rv Y hf d hl (Kz a hd) hfin
 exact Xy v l c f rv Y hf d hl (Kz a hd) hfin
def eC(f:Da)(rv:Value)(l:nG)(w:World)(hk:f.kind=5)(hr:RR w rv f.rngs)(hn:f.rngs.length<=1099511627776)(hd:f.data.length<=35184372088832)(hl:l.length<=35184372088832):Calls prog 131 #[[f.kind]] w (I9 f rv l (Hy 16 f) (true) w):=by
 rw[hk];refine(Nx w).mono ?_;rintro e w' ⟨b,tb,ab,rfl,hc,a,hm,hb,htb,hab⟩;refine⟨b,_,_,172,_,rfl,hc,Tx,Io,hm,λY g _ _ _=>Ip _ Y,λY v g m hf ho c h d=>?_⟩;exact U2 v l g tb ab _ f rv Y hf (a.mod m (λx=>x) (λx=>x)) (λhx=>nC (c _ hx)) (λhx=>nC (c _ hx)) ho hl (Kz d hd)
def eB(f:Da)(rv:Value)(l:nG)(w:World)(hk:f.kind=6)(hr:RR w rv f.rngs)(hn:f.rngs.length<=1099511627776)(hd:f.data.length<=35184372088832)(hl:l.length<=35184372088832):Calls prog 131 #[[f.kind]] w (I9 f rv l (Jm f) (true) w):=by
 rw[hk];refine(Nw w).mono ?_;rintro e w' ⟨b,rfl,hc,hm,hb⟩;refine⟨b,187,#[],172,_,rfl,hc,cZ,Io,hm,λY c m hf hq=>Ip _ Y,λY v c m hf ho hlt d a=>?_⟩;exact K8 v l c f rv Y hf ho hl (Kz a hd)
def eA(f:Da)(rv:Value)(l:nG)(w:World)(hk:f.kind=7)(hr:RR w rv f.rngs)(hn:f.rngs.length<=1099511627776)(hd:f.data.length<=35184372088832)(hl:l.length<=35184372088832):Calls prog 131 #[[f.kind]] w (I9 f rv l (Jk f) (true) w):=by
 rw[hk];refine(Nv w).mono ?_;rintro e w' ⟨b,rfl,hc,hm,hb⟩;refine⟨b,189,#[],172,_,rfl,hc,dC,Io,hm,λY c m hf hq=>Ip _ Y,λY v c m hf ho hlt d a=>?_⟩;exact K7 v l c f rv Y hf ho hl (Kz a hd)
def dy(f:Da)(rv:Value)(l:nG)(w:World)(hk:f.kind=8)(hr:RR w rv f.rngs)(hn:f.rngs.length<=1099511627776)(hd:f.data.length<=35184372088832)(hl:l.length<=35184372088832):Calls prog 131 #[[f.kind]] w (I9 f rv l (Hy 28 f) (true) w):=by
 rw[hk];refine(Nu w).mono ?_;rintro e w' ⟨b,tb,ab,rfl,hc,a,hm,hb,htb,hab⟩;refine⟨b,_,_,172,_,rfl,hc,Tx,Io,hm,λY g _ _ _=>Ip _ Y,λY v g m hf ho c h d=>?_⟩;exact U2 v l g tb ab _ f rv Y hf (a.mod m (λx=>x) (λx=>x)) (λhx=>nC (c _ hx)) (λhx=>nC (c _ hx)) ho hl (Kz d hd)
def iX(v:Value)(l:nG)(f:Da)(rv:Value)(w:World)(hk:f.kind<1\/8<f.kind)(hv:∃a n c,v=.slice a n c):Calls prog 144 #[v,.agg (zl f rv)] w λe w'=>e=.returned (.slice none 0 0)/\DW DY w w':=by
 have c0:(w.alloc (.cells (zl f rv) 65)).cell? w.heap.size=some (.int .i64 f.kind):=za (heap_alloc_new w _) rfl;have m0:DW DY w (w.alloc (.cells (zl f rv) 65)):=(DW.refl _ _).alloc _;have b:=Nt f.kind hk (w.alloc (.cells (zl f rv) 65));obtain⟨X,g⟩:=nm (w.alloc (.cells (zl f rv) 65));rw[g]at b m0 c0;have d:=zb m0;clear m0 hk;obtain⟨a,n,c,rfl⟩:=hv;unfold zl at g ⊢;go_enter func144,ntmps144;go_wp2_with fail;refine b.mono ?_;rintro e w1 ⟨rfl,m1⟩;go_wp2_with fail;go_ret;exact⟨rfl,d.z.trans m1⟩
def Rg(v:Value)(l:nG)(f:Da)(rv:Value)(w:World)(h:OB w v l)(b:0<f.rngs.length->Dp (λk=>v.ownBlock=some k) rv)(j:RR w rv f.rngs)(n:f.rngs.length<=1099511627776)(hd:f.data.length<=35184372088832)(hl:l.length<=35184372088832):Calls prog 144 #[v,.agg (zl f rv)] w (O7 w v l (zX f) (zA f)):=by
 by_cases hk:f.kind<1\/8<f.kind
 .have hs:zX f=false:=by
   have:zO f=false:=by
    unfold zO;rw[AI I,AI I,AI I];simp;omega
   rw[zX,this,Bool.and_false]
  refine(iX v l f rv w hk (by obtain⟨a,c,rfl,_⟩:=zk h;exact⟨a,_,c,rfl⟩)).mono ?_;rintro e w' ⟨rfl,hm⟩;exact .inr ⟨hs,rfl,hm⟩
 have o:f.kind=1\/f.kind=2\/f.kind=3\/f.kind=4\/f.kind=5\/f.kind=6\/f.kind=7\/f.kind=8:=I;rcases o with e|e|e|e|e|e|e|e
 .have d:zA f=[1]:=by simp[zA,e]
  have g:zO f=(true):=by simp[zO,e]
  rw[zX,d,g];exact Jp v l f rv _ _ w h b (λi m=>cW f rv l i e (j.mod m (Dp.no _)) n hd hl)
 .have d:zA f=Gm f:=by simp[zA,e]
  have g:zO f=(FE f.rngs):=by simp[zO,e]
  rw[zX,d,g];exact Jp v l f rv _ _ w h b (λi m=>cV f rv l i e (j.mod m (Dp.no _)) n hd hl)
 .have d:zA f=Jl f:=by simp[zA,e]
  have g:zO f=(decide (f.rel<=f.off)):=by simp[zO,e]
  rw[zX,d,g];exact Jp v l f rv _ _ w h b (λi m=>cU f rv l i e (j.mod m (Dp.no _)) n hd hl)
 .have d:zA f=if f.fin then Ji f else Jc f:=by simp[zA,e]
  have g:zO f=(decide (f.data.length+f.off<=4611686018427387903)):=by simp[zO,e]
  rw[zX,d,g];exact Jp v l f rv _ _ w h b (λi m=>cT f rv l i e (j.mod m (Dp.no _)) n hd hl)
 .have d:zA f=Hy 16 f:=by simp[zA,e]
  have g:zO f=(true):=by simp[zO,e]
  rw[zX,d,g];exact Jp v l f rv _ _ w h b (λi m=>eC f rv l i e (j.mod m (Dp.no _)) n hd hl)
 .have d:zA f=Jm f:=by simp[zA,e]
  have g:zO f=(true):=by simp[zO,e]
  rw[zX,d,g];exact Jp v l f rv _ _ w h b (λi m=>eB f rv l i e (j.mod m (Dp.no _)) n hd hl)
 .have d:zA f=Jk f:=by simp[zA,e]
  have g:zO f=(true):=by simp[zO,e]
  rw[zX,d,g];exact Jp v l f rv _ _ w h b (λi m=>eA f rv l i e (j.mod m (Dp.no _)) n hd hl)
 have d:zA f=Hy 28 f:=by simp[zA,e]
 have g:zO f=(true):=by simp[zO,e]
 rw[zX,d,g];exact Jp v l f rv _ _ w h b (λi m=>dy f rv l i e (j.mod m (Dp.no _)) n hd hl)
def IM(w:World)(v:Value)(fs:List (Da×Value)):Prop :=
 ∃a cap,v=.slice a fs.length cap/\fs.length<=cap/\cap<=maxLen/\∀i fr,fs[i]?=some fr ->
  (∃g o,a=some ⟨g,o,none⟩/\∀j x,(zl fr.1 fr.2)[j]?=some x->w.cell? ⟨g,o+i*10+j,none⟩=some x)/\RR w fr.2 fr.1.rngs
def IM.mod{fs:List (Da×Value)}(h:IM w v fs)(m:DW S w w')(hs:Dp S v)(hr:∀fr∈fs,Dp S fr.2):IM w' v fs:=by
 obtain⟨a,cap,rfl,h1,h2,h3⟩:=h;refine⟨a,cap,rfl,h1,h2,λi fr hi=>?_⟩;obtain⟨⟨g,o,rfl,hc⟩,b⟩:=h3 i fr hi;exact⟨⟨g,o,rfl,λj x hx=>m.cell (a:=⟨g,_,none⟩) (hs g o _ _ rfl) (hc j x hx)⟩,b.mod m (hr fr (AV hi))⟩
def IM.mod0{fs:List (Da×Value)}(h:IM w v fs)(m:DW DY w w'):IM w' v fs:=h.mod m (Dp.no _) (λ_ _=>Dp.no _)
def sealed(l:nG):nG:=l++ES (D3 l)
def Jh(h:∀j x,(zl f rv)[j]?=some x->w.cell? ⟨g,b+j,none⟩=some x):w.cell? (g,b)=some (.int .i64 f.kind)/\w.cell? (g,b+1)=some (.int .i64 f.stream)/\w.cell? (g,b+2)=some (.int .u64 f.off)/\w.cell? (g,b+3)=some (.int .u64 f.rel)/\w.cell? (g,b+4)=some (.int .u64 f.lim) /\
  w.cell? (g,b+5)=some (.bool f.fin)/\w.cell? (g,b+6)=some (.int .u64 f.id)/\w.cell? (g,b+7)=some (.int .u64 f.dl)/\w.cell? (g,b+8)=some (.string (zu f.data))/\w.cell? (g,b+9)=some rv :=
 ⟨h 0 _ rfl,h 1 _ rfl,h 2 _ rfl,h 3 _ rfl,h 4 _ rfl,h 5 _ rfl,h 6 _ rfl,h 7 _ rfl,h 8 _ rfl,h 9 _ rfl⟩
def EH:Ending:=.panicked [{ v:=.iface 230 (.agg #[]),recovered:=false }]
def EO(w:World)(rb:Nat)(v:Value)(pos:Nat):Prop:=w.heap[rb]?=some (.cells #[v,[pos]] 229 (0,0))
variable{pos rb:Nat}
def EO.mod(h:EO w rb v pos)(m:DW S w w')(hs:¬S rb):EO w' rb v pos:=m.obj hs h
def EO.c0(h:EO w rb v pos):w.cell? rb=some v:=za h rfl
def EO.c1(h:EO w rb v pos):w.cell? (rb,1)=some (.int .i64 pos):=za h rfl
def BR.mod(h:BR w v l)(m:DW S w w')(hs:Dp S v):BR w' v l:=by
 obtain⟨a,cap,rfl,h1,h2,h3⟩:=h;refine⟨a,cap,rfl,h1,h2,λi c hi=>?_⟩;obtain⟨g,o,rfl,hc⟩:=h3 i c hi;exact⟨g,o,rfl,m.cell (a:=⟨g,_,none⟩) (hs g o _ _ rfl) hc⟩
def EU(rb:Nat):Nat->Prop:=λk=>k=rb
def Jg(p:Value)(w:World):Calls prog 128 #[p] w λe w'=>e=EH/\w=w':=by
 go_enter func128,ntmps128;go_wp2_with fail;exact⟨rfl,rfl,rfl⟩
variable{cs:Array Value}{fz:Nat×Nat}{t:Nat}
def zc(h:w.heap[b]?=some (.cells cs t fz)):(w.setCell (b,i) v).heap[b]?=some (.cells (cs.setIfInBounds i v) t fz):=by
 simp[World.setCell,CJ,h]
variable{a:nI}{bs:nG}{cap:Nat}
def BR.sub{n:Nat}(h:BR w (.slice a bs.length cap) bs)(hp:pos+n<=bs.length):BR w (.slice (a.map λx=>x.add pos) n (cap-pos)) ((bs.drop pos).take n):=by
 obtain⟨a',d,hv,h1,h2,h3⟩:=h;cases hv;have hl:((bs.drop pos).take n).length=n:=my;refine⟨a.map λx=>x.add pos,cap-pos,by rw[hl],I,by unfold maxLen at h2 ⊢;omega,λi c hi=>?_⟩;have b:i<n:=by
  have:=(AN.1 hi).1;omega
 rw[CU,AQ b,BD]at hi;obtain⟨g,o,rfl,hc⟩:=h3 (pos+i) c hi;refine⟨g,o+pos,?_,?_⟩
 .simp only[Az,zZ]
 rw[Nat.add_assoc];exact hc
def BR.nil(w:World)(a:nI)(c:Nat)(h:c<=maxLen):BR w (.slice a 0 c) []:=⟨a,c,rfl,AM _,h,λi c hi=>by simp at hi⟩
def So(rb:Nat)(w:World)(e:Ending)(w':World):Prop:=e=EH/\DW (EU rb) w w'
def Qb(rb n pos:Nat)(z:Int)(hz:z=(n:Int))(v:Value)(bs:nG)(w:World)(h:EO w rb v pos)(hb:BR w v bs)(hp:pos<=bs.length)(hn:bs.length-pos<n):Calls prog 129 #[(rb,0),z] w (So rb w):=by
 subst hz;obtain⟨a,cap,rfl,h1,h2,h3⟩:=hb;unfold maxLen at h2;have c0:=h.c0;have c1:=h.c1;have e1:IntKind.i64.wrap ((bs.length:Int)-pos)=(bs.length:Int)-pos:=IntWalk.i64_in _ I;have e2:=wu ((bs.length:Int)-pos) I;have d:(bs.length:Int)-pos<n:=I;clear h3 h;go_enter func129,ntmps129;go_wp2_with fail;go_quiet (fail);go_wp2_with (go_at_call 128;refine(Jg _ _).mono ?_;rintro e w' ⟨b,rfl⟩;unfold EH at b;subst b);exact⟨rfl,rfl,(DW.refl _ _).drewN _⟩
def Ou(rb n pos:Nat)(z:Int)(hz:z=(n:Int))(v:Value)(bs:nG)(w:World)(h:EO w rb v pos)(hb:BR w v bs)(hv:Dp (EU rb) v)(hp:pos+n<=bs.length):Calls prog 129 #[(rb,0),z] w λe w'=>∃sv,e=.returned sv/\BR w' sv ((bs.drop pos).take n)/\EO w' rb v (pos+n)/\DW (EU rb) w w':=by
 subst hz;obtain⟨a,cap,rfl,h1,h2,h3⟩:=id hb;unfold maxLen at h2;have c0:=h.c0;have c1:=h.c1;have e1:IntKind.i64.wrap ((bs.length:Int)-pos)=(bs.length:Int)-pos:=IntWalk.i64_in _ I;have e2:=wu ((bs.length:Int)-pos) I;have e3:IntKind.i64.wrap (n:Int)=(n:Int):=IntWalk.i64_in _ I;have e4:IntKind.i64.wrap ((pos:Int)+n)=(pos:Int)+n:=IntWalk.i64_in _ I;have d:¬((bs.length:Int)-pos<n):=I;have c:w.frozen? ⟨rb,1,none⟩=false:=zg h;clear h3;have H:=zb h;have Hb:=zb hb;clear h hb;go_enter func129,ntmps129;go_wp2_with fail;go_quiet (fail);go_wp2_with fail;obtain⟨W,b⟩:=nm ((w.drewN nq).setCell (U rb 1) (.int .i64 ((pos:Int)+n)));have f:DW (EU rb) w W:=by rw[<-b];exact((DW.refl (EU rb) w).drewN nq).setCell (p:=U rb 1) (.inl rfl) _
 have k1:W.cell? (rb,1)=some (.int .i64 ((pos:Int)+n)):=by rw[<-b];exact World.cell?_setCell_same _ _ _ c1
 have k0:W.cell? rb=some (.slice a bs.length cap):=by rw[<-b,World.cell?_setCell_other _ _ _ _ mv];exact c0
 have i:AA (EO W rb (.slice a bs.length cap) (pos+n)):=by
  show W.heap[rb]?=_;rw[<-b,zc (w:=w.drewN nq) H.z];simp
 have HB:=zb (Hb.z.mod f hv);have j:=zb f;rw[b];clear b f c0 c1 c;have k:IntKind.i64.wrap ((pos:Int)+n-n)=(pos:Int):=by rw[(I:(pos:Int)+n-n=pos)];exact IntWalk.i64_in _ I
 have e6:((pos:Int)+n).toNat=pos+n:=I;by_cases hc:pos=cap
 .have g:n=0:=I;subst g;have hl:bs.length=pos:=I;have HL:=zb hl;subst hc;clear hl k e6;have k:IntKind.i64.wrap ((pos:Int)+((0:Nat):Int)-((0:Nat):Int))=(pos:Int):=by rw[(I:(pos:Int)+((0:Nat):Int)-((0:Nat):Int)=pos)];exact IntWalk.i64_in _ I
  go_quiet (fail);go_wp2_with fail;go_ret;refine⟨_,rfl,?_,i.z.mod (S:=DY) ((DW.refl _ _).drewN _) (λx=>x),j.z.drewN _⟩;rw[Ca];exact BR.nil _ _ _ mz
 have hc':¬cap=pos:=λh=>hc h.symm
 go_quiet (fail);go_wp2_with fail;go_ret;refine⟨_,rfl,?_,i.z.mod (S:=DY) ((DW.refl _ _).drewN _) (λx=>x),j.z.drewN _⟩;exact(HB.z.sub hp).mod (S:=DY) ((DW.refl _ _).drewN _) (Dp.no _)
def EK(c:UInt8):Nat:=2 ^ (c.toNat / 64)
def GM(c:UInt8)(l:nG):Nat:=l.foldl (λn x=>n*256+x.toNat) (c.toNat % 64)
def Dy(bs:nG)(pos:Nat):Option (Nat×Nat) :=
 match bs[pos]? with
 | none=>none
 | some c=>if pos+EK c<=bs.length then some (GM c ((bs.drop (pos+1)).take (EK c-1)),pos+EK c)else none
def ix(c:UInt8)(l:nG)(x:UInt8):GM c (l++[x])=GM c l*256+x.toNat:=by simp[GM]
theorem ld(l:nG):∀n b,n<b->l.foldl (λn x=>n*256+x.toNat) n<b*256 ^ l.length:=by
 induction l with
 | nil=>intro n b h;simpa using h
 | cons x l ih =>
  intro n b h;have hx:=x.toNat_lt;have:=ih (n*256+x.toNat) (b*256) I;simp only[List.foldl_cons,AR,Nat.pow_succ];rw[Nat.mul_assoc,AL 256]at this;exact this
def Tt(c:UInt8)(l:nG):GM c l<64*256 ^ l.length:=ld l _ 64 (Nat.mod_lt _ mu)
def du:∀a:Fin 256,bits .and .u8 ((a.val:Nat):Int) 63=((a.val % 64:Nat):Int):=nA
def iw(a b:Nat)(ha:a<18446744073709551616)(hb:b<18446744073709551616):bits .or .u64 (a:Int) (b:Int)=((a ||| b:Nat):Int):=by
 have hx:a ||| b<2 ^ 64:=Nat.or_lt_two_pow I I;have h1:(BitVec.ofInt 64 (a:Int)).toNat=a:=by
  rw[Br,B6];exact CD I
 have h2:(BitVec.ofInt 64 (b:Int)).toNat=b:=by
  rw[Br,B6];exact CD I
 show IntKind.u64.wrap ((BitVec.ofInt 64 (a:Int) ||| BitVec.ofInt 64 (b:Int)).toNat:Int)=_;rw[BitVec.toNat_or,h1,h2,IntKind.wrap_u64];omega
def LM(a c:Nat)(hc:c<256):a*256 ||| c=a*256+c:=by
 have:=Nat.two_pow_add_eq_or_of_lt (b:=c) (i:=8) hc a;rw[AL]at this;exact this.symm
def LG(a c:Nat)(ha:a<72057594037927936)(hc:c<256):bits .or .u64 ((a:Int)*256) (c:Int)=((a*256+c:Nat):Int):=by
 have:=iw (a*256) c I I;rw[LM a c hc]at this;rw[<-this];congr 1
def SU(w:World)(rb:Nat)(v:Value)(r:Option (Value×Nat))(e:Ending)(w':World):Prop :=
 (∃x p,r=some (x,p)/\e=.returned x/\EO w' rb v p/\DW (EU rb) w w')\/(r=none/\So rb w e w')
def Gr(rb pos:Nat)(v:Value)(bs:nG)(w:World)(h:EO w rb v pos)(hb:BR w v bs)(r:Dp (EU rb) v)(hp:pos<=bs.length):Calls prog 127 #[(rb,0)] w (SU w rb v ((Dy bs pos).map λq=>(.int .u64 q.1,q.2))):=by
 by_cases s:pos<bs.length
 .obtain⟨c,hc⟩:∃c,bs[pos]?=some c:=⟨bs[pos],AK s⟩;have t:(bs.drop pos).take 1=[c]:=by
   rw[List.take_one,List.head?_drop,hc];rfl
  have t1:=Ou rb 1 pos 1 rfl v bs w h hb r I;rw[t]at t1;have hcl:=c.toNat_lt;have u:=du ⟨c.toNat,I⟩;simp only at u;have L:c.toNat / 64=0\/c.toNat / 64=1\/c.toNat / 64=2\/c.toNat / 64=3:=I;have M:=zb L;have N:=zb hb;have O:=zb hc;clear h hb L hc t;go_enter func127,ntmps127;go_wp2_with fail;refine t1.mono ?_;rintro e G ⟨sv,rfl,hs,h1,m1⟩;obtain⟨a,cap,rfl,_,_,h3⟩:=hs;obtain⟨g,o,rfl,d⟩:=h3 0 c rfl;clear h3 t1;simp only[B7]at d;have y:=zb h1;have f:=zb m1;clear h1 m1;simp only[AR,Ad];have z:IntKind.u64.wrap (IntKind.u64.wrap (2 ^ (c.toNat / 64))-1)=((EK c-1:Nat):Int):=by
   unfold EK;rcases M.z with e|e|e|e<;>rw[e]<;>rfl
  have hz1:1<=EK c:=Nat.one_le_two_pow;have hz8:EK c<=8:=by
   unfold EK;rcases M.z with e|e|e|e<;>rw[e]<;>decide
  by_cases j:pos+EK c<=bs.length
  .have A:=Ou rb (EK c-1) (pos+1) _ z v bs G y.z (N.z.mod f.z r) r I;have B:((bs.drop (pos+1)).take (EK c-1)).length=EK c-1:=my;have F:AA (Dy bs pos=some (GM c ((bs.drop (pos+1)).take (EK c-1)),pos+EK c)):=by
    show _=_;unfold Dy;rw[O.z];simp only[AQ j]
   obtain⟨b,l⟩:=nm ((bs.drop (pos+1)).take (EK c-1));rw[l]at A B F;clear l;have Zv:=zb z;clear z;go_wp2_with fail;refine A.mono ?_;rintro e P ⟨sv,rfl,H,h2,Q⟩;have H2:AA (EO P rb v (pos+EK c)):=by
    have e:pos+1+(EK c-1)=pos+EK c:=I;rw[e]at h2;exact h2
   have HM:=zb (f.z.trans Q);obtain⟨a2,R,rfl,hq1,J,h4⟩:=H;have S:b.length<=7:=I;unfold maxLen at J;clear h2 Q A B u d Zv;go_wp2_with fail
   go_loop [4,6,21] (λn _ i=>∃k:Nat,k<=b.length/\i=.int .i64 k/\n=.int .u64 (GM c (b.take k):Int)) (λ_ _ i=>b.length-(intOf i).toNat)
   case atStart=>exact⟨0,AM _,rfl,by simp[GM]⟩
   case round =>
    obtain⟨k,hk,rfl,rfl⟩:=hrel;by_cases K:k<b.length
    .obtain⟨x,hx⟩:∃x,b[k]?=some x:=⟨b[k],AK K⟩;obtain⟨g2,o2,rfl,hc2⟩:=h4 k x hx;have T:AA (GM c (b.take (k+1))=GM c (b.take k)*256+x.toNat):=by
      show _=_;rw[Wh b k x hx,ix]
     have C:GM c (b.take k)<72057594037927936:=by
      have h1:=Tt c (b.take k);have h2:(b.take k).length<=6:=by rw[AU];omega
      have h3:256 ^ (b.take k).length<=256 ^ 6:=Nat.pow_le_pow_right I h2;have h5:64*256 ^ (b.take k).length<=64*256 ^ 6:=C2 _ h3;have h6:64*256 ^ 6<=72057594037927936:=mu;exact A7 h1 (AJ h5 h6)
     obtain⟨m,p⟩:=nm (GM c (b.take k));have hxl:=x.toNat_lt;rw[p]at C T ⊢;have hor:=LG m x.toNat C I;have hw1:=wu ((m:Int)*256) I;clear p h4 hx;go_wp2_with fail
     go_round
     case rel=>exact⟨k+1,I,by go_num,by rw[T.z];go_num⟩
     simp[intOf];omega
    have D:b.take k=b:=Aa I;rw[D];clear D h4;go_wp2_with fail;go_ret;exact .inl ⟨_,_,by rw[F.z];rfl,rfl,H2.z,HM.z⟩
  have A:=Qb rb (EK c-1) (pos+1) _ z v bs G y.z (N.z.mod f.z r) I I;have F:AA (Dy bs pos=none):=by
   show _=_;unfold Dy;rw[O.z];simp only[AI j]
  clear z;go_wp2_with (go_at_call 129;refine A.mono ?_;rintro e P ⟨E,p⟩;unfold EH at E;subst E);exact⟨rfl,.inr ⟨by rw[F.z];rfl,rfl,f.z.trans p⟩⟩
 have hr:AA (Dy bs pos=none):=by
  show _=_;unfold Dy;rw[CX I]
 have t1:=Qb rb 1 pos 1 rfl v bs w h hb hp I;clear h hb r s;go_enter func127,ntmps127;go_wp2_with (go_at_call 129;refine t1.mono ?_;rintro e G ⟨E,p⟩;unfold EH at E;subst E);exact⟨rfl,.inr ⟨by rw[hr.z];rfl,rfl,p⟩⟩
def Qo:(prog.info? 214).map (λi=>(i.zero,i.size,i.bytes))=some (some (.agg #[.int .u64 0,.int .u64 0]),2,16):=mr
def Kw:(prog.info? 214).map (·.size)=some 2:=mr
def Qn(w:World):(zeroValue 214).run prog w=.ok (.agg #[.int .u64 0,.int .u64 0]) w:=mr
def lM(w:World)(g g2 o h i lb cb:Nat)(b a:nJ)(hg:w.heap[g]?=some (.cells b.toArray 214 (0,0)))(c:w.heap[g2]?=some (.cells a.toArray 214 (0,0)))
  (f:g2≠g) (d:b.length≠0) :
  (callFunc 202 #[.slice g2 h i,.slice (g,o) lb cb]).run prog w=.ok (.value (.bool false)) w:=by
 rw[run_callFunc_extern func202 mr mr mr (e:=Extern.SlicesOverlaps.overlaps #[63,63] #[4]) mr,
  Lib.run_overlaps_apart w 63 4 214 underlying63 2 (λw=>Wj Kw w) ⟨g2,0,none⟩ ⟨g,o,none⟩ h i lb cb f 214 214 a.length b.length
   (by simp[World.shape?,c]) (by simp[World.shape?,hg]) d (by simp[World.frozen?,c]) (by simp[World.frozen?,c])]
 rfl
def MT(a:nJ)(i n:Nat)(r:nJ):List Value:=splice (splice a ((i+1)*2) ((a.drop (i*2)).take ((n-i)*2))) (i*2) r
def dt(g g2 i n cap:Nat)(a:nJ)(r:Nat×Nat)(w:World)(hi:i<n)(hn:n+1<=cap)(o:cap<=9223372036854775807)
  (hg:w.heap[g]?=some (.cells a.toArray 214 (0,0))) (d:a.length=cap*2) (k:∀v∈(a.drop (i*2)).take ((n-i)*2),v.oneCell'=true) (f:w.heap[g2]?=some (.cells [.int .u64 r.1,.int .u64 r.2].toArray 214 (0,0))) (h:g2≠g) :
  Calls prog 201 #[.slice g n cap,[i],.slice g2 1 1] w λe w'=>e=.returned (.slice g (n+1) cap) /\
   w'=(w.setRow g (MT a i n [.int .u64 r.1,.int .u64 r.2]).toArray).drew:=by
 have h1:(i:Int)<n:=I;have h2:decide ((i:Int)=n)=false:=my;have h3:((i:Int)==n)=false:=my;have h4:i+1<cap:=I;have hov:=lM w g g2 ((i+1)*2) 1 1 (n-i) (cap-(i+1)) a _ hg f h I;have l:∀ty,(Builtin.copy_ #[63,63] ty #[.slice (g,(i+1)*2) (n-i) (cap-(i+1)),.slice (g,i*2) (n+1-i) (cap-i)]).run prog w.drew =
   .ok (goInt (n-i:Nat)) (w.setRow g (splice a ((i+1)*2) ((a.drop (i*2)).take ((n-i)*2))).toArray).drew:=λty =>
  Mm (P:=prog) w.drew 63 63 ty 214 2 underlying63 Kw g ((i+1)*2) (n-i) (cap-(i+1)) g (i*2) (n+1-i) (cap-i) (n-i) a a _ _ _ hg hg
   I I I I I k
 obtain⟨j,b⟩:=nm (splice a ((i+1)*2) ((a.drop (i*2)).take ((n-i)*2)));rw[b]at l;have p:j.length=cap*2:=by rw[<-b,length_splice _ _ _ my];exact d
 obtain⟨m,c⟩:=nm (splice j (i*2) [Value.int .u64 r.1,Value.int .u64 r.2]);have hc2:∀ty,(Builtin.copy_ #[63,63] ty #[.slice (g,i*2) (n+1-i) (cap-i),.slice g2 1 1]).run prog (w.setRow g j.toArray).drew =
   .ok (goInt (1:Nat)) (w.setRow g m.toArray).drew:=λty=>by
  rw[Mm (P:=prog) (w.setRow g j.toArray).drew 63 63 ty 214 2 underlying63 Kw g (i*2) (n+1-i) (cap-i) g2 0 1 1 1 j _ _ _ _ (setRow_heap w g _ _ _ _ hg)
   ((setRow_other w g g2 _ h).trans f) I I I mv I (by simp[Value.oneCell'])]
  simp only[CH,Ch,Ca,Nat.one_mul,c];congr 1;exact A8 World.drew (setRow_setRow w g _ _)
 have HC:AA (MT a i n [.int .u64 r.1,.int .u64 r.2]=m):=by
  show splice (splice _ _ _) _ _=m;rw[b,c]
 clear b c;go_enter func201,ntmps201;go_wp2_with fail
 go_region
 go_wp2_with fail;go_ret;exact⟨rfl,by rw[HC.z]⟩
def Xu(g2 n cap:Nat)(a:nI)(v':Value)(w c:World)(d:n<=cap)(b:cap<=9223372036854775807)
  (De:∀ty,(Builtin.append_ #[63,63] ty #[.slice a n cap,.slice g2 1 1]).run prog w=.ok v' c) :
  Calls prog 201 #[.slice a n cap,[n],.slice g2 1 1] w λe w'=>e=.returned v'/\w'=c:=by
 by_cases hc:n=cap
 .subst hc;cases a;all_goals
   go_enter func201,ntmps201;go_wp2_with (at_builtin;refine zn rfl _ _ _ _ rfl _ _ _ rfl rfl De ?_);go_ret;exact⟨rfl,rfl⟩
 have h1:n<cap:=I;cases a;all_goals
  go_enter func201,ntmps201;go_wp2_with (at_builtin;refine zn rfl _ _ _ _ rfl _ _ _ rfl rfl De ?_);go_ret;exact⟨rfl,rfl⟩
def MV(C0 a:nJ)(i n:Nat)(r:nJ):List Value:=splice (splice C0 (i*2) r) ((i+1)*2) ((a.drop (i*2)).take ((n-i)*2))
def dq(g g2 h i n cap c:Nat)(a j:nJ)(r:Nat×Nat)(w b:World)(hi:i<n)(hnc:n<=cap)(hn:cap<n+1)(s:cap<=9223372036854775807)
  (t:a.length=cap*2) (m:∀v∈(a.drop (i*2)).take ((n-i)*2),v.oneCell'=true)
  (De:∀ty,(Builtin.append_ #[63,3] ty #[.slice g i cap,.int .i64 ((n:Int)+1-i)]).run prog w=.ok (.slice h (n+1) c) b)
  (hg:b.heap[g]?=some (.cells a.toArray 214 (0,0))) (o:b.heap[g2]?=some (.cells [.int .u64 r.1,.int .u64 r.2].toArray 214 (0,0)))
  (u:b.heap[h]?=some (.cells j.toArray 214 (0,0))) (p:j.length=c*2) (x:n+1<=c) (y:c<=9223372036854775807) (_hne:g2≠h) (l:g≠h) :
  Calls prog 201 #[.slice g n cap,[i],.slice g2 1 1] w λe w'=>e=.returned (.slice h (n+1) c) /\
   w'=(b.setRow h (MV j a i n [.int .u64 r.1,.int .u64 r.2]).toArray).drew:=by
 have h1:(i:Int)<n:=I;have h3:((i:Int)==n)=false:=my;have h4:i<cap:=I;have h5:i+1<c:=I;obtain⟨k,d⟩:=nm (splice j (i*2) [Value.int .u64 r.1,Value.int .u64 r.2]);have z:k.length=c*2:=by rw[<-d,length_splice _ _ _ my];exact p
 have hc1:∀ty,(Builtin.copy_ #[63,63] ty #[.slice (h,i*2) (n+1-i) (c-i),.slice g2 1 1]).run prog b =
   .ok (goInt (1:Nat)) (b.setRow h k.toArray):=λty=>by
  rw[Mm (P:=prog) b 63 63 ty 214 2 underlying63 Kw h (i*2) (n+1-i) (c-i) g2 0 1 1 1 j _ _ _ _ u
   o I I I mv I (by simp[Value.oneCell'])]
  simp only[CH,Ch,Ca,Nat.one_mul,d]
 obtain⟨q,f⟩:=nm (splice k ((i+1)*2) ((a.drop (i*2)).take ((n-i)*2)));have hc2:∀ty,(Builtin.copy_ #[63,63] ty #[.slice (h,(i+1)*2) (n-i) (c-(i+1)),.slice (g,i*2) (n-i) (cap-i)]).run prog (b.setRow h k.toArray).drew =
   .ok (goInt (n-i:Nat)) (b.setRow h q.toArray).drew:=λty=>by
  rw[Mm (P:=prog) (b.setRow h k.toArray).drew 63 63 ty 214 2 underlying63 Kw h ((i+1)*2) (n-i) (c-(i+1)) g (i*2) (n-i) (cap-i) (n-i) k a _ _ _ (setRow_heap b h _ _ _ _ u)
   ((setRow_other b h g _ l).trans hg) I I I I I m]
  rw[f];congr 1;exact A8 World.drew (setRow_setRow b h _ _)
 have HC:AA (MV j a i n [.int .u64 r.1,.int .u64 r.2]=q):=by
  show splice (splice _ _ _) _ _=q;rw[d,f]
 clear d f;go_enter func201,ntmps201;go_wp2_with (at_builtin;refine zn rfl _ _ _ _ rfl _ _ _ rfl rfl De ?_)
 go_region
 go_wp2_with fail;go_ret;exact⟨rfl,by rw[HC.z]⟩
end
end Go.Proofs.YtddfdpbaiedcjaaGreatDoor
