/- A part of Once's proof. Conditions: none. Part 2 of 15. -/
import Derived.Laws.CopyOwn
import Derived.Test.YtddfdpbaiedcjaaGreatDoorRows
import Derived.BigQuiet
import Derived.WalkSpells
import Derived.Test.YtddfdpbaiedcjaaGreatDoorOnc1
import Derived.RangeFuncNested
import Derived.Shelf.Abstract
import Derived.OwnWalkIn
import Derived.TacticsInMore
import Derived.LoopNIn
import Derived.LoopIn
import Derived.Laws.EntriesVeiled
import Derived.Lib.LazyBuf
import Derived.WalkLawsBesides
import Derived.Lib.Overlaps
set_option maxRecDepth 100000
set_option maxHeartbeats 16000000
set_option linter.all false
namespace Go.Proofs.YtddfdpbaiedcjaaGreatDoor
section
open Go.RowKit Go.Proofs.Tryz
def zb{p:Prop}(h:p):AA p:=h
abbrev zC:=List (Nat×Nat)
def Da(rs:zC)(i:Nat):Nat:=(rs.getD i (0,0)).1
def DY(rs:zC)(i:Nat):Nat:=(rs.getD i (0,0)).2
def zo:zC->List Value
 | []=>[]
 | r::rs=>.int .u64 r.1 :: .int .u64 r.2::zo rs
theorem zO(rs:zC):(zo rs).length=rs.length*2:=by
 induction rs with
 | nil=>rfl
 | cons r rs ih=>simp only[zo,AQ,ih];omega
theorem JB(a b:zC):zo (a++b)=zo a++zo b:=by
 induction a with
 | nil=>rfl
 | cons r rs ih=>simp[zo,ih]
theorem Y6(rs:zC):∀i,i<rs.length->(zo rs)[i*2]?=some (.int .u64 (Da rs i:Int)):=by
 induction rs with
 | nil=>intro i h;simp at h
 | cons r rs ih =>
  intro i h;cases i with
  | zero=>rfl
  | succ i =>
   have e:(i+1)*2=i*2+1+1:=by omega
   rw[e];simp only[zo,DI,Da,List.getD_cons_succ];exact ih i (by simpa using h)
theorem Y5(rs:zC):∀i,i<rs.length->(zo rs)[i*2+1]?=some (.int .u64 (DY rs i:Int)):=by
 induction rs with
 | nil=>intro i h;simp at h
 | cons r rs ih =>
  intro i h;cases i with
  | zero=>rfl
  | succ i =>
   have e:(i+1)*2+1=i*2+1+1+1:=by omega
   rw[e];simp only[zo,DI,DY,List.getD_cons_succ];exact ih i (by simpa using h)
theorem N1(rs:zC):∀k,(zo rs).take (k*2)=zo (rs.take k):=by
 induction rs with
 | nil=>intro k;simp[zo]
 | cons r rs ih =>
  intro k;cases k with
  | zero=>simp[zo]
  | succ k =>
   have e:(k+1)*2=k*2+1+1:=by omega
   rw[e];simp[zo,ih]
theorem UE(rs:zC):∀k,(zo rs).drop (k*2)=zo (rs.drop k):=by
 induction rs with
 | nil=>intro k;simp[zo]
 | cons r rs ih =>
  intro k;cases k with
  | zero=>simp[zo]
  | succ k =>
   have e:(k+1)*2=k*2+1+1:=by omega
   rw[e];simp[zo,ih]
variable{base cap e g:Nat}{rs:zC}{w:World}
def IM{n:Nat}(h:w.ownsRow base e 2 (.slice (some ⟨g,0,none⟩) n cap) rs.length (zo rs)):∀i,i<rs.length->w.cell? ⟨g,i*2,none⟩=some (.int .u64 (Da rs i:Int))/\w.cell? ⟨g,i*2+1,none⟩=some (.int .u64 (DY rs i:Int)):=by
 intro i hi;have hc:=h.cells (g:=g) rfl;have a:∀j,(⟨g,0,none⟩:Addr).add j=⟨g,j,none⟩:=λj=>by unfold Addr.add;split<;>simp_all
 exact⟨by rw[<-a];exact hc _ _ (Y6 rs i hi),by rw[<-a];exact hc _ _ (Y5 rs i hi)⟩
variable{sz:Nat}{v:Value}{xs:List Value}
def zi{n:Nat}(h:w.ownsRow base e sz v n xs):∃a cap,v = .slice a n cap/\n<=cap/\cap<=maxLen/\(0<n->∃g,a=some ⟨g,0,none⟩):=by
 rcases h.2 with⟨rfl,rfl⟩|⟨g,cap,cur,rfl,_,_,h1,h2,_⟩
 ·exact⟨none,0,rfl,AG _,AL _,λh=>absurd h (Nat.lt_irrefl _)⟩
 ·exact⟨_,cap,rfl,h1,h2,λ_=>⟨g,rfl⟩⟩
structure DW(S:Nat->Prop)(w w':World):Prop where
 os:w'.os=w.os
 tape:w'.tape=w.tape
 output:w'.output=w.output
 size:w.heap.size<=w'.heap.size
 block:∀k,k<w.heap.size->¬S k->w'.heap[k]?=w.heap[k]?
def DX:Nat->Prop:=λ_=>False
section
variable {S:Nat->Prop} {w w' w'':World}
def DW.refl(S:Nat->Prop)(w:World):DW S w w:=⟨rfl,rfl,rfl,AG _,λ_ _ _=>rfl⟩
def DW.trans(h:DW S w w')(k:DW S w' w''):DW S w w'' :=
 ⟨k.os.trans h.os,k.tape.trans h.tape,k.output.trans h.output,AO h.size k.size,λi hi a=>(k.block i (Aw hi h.size) a).trans (h.block i hi a)⟩
def DW.then{S':Nat->Prop}(h:DW S w w')(k:DW S' w' w'')(hs:∀i,S' i->S i\/w.heap.size<=i):DW S w w'' :=
 ⟨k.os.trans h.os,k.tape.trans h.tape,k.output.trans h.output,AO h.size k.size,
  λi hi a=>(k.block i (Aw hi h.size) (λx=>(hs i x).elim a (λy=>by omega))).trans (h.block i hi a)⟩
def DW.mono{S':Nat->Prop}(h:DW S w w')(hs:∀i,S i->S' i\/w.heap.size<=i):DW S' w w' :=
 ⟨h.os,h.tape,h.output,h.size,λi hi hn=>h.block i hi (λx=>(hs i x).elim hn (λy=>by omega))⟩
def DW.drewN(h:DW S w w')(n:Nat):DW S w (w'.drewN n):=⟨h.os,h.tape,h.output,h.size,h.block⟩
def DW.drew(h:DW S w w'):DW S w w'.drew:=⟨h.os,h.tape,h.output,h.size,h.block⟩
def DW.alloc(h:DW S w w')(o:Obj):DW S w (w'.alloc o) :=
 ⟨h.os,h.tape,h.output,AO h.size (by simp),λi hi hn=>(Below.heap_alloc w' o i (Aw hi h.size)).trans (h.block i hi hn)⟩
def AB{W W1:World}{o:Obj}(h:W.alloc o=W1):DW DX W W1:=h ▸ (DW.refl _ _).alloc _
def AC{W W1:World}{o:Obj}(h:W.alloc o=W1):W1.heap.size=W.heap.size+1:=by rw[<-h];simp
def AD{W W1:World}{o:Obj}(h:W.alloc o=W1):W1.heap[W.heap.size]?=some o:=by rw[<-h];exact heap_alloc_new W _
def DW.setCell(h:DW S w w'){p:Addr}(a:S p.block\/w.heap.size<=p.block)(u:Value):DW S w (w'.setCell p u) :=
 ⟨h.os,h.tape,h.output,by simpa [World.setCell]using h.size,λi hi b=>(Below.heap_setCell w' p u i (by
  rintro rfl;rcases a with a|a
  ·exact b a
  ·omega)).trans (h.block i hi b)⟩
def DW.grown{row:Option Nat}(h:DW S w w')(hg:w'.grownBy w'' row)(hr:∀k,row=some k->S k\/w.heap.size<=k):DW S w w'' :=
 ⟨hg.os.trans h.os,hg.tape.trans h.tape,hg.output.trans h.output,AO h.size hg.size,
  λi hi a=>(hg.block i (Aw hi h.size) (λe=>by
   rcases hr i e.symm with x|x
   ·exact a x
   ·omega)).trans (h.block i hi a)⟩
def DW.of_below(h:Below w.heap.size w w'):DW S w w':=⟨h.os,h.tape,h.output,h.size,λi hi _=>h.block i hi⟩
def DW.below(h:DW DX w w'):Below w.heap.size w w':=⟨h.os,h.tape,h.output,h.size,λi hi=>h.block i hi (λx=>x)⟩
def DW.cell(h:DW S w w'){a:Addr}(hs:¬S a.block)(hc:w.cell? a=some v):w'.cell? a=some v :=
 (World.cell?_of_block (h.block a.block (World.block_lt_of_cell? w a hc) hs)).trans hc
variable{k:Nat}
def DW.obj(h:DW S w w'){o:Obj}(hs:¬S k)(hc:w.heap[k]?=some o):w'.heap[k]?=some o :=
 (h.block k (AI.1 hc).1 hs).trans hc
def DW.owns(h:DW S w w'){n:Nat}(b:w.ownsRow base e sz v n xs)(hs:∀g,v.ownBlock=some g->¬S g):w'.ownsRow base e sz v n xs:=by
 refine⟨b.1,?_⟩;rcases b.2 with hn|⟨g,cap,a,rfl,hb,hg,rest⟩
 ·exact .inl hn
 ·exact .inr ⟨g,cap,a,rfl,hb,h.obj (hs g rfl) hg,rest⟩
end
variable{b o:Nat}
def zk(h:w.cell? ⟨b,o,none⟩=some v):b<w.heap.size:=World.block_lt_of_cell? w _ h
variable{cs:Array Value}{fz:Nat×Nat}{k t:Nat}
def za(h:w.heap[k]?=some (.cells cs t fz))(hv:cs[o]?=some v):w.cell? ⟨k,o,none⟩=some v:=by
 unfold World.cell?;simp only[h];simpa using hv
def zf(h:w.heap[k]?=some (.cells cs t (0,0))):w.frozen? ⟨k,o,none⟩=false:=by
 unfold World.frozen?;simp only[h];simp
variable{j:Nat}
def Nz{R:Nat}{x:Value}{a:Addr}(h:w.cell? a=some v)(ne:¬a.block=R):(w.setCell ⟨R,j,none⟩ x).cell? a=some v :=
 ((DW.refl (λk=>k=R) w).setCell (p:=⟨R,j,none⟩) (.inl rfl) x).cell ne h
def LD{R:Nat}{x:Value}{a:Addr}(h:w.cell? a=some v)(ne:¬a.block=R):(w.setCell ⟨R,j,none⟩ x).drew.cell? a=some v:=Nz h ne
def LC{R:Nat}{x y:Value}{a:Addr}(h:w.cell? a=some v)(ne:¬a.block=R):((w.setCell ⟨R,j,none⟩ x).setCell ⟨R,k,none⟩ y).drew.cell? a=some v:=Nz (Nz h ne) ne
variable{w':World}
def MM(h:w'.heap[b]?=w.heap[b]?)(o:Nat)(v:Value):(w'.setCell ⟨b,o,none⟩ v).heap[b]?=(w.setCell ⟨b,o,none⟩ v).heap[b]?:=by
 simp only[World.setCell,CA,h]
variable{P:Program}
def Nq {f : FuncId} {fn : Func} {c : Code} (hf : P.funcs[f]? = some fn) (a : (fn.name == "runtime.NumGoroutine") = false) (hb : fn.body = some c) (args : Array Value) (w : World):(callFunc f args).run P w = .ok (.enter f args) w:=by
 have h1 : fn.name ≠ "runtime.NumGoroutine" := by simpa using a
 simp[callFunc,hf,h1,hb]
section
variable {P:Program}
def zS(g o j:Nat):(⟨g,o,none⟩:Addr).add j=⟨g,o+j,none⟩:=by unfold Addr.add;split<;>simp_all
theorem UC(hk:(P.info? e).map (·.size)=some k)(w:World):(sizeOf e).run P w = .ok k w:=by
 cases hq:P.info? e with
 | none=>simp[hq]at hk
 | some i=>simp[hq]at hk;simp[sizeOf,typeInfo,hq,hk]
def TG{a:List Value}(hg:w.heap[g]?=some (.cells a.toArray t fz))(o n:Nat):∀j v,((a.drop o).take n)[j]?=some v->w.cell? ((⟨g,o,none⟩:Addr).add j)=some v:=by
 intro j v b;rw[zS];rw[B8]at b;split at b
 ·rw[A6]at b;simpa [World.cell?,hg]using b
 ·cases b
def Le(w:World)(f sT ty e k:Nat)(hu:P.underlying f=some (.slice e))(hk:(P.info? e).map (·.size)=some k)
  (g d dl dc h os sl i n:Nat) (b src:List Value) (t t':Nat) (fz:Nat×Nat)
  (hg:w.heap[g]?=some (.cells b.toArray t (0,0))) (hh:w.heap[h]?=some (.cells src.toArray t' fz)) (hn1:n<=sl) (hn2:n<=dl) (hn3:n=sl\/n=dl)
  (hs:os+n*k<=src.length) (hd:d+n*k<=b.length) (h1:∀v∈(src.drop os).take (n*k),v.oneCell'=true) :
  (Builtin.copy_ #[f,sT] ty #[.slice (some ⟨g,d,none⟩) dl dc,.slice (some ⟨h,os,none⟩) sl i]).run P w =
   .ok (goInt n) (w.setRow g (splice b d ((src.drop os).take (n*k))).toArray):=by
 have hn:n=Nat.min sl dl:=by
  show n=min sl dl;omega
 have a:((src.drop os).take (n*k)).length=n*k:=by simp;omega
 have hl:=run_firstCells_some (P:=P) (w:=w) k n ⟨h,os,none⟩ sl i _ a (TG hh os (n*k));have c:=run_storeCells_at P g d t ((src.drop os).take (n*k)) 0 b.toArray w hg (by simp;omega) h1;have hz:=UC hk;subst hn;simp only[Br,a]at c;have j:=c;simp[Builtin.copy_,run_underlying hu,Builtin.lenOf,hz,hl,c,splice,a];try omega
def ir(z:Array Value)(n:Nat)(h1:∀v∈z.toList,v.oneCell'=true):∀v∈(Builtin.zeroCells z n).toList,v.oneCell'=true:=by
 intro v b;simp only[Builtin.zeroCells,Array.toList_map,BT]at b;obtain⟨i,hi,rfl⟩:=b;by_cases hz:z.size=0
 ·simp[hz]at hi
 ·have a:i % z.size<z.size:=Nat.mod_lt _ (by omega);apply h1;rw[getElem!_pos z _ a];exact Array.getElem_mem_toList a
theorem Ld(w:World)(T ty e:Nat)(z:Value)(k:Nat)(f:P.underlying T=some (.slice e))(hv:∀w,(zeroValue e).run P w = .ok z w)(hz:z.cells.size=k)
  (h1:∀v∈z.cells.toList,v.oneCell'=true) (g o n c:Nat) (a:List Value) (t:Nat) (hg:w.heap[g]?=some (.cells a.toArray t (0,0))) (hd:o+n*k<=a.length) :
  (Builtin.clear_ #[T] ty #[.slice (some ⟨g,o,none⟩) n c]).run P w = .ok (.tuple #[]) (w.setRow g (splice a o (Builtin.zeroCells z.cells n).toList).toArray):=by
 have b:(Builtin.zeroCells z.cells n).toList.length=n*k:=by simp[size_zeroCells,hz]
 have d:=run_storeCells_at P g o t (Builtin.zeroCells z.cells n).toList 0 a.toArray w hg (by rw[b];simpa using hd) (ir _ _ h1);simp only[Br,b]at d;cases n with
 | zero =>
  have e1:(Builtin.zeroCells z.cells 0).toList=[]:=by simp[Builtin.zeroCells]
  have:=setRow_self w g a.toArray t (0,0) hg;simp[Builtin.clear_,run_underlying f,e1,splice,this]
 | succ n =>
  simp only[Builtin.clear_];simp[run_underlying f,hv,d,splice,b]
def Dy(w:World)(v v':Value):Prop:=∀k,v'.ownBlock=some k->v.ownBlock=some k\/w.heap.size<=k
def Dy.refl(w:World)(v:Value):Dy w v v:=λ_ h=>.inl h
def zJ(w:World)(t e:Nat)(i:TypeInfo)(z:Value)(size bytes:Nat)(D:P.underlying t=some (.slice e))(hi:P.info? e=some i)(K:i.zero=some z)
  (r:i.size=size) (F:i.bytes=bytes) (G:z.cells.size=size) (hsz:0<size)
  (v:Value) (n:Nat) (xs:List Value) (d:w.ownsRow 0 e size v n xs)
  (a:Addr) (m c:Nat) (b:List Value) (hl:b.length=m*size) (f:∀j u,b[j]?=some u->w.cell? (a.add j)=some u) (h1:∀u∈b,u.oneCell'=true)
  (A:n+m<=maxLen) (l:(n+m)*bytes<=140737488355328) :
  ∃v' w',(∀ty,(Builtin.append_ #[t,t] ty #[v,.slice (some a) m c]).run P w = .ok v' w')/\w'.ownsRow 0 e size v' (n+m) (xs++b)/\w.grownBy w' v.ownBlock/\Dy w v v':=by
 subst r;subst F;have E:n+m<=9223372036854775807:=by simp only[maxLen]at A;omega
 have o:(xs++b).length=(n+m)*i.size:=by rw[AF,d.1,hl,DO]
 have grown:∀(old:Nat),old<n+m->∀(row:Option Nat),
   (w.drew.alloc (.cells (xs.toArray++b.toArray++Builtin.zeroCells z.cells (grownCap w (n+m) old e-(n+m))) e)).ownsRow 0 e i.size
    (.slice (some ⟨w.heap.size,0,none⟩) (n+m) (grownCap w (n+m) old e)) (n+m) (xs++b) /\
   w.grownBy (w.drew.alloc (.cells (xs.toArray++b.toArray++Builtin.zeroCells z.cells (grownCap w (n+m) old e-(n+m))) e)) row:=by
  intro old ho row;have H:=grownCap_ge w (n+m) old e;have s:=grownCap_le_maxLen w (n+m) old e A;refine⟨⟨o,.inr ⟨w.heap.size,_,_,rfl,AL _,heap_alloc_new w.drew _,H,s,?_,?_⟩⟩,⟨rfl,rfl,rfl,by simp,λk hk _=>Below.heap_alloc w.drew _ k hk⟩⟩
  ·simp only[DA,Al,size_zeroCells,G,d.1,hl,<-Nat.add_mul]
   congr 1
   omega
  ·simp only[Cy,Av];rw[<-List.append_assoc,<-o];exact BH
 have q:∀c n v,Dy w v (.slice (some ⟨w.heap.size,0,none⟩) n c):=λc n v k hk=>by
  simp[Value.ownBlock]at hk;omega
 rcases d.2 with⟨rfl,rfl⟩|⟨g,cap,x,rfl,I,hg,hnc,s,J,y⟩
 ·have hx:=Ah (by simpa using d.1);subst hx;by_cases hm:m=0
  ·subst hm;have hn:=Ah (by simpa using hl);subst hn;refine⟨.slice none 0 0,w,λty=>?_,World.ownsRow_nil w 0 e i.size,⟨rfl,rfl,rfl,AG _,λ_ _ _=>rfl⟩,Dy.refl _ _⟩;simp[Builtin.append_,run_underlying D,sizeOf,typeInfo,hi,Builtin.lenOf,Builtin.firstCells,loadCells,loadCellsFrom]
  ·have B:=λty=>run_append_nil (P:=P) w t ty e i z D hi K a m c b hl f (by omega) (by omega) (by have hb:=l;simp only[Au]at hb;omega)
   have p:=grown 0 (by omega) (Value.ownBlock (.slice none 0 0));simp only[Au,Am,Array.empty_append]at p ⊢;exact⟨_,_,B,p.1,p.2,q _ _ _⟩
 ·by_cases h:n+m<=cap
  ·have C:n*i.size+b.length<=x.size:=by rw[hl,J,<-Nat.add_mul];exact Bu _ h
   have B:=λty=>run_append_room (P:=P) w t ty e i D hi g n cap x hg a m c b hl f h1 h C
   refine⟨_,_,B,⟨o,.inr ⟨g,cap,_,rfl,I,setRow_heap w g x _ e _ hg,h,s,?_,?_⟩⟩,⟨rfl,rfl,rfl,by simp,λk _ hk=>setRow_other w g k _ (λe=>hk (by simp[Value.ownBlock,e]))⟩,λk hk=>.inl hk⟩
   ·simp only[Al,AF,AS,Ad,Bx];omega
   ·rw[y,<-o];exact BH
  ·have holds:=d.cells (g:=g) rfl;have B:=λty=>run_append_grow (P:=P) w t ty e i z D hi K ⟨g,0,none⟩ n cap xs d.1 holds a m c b hl f (by omega) (by omega) (growslice_fits (by omega) l)
   have p:=grown cap (by omega) (Value.ownBlock (.slice (some ⟨g,0,none⟩) n cap));exact⟨_,_,B,p.1,p.2,q _ _ _⟩
def jH(w:World)(t u ty e:Nat)(ik:IntKind)(i:TypeInfo)(z:Value)(ht:P.underlying t=some (.slice e))(hu:P.underlying u=some (.int ik))(hi:P.info? e=some i)(hz:i.zero=some z)
  (b:Addr) (a c n:Nat) (d:List Value) (m:d.length=a*i.size) (holds:∀j v,d[j]?=some v->w.cell? (b.add j)=some v)
  (hg:c<a+n) (h63:a+n<=9223372036854775807) (hb:(a+n)*i.bytes<=140737488355328) (hnz:0<n*i.size) :
  (Builtin.append_ #[t,u] ty #[.slice (some b) a c,.int .i64 n]).run P w =
   .ok (.slice (some ⟨w.heap.size,0,none⟩) (a+n) (grownCap w (a+n) c e))
    (w.drew.alloc (.cells (d.toArray++Builtin.zeroCells z.cells n++Builtin.zeroCells z.cells (grownCap w (a+n) c e-(a+n))) e)):=by
 have hn:¬(a+n<=c):=by omega
 have g:¬(9223372036854775807<((a:Int)+(n:Int))):=by omega
 have q:=growslice_fits hg hb;have h:¬(281474976710656<Builtin.nextslicecap (a+n) c*i.bytes):=by omega
 have hw:IntKind.i64.wrap (n:Int)=(n:Int):=IntWalk.i64_in _ (by omega);have k:¬((n:Int)<0):=by omega
 have hbn:n*i.bytes<=281474976710656:=by rw[DO]at hb;omega
 have l:¬(281474976710656<(n:Int)*(i.bytes:Int)):=by
  have:((n*i.bytes:Nat):Int)<=281474976710656:=by omega
  rw[Int.natCast_mul]at this;omega
 have f:¬(n*i.size=0):=by omega
 have o:=run_firstCells_some (P:=P) w.drew i.size a b a c d m (by simpa using holds);have p:Sem.run P (asIntOf (.int .i64 n)) w = .ok (.i64,(n:Int)) w:=rfl;simp[Builtin.append_,run_underlying ht,run_underlying hu,sizeOf,typeInfo,zeroValue,hi,hz,asInt,p,hw,k,l,hn,g,h,f,Question.forced,o,newRow,grownCap]
variable{Q:Exit->Act->World->Prop}{ops:Array Oper}{w1:World}
def zm{rest:List Oper}{o:Oper}{a:Act}(c:o.guard=none)(s x:Operand)(t u:TypeId)
  (ho:o.op = .call { callee:=.builtin .append,args:=#[s,x],argTypes:=#[t,u] }) (d e v':Value) (hs:a.eval s=d) (hx:a.eval x=e)
  (Dc:∀ty,(Builtin.append_ #[t,u] ty #[d,e]).run P w = .ok v' w1) (h:wpList P ops Q rest (a.put o.dst v') w1):wpList P ops Q (o::rest) a w:=by
 refine wpList_plain c λK hK=>?_
 have b:=Dc o.type;unfold Oper.wp;simp[execOp,ho,resolve,invoke,builtin,hs,hx,b,Result.andThen];exact hK _ _ h
def zH{o:Oper}{a:Act}{K:Act->World->Prop}{E:Prop}(c:o.guard=none)(s x:Operand)(t u:TypeId)
  (ho:o.op = .call { callee:=.builtin .append,args:=#[s,x],argTypes:=#[t,u] }) (d e v':Value) (hs:a.eval s=d) (hx:a.eval x=e)
  (Dc:∀ty,(Builtin.append_ #[t,u] ty #[d,e]).run P w = .ok v' w1) (h:K (a.put o.dst v') w1) :
  if Region.wanted o (yielded ops a.tmps)=true then Oper.wp P o a w K Q else E:=by
 have hw:Region.wanted o (yielded ops a.tmps)=true:=by simp[Region.wanted,c]
 rw[AN hw];have b:=Dc o.type;unfold Oper.wp;simp[execOp,ho,resolve,invoke,builtin,hs,hx,b,Result.andThen];exact h
end
section
variable {P:Program}
def Jw(w:World)(t e:Nat)(i:TypeInfo)(z:Value)(size bytes:Nat)(E:P.underlying t=some (.slice e))(hi:P.info? e=some i)(M:i.zero=some z)
  (y:i.size=size) (G:i.bytes=bytes) (H:z.cells.size=size) (hsz:0<size)
  (v:Value) (n:Nat) (xs:List Value) (d:w.ownsRow 0 e size v n xs)
  (a:Addr) (m c:Nat) (b:List Value) (hl:b.length=m*size) (f:∀j u,b[j]?=some u->w.cell? (a.add j)=some u) (h1:∀u∈b,u.oneCell'=true)
  (A:n+m<=maxLen) (l:(n+m)*bytes<=140737488355328) :
  ∃v' w',(∀ty,(Builtin.append_ #[t,t] ty #[v,.slice (some a) m c]).run P w = .ok v' w')/\w'.ownsRow 0 e size v' (n+m) (xs++b)/\w.grownBy w' v.ownBlock/\Dy w v v'/\w'.ownsRow 0 e size v n xs:=by
 subst y;subst G;have F:n+m<=9223372036854775807:=by simp only[maxLen]at A;omega
 have o:(xs++b).length=(n+m)*i.size:=by rw[AF,d.1,hl,DO]
 have grown:∀(old:Nat),old<n+m->∀(row:Option Nat),
   (w.drew.alloc (.cells (xs.toArray++b.toArray++Builtin.zeroCells z.cells (grownCap w (n+m) old e-(n+m))) e)).ownsRow 0 e i.size
    (.slice (some ⟨w.heap.size,0,none⟩) (n+m) (grownCap w (n+m) old e)) (n+m) (xs++b) /\
   w.grownBy (w.drew.alloc (.cells (xs.toArray++b.toArray++Builtin.zeroCells z.cells (grownCap w (n+m) old e-(n+m))) e)) row:=by
  intro old ho row;have I:=grownCap_ge w (n+m) old e;have s:=grownCap_le_maxLen w (n+m) old e A;refine⟨⟨o,.inr ⟨w.heap.size,_,_,rfl,AL _,heap_alloc_new w.drew _,I,s,?_,?_⟩⟩,⟨rfl,rfl,rfl,by simp,λk hk _=>Below.heap_alloc w.drew _ k hk⟩⟩
  ·simp only[DA,Al,size_zeroCells,H,d.1,hl,<-Nat.add_mul]
   congr 1
   omega
  ·simp only[Cy,Av];rw[<-List.append_assoc,<-o];exact BH
 have q:∀c n v,Dy w v (.slice (some ⟨w.heap.size,0,none⟩) n c):=λc n v k hk=>by
  simp[Value.ownBlock]at hk;omega
 rcases d.2 with⟨rfl,rfl⟩|⟨g,cap,x,rfl,B,hg,J,s,K,r⟩
 ·have hx:=Ah (by simpa using d.1);subst hx;by_cases hm:m=0
  ·subst hm;have hn:=Ah (by simpa using hl);subst hn;refine⟨.slice none 0 0,w,λty=>?_,World.ownsRow_nil w 0 e i.size,⟨rfl,rfl,rfl,AG _,λ_ _ _=>rfl⟩,Dy.refl _ _,World.ownsRow_nil w 0 e i.size⟩;simp[Builtin.append_,run_underlying E,sizeOf,typeInfo,hi,Builtin.lenOf,Builtin.firstCells,loadCells,loadCellsFrom]
  ·have C:=λty=>run_append_nil (P:=P) w t ty e i z E hi M a m c b hl f (by omega) (by omega) (by have hb:=l;simp only[Au]at hb;omega)
   have p:=grown 0 (by omega) (Value.ownBlock (.slice none 0 0));simp only[Au,Am,Array.empty_append]at p ⊢;exact⟨_,_,C,p.1,p.2,q _ _ _,World.ownsRow_nil _ 0 e i.size⟩
 ·by_cases h:n+m<=cap
  ·have D:n*i.size+b.length<=x.size:=by rw[hl,K,<-Nat.add_mul];exact Bu _ h
   have C:=λty=>run_append_room (P:=P) w t ty e i E hi g n cap x hg a m c b hl f h1 h D
   refine⟨_,_,C,⟨o,.inr ⟨g,cap,_,rfl,B,setRow_heap w g x _ e _ hg,h,s,?_,?_⟩⟩,⟨rfl,rfl,rfl,by simp,λk _ hk=>setRow_other w g k _ (λe=>hk (by simp[Value.ownBlock,e]))⟩,λk hk=>.inl hk,⟨d.1,.inr ⟨g,cap,_,rfl,B,setRow_heap w g x _ e _ hg,J,s,?_,?_⟩⟩⟩
   ·simp only[Al,AF,AS,Ad,Bx];omega
   ·rw[r,<-o];exact BH
   ·simp only[Al,AF,AS,Ad,Bx];omega
   ·rw[r,<-d.1,Av];exact BH
  ·have holds:=d.cells (g:=g) rfl;have C:=λty=>run_append_grow (P:=P) w t ty e i z E hi M ⟨g,0,none⟩ n cap xs d.1 holds a m c b hl f (by omega) (by omega) (growslice_fits (by omega) l)
   have p:=grown cap (by omega) (Value.ownBlock (.slice (some ⟨g,0,none⟩) n cap));have L:=grown cap (by omega) none;exact⟨_,_,C,p.1,p.2,q _ _ _,d.kept L.2 (by simp[Value.ownBlock])⟩
def jK(w:World)(t u e:Nat)(i:TypeInfo)(B:P.underlying t=some (.slice e))(C:P.underlying u=some .string)(hi:P.info? e=some i)(L:i.zero=some (.int .u8 0))
  (d:i.size=1) (x:i.bytes=1) (v:Value) (n:Nat) (xs:List Value) (a:w.ownsRow 0 e 1 v n xs) (s:ByteArray) (y:n+s.size<=maxLen) (D:n+s.size<=140737488355328) :
  ∃v' w',(∀ty,(Builtin.append_ #[t,u] ty #[v,.string s]).run P w = .ok v' w')/\w'.ownsRow 0 e 1 v' (n+s.size) (xs++Lib.strCells s)/\w.grownBy w' v.ownBlock/\Dy w v v'/\w'.ownsRow 0 e 1 v n xs:=by
 have E:n+s.size<=9223372036854775807:=by simp only[maxLen]at y;omega
 have o:xs.length=n:=by simpa using a.1
 have f:(xs++Lib.strCells s).length=(n+s.size)*1:=by rw[AF,o,Lib.strCells_length,DN]
 have grown:∀(old:Nat),old<n+s.size->∀(row:Option Nat),
   (w.drew.alloc (.cells (xs.toArray++(Lib.strCells s).toArray++Builtin.zeroCells (Value.int .u8 0).cells (grownCap w (n+s.size) old e-(n+s.size))) e)).ownsRow 0 e 1
    (.slice (some ⟨w.heap.size,0,none⟩) (n+s.size) (grownCap w (n+s.size) old e)) (n+s.size) (xs++Lib.strCells s) /\
   w.grownBy (w.drew.alloc (.cells (xs.toArray++(Lib.strCells s).toArray++Builtin.zeroCells (Value.int .u8 0).cells (grownCap w (n+s.size) old e-(n+s.size))) e)) row:=by
  intro old ho row;have G:=grownCap_ge w (n+s.size) old e;have p:=grownCap_le_maxLen w (n+s.size) old e y;refine⟨⟨f,.inr ⟨w.heap.size,_,_,rfl,AL _,heap_alloc_new w.drew _,G,p,?_,?_⟩⟩,⟨rfl,rfl,rfl,by simp,λk hk _=>Below.heap_alloc w.drew _ k hk⟩⟩
  ·have H:(Value.int IntKind.u8 0).cells.size=1:=rfl;simp only[DA,Al,size_zeroCells,H,o,Lib.strCells_length];omega
  ·simp only[Cy,Av];rw[<-List.append_assoc,<-f];exact BH
 have j:∀c n v,Dy w v (.slice (some ⟨w.heap.size,0,none⟩) n c):=λc n v k hk=>by
  simp[Value.ownBlock]at hk;omega
 rcases a.2 with⟨rfl,rfl⟩|⟨g,cap,l,rfl,z,hg,I,p,J,q⟩
 ·have hx:=Ah o;subst hx;by_cases F:s.size=0
  ·have hn:=Ah (by rw[Lib.strCells_length];exact F);refine⟨.slice none 0 0,w,λty=>?_,by rw[F,hn];exact World.ownsRow_nil w 0 e 1,⟨rfl,rfl,rfl,AG _,λ_ _ _=>rfl⟩,Dy.refl _ _,World.ownsRow_nil w 0 e 1⟩;have hf:=Lib.run_firstCells_string (P:=P) w 1 s;rw[F]at hf;simp[Builtin.append_,run_underlying B,run_underlying C,sizeOf,typeInfo,hi,d,Builtin.lenOf,F,hf]
  ·have r:=λty=>run_append_nil_string (P:=P) w t u ty e i (.int .u8 0) B C hi L s (by omega) (by omega) (by rw[x];omega)
   have h:=grown 0 (by omega) (Value.ownBlock (.slice none 0 0));simp only[Au,Am,Array.empty_append]at h ⊢;have e1:(s.data.map λb=>Value.int .u8 b.toNat)=(Lib.strCells s).toArray:=by
    apply Array.ext';simp[Lib.strCells]
   rw[e1]at r;exact⟨_,_,r,h.1,h.2,j _ _ _,World.ownsRow_nil _ 0 e 1⟩
 ·by_cases m:n+s.size<=cap
  ·have M:l.size=cap:=by simpa using J
   have A:l.toList.take n=xs:=by simpa using q
   have r:=λty=>Lib.run_append_room_string (P:=P) w t u ty e i B C hi d g n cap l hg s m (by omega)
   refine⟨_,_,r,⟨f,.inr ⟨g,cap,_,rfl,z,setRow_heap w g l _ e _ hg,m,p,?_,?_⟩⟩,⟨rfl,rfl,rfl,by simp,λk _ hk=>setRow_other w g k _ (λe=>hk (by simp[Value.ownBlock,e]))⟩,λk hk=>.inl hk,⟨a.1,.inr ⟨g,cap,_,rfl,z,setRow_heap w g l _ e _ hg,I,p,?_,?_⟩⟩⟩
   ·simp only[Al,AF,AS,Ad,Bx,Lib.strCells_length];omega
   ·rw[A,<-f];exact BH
   ·simp only[Al,AF,AS,Ad,Bx,Lib.strCells_length];omega
   ·rw[A,<-a.1,Av];exact BH
  ·have holds:=a.cells (g:=g) rfl;have r:=λty=>Lib.run_append_grow_string (P:=P) w t u ty e i (.int .u8 0) B C hi L ⟨g,0,none⟩ n cap xs (by rw[d];simpa using o) holds s (by omega) (by omega) (by rw[x];exact growslice_fits (by omega) (by omega))
   have h:=grown cap (by omega) (Value.ownBlock (.slice (some ⟨g,0,none⟩) n cap));have K:=grown cap (by omega) none;exact⟨_,_,r,h.1,h.2,j _ _ _,a.kept K.2 (by simp[Value.ownBlock])⟩
end
def zR(l:List UInt8):List Value:=l.map λc=>.int .u8 (c.toNat:Int)
def Ig(l:List UInt8):(zR l).length=l.length:=by simp[zR]
def ML(a b:List UInt8):zR (a++b)=zR a++zR b:=by simp[zR]
def QI(l:List UInt8):∀u∈zR l,u.oneCell'=true:=by
 intro u a;simp only[zR,BT]at a;obtain⟨_,_,rfl⟩:=a;rfl
def OB(w:World)(v:Value)(l:List UInt8):Prop:=w.ownsRow 0 5 1 v l.length (zR l)
def OB.nil(w:World):OB w (.slice none 0 0) []:=World.ownsRow_nil w 0 _ 1
structure Dq(w:World)(v:Value)(l new:List UInt8)(v':Value)(w':World):Prop where
 own:OB w' v' (l++new)
 old:OB w' v l
 grown:w.grownBy w' v.ownBlock
 at_:Dy w v v'
variable{m:Nat}{v':Value}
def eM{n:Nat}{j:List Value}(h:w.ownsRow 0 e sz v n xs)(h':w.ownsRow 0 e sz v' m (xs++j))(hb:v'.ownBlock=v.ownBlock)(k:w'.ownsRow 0 e sz v' m (xs++j)):w'.ownsRow 0 e sz v n xs:=by
 rcases h.2 with⟨rfl,rfl⟩|⟨g,cap,cur,rfl,hbg,hg,l,o,p,q⟩
 ·have:=Ah (by simpa using h.1);subst this;exact World.ownsRow_nil w' 0 e sz
 ·rcases h'.2 with⟨rfl,_⟩|⟨g',t,u,rfl,_,c,x,y,d,i⟩
  ·simp[Value.ownBlock]at hb
  ·simp[Value.ownBlock]at hb;subst hb;rw[hg]at c;cases c;rcases k.2 with⟨r,_⟩|⟨g2,z,b,r,_,s,A,B,f,a⟩
   ·cases r
   ·cases r;refine⟨h.1,.inr ⟨g',cap,b,rfl,AL _,s,l,o,by rw[f,<-d,p],?_⟩⟩;have C:=h.1;have D:(b.toList.take (m*sz)).take (n*sz)=(xs++j).take (n*sz):=by rw[a]
    rw[BZ,<-C,BH]at D;have e3:=k.1;simp only[AF]at e3
    rwa [BM (by omega),C]at D
variable{l:List UInt8}
def Dq.refl(h:OB w v l):Dq w v l [] v w :=
 ⟨by simpa using h,h,⟨rfl,rfl,rfl,AG _,λ_ _ _=>rfl⟩,Dy.refl _ _⟩
variable{w1:World}
theorem Dq.trans{c:World}{d j:Value}{a b:List UInt8}(h:Dq w v l a d w1)(k:Dq w1 d (l++a) b j c):Dq w v l (a++b) j c:=by
 have f:w.grownBy c v.ownBlock:=⟨k.grown.os.trans h.grown.os,k.grown.tape.trans h.grown.tape,k.grown.output.trans h.grown.output,AO h.grown.size k.grown.size,λi hi m =>
  (k.grown.block i (Aw hi h.grown.size) (λe=>by
   rcases h.at_ i e.symm with x|x
   ·exact m x.symm
   ·omega)).trans (h.grown.block i hi m)⟩
 refine⟨by rw[<-List.append_assoc];exact k.own,?_,f,λi hi=>?_⟩
 ·by_cases hb:d.ownBlock=v.ownBlock
  ·have h1:=h.own;have h2:=k.old;unfold OB at h1 h2 ⊢;rw[ML]at h1 h2;exact eM h.old h1 hb h2
  ·refine h.old.kept k.grown ?_;cases hv:v.ownBlock with
   | none=>simp
   | some g=>simpa [hv]using λe=>hb (e.symm.trans hv.symm)
 ·rcases k.at_ i hi with x|x
  ·exact h.at_ i x
  ·exact .inr (AO h.grown.size x)
def zM(n:Nat):List UInt8 :=
 if n<64 then [UInt8.ofNat n]
 else if n<16384 then [UInt8.ofNat (n / 256+64),UInt8.ofNat n]
 else if n<1073741824 then [UInt8.ofNat (n / 16777216+128),UInt8.ofNat (n / 65536),UInt8.ofNat (n / 256),UInt8.ofNat n]
 else [UInt8.ofNat (n / 72057594037927936+192),UInt8.ofNat (n / 281474976710656),UInt8.ofNat (n / 1099511627776),UInt8.ofNat (n / 4294967296),UInt8.ofNat (n / 16777216),UInt8.ofNat (n / 65536),UInt8.ofNat (n / 256),UInt8.ofNat n]
def Nf:(prog.info? 5).map (λi=>(i.zero,i.size,i.bytes))=some (some (.int .u8 0),1,1):=by kernel_rfl
def LT(w:World)(v:Value)(l new:List UInt8)(cs:Array Value)(m:Nat)(h:OB w v l)(c:cs.toList=zR new)(f:new.length=m)(hl:l.length+m<=140737488355328):∃v' w',(∀ty,(Builtin.append_ #[60,60] ty #[v,.slice (some ⟨w.heap.size,0,none⟩) m m]).run prog (w.alloc (.cells cs 5)) = .ok v' w')/\Dq w v l new v' w':=by
 obtain⟨i,hi,hz,d,e⟩:=info_parts Nf;have b:(w.alloc (.cells cs 5)).ownsRow 0 5 1 v l.length (zR l):=World.ownsRow.alloc h _;have a:∀(j:Nat) u,(zR new)[j]?=some u->(w.alloc (.cells cs 5)).cell? ((⟨w.heap.size,0,none⟩:Addr).add j)=some u:=by
  intro j u hj;rw[zS];refine za (heap_alloc_new w _) ?_;rw[Au,<-Array.getElem?_toList,c];exact hj
 obtain⟨v',w',h1,h2,h3,h4,h5⟩:=Jw (P:=prog) (w.alloc (.cells cs 5)) 60 5 i (.int .u8 0) 1 1 underlying60 hi hz d e rfl (by decide) v l.length (zR l) b
  ⟨w.heap.size,0,none⟩ m m (zR new) (by rw[Ig,f,DN]) a (QI new) (by unfold maxLen;omega) (by omega)
 refine⟨v',w',h1,⟨?_,h5,?_,?_⟩⟩
 ·unfold OB;rw[AF,f,ML];exact h2
 ·exact⟨h3.os,h3.tape,h3.output,AO (by simp) h3.size,λk hk hn=>(h3.block k (by simp;omega) hn).trans (Below.heap_alloc w _ k hk)⟩
 ·intro k hk;rcases h4 k hk with x|x
  ·exact .inl x
  ·exact .inr (by simp at x;omega)
def Oe:∀a:Fin 64,bits BinOp.or IntKind.u8 ((a.val:Nat):Int) 64=((a.val+64:Nat):Int)/\bits BinOp.or IntKind.u8 ((a.val:Nat):Int) 128=((a.val+128:Nat):Int)/\bits BinOp.or IntKind.u8 ((a.val:Nat):Int) 192=((a.val+192:Nat):Int):=by decide +kernel
def Nd(n:Nat):Value.int .u8 ((UInt8.ofNat n).toNat:Int) = .int .u8 ((n:Int) % 256):=by
 rw[Bp]
 congr 1
def X1(v:Value)(l:List UInt8)(n:Nat)(w:World)(h:OB w v l)(hl:l.length<=70368744177664)(b:n<64):Calls prog 83 #[v,.int .u64 n] w λe w'=>∃v',e = .returned v'/\Dq w v l (zM n) v' w':=by
 have d1:(n:Int)<64:=by omega
 obtain⟨v',w',hr,Dc⟩:=LT w v l (zM n) #[.int .u8 (n:Int)] 1 h (by simp[zM,b,zR];omega) (by simp[zM,b]) (by omega);obtain⟨a,cap,rfl,_⟩:=zi h;have H:=zb Dc;clear Dc;go_enter func83,ntmps83;go_wp2_with (at_builtin;refine zm rfl _ _ _ _ rfl _ _ _ rfl rfl hr ?_);go_ret;exact⟨_,rfl,H.z⟩
def X0(v:Value)(l:List UInt8)(n:Nat)(w:World)(h:OB w v l)(hl:l.length<=70368744177664)(hn:64<=n)(b:n<16384):Calls prog 83 #[v,.int .u64 n] w λe w'=>∃v',e = .returned v'/\Dq w v l (zM n) v' w':=by
 have d1:¬(n:Int)<64:=by omega
 have d2:(n:Int)<16384:=by omega
 have c:(#[.int .u8 (bits BinOp.or IntKind.u8 ((n:Int) / 256) 64),.int .u8 ((n:Int) % 256)]:Array Value).toList=zR (zM n):=by
  have o:=Oe ⟨n / 256,by omega⟩;have e:((n / 256:Nat):Int)=(n:Int) / 256:=by omega
  simp only[e]at o;simp only[o.1];unfold zM;simp only[show ¬n<64 by omega,b,A5,BY,zR,Bt,DJ,Nd];simp;omega
 obtain⟨v',w',hr,Dc⟩:=LT w v l (zM n) (#[.int .u8 (bits BinOp.or IntKind.u8 ((n:Int) / 256) 64),.int .u8 ((n:Int) % 256)]:Array Value) 2 h c (by rw[<-Ig,<-c];rfl) (by omega);clear c;obtain⟨a,cap,rfl,_⟩:=zi h;have H:=zb Dc;clear Dc;go_enter func83,ntmps83;go_wp2_with (at_builtin;refine zm rfl _ _ _ _ rfl _ _ _ rfl rfl hr ?_);go_ret;exact⟨_,rfl,H.z⟩
def Xz(v:Value)(l:List UInt8)(n:Nat)(w:World)(h:OB w v l)(hl:l.length<=70368744177664)(hn:16384<=n)(b:n<1073741824):Calls prog 83 #[v,.int .u64 n] w λe w'=>∃v',e = .returned v'/\Dq w v l (zM n) v' w':=by
 have d1:¬(n:Int)<64:=by omega
 have d2:¬(n:Int)<16384:=by omega
 have d3:(n:Int)<1073741824:=by omega
 have c:(#[.int .u8 (bits BinOp.or IntKind.u8 ((n:Int) / 16777216) 128),.int .u8 ((n:Int) / 65536 % 256),.int .u8 ((n:Int) / 256 % 256),.int .u8 ((n:Int) % 256)]:Array Value).toList=zR (zM n):=by
  have o:=Oe ⟨n / 16777216,by omega⟩;have e:((n / 16777216:Nat):Int)=(n:Int) / 16777216:=by omega
  simp only[e]at o;simp only[o.2.1];unfold zM;simp only[show ¬n<64 by omega,show ¬n<16384 by omega,b,A5,BY,zR,Bt,DJ,Nd];simp;omega
 obtain⟨v',w',hr,Dc⟩:=LT w v l (zM n) (#[.int .u8 (bits BinOp.or IntKind.u8 ((n:Int) / 16777216) 128),.int .u8 ((n:Int) / 65536 % 256),.int .u8 ((n:Int) / 256 % 256),.int .u8 ((n:Int) % 256)]:Array Value) 4 h c (by rw[<-Ig,<-c];rfl) (by omega);clear c;obtain⟨a,cap,rfl,_⟩:=zi h;have H:=zb Dc;clear Dc;go_enter func83,ntmps83;go_wp2_with (at_builtin;refine zm rfl _ _ _ _ rfl _ _ _ rfl rfl hr ?_);go_ret;exact⟨_,rfl,H.z⟩
def Xy(v:Value)(l:List UInt8)(n:Nat)(w:World)(h:OB w v l)(hl:l.length<=70368744177664)(hn:1073741824<=n)(hn2:n<4611686018427387904):Calls prog 83 #[v,.int .u64 n] w λe w'=>∃v',e = .returned v'/\Dq w v l (zM n) v' w':=by
 have d1:¬(n:Int)<64:=by omega
 have d2:¬(n:Int)<16384:=by omega
 have d3:¬(n:Int)<1073741824:=by omega
 have b:(#[.int .u8 (bits BinOp.or IntKind.u8 ((n:Int) / 72057594037927936) 192),.int .u8 ((n:Int) / 281474976710656 % 256),.int .u8 ((n:Int) / 1099511627776 % 256),.int .u8 ((n:Int) / 4294967296 % 256),.int .u8 ((n:Int) / 16777216 % 256),.int .u8 ((n:Int) / 65536 % 256),.int .u8 ((n:Int) / 256 % 256),.int .u8 ((n:Int) % 256)]:Array Value).toList=zR (zM n):=by
  have o:=Oe ⟨n / 72057594037927936,by omega⟩;have e:((n / 72057594037927936:Nat):Int)=(n:Int) / 72057594037927936:=by omega
  simp only[e]at o;simp only[o.2.2];unfold zM;simp only[show ¬n<64 by omega,show ¬n<16384 by omega,show ¬n<1073741824 by omega,BY,zR,Bt,DJ,Nd];simp;omega
 obtain⟨v',w',hr,Dc⟩:=LT w v l (zM n) (#[.int .u8 (bits BinOp.or IntKind.u8 ((n:Int) / 72057594037927936) 192),.int .u8 ((n:Int) / 281474976710656 % 256),.int .u8 ((n:Int) / 1099511627776 % 256),.int .u8 ((n:Int) / 4294967296 % 256),.int .u8 ((n:Int) / 16777216 % 256),.int .u8 ((n:Int) / 65536 % 256),.int .u8 ((n:Int) / 256 % 256),.int .u8 ((n:Int) % 256)]:Array Value) 8 h b (by rw[<-Ig,<-b];rfl) (by omega);clear b;obtain⟨a,cap,rfl,_⟩:=zi h;have H:=zb Dc;clear Dc;go_enter func83,ntmps83;go_wp2_with (at_builtin;refine zm rfl _ _ _ _ rfl _ _ _ rfl rfl hr ?_);go_ret;exact⟨_,rfl,H.z⟩
def Fs(v:Value)(l:List UInt8)(n:Nat)(w:World)(h:OB w v l)(hl:l.length<=70368744177664)(hn:n<4611686018427387904):Calls prog 83 #[v,.int .u64 n] w λe w'=>∃v',e = .returned v'/\Dq w v l (zM n) v' w':=by
 by_cases h1:n<64
 ·exact X1 v l n w h hl h1
 ·by_cases h2:n<16384
  ·exact X0 v l n w h hl (by omega) h2
  ·by_cases h3:n<1073741824
   ·exact Xz v l n w h hl (by omega) h3
   ·exact Xy v l n w h hl (by omega) hn
def If(n:Int):IntKind.u32.wrap n=n % 4294967296:=by simp[IntKind.wrap,IntKind.bits,IntKind.signed]
def Nc(a b:Nat)(ha:a<4294967296)(hb:b<4294967296):bits .xor .u32 (a:Int) (b:Int)=((a ^^^ b:Nat):Int):=by
 have hx:a ^^^ b<2 ^ 32:=C2 (by omega) (by omega);have h1:(BitVec.ofInt 32 (a:Int)).toNat=a:=by
  rw[Bi,Bq];exact B6 (by omega)
 have h2:(BitVec.ofInt 32 (b:Int)).toNat=b:=by
  rw[Bi,Bq];exact B6 (by omega)
 show IntKind.u32.wrap ((BitVec.ofInt 32 (a:Int) ^^^ BitVec.ofInt 32 (b:Int)).toNat:Int)=_;rw[BitVec.toNat_xor,h1,h2,If];omega
def WR(a b:Nat)(ha:a<4294967296)(hb:b<4294967296):bits .and .u32 (a:Int) (b:Int)=((a &&& b:Nat):Int):=by
 have hx:a &&& b<2 ^ 32:=Nat.and_lt_two_pow _ (by omega);have h1:(BitVec.ofInt 32 (a:Int)).toNat=a:=by
  rw[Bi,Bq];exact B6 (by omega)
 have h2:(BitVec.ofInt 32 (b:Int)).toNat=b:=by
  rw[Bi,Bq];exact B6 (by omega)
 show IntKind.u32.wrap ((BitVec.ofInt 32 (a:Int) &&& BitVec.ofInt 32 (b:Int)).toNat:Int)=_;rw[BitVec.toNat_and,h1,h2,If];omega
def TF(a:Nat)(ha:a<4294967296):bits .and .u32 (a:Int) 15=((a % 16:Nat):Int):=by
 have:=WR a 15 ha (by omega);rw[show a &&& 15=a % 16 from Nat.and_two_pow_sub_one_eq_mod a 4]at this;exact this
def Kl:List Nat:=[0,498536548,997073096,651767980,1994146192,1802195444,1303535960,1342533948,3988292384,4027552580,3604390888,3412177804,2607071920,2262029012,2685067896,3183342108]
def ct(i:Nat):Nat:=Kl.getD i 0
def Od(i:Nat):ct i<4294967296:=by
 unfold ct;by_cases h:i<16
 ·have:∀j:Fin 16,Kl.getD j.val 0<4294967296:=by decide
  exact this ⟨i,h⟩
 ·rw[Ai,Bo (by simp[Kl];omega)]
  decide
def Hj(c:Nat):Nat:=(c / 16) ^^^ ct (c % 16)
def Gh(c:Nat)(x:UInt8):Nat:=Hj (Hj (c ^^^ x.toNat))
def EW(l:List UInt8):Nat:=l.foldl Gh 4294967295
def Dv(l:List UInt8):Nat:=4294967295 ^^^ EW l
def Jk(c:Nat)(h:c<4294967296):Hj c<4294967296:=C2 (n:=32) (by omega) (Od _)
def IG(c:Nat)(x:UInt8)(h:c<4294967296):c ^^^ x.toNat<4294967296:=C2 (n:=32) h (by have:=x.toNat_lt;omega)
def L8(c:Nat)(x:UInt8)(h:c<4294967296):Gh c x<4294967296:=Jk _ (Jk _ (IG c x h))
def Y4(l:List UInt8)(x:UInt8):EW (l++[x])=Gh (EW l) x:=by simp[EW]
theorem UB(l:List UInt8):∀c,c<4294967296->l.foldl Gh c<4294967296:=by
 induction l with
 | nil=>intro c h;exact h
 | cons x l ih=>intro c h;exact ih _ (L8 c x h)
def PI(l:List UInt8):EW l<4294967296:=UB l _ (by omega)
def BR(w:World)(v:Value)(l:List UInt8):Prop :=
 ∃a cap,v = .slice a l.length cap/\l.length<=cap/\cap<=maxLen/\∀i c,l[i]?=some c->∃g o,a=some ⟨g,o,none⟩/\w.cell? ⟨g,o+i,none⟩=some (.int .u8 (c.toNat:Int))
def OB.br(h:OB w v l):BR w v l:=by
 obtain⟨a,cap,rfl,h1,h2,h3⟩:=zi h;refine⟨a,cap,rfl,h1,h2,λi c hc=>?_⟩;have hi:=(AM.1 hc).1;obtain⟨g,rfl⟩:=h3 (by omega);refine⟨g,0,rfl,?_⟩;have:=h.cells (g:=g) rfl i (.int .u8 (c.toNat:Int)) (by simp[zR,hc])
 rwa [zS]at this
def Fc(w:World):Prop:=∀i,i<16->w.cell? ⟨1,i,none⟩=some (.int .u32 (ct i:Int))
variable{S:Nat->Prop}
def Fc.mod(h:Fc w)(m:DW S w w')(hs:¬S 1):Fc w':=λi hi=>m.cell (a:=⟨1,i,none⟩) hs (h i hi)
def Fc.lt(h:Fc w):1<w.heap.size:=zk (h 0 (by omega))
def UA(l:List UInt8)(k:Nat)(c:UInt8)(h:l[k]?=some c):l.take (k+1)=l.take k++[c]:=by
 rw[BD,h];rfl
def PH(v:Value)(l:List UInt8)(w:World)(h:BR w v l)(r:Fc w):Calls prog 125 #[v] w λe w'=>e = .returned (.int .u32 (Dv l:Int))/\w=w':=by
 obtain⟨a,cap,rfl,h1,h2,h3⟩:=h;unfold maxLen at h2;go_enter func125,ntmps125;go_wp2_with fail
 go_loop [3,8] (λc i=>∃k:Nat,k<=l.length/\i = .int .i64 k/\c = .int .u32 (EW (l.take k):Int)) (λ_ i=>l.length-(intOf i).toNat)
 case atStart=>exact⟨0,AL _,rfl,rfl⟩
 case round =>
  obtain⟨k,hk,rfl,rfl⟩:=hrel;by_cases s:k<l.length
  ·obtain⟨c,hc⟩:∃c,l[k]?=some c:=⟨l[k],AJ s⟩;obtain⟨g,o,rfl,f⟩:=h3 k c hc;have B:=zb (A0 EW (UA l k c hc));obtain⟨x,p⟩:=nm (EW (l.take k));have j:=PI (l.take k);rw[p]at j;have t:AA (EW (l.take (k+1))=Gh x c):=by
    show _=_;rw[B.z,Y4,p]
   rw[p];have u:=c.toNat_lt;obtain⟨d,hd⟩:=nm c.toNat;rw[hd]at f u;have e1:=Nc x d j (by omega);have q:=IG x c j;rw[hd]at q;obtain⟨y,m⟩:=nm (x ^^^ d);rw[m]at e1 q;have e2:=TF y q;have t1:=r (y % 16) (by omega);have C:=Nc (y / 16) (ct (y % 16)) (by omega) (Od _);have D:=Jk y q;obtain⟨z,b⟩:=nm (Hj y);rw[show(y / 16 ^^^ ct (y % 16))=z from b]at C;rw[b]at D;have e4:=TF z D;have t2:=r (z % 16) (by omega);have e5:=Nc (z / 16) (ct (z % 16)) (by omega) (Od _);have A:AA (Gh x c=(z / 16 ^^^ ct (z % 16))):=by
    show Hj (Hj (x ^^^ c.toNat))=_;rw[hd,m,b];rfl
   rw[show((y / 16:Nat):Int)=(y:Int) / 16 by omega]at C;rw[show((z / 16:Nat):Int)=(z:Int) / 16 by omega]at e5;clear B p hd m b h3 r hc;go_wp2_with fail
   go_round
   case rel=>exact⟨k+1,by omega,by go_num,by rw[t.z,A.z]⟩
   case measure=>simp[intOf];omega
  ·have n:l.take k=l:=AW (by omega);rw[n];have HE:AA (bits .xor .u32 IntKind.u32.max (EW l:Int)=(Dv l:Int)):=Nc 4294967295 (EW l) (by omega) (PI l);clear n;go_wp2_with fail;go_ret;exact⟨by rw[HE.z];rfl,rfl⟩
def LN(l:List UInt8):Dv l<4294967296:=C2 (n:=32) (by omega) (PI l)
def EG(s:Nat):List UInt8:=[UInt8.ofNat (s / 16777216),UInt8.ofNat (s / 65536),UInt8.ofNat (s / 256),UInt8.ofNat s]
def Xx(v:Value)(l:List UInt8)(w:World)(h:OB w v l)(hl:l.length<=70368744177664)(d:Fc w):Calls prog 86 #[v] w λe w'=>∃v',e = .returned v'/\Dq w v l (EG (Dv l)) v' w':=by
 have b:=PH v l w h.br d;have hc:=LN l;obtain⟨s,c⟩:=nm (Dv l);rw[c]at b hc;rw[c];obtain⟨v',w',hr,Dc⟩:=LT w v l (EG s) #[.int .u8 ((s:Int) / 16777216),.int .u8 ((s:Int) / 65536 % 256),.int .u8 ((s:Int) / 256 % 256),.int .u8 ((s:Int) % 256)] 4 h (by
  simp only[EG,zR,Bt,DJ,Nd];simp;omega) rfl (by omega)
 obtain⟨a,cap,rfl,_⟩:=zi h;have H:=zb Dc;clear Dc c d;go_enter func86,ntmps86;go_wp2_with (first|(go_at_call 125;refine b.mono ?_;rintro e w' ⟨rfl,rfl⟩)|(at_builtin;refine zm rfl _ _ _ _ rfl _ _ _ rfl rfl hr ?_));go_ret;exact⟨_,rfl,H.z⟩
def WQ(w:World)(v:Value)(l:List UInt8)(s:ByteArray)(h:OB w v l)(hl:l.length+s.size<=140737488355328):∃v' w',(∀ty,(Builtin.append_ #[60,9] ty #[v,.string s]).run prog w = .ok v' w')/\Dq w v l s.data.toList v' w':=by
 obtain⟨i,hi,hz,a,b⟩:=info_parts Nf;obtain⟨v',w',h1,h2,h3,h4,h5⟩:=jK (P:=prog) w 60 9 5 i underlying60 underlying9 hi hz a b v l.length (zR l) h s (by unfold maxLen;omega) (by omega);refine⟨v',w',h1,⟨?_,h5,h3,h4⟩⟩;unfold OB;rw[AF,ML];exact h2
def zq(l:List UInt8):ByteArray:=⟨l.toArray⟩
def zE(l:List UInt8):(zq l).size=l.length:=by simp[zq,ByteArray.size]
def IL(l:List UInt8):(zq l).data.toList=l:=by simp[zq]
def zu(n:Nat):(zM n).length<=8:=by
 unfold zM;split
 ·simp
 ·split
  ·simp
  ·split<;>simp
def PY(v:Value)(l s:List UInt8)(w:World)(h:OB w v l)(hl:l.length<=70368744177664)(hs:s.length<=35184372088832):Calls prog 181 #[v,.string (zq s)] w λe w'=>∃v',e = .returned v'/\Dq w v l (zM s.length++s) v' w':=by
 have hv:=Fs v l s.length w h hl (by omega);have hz:=zE s;have hzm:(zq s).size<=9223372036854775807:=by omega
 obtain⟨a,cap,rfl,_⟩:=zi h;go_enter func181,ntmps181;have hvl:(zM s.length).length<=8:=zu _;go_wp2_with (first|(go_at_call 83;refine hv.mono ?_;rintro e w1 ⟨v1,rfl,b⟩;obtain⟨v2,w2,d,c⟩:=WQ w1 v1 _ (zq s) b.own (by rw[AF];omega);rw[IL]at c;have H:=zb (b.trans c);clear b c)|(at_builtin;refine zm rfl _ _ _ _ rfl _ _ _ rfl rfl d ?_));go_ret;exact⟨_,rfl,H.z⟩
structure Db where
 kind:Int
 stream:Int
 off:Nat
 rel:Nat
 lim:Nat
 fin:Bool
 id:Nat
 dl:Nat
 data:List UInt8
 rngs:zC
def zh(f:Db)(rv:Value):Array Value :=
 #[.int .i64 f.kind,.int .i64 f.stream,.int .u64 f.off,.int .u64 f.rel,.int .u64 f.lim,.bool f.fin,.int .u64 f.id,.int .u64 f.dl,.string (zq f.data),rv]
def zj(w:World)(b:Nat)(f:Db)(rv:Value):Prop:=w.heap[b]?=some (.cells (zh f rv) 65 (0,0))
variable{f:Db}{i:Nat}{rv:Value}
def zj.cell(h:zj w b f rv)(hv:(zh f rv)[i]?=some v):w.cell? ⟨b,i,none⟩=some v:=za h hv
def zj.mod(h:zj w b f rv)(m:DW S w w')(hs:¬S b):zj w' b f rv:=m.obj hs h
variable{new:List UInt8}
def Dq.mod(h:Dq w v l new v' w'):DW (λk=>v.ownBlock=some k) w w':=(DW.refl _ w).grown h.grown (λk hk=>.inl hk)
def OB.apart(h:OB w v l)(hf:zj w b f rv):¬v.ownBlock=some b:=by
 intro hb;rcases h.2 with⟨rfl,_⟩|⟨g,cap,cur,rfl,_,hg,_⟩
 ·cases hb
 ·simp[Value.ownBlock]at hb;subst hb;unfold zj at hf;rw[hg]at hf;simp at hf
def zj.app(hf:zj w b f rv)(h:OB w v l)(ha:Dq w v l new v' w'):zj w' b f rv :=
 hf.mod ha.mod (h.apart hf)
def JA(w:World)(v:Value)(l:List UInt8)(t:UInt8)(z:Int)(h:OB w v l)(hz:z=(t.toNat:Int))(hl:l.length<=70368744177664):∃v' w',(∀ty,(Builtin.append_ #[60,60] ty #[v,.slice (some ⟨w.heap.size,0,none⟩) 1 1]).run prog (w.alloc (.cells #[.int .u8 z] 5)) = .ok v' w')/\Dq w v l [t] v' w' :=
 LT w v l [t] #[.int .u8 z] 1 h (by simp[zR,hz]) rfl (by omega)
def zj.cells(h:zj w b f rv):w.cell? ⟨b,0,none⟩=some (.int .i64 f.kind)/\w.cell? ⟨b,1,none⟩=some (.int .i64 f.stream)/\w.cell? ⟨b,2,none⟩=some (.int .u64 f.off)/\w.cell? ⟨b,3,none⟩=some (.int .u64 f.rel)/\w.cell? ⟨b,4,none⟩=some (.int .u64 f.lim) /\
  w.cell? ⟨b,5,none⟩=some (.bool f.fin)/\w.cell? ⟨b,6,none⟩=some (.int .u64 f.id)/\w.cell? ⟨b,7,none⟩=some (.int .u64 f.dl)/\w.cell? ⟨b,8,none⟩=some (.string (zq f.data))/\w.cell? ⟨b,9,none⟩=some rv :=
 ⟨h.cell rfl,h.cell rfl,h.cell rfl,h.cell rfl,h.cell rfl,h.cell rfl,h.cell rfl,h.cell rfl,h.cell rfl,h.cell rfl⟩
def Dq.drew(h:Dq w.drew v l new v' w'):Dq w v l new v' w' :=
 ⟨h.own,h.old,⟨h.grown.os,h.grown.tape,h.grown.output,h.grown.size,h.grown.block⟩,h.at_⟩
def OM(v:Value)(l:List UInt8)(z:Int)(w:World)(h:OB w v l)(hl:l.length<=70368744177664)(h0:0<=z)(hn:z<4611686018427387904):Calls prog 83 #[v,.int .u64 z] w λe w'=>∃v',e = .returned v'/\Dq w v l (zM z.toNat) v' w':=by
 have:=Fs v l z.toNat w h hl (by omega)
 rwa [Int.toNat_of_nonneg h0]at this
structure Db.Bounds(f:Db):Prop where
 s0:0<=f.stream
 s8:f.stream<8
 bo:f.off<4611686018427387904
 br:f.rel<4611686018427387904
 bl:f.lim<4611686018427387904
 bi:f.id<4611686018427387904
 bd:f.dl<4611686018427387904
 bt:f.data.length<=35184372088832
def F6(w:World)(tb ab:Nat)(t:UInt8):Prop:=w.cell? ⟨tb,0,none⟩=some (.int .u8 (t.toNat:Int))/\w.cell? ⟨ab,0,none⟩=some (.func (.func 186) #[] #[])
def F6.mod{tb b:Nat}{t:UInt8}(h:F6 w tb b t)(m:DW S w w')(h1:¬S tb)(h2:¬S b):F6 w' tb b t:=⟨m.cell (a:=⟨tb,0,none⟩) h1 h.1,m.cell (a:=⟨b,0,none⟩) h2 h.2⟩
def F6.app{tb b:Nat}{t:UInt8}(h:F6 w tb b t)(h1:¬v.ownBlock=some tb)(h2:¬v.ownBlock=some b)(a:Dq w v l new v' w'):F6 w' tb b t:=h.mod a.mod h1 h2
def P2(b:Nat)(w:World):Calls prog 186 #[.pointer (some ⟨b,0,none⟩)] w λe w'=>e = .returned (.pointer (some ⟨b,4,none⟩))/\w=w':=by
 go_enter func186,ntmps186;go_wp2_with fail;go_ret;exact⟨rfl,rfl⟩
def Hu(w:World)(v:Value)(l new:List UInt8)(e:Ending)(w':World):Prop:=∃v',e = .returned v'/\Dq w v l new v' w'
def I1(f:Db):List UInt8:=[17]++zM f.stream.toNat++zM f.lim
def J5(v:Value)(l:List UInt8)(b:Nat)(f:Db)(r:Value)(w:World)(hf:zj w b f r)(h:OB w v l)(hl:l.length<=35184372088832)(hb:f.Bounds):Calls prog 187 #[v,.pointer (some ⟨b,0,none⟩)] w (Hu w v l (I1 f)):=by
 obtain⟨s0,s8,bo,br,bl,bi,bd,bt⟩:=hb;have hwr:IntKind.u64.wrap f.stream=f.stream:=by rw[IntKind.wrap_u64];omega
 obtain⟨v1,w1,i,g⟩:=JA w.drew v l 17 17 h rfl (by omega);have s:=zj.app (w:=w.drew) hf h g;have L1:(l++[(17:UInt8)]).length<=35184372088832+1:=by simp;omega
 go_enter func187,ntmps187;go_wp2_with fail;refine zl 15 (λw'=>zj w' b f r) (hf) ?_;refine GI 0 ?_;refine GV rfl ?_;try simp only[PS]
 refine GI 3 ?_;iterate 5
  refine GV rfl ?_;try simp only[PS]
 refine GI 9 ?_;iterate 4
  refine GV rfl ?_;try simp only[PS]
 refine zw 1 rfl (λK c=>?_);go_simp;refine c.z _ _ ?_ ?_
 ·exact zj.mod (w:=w.drew) (S:=DX) hf ((DW.refl _ _).alloc _) (λx=>x)
 clear c K;try simp only[PS]
 refine zw 2 rfl (λK c=>?_);refine zH rfl _ _ _ _ rfl _ _ _ rfl rfl i ?_;refine c.z _ _ s ?_;clear c K;try simp only[PS]
 refine zw 8 rfl (λK c=>?_);go_simp;refine(OM v1 (l++([17])) (f.stream) w1 g.own (by omega) (by omega) (by omega)).mono ?_;rintro e w2 ⟨v2,rfl,d⟩;have t:=s.app g.own d;have q:=g.trans d;have L2:(l++([17]++zM f.stream.toNat)).length<=35184372088832+9:=by have:=zu (f.stream.toNat);simp at this L1 ⊢;omega
 refine c.z _ _ t ?_;clear d;clear c K;try simp only[PS]
 refine zw 13 rfl (λK c=>?_);go_simp;refine(Fs v2 (l++([17]++zM f.stream.toNat)) (f.lim) w2 q.own (by omega) (by omega)).mono ?_;rintro e w3 ⟨v3,rfl,d⟩;have F3:=t.app q.own d;have A3:=q.trans d;have L3:(l++([17]++zM f.stream.toNat++zM f.lim)).length<=35184372088832+17:=by have:=zu (f.lim);simp at this L2 ⊢;omega
 refine c.z _ _ F3 ?_;clear d;clear c K;try simp only[PS]
 refine GI 14 ?_;refine GV rfl ?_;try simp only[PS]
 refine zn ?_;go_wp2_with fail;go_ret;exact⟨_,rfl,A3.drew⟩
def I0(f:Db):List UInt8:=[36]++zM f.stream.toNat++zM f.off++zM f.rel
def J9(v:Value)(l:List UInt8)(b:Nat)(f:Db)(s:Value)(w:World)(hf:zj w b f s)(h:OB w v l)(hl:l.length<=35184372088832)(hb:f.Bounds):Calls prog 176 #[v,.pointer (some ⟨b,0,none⟩)] w (Hu w v l (I0 f)):=by
 obtain⟨s0,s8,bo,br,bl,bi,bd,bt⟩:=hb;have hwr:IntKind.u64.wrap f.stream=f.stream:=by rw[IntKind.wrap_u64];omega
 obtain⟨v1,w1,p,g⟩:=JA w.drew v l 36 36 h rfl (by omega);have t:=zj.app (w:=w.drew) hf h g;have L1:(l++[(36:UInt8)]).length<=35184372088832+1:=by simp;omega
 go_enter func176,ntmps176;go_wp2_with fail;refine zl 20 (λw'=>zj w' b f s) (hf) ?_;refine GI 0 ?_;refine GV rfl ?_;try simp only[PS]
 refine GI 3 ?_;iterate 5
  refine GV rfl ?_;try simp only[PS]
 refine GI 9 ?_;iterate 4
  refine GV rfl ?_;try simp only[PS]
 refine GI 14 ?_;iterate 4
  refine GV rfl ?_;try simp only[PS]
 refine zw 1 rfl (λK c=>?_);go_simp;refine c.z _ _ ?_ ?_
 ·exact zj.mod (w:=w.drew) (S:=DX) hf ((DW.refl _ _).alloc _) (λx=>x)
 clear c K;try simp only[PS]
 refine zw 2 rfl (λK c=>?_);refine zH rfl _ _ _ _ rfl _ _ _ rfl rfl p ?_;refine c.z _ _ t ?_;clear c K;try simp only[PS]
 refine zw 8 rfl (λK c=>?_);go_simp;refine(OM v1 (l++([36])) (f.stream) w1 g.own (by omega) (by omega) (by omega)).mono ?_;rintro e w2 ⟨v2,rfl,d⟩;have u:=t.app g.own d;have q:=g.trans d;have L2:(l++([36]++zM f.stream.toNat)).length<=35184372088832+9:=by have:=zu (f.stream.toNat);simp at this L1 ⊢;omega
 refine c.z _ _ u ?_;clear d;clear c K;try simp only[PS]
 refine zw 13 rfl (λK c=>?_);go_simp;refine(Fs v2 (l++([36]++zM f.stream.toNat)) (f.off) w2 q.own (by omega) (by omega)).mono ?_;rintro e w3 ⟨v3,rfl,d⟩;have y:=u.app q.own d;have r:=q.trans d;have L3:(l++([36]++zM f.stream.toNat++zM f.off)).length<=35184372088832+17:=by have:=zu (f.off);simp at this L2 ⊢;omega
 refine c.z _ _ y ?_;clear d;clear c K;try simp only[PS]
 refine zw 18 rfl (λK c=>?_);go_simp;refine(Fs v3 (l++([36]++zM f.stream.toNat++zM f.off)) (f.rel) w3 r.own (by omega) (by omega)).mono ?_;rintro e w4 ⟨v4,rfl,d⟩;have F4:=y.app r.own d;have A4:=r.trans d;have L4:(l++([36]++zM f.stream.toNat++zM f.off++zM f.rel)).length<=35184372088832+25:=by have:=zu (f.rel);simp at this L3 ⊢;omega
 refine c.z _ _ F4 ?_;clear d;clear c K;try simp only[PS]
 refine GI 19 ?_;refine GV rfl ?_;try simp only[PS]
 refine zn ?_;go_wp2_with fail;go_ret;exact⟨_,rfl,A4.drew⟩
def IF(f:Db):List UInt8:=[48]++zM f.id++zM f.dl++(zM f.data.length++f.data)
def J3(v:Value)(l:List UInt8)(b:Nat)(f:Db)(s:Value)(w:World)(hf:zj w b f s)(h:OB w v l)(hl:l.length<=35184372088832)(hb:f.Bounds):Calls prog 189 #[v,.pointer (some ⟨b,0,none⟩)] w (Hu w v l (IF f)):=by
 obtain⟨s0,s8,bo,br,bl,bi,bd,bt⟩:=hb;have hwr:IntKind.u64.wrap f.stream=f.stream:=by rw[IntKind.wrap_u64];omega
 obtain⟨v1,w1,p,g⟩:=JA w.drew v l 48 48 h rfl (by omega);have t:=zj.app (w:=w.drew) hf h g;have L1:(l++[(48:UInt8)]).length<=35184372088832+1:=by simp;omega
 go_enter func189,ntmps189;go_wp2_with fail;refine zl 19 (λw'=>zj w' b f s) (hf) ?_;refine GI 0 ?_;refine GV rfl ?_;try simp only[PS]
 refine GI 3 ?_;iterate 4
  refine GV rfl ?_;try simp only[PS]
 refine GI 8 ?_;iterate 4
  refine GV rfl ?_;try simp only[PS]
 refine GI 13 ?_;iterate 4
  refine GV rfl ?_;try simp only[PS]
 refine zw 1 rfl (λK c=>?_);go_simp;refine c.z _ _ ?_ ?_
 ·exact zj.mod (w:=w.drew) (S:=DX) hf ((DW.refl _ _).alloc _) (λx=>x)
 clear c K;try simp only[PS]
 refine zw 2 rfl (λK c=>?_);refine zH rfl _ _ _ _ rfl _ _ _ rfl rfl p ?_;refine c.z _ _ t ?_;clear c K;try simp only[PS]
 refine zw 7 rfl (λK c=>?_);go_simp;refine(Fs v1 (l++([48])) (f.id) w1 g.own (by omega) (by omega)).mono ?_;rintro e w2 ⟨v2,rfl,d⟩;have u:=t.app g.own d;have q:=g.trans d;have L2:(l++([48]++zM f.id)).length<=35184372088832+9:=by have:=zu (f.id);simp at this L1 ⊢;omega
 refine c.z _ _ u ?_;clear d;clear c K;try simp only[PS]
 refine zw 12 rfl (λK c=>?_);go_simp;refine(Fs v2 (l++([48]++zM f.id)) (f.dl) w2 q.own (by omega) (by omega)).mono ?_;rintro e w3 ⟨v3,rfl,d⟩;have y:=u.app q.own d;have r:=q.trans d;have L3:(l++([48]++zM f.id++zM f.dl)).length<=35184372088832+17:=by have:=zu (f.dl);simp at this L2 ⊢;omega
 refine c.z _ _ y ?_;clear d;clear c K;try simp only[PS]
 refine zw 17 rfl (λK c=>?_);go_simp;refine(PY v3 (l++([48]++zM f.id++zM f.dl)) f.data w3 r.own (by omega) bt).mono ?_;rintro e w4 ⟨v4,rfl,d⟩;have F4:=y.app r.own d;have A4:=r.trans d;refine c.z _ _ F4 ?_;clear d;clear c K;try simp only[PS]
 refine GI 18 ?_;refine GV rfl ?_;try simp only[PS]
 refine zn ?_;go_wp2_with fail;go_ret;exact⟨_,rfl,A4.drew⟩
def Iz(f:Db):List UInt8:=[8]++zM f.stream.toNat++zM f.off++(zM f.data.length++f.data)
def J8(v:Value)(l:List UInt8)(b:Nat)(f:Db)(t:Value)(w:World)(hf:zj w b f t)(h:OB w v l)(hl:l.length<=35184372088832)(hb:f.Bounds)(g:f.fin=false):Calls prog 180 #[v,.pointer (some ⟨b,0,none⟩)] w (Hu w v l (Iz f)):=by
 obtain⟨s0,s8,bo,br,bl,bi,bd,bt⟩:=hb;have hwr:IntKind.u64.wrap f.stream=f.stream:=by rw[IntKind.wrap_u64];omega
 obtain⟨v1,w1,q,i⟩:=JA w.drew v l 8 8 h rfl (by omega);have u:=zj.app (w:=w.drew) hf h i;have L1:(l++[(8:UInt8)]).length<=35184372088832+1:=by simp;omega
 have d5:w.cell? ⟨b,5,none⟩=some (.bool false):=by rw[<-g];exact hf.cell rfl
 go_enter func180,ntmps180;go_wp2_with fail;refine zl 21 (λw'=>zj w' b f t) (hf) ?_;refine GI 0 ?_;iterate 2
  refine GV rfl ?_;try simp only[PS]
 refine GI 4 ?_;iterate 5
  refine GV rfl ?_;try simp only[PS]
 refine GI 10 ?_;iterate 4
  refine GV rfl ?_;try simp only[PS]
 refine GI 15 ?_;iterate 4
  refine GV rfl ?_;try simp only[PS]
 refine zw 2 rfl (λK c=>?_);go_simp;refine c.z _ _ ?_ ?_
 ·exact zj.mod (w:=w.drew) (S:=DX) hf ((DW.refl _ _).alloc _) (λx=>x)
 clear c K;try simp only[PS]
 refine zw 3 rfl (λK c=>?_);refine zH rfl _ _ _ _ rfl _ _ _ rfl rfl q ?_;refine c.z _ _ u ?_;clear c K;try simp only[PS]
 refine zw 9 rfl (λK c=>?_);go_simp;refine(OM v1 (l++([8])) (f.stream) w1 i.own (by omega) (by omega) (by omega)).mono ?_;rintro e w2 ⟨v2,rfl,d⟩;have y:=u.app i.own d;have r:=i.trans d;have L2:(l++([8]++zM f.stream.toNat)).length<=35184372088832+9:=by have:=zu (f.stream.toNat);simp at this L1 ⊢;omega
 refine c.z _ _ y ?_;clear d;clear c K;try simp only[PS]
 refine zw 14 rfl (λK c=>?_);go_simp;refine(Fs v2 (l++([8]++zM f.stream.toNat)) (f.off) w2 r.own (by omega) (by omega)).mono ?_;rintro e w3 ⟨v3,rfl,d⟩;have z:=y.app r.own d;have s:=r.trans d;have L3:(l++([8]++zM f.stream.toNat++zM f.off)).length<=35184372088832+17:=by have:=zu (f.off);simp at this L2 ⊢;omega
 refine c.z _ _ z ?_;clear d;clear c K;try simp only[PS]
 refine zw 19 rfl (λK c=>?_);go_simp;refine(PY v3 (l++([8]++zM f.stream.toNat++zM f.off)) f.data w3 s.own (by omega) bt).mono ?_;rintro e w4 ⟨v4,rfl,d⟩;have F4:=z.app s.own d;have A4:=s.trans d;refine c.z _ _ F4 ?_;clear d;clear c K;try simp only[PS]
 refine GI 20 ?_;refine GV rfl ?_;try simp only[PS]
 refine zn ?_;go_wp2_with fail;go_ret;exact⟨_,rfl,A4.drew⟩
def I9(f:Db):List UInt8:=[9]++zM f.stream.toNat++zM f.off++(zM f.data.length++f.data)
def WP(v:Value)(l:List UInt8)(b:Nat)(f:Db)(t:Value)(w:World)(hf:zj w b f t)(h:OB w v l)(hl:l.length<=35184372088832)(hb:f.Bounds)(g:f.fin=true):Calls prog 180 #[v,.pointer (some ⟨b,0,none⟩)] w (Hu w v l (I9 f)):=by
 obtain⟨s0,s8,bo,br,bl,bi,bd,bt⟩:=hb;have hwr:IntKind.u64.wrap f.stream=f.stream:=by rw[IntKind.wrap_u64];omega
 obtain⟨v1,w1,q,i⟩:=JA w.drew v l 9 9 h rfl (by omega);have u:=zj.app (w:=w.drew) hf h i;have L1:(l++[(9:UInt8)]).length<=35184372088832+1:=by simp;omega
 have d5:w.cell? ⟨b,5,none⟩=some (.bool true):=by rw[<-g];exact hf.cell rfl
 go_enter func180,ntmps180;go_wp2_with fail;refine zl 21 (λw'=>zj w' b f t) (hf) ?_;refine GI 0 ?_;iterate 2
  refine GV rfl ?_;try simp only[PS]
 refine GI 4 ?_;iterate 5
  refine GV rfl ?_;try simp only[PS]
 refine GI 10 ?_;iterate 4
  refine GV rfl ?_;try simp only[PS]
 refine GI 15 ?_;iterate 4
  refine GV rfl ?_;try simp only[PS]
 refine zw 2 rfl (λK c=>?_);go_simp;refine c.z _ _ ?_ ?_
 ·exact zj.mod (w:=w.drew) (S:=DX) hf ((DW.refl _ _).alloc _) (λx=>x)
 clear c K;try simp only[PS]
 refine zw 3 rfl (λK c=>?_);refine zH rfl _ _ _ _ rfl _ _ _ rfl rfl q ?_;refine c.z _ _ u ?_;clear c K;try simp only[PS]
 refine zw 9 rfl (λK c=>?_);go_simp;refine(OM v1 (l++([9])) (f.stream) w1 i.own (by omega) (by omega) (by omega)).mono ?_;rintro e w2 ⟨v2,rfl,d⟩;have y:=u.app i.own d;have r:=i.trans d;have L2:(l++([9]++zM f.stream.toNat)).length<=35184372088832+9:=by have:=zu (f.stream.toNat);simp at this L1 ⊢;omega
 refine c.z _ _ y ?_;clear d;clear c K;try simp only[PS]
 refine zw 14 rfl (λK c=>?_);go_simp;refine(Fs v2 (l++([9]++zM f.stream.toNat)) (f.off) w2 r.own (by omega) (by omega)).mono ?_;rintro e w3 ⟨v3,rfl,d⟩;have z:=y.app r.own d;have s:=r.trans d;have L3:(l++([9]++zM f.stream.toNat++zM f.off)).length<=35184372088832+17:=by have:=zu (f.off);simp at this L2 ⊢;omega
 refine c.z _ _ z ?_;clear d;clear c K;try simp only[PS]
 refine zw 19 rfl (λK c=>?_);go_simp;refine(PY v3 (l++([9]++zM f.stream.toNat++zM f.off)) f.data w3 s.own (by omega) bt).mono ?_;rintro e w4 ⟨v4,rfl,d⟩;have F4:=z.app s.own d;have A4:=s.trans d;refine c.z _ _ F4 ?_;clear d;clear c K;try simp only[PS]
 refine GI 20 ?_;refine GV rfl ?_;try simp only[PS]
 refine zn ?_;go_wp2_with fail;go_ret;exact⟨_,rfl,A4.drew⟩
def Gg(t:UInt8)(f:Db):List UInt8:=[t]++zM f.lim
def TE(v:Value)(l:List UInt8)(b tb d:Nat)(t:UInt8)(f:Db)(j:Value)(w:World)(hf:zj w b f j)(hc:F6 w tb d t)(g:¬v.ownBlock=some tb)(i:¬v.ownBlock=some d)(h:OB w v l)(hl:l.length<=35184372088832)(hb:f.Bounds):Calls prog 213 #[v,.pointer (some ⟨b,0,none⟩),.pointer (some ⟨tb,0,none⟩),.pointer (some ⟨d,0,none⟩)] w (Hu w v l (Gg t f)):=by
 obtain⟨s0,s8,bo,br,bl,bi,bd,bt⟩:=hb;obtain⟨v1,k,n,m⟩:=JA w.drew v l t (t.toNat:Int) h rfl (by omega);have A:zj k b f j/\F6 k tb d t:=⟨zj.app (w:=w.drew) hf h m,F6.app (w:=w.drew) hc g i m⟩;have L1:(l++[t]).length<=35184372088832+1:=by simp;omega
 go_enter func213,ntmps213;go_wp2_with fail;refine zl 11 (λw'=>zj w' b f j/\F6 w' tb d t) (⟨hf,hc⟩) ?_;refine GI 0 ?_;iterate 2
  refine GV rfl ?_;try simp only[PS]
 refine GI 4 ?_;iterate 2
  refine GV rfl ?_;try simp only[PS]
 refine zw 2 rfl (λK c=>?_);go_simp;refine c.z _ _ ?_ ?_
 ·exact⟨zj.mod (w:=w.drew) (S:=DX) hf ((DW.refl _ _).alloc _) (λx=>x),F6.mod (w:=w.drew) (S:=DX) hc ((DW.refl _ _).alloc _) (λx=>x) (λx=>x)⟩
 clear c K;try simp only[PS]
 refine zw 3 rfl (λK c=>?_);refine zH rfl _ _ _ _ rfl _ _ _ rfl rfl n ?_;refine c.z _ _ A ?_;clear c K;try simp only[PS]
 refine zw 6 rfl (λK c=>?_);go_simp;refine(P2 b k).mono ?_;rintro e w' ⟨rfl,rfl⟩;refine c.z _ _ A ?_;clear c K;try simp only[PS]
 refine GI 7 ?_;iterate 2
  refine GV rfl ?_;try simp only[PS]
 refine zw 9 rfl (λK c=>?_);go_simp;refine(Fs v1 (l++[t]) f.lim k m.own (by omega) bl).mono ?_;rintro e B ⟨v2,rfl,C⟩;have z:=m.trans C;have F2:zj B b f j/\F6 B tb d t:=⟨zj.app (w:=w.drew) hf h z,F6.app (w:=w.drew) hc g i z⟩;refine c.z _ _ F2 ?_;clear C;clear c K;try simp only[PS]
 refine GI 10 ?_;refine GV rfl ?_;try simp only[PS]
 refine zn ?_;go_wp2_with fail;go_ret;exact⟨_,rfl,z.drew⟩
def KJ(v:Value)(l:List UInt8)(b:Nat)(w:World)(h:OB w v l)(hl:l.length<=35184372088832):Calls prog 170 #[v,.pointer (some ⟨b,0,none⟩)] w (Hu w v l [1]):=by
 obtain⟨v1,w1,c,d⟩:=JA w v l 1 1 h rfl (by omega);obtain⟨a,cap,rfl,_⟩:=zi h;have H:=zb d;clear d;go_enter func170,ntmps170;go_wp2_with (at_builtin;refine zm rfl _ _ _ _ rfl _ _ _ rfl rfl c ?_);go_ret;exact⟨_,rfl,H.z⟩
def RR(w:World)(v:Value)(rs:zC):Prop :=
 ∃a cap,v = .slice a rs.length cap/\rs.length<=cap/\cap<=maxLen/\∀i,i<rs.length->∃g o,a=some ⟨g,o,none⟩/\w.cell? ⟨g,o+i*2,none⟩=some (.int .u64 (Da rs i:Int))/\w.cell? ⟨g,o+i*2+1,none⟩=some (.int .u64 (DY rs i:Int))/\Da rs i<18446744073709551616/\DY rs i<18446744073709551616
def Dl(S:Nat->Prop)(v:Value):Prop:=∀g o n c,v = .slice (some ⟨g,o,none⟩) n c->¬S g
def RR.mod(h:RR w v rs)(m:DW S w w')(b:Dl S v):RR w' v rs:=by
 obtain⟨a,cap,rfl,h1,h2,h3⟩:=h;refine⟨a,cap,rfl,h1,h2,λi hi=>?_⟩;obtain⟨g,o,rfl,c1,c2,c3⟩:=h3 i hi;exact⟨g,o,rfl,m.cell (a:=⟨g,_,none⟩) (b g o _ _ rfl) c1,m.cell (a:=⟨g,_,none⟩) (b g o _ _ rfl) c2,c3⟩
def Dl.no(v:Value):Dl DX v:=λ_ _ _ _ _ x=>x
def Gw(rs:zC)(i:Nat):Bool :=
 decide (Da rs i<=DY rs i)&&decide (DY rs i<=4611686018427387903)&&(decide (i=0)||(decide (2<=Da rs (i-1))&&decide (DY rs i+2<=Da rs (i-1))))
def Gv(rs:zC)(k:Nat):Bool:=(List.range k).all (Gw rs)
def Y3(rs:zC)(k:Nat):Gv rs (k+1)=(Gv rs k&&Gw rs k):=by simp[Gv,Bf]
def Eh(rs:zC):Bool:=Gv rs rs.length&&decide (0<rs.length)
def eL(hk:k<rs.length)(h:Gw rs k=false):Eh rs=false:=by
 unfold Eh;have:Gv rs rs.length=false:=by
  cases hq:Gv rs rs.length
  ·rfl
  ·unfold Gv at hq;rw[Cr]at hq;have:=hq k (Bg.2 hk);rw[h]at this;cases this
 rw[this];rfl
def IS(w:World)(x:Bool)(e:Ending)(w':World):Prop:=e = .returned (.bool x)/\DW DX w w'
def T8(b:Nat)(f:Db)(D:Value)(w:World)(hf:zj w b f D)(v:RR w D f.rngs)(hb:f.rngs.length<=1099511627776):Calls prog 175 #[.pointer (some ⟨b,0,none⟩)] w (IS w (Eh f.rngs)):=by
 have c9:=hf.cells.2.2.2.2.2.2.2.2.2;obtain⟨a,cap,rfl,h1,h2,h3⟩:=id v;unfold maxLen at h2;clear h3;go_enter func175,ntmps175;go_wp2_with fail
 go_loopw [10] (λi wr=>∃k:Nat,k<=f.rngs.length/\i = .int .i64 k/\Gv f.rngs k=true/\DW DX w wr) (λi _=>f.rngs.length-(intOf i).toNat)
 case atStart=>exact⟨0,AL _,rfl,rfl,DW.refl _ _⟩
 case round =>
  obtain⟨k,hk,rfl,q,c⟩:=hrel;have d:=zb q;clear q;by_cases r:k<f.rngs.length
  ·obtain⟨a',E,hv,_,_,h3⟩:=v.mod c (Dl.no _);cases hv;obtain⟨g,o,rfl,F,e2,b1,b2⟩:=h3 k r;have p:0<k->wr.cell? ⟨g,o+(k-1)*2,none⟩=some (.int .u64 (Da f.rngs (k-1):Int))/\Da f.rngs (k-1)<18446744073709551616:=λh0=>by
    obtain⟨g',o',hg,p,_,b3,_⟩:=h3 (k-1) (by omega);cases hg;exact⟨p,b3⟩
   have s:=(hf.mod c (λx=>x)).cells.2.2.2.2.2.2.2.2.2;have hbl:=zk s;have hgl:=zk F;have G:=zb (Y3 f.rngs k);have u:=zb (λh=>eL (rs:=f.rngs) r h);have e:AA (Gw f.rngs k=(decide (Da f.rngs k<=DY f.rngs k)&&decide (DY f.rngs k<=4611686018427387903)&&(decide (k=0)||(decide (2<=Da f.rngs (k-1))&&decide (DY f.rngs k+2<=Da f.rngs (k-1)))))):=rfl;obtain⟨lo,j⟩:=nm (Da f.rngs k);obtain⟨hi,l⟩:=nm (DY f.rngs k);obtain⟨m,n⟩:=nm (Da f.rngs (k-1));rw[j,l,n]at e;rw[j]at F b1;rw[l]at e2 b2;rw[n]at p;clear j l n h3 v;clear hf c9;by_cases d1:hi<lo
   ·have y:decide (hi<lo)=true:=by simpa using d1
    go_wp2_with fail;go_quiet (fail);go_wp2_with fail;go_ret;exact⟨by rw[u.z (by rw[e.z];simp;omega)];rfl,(c.alloc _).drewN _⟩
   ·have y:decide (hi<lo)=false:=by simpa using d1
    by_cases d2:(4611686018427387903:Int)<hi
    ·have z:decide ((4611686018427387903:Int)<hi)=true:=by simpa using d2
     go_wp2_with fail;go_quiet (fail);go_wp2_with fail;go_ret;exact⟨by rw[u.z (by rw[e.z];simp;omega)];rfl,(c.alloc _).drewN _⟩
    ·have z:decide ((4611686018427387903:Int)<hi)=false:=by simpa using d2
     by_cases H:0<k
     ·have A:decide (0<k)=true:=by simpa using H
      obtain⟨e4,b4⟩:=p (by omega);have s1:IntKind.i64.wrap ((k:Int)-1)=(k:Int)-1:=IntWalk.i64_in _ (by omega);have s2:((k:Int)-1).toNat=k-1:=by omega
      have s3:0<=(k:Int)-1:=by omega
      have s4:(k:Int)-1<f.rngs.length:=by omega
      clear p;by_cases I:(m:Int)<2
      ·have B:decide ((m:Int)<2)=true:=by simpa using I
       go_wp2_with fail;go_quiet (fail);go_wp2_with fail;go_ret;exact⟨by rw[u.z (by rw[e.z];simp;omega)];rfl,(c.alloc _).drewN _⟩
      ·have B:decide ((m:Int)<2)=false:=by simpa using I
       have s5:=wu ((m:Int)-2) (by omega);by_cases J:(m:Int)-2<hi
       ·have C:decide ((m:Int)-2<hi)=true:=by simpa using J
        go_wp2_with fail;go_quiet (fail);go_wp2_with fail;go_ret;exact⟨by rw[u.z (by rw[e.z];simp;omega)];rfl,(c.alloc _).drewN _⟩
       ·have C:decide ((m:Int)-2<hi)=false:=by simpa using J
        go_wp2_with fail;go_quiet (fail);go_wp2_with fail;go_roundw
        case rel=>exact⟨k+1,by omega,by go_num,by rw[G.z,d.z,e.z];simp;omega,(c.alloc _).drewN _⟩
        case measure=>simp[intOf];omega
     ·have A:decide (0<k)=false:=by simpa using H
      clear p;go_wp2_with fail;go_quiet (fail);go_wp2_with fail;go_roundw
      case rel=>exact⟨k+1,by omega,by go_num,by rw[G.z,d.z,e.z];simp;omega,(c.alloc _).drewN _⟩
      case measure=>simp[intOf];omega
  ·have t:k=f.rngs.length:=by omega
   have HE:AA (Eh f.rngs=decide (0<f.rngs.length)):=by
    show _=_;unfold Eh;have:=d.z;rw[t]at this;rw[this];simp
   have s:=(hf.mod c (λx=>x)).cells.2.2.2.2.2.2.2.2.2;clear t;go_wp2_with fail;go_ret;exact⟨by rw[HE.z];rfl,c⟩
end
section
open Go.RowKit Go.Proofs.Tryz Go.Shelf
attribute [local go_sem] Oper.semAt_some
def Ey(rs:zC)(k:Nat):List (Nat×(Nat×Nat)):=(List.range k).map λj=>(rs.length-1-j,(Da rs (rs.length-1-j),DY rs (rs.length-1-j)))
def iB(rs:zC)(k:Nat):Ey rs (k+1)=Ey rs k++[(rs.length-1-k,(Da rs (rs.length-1-k),DY rs (rs.length-1-k)))]:=by simp[Ey,Bf]
def iq(rs:zC)(k:Nat):(Ey rs k).length=k:=by simp[Ey]
def Ip(x:Nat×(Nat×Nat)):Array Value:=#[.int .i64 x.1,.agg #[.int .u64 x.2.1,.int .u64 x.2.2]]
def E9(b:Nat)(a:Option Addr)(W W':World):Prop:=W'.heap[b]?=W.heap[b]?/\∀g o,a=some ⟨g,o,none⟩->W'.heap[g]?=W.heap[g]?
def E9.refl(Bs:Nat)(a:Option Addr)(W:World):E9 Bs a W W:=⟨rfl,λ_ _ _=>rfl⟩
variable{a:Option Addr}
def E9.trans{b:Nat}{A B C:World}(h:E9 b a A B)(k:E9 b a B C):E9 b a A C:=⟨k.1.trans h.1,λg o e=>(k.2 g o e).trans (h.2 g o e)⟩
variable{v:Value}
def E9.box{b:Nat}{A B:World}(h:E9 b a A B)(hc:A.cell? ⟨b,0,none⟩=some v):B.cell? ⟨b,0,none⟩=some v:=(World.cell?_of_block h.1).trans hc
variable{g o:Nat}
def E9.row{Bs x:Nat}{A B:World}(h:E9 Bs (some ⟨g,o,none⟩) A B)(hc:A.cell? ⟨g,x,none⟩=some v):B.cell? ⟨g,x,none⟩=some v:=(World.cell?_of_block (h.2 g o rfl)).trans hc
def Xw(F:Fence)(n:Nat)(hF:F.fn 215)(z:F.round=none)(hn:1<=n)(l w cap:Nat)(a:Option Addr)(rs:zC)(J y:List (Nat×(Nat×Nat))->World->Prop)
  (A:∀pre x W,J pre W->pre.length<rs.length->YieldAt F (n-1) prog l (Ip x) W λe W' =>
   (e = .returned (.bool true)/\J (pre++[x]) W'/\E9 w a W W')\/(e = .returned (.bool false)/\y (pre++[x]) W'))
  (W:World) (h:W.cell? ⟨w,0,none⟩=some (.slice a rs.length cap)) (hr:RR W (.slice a rs.length cap) rs) (h0:J [] W) :
  CallsIn F n prog 215 #[.func (.yield l) #[] #[],.pointer (some ⟨w,0,none⟩)] W λe W'=>(∃v,e = .returned v) /\
   ((∃ys,ys=Ey rs rs.length/\J ys W')\/(∃pre,(∃k,k<=rs.length/\pre=Ey rs k)/\y pre W')):=by
 obtain⟨_,_,e,r1,r2,B⟩:=hr;cases e;unfold maxLen at r2;have H:(rs.length:Int)<=9223372036854775807:=by omega
 refine callsIn_of_wp func215 rfl hF ?_ z;simp only[ntmps215,Al,AQ,AX,Nat.reduceAdd,Nat.reduceSub,A8,A7,BG,BB,Am,BI];gi_wp2
 gi_loopw [3] (λi wr=>∃k:Nat,k<=rs.length/\i = .int .i64 ((rs.length:Int)-1-k)/\J (Ey rs k) wr/\E9 w a W wr) (λi _=>(intOf i+1).toNat)
 case atStart=>exact⟨0,AL _,by simp,h0,E9.refl _ _ _⟩
 case round =>
  obtain⟨k,hk,rfl,c,b⟩:=hrel;by_cases C:k<rs.length
  ·obtain⟨q,I⟩:=nm (rs.length-1-k);have j:(rs.length:Int)-1-k=(q:Int):=by omega
   have D:q<rs.length:=by omega
   obtain⟨g,o,rfl,c1,c2,_,_⟩:=B q D;have d:=b.box h;have p:=b.row c1;have r:=b.row c2;obtain⟨fn,tmps,assign,body,K,L⟩:=A _ (q,(Da rs q,DY rs q)) wr c (by rw[iq];exact C);have HB:=zb (iB rs k);have M:=zb I;have N:=zb c;have E:=zb j;unfold Ip at K;dsimp only at K;rw[j];clear I c B c1 c2 j;gi_wp2;refine L.mono ?_;clear L A;rintro e O (⟨rfl,s,t⟩|⟨rfl,f⟩)
   ·have m:AA (J (Ey rs (k+1)) O):=by
     show J _ _;rw[HB.z,M.z];exact s
    have G:=zb (b.trans t);clear s t b d p r h;gi_wp2;go_roundw
    case rel=>exact⟨k+1,by omega,by rw[<-E.z];congr 1;omega,m.z,G.z⟩
    case measure=>simp[intOf]
   ·have m:AA (y (Ey rs (k+1)) O):=by
     show y _ _;rw[HB.z,M.z];exact f
    clear f b d p r h;gi_wp2;refine bodyPost_ret (results_none rfl _ _ _) rfl ?_;exact⟨⟨_,rfl⟩,.inr ⟨_,⟨k+1,by omega,rfl⟩,m.z⟩⟩
  ·have u:k=rs.length:=by omega
   have N:=zb c;have HK:=zb u;have P:¬(0:Int)<=(rs.length:Int)-1-k:=by omega
   clear c u B A;gi_wp2
   go_end0
   exact⟨⟨_,rfl⟩,.inl (by rw[<-HK.z];exact N.z)⟩
def RM(F:Fence)(n:Nat)(hF:F.fn 194)(b:F.round=none)(a:Option Addr)(len cap:Nat)(w:World):CallsIn F n prog 194 #[.slice a len cap] w λe w'=>e = .returned (.func (.func 215) #[] #[.pointer (some ⟨w.heap.size,0,none⟩)])/\w'=w.alloc (.cells #[.slice a len cap] 63):=by
 refine callsIn_of_wp func194 rfl hF ?_ b;simp only[ntmps194,Al,AQ,AX,Nat.reduceAdd,Nat.reduceSub,A8,A7,BG,BB,Am,BI];gi_wp2;go_ret;exact⟨rfl,rfl⟩
def eK(F:Fence)(n:Nat)(hF:F.fn 215)(d:F.round=none)(hn:1<=n)(b cap:Nat)(a:Option Addr)(rs:zC)(w:World)(c:w.cell? ⟨b,0,none⟩=some (.slice a rs.length cap))(hr:RR w (.slice a rs.length cap) rs):SeqStopsK F n prog 215 #[.pointer (some ⟨b,0,none⟩)] Ip (E9 b a) (λys=>ys=Ey rs rs.length) (λpre=>∃k,k<=rs.length/\pre=Ey rs k) rs.length w:=λl J Jx W f _ _ hY h0=>by
 have h:=zk c;refine Xw F n hF d hn l b cap a rs J Jx hY W ((f.cell (p:=⟨b,0,none⟩) h).trans c) ?_ h0;obtain⟨_,_,e,h1,h2,h3⟩:=hr;cases e;refine⟨_,_,rfl,h1,h2,λi hi=>?_⟩;obtain⟨g,o,e,j,q2,q3,q4⟩:=h3 i hi;have hl:=zk j;exact⟨g,o,e,(f.cell (p:=⟨g,_,none⟩) hl).trans j,(f.cell (p:=⟨g,_,none⟩) hl).trans q2,q3,q4⟩
end
section
open Go.RowKit Go.Proofs.Tryz
def Kx(F:FuncId)(a:Array Value)(n:Nat)(p:Nat->Bool)(w:World):Prop :=
 ∀i k,i<n->Calls prog F (#[.int .i64 i]++a) (w.drewN k) λe w'=>e = .returned (.bool (p i))/\∃k,w'=w.drewN k
def NM(F:FuncId):Prop:=∀args w,(callFunc F args).run prog w = .ok (.enter F args) w
def Eo(n:Nat)(p:Nat->Bool)(m:Nat):Prop:=m<=n/\(0<m->p (m-1)=false)/\(m<n->p m=true)
def Oq(n:Nat)(F:FuncId)(c:Array Value)(p:Nat->Bool)(w:World)(hn:n<=4611686018427387904)(hF:NM F)(hp:Kx F c n p w):Calls prog 152 #[.int .i64 n,.func (.func F) #[] c] w λe w'=>∃m:Nat,Eo n p m/\e = .returned (.int .i64 m)/\∃k,w'=w.drewN k:=by
 go_enter func152,ntmps152;go_wp2_with fail
 go_loopw [5,6] (λi j w'=>∃a b:Nat,a<=b/\b<=n/\i = .int .i64 a/\j = .int .i64 b/\(0<a->p (a-1)=false)/\(b<n->p b=true)/\∃k,w'=w.drewN k) (λi j _=>((intOf j)-(intOf i)).toNat)
 case atStart=>exact⟨0,n,by omega,by omega,rfl,rfl,by omega,by omega,0,rfl⟩
 case round =>
  obtain⟨a,b,hab,hbn,rfl,rfl,h1,h2,k,rfl⟩:=hrel;by_cases hlt:a<b
  ·have e1:(a+b) / 2<n:=by omega
   have H:=hp ((a+b) / 2) k e1;have e2:0<=(a:Int)+b:=by omega
   have g:(((a+b) / 2:Nat):Int)=((a:Int)+b) / 2:=by omega
   rw[g]at H;have hF':∀args w,(callFunc F args).run prog w = .ok (.enter F args) w:=hF;clear g;cases hpv:p ((a+b) / 2)
   ·rw[hpv]at H;have d:AA (p ((a+b) / 2)=false):=hpv;clear hpv;go_wp2_with (refine H.mono ?_;rintro e w' ⟨rfl,f,rfl⟩);go_roundw
    case rel=>exact⟨(a+b) / 2+1,b,by omega,by omega,by go_num,rfl,λ_=>d,h2,f,rfl⟩
    case measure=>simp[intOf];omega
   ·rw[hpv]at H;have d:AA (p ((a+b) / 2)=true):=hpv;clear hpv;go_wp2_with (refine H.mono ?_;rintro e w' ⟨rfl,f,rfl⟩);go_roundw
    case rel=>exact⟨a,(a+b) / 2,by omega,by omega,rfl,by go_num,h1,λ_=>d,f,rfl⟩
    case measure=>simp[intOf];omega
  ·go_wp2_with fail;go_ret;exact⟨a,⟨by omega,h1,λh=>by have e:a=b:=(by omega);rw[e];exact h2 (by omega)⟩,rfl,k,rfl⟩
structure ET(w:World)(b o:Nat)(v:Value)(rs:zC)(fl most:Nat):Prop where
 cl:w.cell? ⟨b,o,none⟩=some v
 cf:w.cell? ⟨b,o+1,none⟩=some (.int .u64 fl)
 cm:w.cell? ⟨b,o+2,none⟩=some (.int .i64 most)
 own:w.ownsRow 0 214 2 v rs.length (zo rs)
 len:rs.length<=1099511627776
 fz:∀j,w.frozen? ⟨b,j,none⟩=false
variable{S:Nat->Prop}{b o:Nat}{rs:zC}{v:Value}{w w':World}
def ET.mod{fl most:Nat}(h:ET w b o v rs fl most)(m:DW S w w')(hb:¬S b)(hs:∀g,v.ownBlock=some g->¬S g):ET w' b o v rs fl most :=
 ⟨m.cell hb h.cl,m.cell hb h.cf,m.cell hb h.cm,m.owns h.own hs,h.len,λj=>by rw[World.frozen?_of_block (w:=w) (m.block b (zk h.cl) hb)];exact h.fz j⟩
def JU(rs:zC)(n:Nat)(i:Nat):Bool:=decide (n<=DY rs i)
def Xv(rs:zC)(fl most i b o c d n:Nat)(v:Value)(w:World)
  (hs:w.cell? ⟨c,0,none⟩=some (.pointer (some ⟨b,o,none⟩))) (hn:w.cell? ⟨d,0,none⟩=some (.int .u64 n))
  (h:ET w b o v rs fl most) (hi:i<rs.length) :
  Calls prog 153 #[.int .i64 i,.pointer (some ⟨c,0,none⟩),.pointer (some ⟨d,0,none⟩)] w λe w'=>e = .returned (.bool (JU rs n i))/\∃k,w'=w.drewN k:=by
 obtain⟨a,cap,rfl,h1,h2,h3⟩:=zi h.own;obtain⟨g,rfl⟩:=h3 (by omega);have hl:=h.cl;have hr:=(IM h.own i hi).2;have hi1:(i:Int)<rs.length:=by omega
 have hi0:0<=(i:Int):=by omega
 unfold maxLen at h2;clear h3;go_enter func153,ntmps153;go_wp2_with fail;go_quiet (fail);go_wp2_with fail;go_ret;exact⟨rfl,_,rfl⟩
def Gf(rs:zC)(fl n:Nat):Bool:=decide (n<fl)||rs.any λr=>decide (r.1<=n)&&decide (n<=r.2)
def iA:NM 153:=λargs w=>Nq func153 (by kernel_rfl) rfl args w
def Xu(rs:zC)(fl most b o n:Nat)(v:Value)(w:World)(h:ET w b o v rs fl most):Calls prog 87 #[.pointer (some ⟨b,o,none⟩),.int .u64 n] w λe w'=>∃m,Eo rs.length (JU rs n) m/\e = .returned (.bool (decide (n<fl)||decide (m<rs.length)&&decide (Da rs m<=n)))/\Below w.heap.size w w':=by
 have hbw:=zk h.cl;have f:=h.len;obtain⟨a,cap,hv,h1,h2,h3⟩:=zi h.own;unfold maxLen at h2;have c:=Oq rs.length 153 #[.pointer (some ⟨w.heap.size,0,none⟩),.pointer (some ⟨w.heap.size+1,0,none⟩)] (JU rs n) ((w.alloc (.cells #[.pointer (some ⟨b,o,none⟩)] 114)).alloc (.cells #[.int .u64 n] 43)) (by omega) iA (by
  intro i k hi;have d:DW DX w (((w.alloc (.cells #[.pointer (some ⟨b,o,none⟩)] 114)).alloc (.cells #[.int .u64 n] 43)).drewN k):=(((DW.refl _ _).alloc _).alloc _).drewN k;exact(Xv rs fl most i b o w.heap.size (w.heap.size+1) n v _ (by simp) (by simp) (h.mod d (λx=>x) (λ_ _ x=>x)) hi).mono λe w' ⟨he,k',hw⟩=>⟨he,k+k',by rw[hw,World.drewN_drewN]⟩)
 have hl:=h.cl;have hf:=h.cf;subst hv;go_enter func87,ntmps87;go_wp2_with (go_at_call 152;refine c.mono ?_;rintro e w' ⟨m,d,rfl,k,rfl⟩);have fin:∀j,Below w.heap.size w ((((w.alloc (.cells #[.pointer (some ⟨b,o,none⟩)] 114)).alloc (.cells #[.int .u64 n] 43)).drewN k).drewN j):=λj=>(((((DW.refl DX _).alloc _).alloc _).drewN k).drewN j).below
 by_cases c1:n<fl
 ·have d1:decide ((n:Int)<fl)=true:=by simp;omega
  go_quiet (fail);go_wp2_with fail;go_ret;exact⟨m,d,by simp[c1],fin _⟩
 ·have d1:decide ((n:Int)<fl)=false:=by simp;omega
  by_cases c2:m<rs.length
  ·have d2:decide ((m:Int)<rs.length)=true:=by simp;omega
   obtain⟨g,rfl⟩:=h3 (by omega);have hr:=(IM h.own m c2).1;have hg:=zk hr;clear h3 c;go_quiet (fail);go_wp2_with fail;go_ret;exact⟨m,d,by simp[c1,c2],fin _⟩
  ·have d2:decide ((m:Int)<rs.length)=false:=by simp;omega
   clear h3 c;go_quiet (fail);go_wp2_with fail;go_ret;exact⟨m,d,by simp[c1,c2],fin _⟩
def UD(most:Int)(w:World)(hm:most<=9223372036854775807)(hl : -9223372036854775808<=most):Calls prog 102 #[.int .i64 most] w λe w'=>e = .returned (.pointer (some ⟨w.heap.size,0,none⟩))/\w'=w.alloc (.cells #[.slice none 0 0,.int .u64 0,.int .i64 (max most 1)] 116):=by
 go_enter func102,ntmps102;go_wp2_with fail
 ·go_ret;exact⟨rfl,by rw[show max most 1=1 by omega]⟩
 ·go_ret;exact⟨rfl,by rw[show max most 1=most by omega]⟩
end
section
open Go.RowKit Go.Proofs.Tryz Go.Shelf
attribute [local go_sem] Oper.semAt_some
def U5(F:Fence)(n:Nat)(hF:F.fn 141)(a:F.round=none)(b:Nat)(w:World):CallsIn F n prog 141 #[.pointer (some ⟨b,0,none⟩)] w λe w'=>e = .returned (.func (.func 193) #[] #[.pointer (some ⟨w.heap.size,0,none⟩)])/\w'=w.alloc (.cells #[.pointer (some ⟨b,0,none⟩)] 114):=by
 refine callsIn_of_wp func141 rfl hF ?_ a;simp only[ntmps141,Al,AQ,AX,Nat.reduceAdd,Nat.reduceSub,A8,A7,BG,BB,Am,BI];gi_wp2;go_ret;exact⟨rfl,rfl⟩
def Iw(lb lr:Nat)(a:Option Addr)(W:World)(k:Nat):Prop:=k=lb\/k=lr\/((∀g o,a=some ⟨g,o,none⟩->k≠g)/\∃cs fz,W.heap[k]?=some (.cells cs 214 fz))
def K9(x:Nat×Nat):Array Value:=#[.agg #[.int .u64 x.1,.int .u64 x.2]]
def Xt(F:Fence)(n:Nat)(p:∀f,F.fn f)(q:F.round=none)(hn:4<=n)(l N b lb cap:Nat)(a:Option Addr)(rs:zC)(J Jx:List (Nat×Nat)->World->Prop)(W:World)
  (hY:∀m pre x W1,J pre W1->pre.length<rs.length->YieldAt F m prog l (K9 x) W1 λe W' =>
   DW (Iw lb l a W1) W1 W'/\((e = .returned (.bool true)/\J (pre++[x]) W')\/(e = .returned (.bool false)/\Jx (pre++[x]) W')))
  (hJ:OwnFrom W.heap.size J) (O:OwnFrom W.heap.size Jx) (w:W.cell? ⟨N,0,none⟩=some (.pointer (some ⟨b,0,none⟩))) (hb:W.cell? ⟨b,0,none⟩=some (.slice a rs.length cap)) (j:RR W (.slice a rs.length cap) rs) (hlb:lb<W.heap.size) (hl:l<W.heap.size) (P:∀g o,a=some ⟨g,o,none⟩->g<W.heap.size/\g≠lb/\g≠l) (h0:J [] W) :
  CallsIn F n prog 193 #[.func (.yield l) #[] #[],.pointer (some ⟨N,0,none⟩)] W λe W'=>(∃v,e = .returned v) /\
   (J ((Ey rs rs.length).map (·.2)) W'\/∃k,k<=rs.length/\Jx ((Ey rs k).map (·.2)) W'):=by
 have Q:=zb hJ;have R:=zb O;have HY:=zb hY;have HR:=zb j;have H0:=zb h0;have aa:(W.alloc (.cells #[.func (.yield l) #[] #[]] 300)).cell? ⟨N,0,none⟩=some (.pointer (some ⟨b,0,none⟩)):=((DW.refl DX W).alloc _).cell (a:=⟨N,0,none⟩) id w;have ab:(W.alloc (.cells #[.func (.yield l) #[] #[]] 300)).cell? ⟨b,0,none⟩=some (.slice a rs.length cap):=((DW.refl DX W).alloc _).cell (a:=⟨b,0,none⟩) id hb;have h1:1<=n:=by omega
 clear hJ O hY j h0;refine callsIn_of_wp_marks func193 rfl (p _) ?_ q;simp only[ntmps193,Al,AQ,AX,Nat.reduceAdd,Nat.reduceSub,A8,A7,BG,BB,Am,BI]
 gi_wp2_with (gi_at_call 194;refine(RM F (n-1) (p _) q _ _ _ _).mono ?_;rintro e w' ⟨rfl,rfl⟩)
 obtain⟨d,y⟩:=nm W.heap.size;have bY:Boxed ((W.alloc (.cells #[.func (.yield l) #[] #[]] 300)).alloc (.cells #[.slice a rs.length cap] 63)) d 300 (.func (.yield l) #[] #[]):=by
  rw[<-y];exact(Boxed.new W _ _).alloc _
 have bS:Boxed ((W.alloc (.cells #[.func (.yield l) #[] #[]] 300)).alloc (.cells #[.slice a rs.length cap] 63)) (d+1) 63 (.slice a rs.length cap):=by
  have:=Boxed.new (W.alloc (.cells #[.func (.yield l) #[] #[]] 300)) 63 (.slice a rs.length cap);rw[World.size_alloc,y]at this;exact this
 have m0:DW DX W ((W.alloc (.cells #[.func (.yield l) #[] #[]] 300)).alloc (.cells #[.slice a rs.length cap] 63)):=((DW.refl _ _).alloc _).alloc _;obtain⟨w1,t⟩:=nm (((W.alloc (.cells #[.func (.yield l) #[] #[]] 300)).alloc (.cells #[.slice a rs.length cap] 63)));have hs1:w1.heap.size=d+2:=by rw[<-t];simp;omega
 have ac:J [] w1:=by rw[<-t];exact Q.z.alloc _ (Q.z.alloc _ H0.z)
 rw[t]at bY bS m0 ⊢;rw[y];have ad:=HR.z.mod m0 (Dl.no _);clear t aa ab;refine wpIn_rangeFunc_ownH q h1 (gf:=215) (lb:=#[.pointer (some ⟨d+1,0,none⟩)]) rfl (p _) (enters_of func215 (by kernel_rfl) rfl)
  (eK F (n-1) (p _) q (by omega) (d+1) cap a rs w1 bS.cell ad) (λh k=>h.trans k) ?hKb (Below.refl _ _) (λ_=>rfl)
  (λpre X=>(J (pre.map (·.2)) X/\Boxed X d 300 (.func (.yield l) #[] #[]))/\Boxed X (d+1) 63 (.slice a rs.length cap))
  (λc pre X=>c = .ret/\Jx (pre.map (·.2)) X) ?hI ?hIx ⟨⟨ac,bY⟩,bS⟩
  (λx a' X=>∃rb,a'={ tmps:=#[.func (.yield l) #[] #[],.pointer (some ⟨N,0,none⟩),.pointer (some ⟨d,0,none⟩),undef,.pointer (some ⟨rb,0,none⟩),.pointer (some ⟨b,0,none⟩),.pointer (some ⟨b,0,none⟩),.pointer (some ⟨b,0,none⟩),.slice a rs.length cap,.func (.func 215) #[] #[.pointer (some ⟨d+1,0,none⟩)],.int .i64 x.1,.agg #[.int .u64 x.2.1,.int .u64 x.2.2],undef,undef,undef,undef],defers:=[] } /\
   X.heap[rb]?=some (.cells #[.int .u64 x.2.1,.int .u64 x.2.2] 214 (0,0))) ?hAx ?assign ?body ?done ?stop
 case hKb =>
  intro X l2 o o' hl2 _ _ _;exact⟨World.putObj_heap_other (by omega),λg o e=>World.putObj_heap_other (by have:=(P g o e).1;omega)⟩
 case hI =>
  exact OwnFrom.and (OwnFrom.and (λs A B row w hg j=>Q.z _ A B row w hg (λr e=>⟨by have:=(j r e).1;omega,(j r e).2⟩)) (Own.from (boxed_own d _ (λ_=>_)) _)) (Own.from (boxed_own (d+1) _ (λ_=>_)) _)
 case hIx =>
  intro c s A B row w hg j;exact⟨w.1,R.z _ A B row w.2 hg (λr e=>⟨by have:=(j r e).1;omega,(j r e).2⟩)⟩
 case hAx =>
  intro x a' s A B row w hg j;obtain⟨rb,e,z⟩:=w;refine⟨rb,e,(hg.block rb (AI.1 z).1 (λe2=>?_)).trans z⟩;obtain⟨_,o,S,C⟩:=j rb e2.symm;rw[z]at S;cases S;cases C
 case assign =>
  intro l' pre x X K hI E;unfold Ip;gi_wp2;refine E _ _ ((KeepsOthers.alloc X _).from _) ⟨Below.heap_alloc _ _ _ hI.2.lt,λg o e=>Below.heap_alloc _ _ _ ?_⟩ ⟨⟨?_,hI.1.2.alloc _⟩,hI.2.alloc _⟩ ⟨X.heap.size,rfl,heap_alloc_new X _⟩
  ·have q1:=(P g o e).1;have q2:=hI.2.lt;omega
  ·exact Q.z.alloc _ hI.1.1
 case body =>
  rintro l' pre x a' X hl' T ⟨⟨G,hy⟩,H⟩ ⟨rb,rfl,U⟩ ae;have yc:=hy.cell;have r0:X.cell? ⟨rb,0,none⟩=some (.int .u64 x.2.1):=za U rfl;have r1:X.cell? ⟨rb,1,none⟩=some (.int .u64 x.2.2):=za U rfl;obtain⟨fn,tmps,assign,body,I,hR⟩:=HY.z (n-1-1-1) (pre.map (·.2)) x.2 X G (by simpa using ae);unfold K9 at I;have hn1:1<=n-1-1:=by omega
  have HJP:=zb G;clear G T;have af:=zb hR;clear hR;gi_wp2;refine RoundIn.mono (F:=F.inRound l') (show RoundIn (F.inRound l') _ _ _ _ _ _ _ _ _ from af.z) ?_;rintro e X3 ⟨L,V⟩;have Y:=hy.lt;have i:=H.lt;have nY:¬Iw lb l a X d:=by
   rintro(h|h|⟨_,cs,fz,h⟩)
   ·omega
   ·omega
   ·rw[show X.heap[d]?=_ from hy]at h;simp at h
  have nS:¬Iw lb l a X (d+1):=by
   rintro(h|h|⟨_,cs,fz,h⟩)
   ·omega
   ·omega
   ·rw[show X.heap[d+1]?=_ from H]at h;simp at h
  have Z:AA (KeepsFrom w1.heap.size X X3):=⟨L.size,λk o hk z C=>by
   refine(L.block k (AI.1 z).1 ?_).trans z;rintro(h|h|⟨_,cs,fz,h⟩)
   ·omega
   ·omega
   ·rw[z]at h;cases h;cases C⟩
  have ah:AA (E9 (d+1) a X X3):=⟨L.block _ i nS,λg o e=>L.block _ (by have:=(P g o e).1;omega) (by
   rintro(h|h|⟨h,_⟩)
   ·exact(P g o e).2.1 h
   ·exact(P g o e).2.2 h
   ·exact h g o e rfl)⟩
  have ai:AA (Boxed X3 d 300 (.func (.yield l) #[] #[])):=(L.block _ Y nY).trans hy;have aj:AA (Boxed X3 (d+1) 63 (.slice a rs.length cap)):=(L.block _ i nS).trans H;clear nY nS L Y i;rcases V with⟨rfl,u⟩|⟨rfl,u⟩
  ·have M:=zb u;clear u yc I;gi_wp2;exact⟨Z.z,ah.z,⟨by rw[BO];exact M.z,ai.z⟩,aj.z⟩
  ·have M:=zb u;clear u yc I;gi_wp2;exact⟨Z.z,rfl,by rw[BO];exact M.z⟩
 case done =>
  rintro D ys X hD rfl ⟨⟨u,_⟩,_⟩ E;gi_wp2;refine⟨by simp,.inl ⟨_,_,rfl,run_takeDeferred E,?_⟩⟩;exact⟨_,results_none rfl _ _ _,⟨_,rfl⟩,.inl (Q.z.putObj _ u (by omega) E rfl)⟩
 case stop =>
  rintro D c pre X hD ⟨k,hk,rfl⟩ ⟨rfl,u⟩ E;gi_wp2;refine⟨by simp,.inl ⟨_,_,rfl,run_takeDeferred E,?_⟩⟩;exact⟨_,results_none rfl _ _ _,⟨_,rfl⟩,.inr ⟨k,hk,R.z.putObj _ u (by omega) E rfl⟩⟩
end
section
open Go.RowKit Go.Proofs.Tryz
def D8(rs:zC):Nat->List UInt8
 | 0=>[]
 | k+1=>(D8 rs k++zM (Da rs k-DY rs (k+1)-2))++zM (DY rs (k+1)-Da rs (k+1))
theorem QE(rs:zC):∀k,(D8 rs k).length<=16*k
 | 0=>by simp[D8]
 | k+1=>by
  have h1:=QE rs k;have h2:=zu (Da rs k-DY rs (k+1)-2);have h3:=zu (DY rs (k+1)-Da rs (k+1));simp only[D8,AF];omega
def GC(f:Db):List UInt8:=((([2]++zM (DY f.rngs 0))++zM (f.rngs.length-1))++zM (DY f.rngs 0-Da f.rngs 0))++D8 f.rngs (f.rngs.length-1)
variable{i:Nat}{rs:zC}
def U4(h:Eh rs=true)(hi:i<rs.length):Gw rs i=true:=by
 unfold Eh Gv at h;simp only[AZ,Cr,Bg]at h;exact h.1 i hi
def La(h:Eh rs=true)(hi:i<rs.length):Da rs i<=DY rs i/\DY rs i<=4611686018427387903/\(0<i->DY rs i+2<=Da rs (i-1)):=by
 have:=U4 h hi;simp only[Gw,AZ,Bm,Af]at this;obtain⟨⟨h1,h2⟩,h3⟩:=this;refine⟨h1,h2,λh0=>?_⟩;rcases h3 with h3|h3
 ·omega
 ·exact h3.2
variable{l new:List UInt8}{v v':Value}{w w':World}
def Dq.alloc(h:Dq w v l new v' w')(o:Obj):Dq w v l new v' (w'.alloc o) :=
 ⟨World.ownsRow.alloc h.own o,World.ownsRow.alloc h.old o,⟨h.grown.os,h.grown.tape,h.grown.output,AO h.grown.size (by simp),λk hk hn=>(Below.heap_alloc w' o k (Aw hk h.grown.size)).trans (h.grown.block k hk hn)⟩,h.at_⟩
def Dq.drewR(h:Dq w v l new v' w'):Dq w v l new v' w'.drew :=
 ⟨h.own,h.old,⟨h.grown.os,h.grown.tape,h.grown.output,h.grown.size,h.grown.block⟩,h.at_⟩
variable{g o:Nat}
def RR.cell0{n c:Nat}(h:RR w (.slice (some ⟨g,o,none⟩) n c) rs)(hp:0<rs.length):w.cell? ⟨g,o+0*2,none⟩=some (.int .u64 (Da rs 0:Int)):=by
 obtain⟨a,cap,hv,_,_,h3⟩:=h;obtain⟨g',o',e,e1,_⟩:=h3 0 hp;cases hv;cases e;exact e1
def OB.mod0(h:OB w v l)(m:DW DX w w'):OB w' v l:=m.owns h (λ_ _ x=>x)
def Oa(h:OB w v l):∀g,v.ownBlock=some g->g<w.heap.size:=by
 intro g hg;rcases h.2 with⟨rfl,_⟩|⟨g',cap,cur,rfl,_,h0,_⟩
 ·cases hg
 ·simp[Value.ownBlock]at hg;subst hg;exact(AI.1 h0).1
def KE(v:Value)(l:List UInt8)(b:Nat)(f:Db)(rv:Value)(w:World)(hf:zj w b f rv)(hr:RR w rv f.rngs)(hs:Eh f.rngs=true)(hn:f.rngs.length<=1099511627776)(I:Dl (λk=>v.ownBlock=some k) rv)(h:OB w v l)(hl:l.length<=35184372088832):Calls prog 173 #[v,.pointer (some ⟨b,0,none⟩)] w (Hu w v l (GC f)):=by
 have E:=hf.cells.2.2.2.2.2.2.2.2.2;have hbl:=zk E;have J:0<f.rngs.length:=by
  unfold Eh at hs;simp only[AZ,Af]at hs;exact hs.2
 obtain⟨a,cap,rfl,h1,h2,h3⟩:=id hr;unfold maxLen at h2;obtain⟨g,o,rfl,L,e2,b1,b2⟩:=h3 0 J;have an:=zk L;obtain⟨k1,k2,_⟩:=La hs J;have HB:AA (GC f=((([2]++zM (DY f.rngs 0))++zM (f.rngs.length-1))++zM (DY f.rngs 0-Da f.rngs 0))++D8 f.rngs (f.rngs.length-1)):=rfl;have hH:∀i,i<f.rngs.length->Da f.rngs i<=DY f.rngs i/\DY f.rngs i<=4611686018427387903/\(0<i->DY f.rngs i+2<=Da f.rngs (i-1)):=λi hi=>La hs hi
 have HH:=zb hH;clear hH;obtain⟨lo,R⟩:=nm (Da f.rngs 0);obtain⟨hi,T⟩:=nm (DY f.rngs 0);rw[R]at L b1 k1;rw[T]at e2 b2 k1 k2;rw[R,T]at HB;simp only[Cz,Br]at L e2;clear R T h3;have z1:IntKind.i64.wrap ((f.rngs.length:Int)-1)=(f.rngs.length:Int)-1:=IntWalk.i64_in _ (by omega);have z2:IntKind.u64.wrap ((f.rngs.length:Int)-1)=((f.rngs.length-1:Nat):Int):=by rw[IntKind.wrap_u64];omega
 have z3:IntKind.u64.wrap ((hi:Int)-lo)=((hi-lo:Nat):Int):=by rw[IntKind.wrap_u64];omega
 go_enter func173,ntmps173;go_wp2_with fail;obtain⟨u,C⟩:=nm ((w.alloc (.cells #[.int .u64 lo,.int .u64 hi] 214)).drew);have A:DW DX w u:=by rw[<-C];exact((DW.refl _ _).alloc _).drew
 have B:=hf.mod A (λx=>x);have hB:u.heap[w.heap.size]?=some (.cells #[.int .u64 lo,.int .u64 hi] 214 (0,0)):=by rw[<-C];exact heap_alloc_new w _
 have j:u.cell? ⟨w.heap.size,0,none⟩=some (.int .u64 lo):=za hB rfl;have m:u.cell? ⟨w.heap.size,1,none⟩=some (.int .u64 hi):=za hB rfl;have n:¬v.ownBlock=some w.heap.size:=λhx=>by have:=Oa h _ hx;omega
 have hX:=h.mod0 A;obtain⟨v1,w1,ae,A1⟩:=JA u v l 2 2 hX rfl (by omega);have F1:zj w1 b f (.slice (some ⟨g,o,none⟩) f.rngs.length cap)/\w1.cell? ⟨w.heap.size,0,none⟩=some (.int .u64 lo)/\w1.cell? ⟨w.heap.size,1,none⟩=some (.int .u64 hi):=⟨zj.app (w:=u) B (h.mod0 A) A1,A1.mod.cell (a:=⟨w.heap.size,0,none⟩) n j,A1.mod.cell (a:=⟨w.heap.size,1,none⟩) n m⟩;have L1:(l++[(2:UInt8)]).length<=35184372088832+1:=by simp;omega
 have U:=zb (A.trans (S:=DX) (DW.refl _ _));refine zl 21 (λw'=>zj w' b f (.slice (some ⟨g,o,none⟩) f.rngs.length cap)/\w'.cell? ⟨w.heap.size,0,none⟩=some (.int .u64 lo)/\w'.cell? ⟨w.heap.size,1,none⟩=some (.int .u64 hi)) ?_ ?_
 ·rw[C];exact⟨B,j,m⟩
 rw[C];clear C;refine GI 0 ?_;refine GV rfl ?_;try simp only[PS]
 refine GI 3 ?_;iterate 2
  refine GV rfl ?_;try simp only[PS]
 refine GI 6 ?_;iterate 7
  refine GV rfl ?_;try simp only[PS]
 refine GI 14 ?_;iterate 5
  refine GV rfl ?_;try simp only[PS]
 refine zw 1 rfl (λK p=>?_);go_simp;refine p.z _ _ ?_ ?_
 ·exact⟨B.mod (S:=DX) ((DW.refl _ _).alloc _) (λx=>x),((DW.refl DX u).alloc _).cell (a:=⟨w.heap.size,0,none⟩) id j,((DW.refl DX u).alloc _).cell (a:=⟨w.heap.size,1,none⟩) id m⟩
 clear p K;try simp only[PS]
 refine zw 2 rfl (λK p=>?_);refine zH rfl _ _ _ _ rfl _ _ _ rfl rfl ae ?_;refine p.z _ _ F1 ?_;clear p K;try simp only[PS]
 refine zw 5 rfl (λK p=>?_);go_simp;refine(Fs v1 (l++([2])) hi w1 A1.own (by omega) (by omega)).mono ?_;rintro e w2 ⟨v2,rfl,M⟩;have A2:=A1.trans M;have F2:zj w2 b f (.slice (some ⟨g,o,none⟩) f.rngs.length cap)/\w2.cell? ⟨w.heap.size,0,none⟩=some (.int .u64 lo)/\w2.cell? ⟨w.heap.size,1,none⟩=some (.int .u64 hi):=⟨zj.app (w:=u) B (h.mod0 A) A2,A2.mod.cell (a:=⟨w.heap.size,0,none⟩) n j,A2.mod.cell (a:=⟨w.heap.size,1,none⟩) n m⟩;have L2:(l++([2]++zM hi)).length<=35184372088832+9:=by have:=zu hi;simp at this L1 ⊢;omega
 refine p.z _ _ F2 ?_;clear M;clear p K;try simp only[PS]
 refine zw 13 rfl (λK p=>?_);go_simp;refine(Fs v2 (l++([2]++zM hi)) (f.rngs.length-1) w2 A2.own (by omega) (by omega)).mono ?_;rintro e w3 ⟨v3,rfl,M⟩;have A3:=A2.trans M;have F3:zj w3 b f (.slice (some ⟨g,o,none⟩) f.rngs.length cap)/\w3.cell? ⟨w.heap.size,0,none⟩=some (.int .u64 lo)/\w3.cell? ⟨w.heap.size,1,none⟩=some (.int .u64 hi):=⟨zj.app (w:=u) B (h.mod0 A) A3,A3.mod.cell (a:=⟨w.heap.size,0,none⟩) n j,A3.mod.cell (a:=⟨w.heap.size,1,none⟩) n m⟩;have L3:(l++([2]++zM hi++zM (f.rngs.length-1))).length<=35184372088832+17:=by have:=zu (f.rngs.length-1);simp at this L2 ⊢;omega
 refine p.z _ _ F3 ?_;clear M;clear p K;try simp only[PS]
 refine zw 19 rfl (λK p=>?_);go_simp;refine(Fs v3 (l++([2]++zM hi++zM (f.rngs.length-1))) (hi-lo) w3 A3.own (by omega) (by omega)).mono ?_;rintro e w4 ⟨v4,rfl,M⟩;have A4:=A3.trans M;have F4:zj w4 b f (.slice (some ⟨g,o,none⟩) f.rngs.length cap)/\w4.cell? ⟨w.heap.size,0,none⟩=some (.int .u64 lo)/\w4.cell? ⟨w.heap.size,1,none⟩=some (.int .u64 hi):=⟨zj.app (w:=u) B (h.mod0 A) A4,A4.mod.cell (a:=⟨w.heap.size,0,none⟩) n j,A4.mod.cell (a:=⟨w.heap.size,1,none⟩) n m⟩;have L4:(l++([2]++zM hi++zM (f.rngs.length-1)++zM (hi-lo))).length<=35184372088832+25:=by have:=zu (hi-lo);simp at this L3 ⊢;omega
 refine p.z _ _ F4 ?_;clear M;clear p K;try simp only[PS]
 refine GI 20 ?_;refine GV rfl ?_;try simp only[PS]
 refine zn ?_;have c9b:=F4.1.cells.2.2.2.2.2.2.2.2.2;have af:=hr.mod A (Dl.no _);have aa:=zb A4;have ao:=zb B;have HvB:=zb n;obtain⟨r,D⟩:=nm ([2]++zM hi++zM (f.rngs.length-1)++zM (hi-lo));rw[D]at aa HB;have N:(l++r).length<=35184372088832+25:=by rw[<-D];exact L4
 have aq:=zb hX;have ah:=zb af;clear F1 F2 F3 F4 A1 A2 A3 A4 L1 L2 L3 L4 D z1 z2 z3 hf hr h hX af ae j m hB A B n k1 k2 b1 b2 L e2 E;have O:AA (∀k vb wr,GC f=r++D8 f.rngs k->Dq u v l (r++D8 f.rngs k) vb wr->Dq w v l (GC f) vb wr):=by
  intro k vb wr hq t;rw[hq];exact⟨t.own,t.old,⟨t.grown.os.trans U.z.os,t.grown.tape.trans U.z.tape,t.grown.output.trans U.z.output,AO U.z.size t.grown.size,λi hi hn=>(t.grown.block i (Aw hi U.z.size) hn).trans (U.z.block i hi (λx=>x))⟩,λi hi=>(t.at_ i hi).imp id (λq=>AO U.z.size q)⟩
 by_cases ar:f.rngs.length<=1
 ·have HF:AA (GC f=r++D8 f.rngs 0):=by
   have:f.rngs.length-1=0:=by omega
   show _=_;rw[HB.z,this]
  have Hn:=zb ar;have hn2:(f.rngs.length:Int)-1<=0:=by omega
  have hn3:f.rngs.length-1<=0:=by omega
  go_wp2_with fail;all_goals
   refine wp_loop_rounds 1 ?_;rw[rounds_succ];go_wp2_with fail
  all_goals
   go_ret;exact⟨_,rfl,O.z 0 _ _ HF.z (by simpa [D8]using aa.z)⟩
 have au:1<cap:=by omega
 have av:¬(1=cap):=by omega
 have aw:¬(cap=1):=by omega
 go_wp2_with fail
 go_loopw [0,40] (λvb i wr=>∃k:Nat,k<=f.rngs.length-1/\i = .int .i64 k/\Dq u v l (r++D8 f.rngs k) vb wr) (λ_ i _=>f.rngs.length-1-(intOf i).toNat)
 case atStart=>exact⟨0,AL _,rfl,by simpa [D8]using aa.z⟩
 case round =>
  obtain⟨k,hk,rfl,t⟩:=hrel;have ax:=Oa t.own;have ay:=ah.z.mod t.mod I;have ab:=zj.app ao.z aq.z t;have ai:=ab.cells.2.2.2.2.2.2.2.2.2;have aA:=zk ai;obtain⟨_,_,az,_,_,h3⟩:=ay;cases az;by_cases hlt:k<f.rngs.length-1
  ·obtain⟨g',o',ac,L,_,b1,_⟩:=h3 k (by omega);cases ac;obtain⟨g',o',ac,e3,e4,b3,b4⟩:=h3 (k+1) (by omega);cases ac;obtain⟨q1,q2,q3⟩:=HH.z (k+1) (by omega);have q4:=q3 (by omega);obtain⟨r1,r2,_⟩:=HH.z k (by omega);simp only[CN]at q4;have an:=zk L;have aB:k<f.rngs.length:=by omega
   have HS:AA (D8 f.rngs (k+1)=(D8 f.rngs k++zM (Da f.rngs k-DY f.rngs (k+1)-2))++zM (DY f.rngs (k+1)-Da f.rngs (k+1))):=rfl;have HL:=QE f.rngs k;obtain⟨F,aj⟩:=nm (Da f.rngs k);obtain⟨s,P⟩:=nm (Da f.rngs (k+1));obtain⟨d,Q⟩:=nm (DY f.rngs (k+1));rw[aj]at L b1 q4 HS r1;have r3:=AO r1 r2;clear r1 r2;rw[P]at e3 b3 q1 HS;rw[Q]at e4 b4 q1 q2 q4 HS;clear aj P Q q3 h3;have p1:o+(k+1)*2=o+2+k*2:=by omega
   rw[p1]at e3 e4;have z1:=wu ((F:Int)-d) (by omega);have z2:IntKind.u64.wrap ((F:Int)-d-2)=((F-d-2:Nat):Int):=by rw[IntKind.wrap_u64];omega
   have z3:IntKind.u64.wrap ((d:Int)-s)=((d-s:Nat):Int):=by rw[IntKind.wrap_u64];omega
   have G:=zb t;clear t p1;go_wp2_with fail;obtain⟨Y,hY⟩:=nm ((wr.alloc (.cells #[.int .u64 s,.int .u64 d] 214)).drew);have A:DW DX wr Y:=by rw[<-hY];exact((DW.refl _ _).alloc _).drew
   have AY:Dq u v l (r++D8 f.rngs k) u0 Y:=by rw[<-hY];exact(G.z.alloc _).drewR
   have ad:=AY.own;have B:=ab.mod A (λx=>x);have hB:Y.heap[wr.heap.size]?=some (.cells #[.int .u64 s,.int .u64 d] 214 (0,0)):=by rw[<-hY];exact heap_alloc_new wr _
   have j:Y.cell? ⟨wr.heap.size,0,none⟩=some (.int .u64 s):=za hB rfl;have m:Y.cell? ⟨wr.heap.size,1,none⟩=some (.int .u64 d):=za hB rfl;have eX:=A.cell (a:=⟨g,_,none⟩) id L;have H:¬u0.ownBlock=some wr.heap.size:=λhx=>by have:=ax _ hx;omega
   have ak:¬u0.ownBlock=some g:=λhx=>by
    rcases G.z.at_ _ hx with h1|h1
    ·exact I g o _ _ rfl h1
    ·exact absurd (zk (ah.z.cell0 (by omega))) (by omega)
   clear ab ai;refine zl 21 (λw'=>zj w' b f (.slice (some ⟨g,o,none⟩) f.rngs.length cap)/\w'.cell? ⟨wr.heap.size,0,none⟩=some (.int .u64 s)/\w'.cell? ⟨wr.heap.size,1,none⟩=some (.int .u64 d)/\w'.cell? ⟨g,o+k*2,none⟩=some (.int .u64 F)) ?_ ?_
   ·rw[hY];exact⟨B,j,m,eX⟩
   rw[hY];clear hY;refine GI 0 ?_;iterate 13
    refine GV rfl ?_;try simp only[PS]
   refine GI 14 ?_;iterate 5
    refine GV rfl ?_;try simp only[PS]
   refine zw 13 rfl (λK p=>?_);go_simp;refine(Fs u0 (l++(r++D8 f.rngs k)) (F-d-2) Y ad (by simp at N ⊢;omega) (by omega)).mono ?_;rintro e y1 ⟨x1,rfl,z⟩;have G1:zj y1 b f (.slice (some ⟨g,o,none⟩) f.rngs.length cap)/\y1.cell? ⟨wr.heap.size,0,none⟩=some (.int .u64 s)/\y1.cell? ⟨wr.heap.size,1,none⟩=some (.int .u64 d)/\y1.cell? ⟨g,o+k*2,none⟩=some (.int .u64 F):=⟨zj.app B (ad) z,z.mod.cell (a:=⟨wr.heap.size,0,none⟩) H j,z.mod.cell (a:=⟨wr.heap.size,1,none⟩) H m,z.mod.cell (a:=⟨g,_,none⟩) ak eX⟩;have B1:=AY.trans z;have hl1:=zu (F-d-2);refine p.z _ _ G1 ?_;clear p K;try simp only[PS]
   refine zw 19 rfl (λK p=>?_);go_simp;refine(Fs x1 (l++(r++D8 f.rngs k++zM (F-d-2))) (d-s) y1 B1.own (by simp at N ⊢;omega) (by omega)).mono ?_;rintro e y2 ⟨x2,rfl,al⟩;have B2:=B1.trans al;have y:=z.trans (by rw[Av];exact al);have G2:zj y2 b f (.slice (some ⟨g,o,none⟩) f.rngs.length cap)/\y2.cell? ⟨wr.heap.size,0,none⟩=some (.int .u64 s)/\y2.cell? ⟨wr.heap.size,1,none⟩=some (.int .u64 d)/\y2.cell? ⟨g,o+k*2,none⟩=some (.int .u64 F):=⟨zj.app B (ad) y,y.mod.cell (a:=⟨wr.heap.size,0,none⟩) H j,y.mod.cell (a:=⟨wr.heap.size,1,none⟩) H m,y.mod.cell (a:=⟨g,_,none⟩) ak eX⟩;refine p.z _ _ G2 ?_;clear p K;try simp only[PS]
   refine GI 20 ?_;refine GV rfl ?_;try simp only[PS]
   refine zn ?_;go_wp2_with fail;go_roundw
   case rel=>exact⟨k+1,by omega,by go_num,by rw[HS.z,<-List.append_assoc,<-List.append_assoc];exact B2⟩
   case measure=>simp[intOf];omega
  ·have am:k=f.rngs.length-1:=by omega
   have HF:AA (GC f=r++D8 f.rngs k):=by rw[am];exact HB.z
   have G:=zb t;clear t am;go_wp2_with fail;go_ret;exact⟨_,rfl,O.z k _ _ HF.z G.z⟩
def EY(F:FuncId):Prop:=∀args w,(callFunc F args).run prog w = .ok (.enter F args) w
def IE(w:World)(b:Nat)(wv rv sv:Value):Prop:=w.cell? ⟨b,0,none⟩=some wv/\w.cell? ⟨b,1,none⟩=some rv/\w.cell? ⟨b,2,none⟩=some sv
variable{S:Nat->Prop}{b:Nat}{rv:Value}
def IE.mod{d e:Value}(h:IE w b d rv e)(m:DW S w w')(c:¬S b):IE w' b d rv e :=
 ⟨m.cell (a:=⟨b,0,none⟩) c h.1,m.cell (a:=⟨b,1,none⟩) c h.2.1,m.cell (a:=⟨b,2,none⟩) c h.2.2⟩
def Dz(F:FuncId):Value:=.func (.func F) #[] #[]
def LS(w:World)(wv rv sv:Value)(e:Ending)(w':World):Prop:=∃b,e = .returned (.pointer (some ⟨b,0,none⟩))/\IE w' b wv rv sv/\DW DX w w'/\w.heap.size<=b
def JO(w:World)(t:UInt8)(e:Ending)(w':World):Prop:=∃b tb ab,e = .returned (.pointer (some ⟨b,0,none⟩))/\IE w' b (.func (.func 213) #[] #[.pointer (some ⟨tb,0,none⟩),.pointer (some ⟨ab,0,none⟩)]) (.func (.func 214) #[] #[.pointer (some ⟨ab,0,none⟩)]) (Dz 172)/\F6 w' tb ab t/\DW DX w w'/\w.heap.size<=b/\w.heap.size<=tb/\w.heap.size<=ab
def T3(t:UInt8)(w:World):Calls prog 185 #[.int .u8 (t.toNat:Int),.func (.func 186) #[] #[]] w λe w'=>e = .returned (.agg #[.func (.func 213) #[] #[.pointer (some ⟨w.heap.size,0,none⟩),.pointer (some ⟨w.heap.size+1,0,none⟩)],.func (.func 214) #[] #[.pointer (some ⟨w.heap.size+1,0,none⟩)],.func (.func 172) #[] #[]]) /\
  w'=((w.alloc (.cells #[.int .u8 (t.toNat:Int)] 5)).alloc (.cells #[.func (.func 186) #[] #[]] 284)).alloc (.cells #[.func (.func 213) #[] #[.pointer (some ⟨w.heap.size,0,none⟩),.pointer (some ⟨w.heap.size+1,0,none⟩)],.func (.func 214) #[] #[.pointer (some ⟨w.heap.size+1,0,none⟩)],.func (.func 172) #[] #[]] 241):=by
 go_enter func185,ntmps185;go_wp2_with fail;exact bodyPost_ret (by simp[results,results185,go_sem]) rfl ⟨rfl,rfl⟩
def Ml(w:World):Calls prog 131 #[.int .i64 1] w (LS w (Dz 170) (Dz 171) (Dz 172)):=by
 go_enter func131,ntmps131;go_wp2_with fail;go_ret;exact⟨w.heap.size,rfl,⟨by simp[Dz],by simp[Dz],by simp[Dz]⟩,(DW.refl _ _).alloc _,AG _⟩
def Mj(w:World):Calls prog 131 #[.int .i64 2] w (LS w (Dz 173) (Dz 174) (Dz 175)):=by
 go_enter func131,ntmps131;go_wp2_with fail;go_ret;exact⟨w.heap.size,rfl,⟨by simp[Dz],by simp[Dz],by simp[Dz]⟩,(DW.refl _ _).alloc _,AG _⟩
def Mi(w:World):Calls prog 131 #[.int .i64 3] w (LS w (Dz 176) (Dz 177) (Dz 179)):=by
 go_enter func131,ntmps131;go_wp2_with fail;go_ret;exact⟨w.heap.size,rfl,⟨by simp[Dz],by simp[Dz],by simp[Dz]⟩,(DW.refl _ _).alloc _,AG _⟩
def Mh(w:World):Calls prog 131 #[.int .i64 4] w (LS w (Dz 180) (Dz 182) (Dz 184)):=by
 go_enter func131,ntmps131;go_wp2_with fail;go_ret;exact⟨w.heap.size,rfl,⟨by simp[Dz],by simp[Dz],by simp[Dz]⟩,(DW.refl _ _).alloc _,AG _⟩
def Me(w:World):Calls prog 131 #[.int .i64 6] w (LS w (Dz 187) (Dz 188) (Dz 172)):=by
 go_enter func131,ntmps131;go_wp2_with fail;go_ret;exact⟨w.heap.size,rfl,⟨by simp[Dz],by simp[Dz],by simp[Dz]⟩,(DW.refl _ _).alloc _,AG _⟩
def Md(w:World):Calls prog 131 #[.int .i64 7] w (LS w (Dz 189) (Dz 190) (Dz 172)):=by
 go_enter func131,ntmps131;go_wp2_with fail;go_ret;exact⟨w.heap.size,rfl,⟨by simp[Dz],by simp[Dz],by simp[Dz]⟩,(DW.refl _ _).alloc _,AG _⟩
def Rt(w:World)(o o':Obj)(t:UInt8)(z:Int)(T b:Nat)(hz:z=(t.toNat:Int)):F6 ((((w.alloc o).alloc (.cells #[.int .u8 z] T)).alloc (.cells #[.func (.func 186) #[] #[]] b)).alloc o') (w.heap.size+1) (w.heap.size+1+1) t:=by
 subst hz;have e1:(w.alloc o).heap.size=w.heap.size+1:=by simp
 have e2:((w.alloc o).alloc (.cells #[.int .u8 (t.toNat:Int)] T)).heap.size=w.heap.size+1+1:=by simp
 have c1:((w.alloc o).alloc (.cells #[.int .u8 (t.toNat:Int)] T)).cell? ⟨w.heap.size+1,0,none⟩=some (.int .u8 (t.toNat:Int)):=by rw[<-e1];exact za (heap_alloc_new _ _) rfl
 have c2:(((w.alloc o).alloc (.cells #[.int .u8 (t.toNat:Int)] T)).alloc (.cells #[.func (.func 186) #[] #[]] b)).cell? ⟨w.heap.size+1+1,0,none⟩=some (.func (.func 186) #[] #[]):=by rw[<-e2];exact za (heap_alloc_new _ _) rfl
 exact⟨(((DW.refl DX _).alloc _).alloc _).cell (a:=⟨_,0,none⟩) id c1,((DW.refl DX _).alloc _).cell (a:=⟨_,0,none⟩) id c2⟩
def Mf(w:World):Calls prog 131 #[.int .i64 5] w (JO w 16):=by
 go_enter func131,ntmps131;go_wp2_with (go_at_call 185;refine(T3 16 _).mono ?_;rintro e w' ⟨rfl,rfl⟩);go_ret;refine⟨w.heap.size,w.heap.size+1,w.heap.size+1+1,rfl,?_,?_,?_,AG _,by omega,by omega⟩
 ·have h0:∀(a b c:Value),IE (w.alloc (.cells #[a,b,c] 241)) w.heap.size a b c:=λa b c=>⟨za (heap_alloc_new w _) rfl,za (heap_alloc_new w _) rfl,za (heap_alloc_new w _) rfl⟩
  exact(h0 _ _ _).mod ((((DW.refl DX _).alloc _).alloc _).alloc _) (λx=>x)
 ·exact Rt w _ _ _ _ _ _ rfl
 ·exact((((DW.refl _ _).alloc _).alloc _).alloc _).alloc _
def Mc(w:World):Calls prog 131 #[.int .i64 8] w (JO w 28):=by
 go_enter func131,ntmps131;go_wp2_with (go_at_call 185;refine(T3 28 _).mono ?_;rintro e w' ⟨rfl,rfl⟩);go_ret;refine⟨w.heap.size,w.heap.size+1,w.heap.size+1+1,rfl,?_,?_,?_,AG _,by omega,by omega⟩
 ·have h0:∀(a b c:Value),IE (w.alloc (.cells #[a,b,c] 241)) w.heap.size a b c:=λa b c=>⟨za (heap_alloc_new w _) rfl,za (heap_alloc_new w _) rfl,za (heap_alloc_new w _) rfl⟩
  exact(h0 _ _ _).mod ((((DW.refl DX _).alloc _).alloc _).alloc _) (λx=>x)
 ·exact Rt w _ _ _ _ _ _ rfl
 ·exact((((DW.refl _ _).alloc _).alloc _).alloc _).alloc _
def Mb(k:Int)(hk:k<1\/8<k)(w:World):Calls prog 131 #[.int .i64 k] w λe w'=>e = .returned (.pointer none)/\DW DX w w':=by
 have d1:(k==1)=false:=by simp;omega
 have d2:(k==2)=false:=by simp;omega
 have d3:(k==3)=false:=by simp;omega
 have d4:(k==4)=false:=by simp;omega
 have d5:(k==5)=false:=by simp;omega
 have d6:(k==6)=false:=by simp;omega
 have d7:(k==7)=false:=by simp;omega
 have d8:(k==8)=false:=by simp;omega
 go_enter func131,ntmps131;go_wp2_with fail;go_ret;exact⟨rfl,(DW.refl _ _).alloc _⟩
def IK(p:Value)(w:World):Calls prog 172 #[p] w (IS w true):=by
 go_enter func172,ntmps172;go_wp2_with fail;go_ret;exact⟨rfl,DW.refl _ _⟩
def Qn(b:Nat)(f:Db)(rv:Value)(w:World)(hf:zj w b f rv):Calls prog 179 #[.pointer (some ⟨b,0,none⟩)] w (IS w (decide (f.rel<=f.off))):=by
 obtain⟨c0,c1,c2,c3,c4,c5,c6,c7,c8,c9⟩:=hf.cells;go_enter func179,ntmps179;go_wp2_with fail;go_quiet (fail);go_wp2_with fail;go_ret;exact⟨rfl,(DW.refl _ _).drewN _⟩
def Qm(b:Nat)(f:Db)(rv:Value)(w:World)(hf:zj w b f rv)(ho:f.off<=4611686018427387903)(hd:f.data.length<=4611686018427387903):Calls prog 184 #[.pointer (some ⟨b,0,none⟩)] w (IS w (decide (f.data.length+f.off<=4611686018427387903))):=by
 obtain⟨c0,c1,c2,c3,c4,c5,c6,c7,c8,c9⟩:=hf.cells;have hz:=zE f.data;have e1:=wu (4611686018427387903-(f.off:Int)) (by omega);have e2:IntKind.u64.wrap (f.data.length:Int)=(f.data.length:Int):=by rw[IntKind.wrap_u64];omega
 have HE:AA (decide ((f.data.length:Int)<=4611686018427387903-(f.off:Int))=decide (f.data.length+f.off<=4611686018427387903)):=by
  show _=_;rw[DC];omega
 go_enter func184,ntmps184;go_wp2_with fail;go_quiet (fail);go_wp2_with fail;go_ret;exact⟨by rw[<-HE.z];rfl,(DW.refl _ _).drewN _⟩
def Ff(f:Db):List Nat:=[f.off,f.rel,f.lim,f.id,f.dl]
def EM(f:Db):Bool:=(Ff f).all λn=>decide (n<=4611686018427387903)
def JE(f:Db)(k:Nat):Nat:=(Ff f).getD k 0
variable{f:Db}{k:Nat}
def iP(hk:k<5)(h:4611686018427387903<JE f k):EM f=false:=by
 cases hq:EM f
 ·rfl
 ·unfold EM at hq;rw[Cr]at hq;have hm:JE f k∈Ff f:=by
   unfold JE;rw[Ai,AJ (by simpa [Ff]using hk)];exact DH _
  have:=hq _ hm;simp at this;omega
def hO(h:∀k,k<5->JE f k<=4611686018427387903):EM f=true:=by
 have h0:=h 0 (by omega);have h1:=h 1 (by omega);have h2:=h 2 (by omega);have h3:=h 3 (by omega);have h4:=h 4 (by omega);simp[JE,Ff]at h0 h1 h2 h3 h4;simp[EM,Ff];omega
def QM(h:EM f=true):f.off<=4611686018427387903/\f.rel<=4611686018427387903/\f.lim<=4611686018427387903/\f.id<=4611686018427387903/\f.dl<=4611686018427387903:=by
 simpa [EM,Ff]using h
def ER(f:Db):Bool:=decide (0<=f.stream)&&decide (f.stream<8)
theorem TD(b cb:Nat)(f:Db)(D wv ev:Value)(G:FuncId)(E:Bool)(w:World)(hf:zj w b f D)(hc:IE w cb wv ev (.func (.func G) #[] #[]))(F:EY G)
  (H:∀w',DW DX w w'->EM f=true->Calls prog G #[.pointer (some ⟨b,0,none⟩)] w' (IS w' E)) :
  Calls prog 132 #[.pointer (some ⟨b,0,none⟩),.pointer (some ⟨cb,0,none⟩)] w (IS w (EM f&&ER f&&E)):=by
 have u:=zk hf.cells.1;have hE':∀args w,(callFunc G args).run prog w = .ok (.enter G args) w:=F;have HG:=zb H;clear H F;go_enter func132,ntmps132;go_wp2_with fail;refine zl 23 (λw'=>zj w' b f D) (hf) ?_;refine GI 0 ?_;iterate 20
  refine GV rfl ?_;try simp only[PS]
 refine GI 22 ?_;refine GV rfl ?_;try simp only[PS]
 refine zw 20 rfl (λK P=>?_);go_simp;refine P.z _ _ ?_ ?_
 ·exact zj.mod (w:=w.drew) (S:=DX) hf ((DW.refl _ _).alloc _) (λx=>x)
 clear P K;try simp only[PS]
 refine GI 21 ?_;refine GV rfl ?_;try simp only[PS]
 refine zn ?_;obtain⟨X,s⟩:=nm ((w.alloc (.cells #[.int .u64 f.off,.int .u64 f.rel,.int .u64 f.lim,.int .u64 f.id,.int .u64 f.dl] 43)).drew);have t:DW DX w X:=by rw[<-s];exact((DW.refl _ _).alloc _).drew
 have v:∀k,k<5->X.cell? ⟨w.heap.size,k,none⟩=some (.int .u64 (JE f k:Int)):=λk hk=>by
  rw[<-s];refine za (heap_alloc_new w _) ?_
  match k,hk with
  | 0,_=>rfl
  | 1,_=>rfl
  | 2,_=>rfl
  | 3,_=>rfl
  | 4,_=>rfl
 rw[s];have Q:=hf.mod t (λx=>x);have cX:=(hc.mod t (λx=>x)).2.2;have c1:=Q.cells.2.1;clear s hf hc Q u;have o:=zb t;clear t;go_wp2_with fail
 go_loop [6,29] (λ_ i=>∃k:Nat,k<=5/\i = .int .i64 k/\AA (∀j,j<k->JE f j<=4611686018427387903)) (λ_ i=>5-(intOf i).toNat)
 case atStart=>exact⟨0,by omega,rfl,zb (λj y=>absurd y (BA j))⟩
 case round =>
  obtain⟨k,hk,rfl,z⟩:=hrel;by_cases p:k<5
  ·have c:=v k p;obtain⟨n,d⟩:=nm (JE f k);rw[d]at c;have R:=zb d;clear v d;by_cases q:4611686018427387903<n
   ·have HF:=zb (iP p (by rw[R.z];exact q));have g:(4611686018427387903:Int)<n:=by omega
    go_wp2_with fail;go_ret;exact⟨by rw[HF.z];rfl,o.z⟩
   ·have g:¬(4611686018427387903:Int)<n:=by omega
    go_wp2_with fail
    go_round
    case rel=>exact⟨k+1,by omega,by go_num,zb (λj y=>by
     by_cases h:j<k
     ·exact z.z j h
     ·have:j=k:=by omega
      rw[this,R.z];omega)⟩
    case measure=>simp[intOf];omega
  ·have A:k=5:=by omega
   have l:=hO (f:=f) (λj y=>z.z j (by omega));have B:=zb l;have m:=HG.z X o.z l;clear l v A z;by_cases d1:0<=f.stream
   ·by_cases d2:f.stream<8
    ·have r:AA (ER f=true):=by show _=_;simp[ER,d1,d2]
     have T:decide (0<=f.stream)=true:=by simpa using d1
     have e2:decide (f.stream<8)=true:=by simpa using d2
     go_wp2_with (refine m.mono ?_;rintro e w' ⟨rfl,C⟩);go_ret;exact⟨by rw[B.z,r.z,Bj,Bj];rfl,o.z.trans C⟩
    ·have r:AA (ER f=false):=by show _=_;simp[ER,d2]
     have T:decide (0<=f.stream)=true:=by simpa using d1
     have e2:decide (f.stream<8)=false:=by simpa using d2
     go_wp2_with fail;go_ret;exact⟨by rw[B.z,r.z,Bj,Bool.false_and];rfl,o.z⟩
   ·have r:AA (ER f=false):=by show _=_;simp[ER,d1]
    have T:decide (0<=f.stream)=false:=by simpa using d1
    go_wp2_with fail;go_ret;exact⟨by rw[B.z,r.z,Bj,Bool.false_and];rfl,o.z⟩
def Dq.after{Y:World}(m:DW DX w Y)(h:Dq Y v l new v' w'):Dq w v l new v' w' :=
 ⟨h.own,h.old,⟨h.grown.os.trans m.os,h.grown.tape.trans m.tape,h.grown.output.trans m.output,AO m.size h.grown.size,λi hi hn=>(h.grown.block i (Aw hi m.size) hn).trans (m.block i hi (λx=>x))⟩,λi hi=>(h.at_ i hi).imp id (λq=>AO m.size q)⟩
def IX(f:Db)(a:Value)(l new:List UInt8)(c:Bool)(w:World)(e:Ending)(w':World):Prop :=
 ∃b F caps G ev,e = .returned (.pointer (some ⟨b,0,none⟩))/\IE w' b (.func (.func F) #[] caps) ev (.func (.func G) #[] #[])/\EY F/\EY G/\DW DX w w' /\
  (∀Y bf,DW DX w' Y->zj Y bf f a->EM f=true->Calls prog G #[.pointer (some ⟨bf,0,none⟩)] Y (IS Y c)) /\
  (∀Y v bf,DW DX w' Y->zj Y bf f a->OB Y v l->(∀g,v.ownBlock=some g->g<w.heap.size)->(0<f.rngs.length->Dl (λk=>v.ownBlock=some k) a)->(EM f&&ER f&&c)=true->Calls prog F (#[v,.pointer (some ⟨bf,0,none⟩)]++caps) Y (Hu Y v l new))
def Nl(w:World)(v:Value)(l:List UInt8)(ok:Bool)(new:List UInt8)(e:Ending)(w':World):Prop :=
 (ok=true/\Hu w v l new e w')\/(ok=false/\e = .returned (.slice none 0 0)/\DW DX w w')
def I3(v:Value)(l:List UInt8)(f:Db)(i:Value)(new:List UInt8)(A:Bool)(w:World)(h:OB w v l)(j:0<f.rngs.length->Dl (λk=>v.ownBlock=some k) i)
  (t:∀w1,DW DX w w1->Calls prog 131 #[.int .i64 f.kind] w1 (IX f i l new A w1)) :
  Calls prog 144 #[v,.agg (zh f i)] w (Nl w v l (EM f&&ER f&&A) new):=by
 have u:DW DX w (w.alloc (.cells (zh f i) 65)):=(DW.refl _ _).alloc _;have d:zj (w.alloc (.cells (zh f i) 65)) w.heap.size f i:=heap_alloc_new w _;have c0:=d.cells.1;have c:=t _ u;have y:=Oa h;have n:=zb j;obtain⟨X,I⟩:=nm (w.alloc (.cells (zh f i) 65));rw[I]at c d c0 u;have B:=u.size;have HH:=zb h;have C:=zb d;have o:=zb u;have D:=zb y;clear h t j d u y;obtain⟨ok,p⟩:=nm ((EM f&&ER f&&A));have z:=zb p;rw[p];unfold zh at I ⊢;cases ok;all_goals
  clear p;go_enter func144,ntmps144;go_wp2_with fail;refine c.mono ?_;rintro e w1 ⟨b,F,J,G,ev,rfl,hc,K,L,m1,M,N⟩;have f1:=C.z.mod m1 (λx=>x);have a:=TD w.heap.size b f i _ ev G A w1 f1 hc L (λw' m hn=>M w' _ m (f1.mod m (λx=>x)) hn);rw[z.z]at a;have Hc:=zb hc;have q:=zb m1;have Hw:=zb N;have E:=zb f1;have hF':∀args w,(callFunc F args).run prog w = .ok (.enter F args) w:=K;clear hc m1 N M f1 L K c;go_wp2_with fail;refine a.mono ?_;rintro e w2 ⟨rfl,r⟩;clear a
 ·go_wp2_with fail;go_ret;exact .inr ⟨rfl,rfl,(o.z.trans q.z).trans r⟩
 ·have hc2:=(Hc.z.mod r (λx=>x)).1;have s:=Hw.z w2 v w.heap.size r (E.z.mod r (λx=>x)) (((HH.z.mod0 o.z).mod0 q.z).mod0 r) (λg hg=>Aw (D.z g hg) B) n.z z.z;have H:=zb r;clear r;go_wp2_with fail;refine s.mono ?_;rintro e w3 ⟨v3,rfl,O⟩;have Ha:=zb O;clear O;go_wp2_with fail;go_ret;exact .inl ⟨rfl,_,rfl,Dq.after ((o.z.trans q.z).trans H.z) Ha.z⟩
def zN(f:Db):Bool :=
 if f.kind=2 then Eh f.rngs
 else if f.kind=3 then decide (f.rel<=f.off)
 else if f.kind=4 then decide (f.data.length+f.off<=4611686018427387903)
 else decide (1<=f.kind)&&decide (f.kind<=8)
def zT(f:Db):Bool:=EM f&&ER f&&zN f
def zA(f:Db):List UInt8 :=
 if f.kind=1 then [1]
 else if f.kind=2 then GC f
 else if f.kind=3 then I0 f
 else if f.kind=4 then(if f.fin then I9 f else Iz f)
 else if f.kind=5 then Gg 16 f
 else if f.kind=6 then I1 f
 else if f.kind=7 then IF f
 else Gg 28 f
def Jv{sc:Bool}(h:(EM f&&ER f&&sc)=true)(hd:f.data.length<=35184372088832):f.Bounds:=by
 simp only[AZ]at h;obtain⟨⟨h1,h2⟩,_⟩:=h;obtain⟨a,b,c,d,e⟩:=QM h1;simp only[ER,AZ,Af]at h2;exact⟨h2.1,h2.2,by omega,by omega,by omega,by omega,by omega,hd⟩
def Fb {F : FuncId} {fn : Func} {c : Code} (hf : prog.funcs[F]? = some fn) (a : (fn.name == "runtime.NumGoroutine") = false) (hb : fn.body = some c) : EY F := λargs w => Nq hf a hb args w
def II:EY 172:=Fb func172 (by kernel_rfl) rfl
def Rs:EY 213:=Fb func213 (by kernel_rfl) rfl
def Xs:EY 170:=Fb func170 (by kernel_rfl) rfl
def YM:EY 189:=Fb func189 (by kernel_rfl) rfl
def YL:EY 176:=Fb func176 (by kernel_rfl) rfl
def Rr:EY 179:=Fb func179 (by kernel_rfl) rfl
def YK:EY 180:=Fb func180 (by kernel_rfl) rfl
def Rq:EY 184:=Fb func184 (by kernel_rfl) rfl
def YJ:EY 187:=Fb func187 (by kernel_rfl) rfl
def Rp:EY 175:=Fb func175 (by kernel_rfl) rfl
def YI:EY 173:=Fb func173 (by kernel_rfl) rfl
def YH(f:Db)(a:Value)(l:List UInt8)(w:World)(hk:f.kind=1)(hr:RR w a f.rngs)(hn:f.rngs.length<=1099511627776)(hd:f.data.length<=35184372088832)(hl:l.length<=35184372088832):Calls prog 131 #[.int .i64 f.kind] w (IX f a l ([1]) (true) w):=by
 rw[hk];refine(Ml w).mono ?_;rintro e w' ⟨b,rfl,hc,hm,hb⟩;refine⟨b,170,#[],172,_,rfl,hc,Xs,II,hm,λY c m hf hq=>IK _ Y,λY v c m hf ho hlt d hok=>?_⟩;exact KJ v l c Y ho hl
def YG(f:Db)(d:Value)(l:List UInt8)(w:World)(hk:f.kind=2)(i:RR w d f.rngs)(j:f.rngs.length<=1099511627776)(hd:f.data.length<=35184372088832)(hl:l.length<=35184372088832):Calls prog 131 #[.int .i64 f.kind] w (IX f d l (GC f) (Eh f.rngs) w):=by
 rw[hk];refine(Mj w).mono ?_;rintro e w' ⟨b,rfl,hc,g,hb⟩;refine⟨b,173,#[],175,_,rfl,hc,YI,Rp,g,λY h m hf hq=>T8 h f d Y hf (i.mod (g.trans m) (Dl.no _)) j,λY v h m hf ho hlt c a=>?_⟩;exact KE v l h f d Y hf (i.mod (g.trans m) (Dl.no _)) (by simp only[AZ]at a;exact a.2) j (c (by simp only[AZ,Eh,Af]at a;exact a.2.2)) ho hl
def YF(f:Db)(a:Value)(l:List UInt8)(w:World)(hk:f.kind=3)(hr:RR w a f.rngs)(hn:f.rngs.length<=1099511627776)(hd:f.data.length<=35184372088832)(hl:l.length<=35184372088832):Calls prog 131 #[.int .i64 f.kind] w (IX f a l (I0 f) (decide (f.rel<=f.off)) w):=by
 rw[hk];refine(Mi w).mono ?_;rintro e w' ⟨b,rfl,hc,hm,hb⟩;refine⟨b,176,#[],179,_,rfl,hc,YL,Rr,hm,λY c m hf hq=>Qn c f a Y hf,λY v c m hf ho hlt g d=>?_⟩;exact J9 v l c f a Y hf ho hl (Jv d hd)
def YE(f:Db)(a:Value)(l:List UInt8)(w:World)(hk:f.kind=4)(hr:RR w a f.rngs)(hn:f.rngs.length<=1099511627776)(hd:f.data.length<=35184372088832)(hl:l.length<=35184372088832):Calls prog 131 #[.int .i64 f.kind] w (IX f a l (if f.fin then I9 f else Iz f) (decide (f.data.length+f.off<=4611686018427387903)) w):=by
 rw[hk];refine(Mh w).mono ?_;rintro e w' ⟨b,rfl,hc,hm,hb⟩;refine⟨b,180,#[],184,_,rfl,hc,YK,Rq,hm,λY d m hf hq=>Qm d f a Y hf (QM hq).1 (by omega),λY v d m hf g hlt h c=>?_⟩;cases hfin:f.fin
 ·exact J8 v l d f a Y hf g hl (Jv c hd) hfin
 ·exact WP v l d f a Y hf g hl (Jv c hd) hfin
def YD(f:Db)(d:Value)(l:List UInt8)(w:World)(hk:f.kind=5)(hr:RR w d f.rngs)(hn:f.rngs.length<=1099511627776)(hd:f.data.length<=35184372088832)(hl:l.length<=35184372088832):Calls prog 131 #[.int .i64 f.kind] w (IX f d l (Gg 16 f) (true) w):=by
 rw[hk];refine(Mf w).mono ?_;rintro e w' ⟨b,tb,ab,rfl,hc,a,hm,hb,htb,hab⟩;refine⟨b,_,_,172,_,rfl,hc,Rs,II,hm,λY i _ _ _=>IK _ Y,λY v i m hf ho c j g=>?_⟩;exact TE v l i tb ab _ f d Y hf (a.mod m (λx=>x) (λx=>x)) (λh=>by have:=c _ h;omega) (λh=>by have:=c _ h;omega) ho hl (Jv g hd)
def Wv(f:Db)(a:Value)(l:List UInt8)(w:World)(hk:f.kind=6)(hr:RR w a f.rngs)(hn:f.rngs.length<=1099511627776)(hd:f.data.length<=35184372088832)(hl:l.length<=35184372088832):Calls prog 131 #[.int .i64 f.kind] w (IX f a l (I1 f) (true) w):=by
 rw[hk];refine(Me w).mono ?_;rintro e w' ⟨b,rfl,hc,hm,hb⟩;refine⟨b,187,#[],172,_,rfl,hc,YJ,II,hm,λY d m hf hq=>IK _ Y,λY v d m hf ho hlt g c=>?_⟩;exact J5 v l d f a Y hf ho hl (Jv c hd)
def Wu(f:Db)(a:Value)(l:List UInt8)(w:World)(hk:f.kind=7)(hr:RR w a f.rngs)(hn:f.rngs.length<=1099511627776)(hd:f.data.length<=35184372088832)(hl:l.length<=35184372088832):Calls prog 131 #[.int .i64 f.kind] w (IX f a l (IF f) (true) w):=by
 rw[hk];refine(Md w).mono ?_;rintro e w' ⟨b,rfl,hc,hm,hb⟩;refine⟨b,189,#[],172,_,rfl,hc,YM,II,hm,λY d m hf hq=>IK _ Y,λY v d m hf ho hlt g c=>?_⟩;exact J3 v l d f a Y hf ho hl (Jv c hd)
def Wt(f:Db)(d:Value)(l:List UInt8)(w:World)(hk:f.kind=8)(hr:RR w d f.rngs)(hn:f.rngs.length<=1099511627776)(hd:f.data.length<=35184372088832)(hl:l.length<=35184372088832):Calls prog 131 #[.int .i64 f.kind] w (IX f d l (Gg 28 f) (true) w):=by
 rw[hk];refine(Mc w).mono ?_;rintro e w' ⟨b,tb,ab,rfl,hc,a,hm,hb,htb,hab⟩;refine⟨b,_,_,172,_,rfl,hc,Rs,II,hm,λY i _ _ _=>IK _ Y,λY v i m hf ho c j g=>?_⟩;exact TE v l i tb ab _ f d Y hf (a.mod m (λx=>x) (λx=>x)) (λh=>by have:=c _ h;omega) (λh=>by have:=c _ h;omega) ho hl (Jv g hd)
def dP(v:Value)(l:List UInt8)(f:Db)(b:Value)(w:World)(hk:f.kind<1\/8<f.kind)(hv:∃a n c,v = .slice a n c):Calls prog 144 #[v,.agg (zh f b)] w λe w'=>e = .returned (.slice none 0 0)/\DW DX w w':=by
 have c0:(w.alloc (.cells (zh f b) 65)).cell? ⟨w.heap.size,0,none⟩=some (.int .i64 f.kind):=za (heap_alloc_new w _) rfl;have g:DW DX w (w.alloc (.cells (zh f b) 65)):=(DW.refl _ _).alloc _;have d:=Mb f.kind hk (w.alloc (.cells (zh f b) 65));obtain⟨X,i⟩:=nm (w.alloc (.cells (zh f b) 65));rw[i]at d g c0;have h:=zb g;clear g hk;obtain⟨a,n,c,rfl⟩:=hv;unfold zh at i ⊢;go_enter func144,ntmps144;go_wp2_with fail;refine d.mono ?_;rintro e w1 ⟨rfl,m1⟩;go_wp2_with fail;go_ret;exact⟨rfl,h.z.trans m1⟩
def QG(v:Value)(l:List UInt8)(f:Db)(d:Value)(w:World)(h:OB w v l)(b:0<f.rngs.length->Dl (λk=>v.ownBlock=some k) d)(n:RR w d f.rngs)(o:f.rngs.length<=1099511627776)(hd:f.data.length<=35184372088832)(hl:l.length<=35184372088832):Calls prog 144 #[v,.agg (zh f d)] w (Nl w v l (zT f) (zA f)):=by
 by_cases hk:f.kind<1\/8<f.kind
 ·have hs:zT f=false:=by
   have:zN f=false:=by
    unfold zN;rw[AH (by omega),AH (by omega),AH (by omega)];simp;omega
   rw[zT,this,Bool.and_false]
  refine(dP v l f d w hk (by obtain⟨a,c,rfl,_⟩:=zi h;exact⟨a,_,c,rfl⟩)).mono ?_;rintro e w' ⟨rfl,hm⟩;exact .inr ⟨hs,rfl,hm⟩
 ·have p:f.kind=1\/f.kind=2\/f.kind=3\/f.kind=4\/f.kind=5\/f.kind=6\/f.kind=7\/f.kind=8:=by omega
  rcases p with e|e|e|e|e|e|e|e
  ·have g:zA f=[1]:=by simp[zA,e]
   have i:zN f=(true):=by simp[zN,e]
   rw[zT,g,i];exact I3 v l f d _ _ w h b (λj m=>YH f d l j e (n.mod m (Dl.no _)) o hd hl)
  ·have g:zA f=GC f:=by simp[zA,e]
   have i:zN f=(Eh f.rngs):=by simp[zN,e]
   rw[zT,g,i];exact I3 v l f d _ _ w h b (λj m=>YG f d l j e (n.mod m (Dl.no _)) o hd hl)
  ·have g:zA f=I0 f:=by simp[zA,e]
   have i:zN f=(decide (f.rel<=f.off)):=by simp[zN,e]
   rw[zT,g,i];exact I3 v l f d _ _ w h b (λj m=>YF f d l j e (n.mod m (Dl.no _)) o hd hl)
  ·have g:zA f=if f.fin then I9 f else Iz f:=by simp[zA,e]
   have i:zN f=(decide (f.data.length+f.off<=4611686018427387903)):=by simp[zN,e]
   rw[zT,g,i];exact I3 v l f d _ _ w h b (λj m=>YE f d l j e (n.mod m (Dl.no _)) o hd hl)
  ·have g:zA f=Gg 16 f:=by simp[zA,e]
   have i:zN f=(true):=by simp[zN,e]
   rw[zT,g,i];exact I3 v l f d _ _ w h b (λj m=>YD f d l j e (n.mod m (Dl.no _)) o hd hl)
  ·have g:zA f=I1 f:=by simp[zA,e]
   have i:zN f=(true):=by simp[zN,e]
   rw[zT,g,i];exact I3 v l f d _ _ w h b (λj m=>Wv f d l j e (n.mod m (Dl.no _)) o hd hl)
  ·have g:zA f=IF f:=by simp[zA,e]
   have i:zN f=(true):=by simp[zN,e]
   rw[zT,g,i];exact I3 v l f d _ _ w h b (λj m=>Wu f d l j e (n.mod m (Dl.no _)) o hd hl)
  ·have g:zA f=Gg 28 f:=by simp[zA,e]
   have i:zN f=(true):=by simp[zN,e]
   rw[zT,g,i];exact I3 v l f d _ _ w h b (λj m=>Wt f d l j e (n.mod m (Dl.no _)) o hd hl)
def G6(w:World)(v:Value)(fs:List (Db×Value)):Prop :=
 ∃a cap,v = .slice a fs.length cap/\fs.length<=cap/\cap<=maxLen/\∀i fr,fs[i]?=some fr ->
  (∃g o,a=some ⟨g,o,none⟩/\∀j x,(zh fr.1 fr.2)[j]?=some x->w.cell? ⟨g,o+i*10+j,none⟩=some x)/\RR w fr.2 fr.1.rngs
def G6.mod{fs:List (Db×Value)}(h:G6 w v fs)(m:DW S w w')(hs:Dl S v)(hr:∀fr∈fs,Dl S fr.2):G6 w' v fs:=by
 obtain⟨a,cap,rfl,h1,h2,h3⟩:=h;refine⟨a,cap,rfl,h1,h2,λi fr hi=>?_⟩;obtain⟨⟨g,o,rfl,hc⟩,b⟩:=h3 i fr hi;exact⟨⟨g,o,rfl,λj x hx=>m.cell (a:=⟨g,_,none⟩) (hs g o _ _ rfl) (hc j x hx)⟩,b.mod m (hr fr (Ac hi))⟩
def G6.mod0{fs:List (Db×Value)}(h:G6 w v fs)(m:DW DX w w'):G6 w' v fs:=h.mod m (Dl.no _) (λ_ _=>Dl.no _)
def Dq.mod0(h:Dq w (.slice none 0 0) l new v' w'):DW DX w w':=h.mod.mono (λi hi=>by cases hi)
def sealed(l:List UInt8):List UInt8:=l++EG (Dv l)
def I8(h:∀j x,(zh f rv)[j]?=some x->w.cell? ⟨g,b+j,none⟩=some x):w.cell? ⟨g,b,none⟩=some (.int .i64 f.kind)/\w.cell? ⟨g,b+1,none⟩=some (.int .i64 f.stream)/\w.cell? ⟨g,b+2,none⟩=some (.int .u64 f.off)/\w.cell? ⟨g,b+3,none⟩=some (.int .u64 f.rel)/\w.cell? ⟨g,b+4,none⟩=some (.int .u64 f.lim) /\
  w.cell? ⟨g,b+5,none⟩=some (.bool f.fin)/\w.cell? ⟨g,b+6,none⟩=some (.int .u64 f.id)/\w.cell? ⟨g,b+7,none⟩=some (.int .u64 f.dl)/\w.cell? ⟨g,b+8,none⟩=some (.string (zq f.data))/\w.cell? ⟨g,b+9,none⟩=some rv :=
 ⟨h 0 _ rfl,h 1 _ rfl,h 2 _ rfl,h 3 _ rfl,h 4 _ rfl,h 5 _ rfl,h 6 _ rfl,h 7 _ rfl,h 8 _ rfl,h 9 _ rfl⟩
def D2:Ending:=.panicked [{ v:=.iface 230 (.agg #[]),recovered:=false }]
def D7(w:World)(rb:Nat)(v:Value)(pos:Nat):Prop:=w.heap[rb]?=some (.cells #[v,.int .i64 pos] 229 (0,0))
variable{pos rb:Nat}
def D7.mod(h:D7 w rb v pos)(m:DW S w w')(hs:¬S rb):D7 w' rb v pos:=m.obj hs h
def D7.c0(h:D7 w rb v pos):w.cell? ⟨rb,0,none⟩=some v:=za h rfl
def D7.c1(h:D7 w rb v pos):w.cell? ⟨rb,1,none⟩=some (.int .i64 pos):=za h rfl
def BR.mod(h:BR w v l)(m:DW S w w')(hs:Dl S v):BR w' v l:=by
 obtain⟨a,cap,rfl,h1,h2,h3⟩:=h;refine⟨a,cap,rfl,h1,h2,λi c hi=>?_⟩;obtain⟨g,o,rfl,hc⟩:=h3 i c hi;exact⟨g,o,rfl,m.cell (a:=⟨g,_,none⟩) (hs g o _ _ rfl) hc⟩
def EJ(rb:Nat):Nat->Prop:=λk=>k=rb
def I7(p:Value)(w:World):Calls prog 128 #[p] w λe w'=>e=D2/\w=w':=by
 go_enter func128,ntmps128;go_wp2_with fail;exact⟨rfl,rfl,rfl⟩
variable{cs:Array Value}{fz:Nat×Nat}{t:Nat}
def zc(h:w.heap[b]?=some (.cells cs t fz)):(w.setCell ⟨b,i,none⟩ v).heap[b]?=some (.cells (cs.setIfInBounds i v) t fz):=by
 simp[World.setCell,CA,h]
variable{a:Option Addr}{bs:List UInt8}{cap:Nat}
def BR.sub{n:Nat}(h:BR w (.slice a bs.length cap) bs)(hp:pos+n<=bs.length):BR w (.slice (a.map λx=>x.add pos) n (cap-pos)) ((bs.drop pos).take n):=by
 obtain⟨a',d,hv,h1,h2,h3⟩:=h;cases hv;have hl:((bs.drop pos).take n).length=n:=by simp;omega
 refine⟨a.map λx=>x.add pos,cap-pos,by rw[hl],by omega,by unfold maxLen at h2 ⊢;omega,λi c hi=>?_⟩;have b:i<n:=by
  have:=(AM.1 hi).1;omega
 rw[B8,AN b,A6]at hi;obtain⟨g,o,rfl,hc⟩:=h3 (pos+i) c hi;refine⟨g,o+pos,?_,?_⟩
 ·simp only[Ay,zS]
 ·rw[Nat.add_assoc];exact hc
def BR.nil(w:World)(a:Option Addr)(c:Nat)(h:c<=maxLen):BR w (.slice a 0 c) []:=⟨a,c,rfl,AL _,h,λi c hi=>by simp at hi⟩
def Ql(rb:Nat)(w:World)(e:Ending)(w':World):Prop:=e=D2/\DW (EJ rb) w w'
def PG(rb n pos:Nat)(z:Int)(hz:z=(n:Int))(v:Value)(bs:List UInt8)(w:World)(h:D7 w rb v pos)(hb:BR w v bs)(hp:pos<=bs.length)(hn:bs.length-pos<n):Calls prog 129 #[.pointer (some ⟨rb,0,none⟩),.int .u64 z] w (Ql rb w):=by
 subst hz;obtain⟨a,cap,rfl,h1,h2,h3⟩:=hb;unfold maxLen at h2;have c0:=h.c0;have c1:=h.c1;have e1:IntKind.i64.wrap ((bs.length:Int)-pos)=(bs.length:Int)-pos:=IntWalk.i64_in _ (by omega);have e2:=wu ((bs.length:Int)-pos) (by omega);have d:(bs.length:Int)-pos<n:=by omega
 clear h3 h;go_enter func129,ntmps129;go_wp2_with fail;go_quiet (fail);go_wp2_with (go_at_call 128;refine(I7 _ _).mono ?_;rintro e w' ⟨b,rfl⟩;unfold D2 at b;subst b);exact⟨rfl,rfl,(DW.refl _ _).drewN _⟩
def Nb(rb n pos:Nat)(z:Int)(hz:z=(n:Int))(v:Value)(bs:List UInt8)(w:World)(h:D7 w rb v pos)(hb:BR w v bs)(hv:Dl (EJ rb) v)(hp:pos+n<=bs.length):Calls prog 129 #[.pointer (some ⟨rb,0,none⟩),.int .u64 z] w λe w'=>∃sv,e = .returned sv/\BR w' sv ((bs.drop pos).take n)/\D7 w' rb v (pos+n)/\DW (EJ rb) w w':=by
 subst hz;obtain⟨a,cap,rfl,h1,h2,h3⟩:=id hb;unfold maxLen at h2;have c0:=h.c0;have c1:=h.c1;have e1:IntKind.i64.wrap ((bs.length:Int)-pos)=(bs.length:Int)-pos:=IntWalk.i64_in _ (by omega);have e2:=wu ((bs.length:Int)-pos) (by omega);have e3:IntKind.i64.wrap (n:Int)=(n:Int):=IntWalk.i64_in _ (by omega);have e4:IntKind.i64.wrap ((pos:Int)+n)=(pos:Int)+n:=IntWalk.i64_in _ (by omega);have d:¬((bs.length:Int)-pos<n):=by omega
 have c:w.frozen? ⟨rb,1,none⟩=false:=zf h;clear h3;have H:=zb h;have Hb:=zb hb;clear h hb;go_enter func129,ntmps129;go_wp2_with fail;go_quiet (fail);go_wp2_with fail;obtain⟨W,b⟩:=nm ((w.drewN nq).setCell ⟨rb,1,none⟩ (.int .i64 ((pos:Int)+n)));have f:DW (EJ rb) w W:=by rw[<-b];exact((DW.refl (EJ rb) w).drewN nq).setCell (p:=⟨rb,1,none⟩) (.inl rfl) _
 have k1:W.cell? ⟨rb,1,none⟩=some (.int .i64 ((pos:Int)+n)):=by rw[<-b];exact World.cell?_setCell_same _ _ _ c1
 have k0:W.cell? ⟨rb,0,none⟩=some (.slice a bs.length cap):=by rw[<-b,World.cell?_setCell_other _ _ _ _ (by simp)];exact c0
 have i:AA (D7 W rb (.slice a bs.length cap) (pos+n)):=by
  show W.heap[rb]?=_;rw[<-b,zc (w:=w.drewN nq) H.z];simp
 have HB:=zb (Hb.z.mod f hv);have j:=zb f;rw[b];clear b f c0 c1 c;have k:IntKind.i64.wrap ((pos:Int)+n-n)=(pos:Int):=by rw[show(pos:Int)+n-n=pos by omega];exact IntWalk.i64_in _ (by omega)
 have e6:((pos:Int)+n).toNat=pos+n:=by omega
 by_cases hc:pos=cap
 ·have g:n=0:=by omega
  subst g;have hl:bs.length=pos:=by omega
  have HL:=zb hl;subst hc;clear hl k e6;have k:IntKind.i64.wrap ((pos:Int)+((0:Nat):Int)-((0:Nat):Int))=(pos:Int):=by rw[show(pos:Int)+((0:Nat):Int)-((0:Nat):Int)=pos by omega];exact IntWalk.i64_in _ (by omega)
  go_quiet (fail);go_wp2_with fail;go_ret;refine⟨_,rfl,?_,i.z.mod (S:=DX) ((DW.refl _ _).drewN _) (λx=>x),j.z.drewN _⟩;rw[CR];exact BR.nil _ _ _ (by unfold maxLen;omega)
 ·have hc':¬cap=pos:=λh=>hc h.symm
  go_quiet (fail);go_wp2_with fail;go_ret;refine⟨_,rfl,?_,i.z.mod (S:=DX) ((DW.refl _ _).drewN _) (λx=>x),j.z.drewN _⟩;exact(HB.z.sub hp).mod (S:=DX) ((DW.refl _ _).drewN _) (Dl.no _)
def D4(c:UInt8):Nat:=2 ^ (c.toNat / 64)
def Fp(c:UInt8)(l:List UInt8):Nat:=l.foldl (λn x=>n*256+x.toNat) (c.toNat % 64)
def Ds(bs:List UInt8)(pos:Nat):Option (Nat×Nat) :=
 match bs[pos]? with
 | none=>none
 | some c=>if pos+D4 c<=bs.length then some (Fp c ((bs.drop (pos+1)).take (D4 c-1)),pos+D4 c)else none
def eJ(c:UInt8)(l:List UInt8)(x:UInt8):Fp c (l++[x])=Fp c l*256+x.toNat:=by simp[Fp]
theorem iO(l:List UInt8):∀n b,n<b->l.foldl (λn x=>n*256+x.toNat) n<b*256 ^ l.length:=by
 induction l with
 | nil=>intro n b h;simpa using h
 | cons x l ih =>
  intro n b h;have hx:=x.toNat_lt;have:=ih (n*256+x.toNat) (b*256) (by omega);simp only[List.foldl_cons,AQ,Nat.pow_succ];rw[Nat.mul_assoc,AK 256]at this;exact this
def Ro(c:UInt8)(l:List UInt8):Fp c l<64*256 ^ l.length:=iO l _ 64 (Nat.mod_lt _ (by decide))
def Ws:∀a:Fin 256,bits .and .u8 ((a.val:Nat):Int) 63=((a.val % 64:Nat):Int):=by decide +kernel
def eI(a b:Nat)(ha:a<18446744073709551616)(hb:b<18446744073709551616):bits .or .u64 (a:Int) (b:Int)=((a ||| b:Nat):Int):=by
 have hx:a ||| b<2 ^ 64:=Nat.or_lt_two_pow (by omega) (by omega);have h1:(BitVec.ofInt 64 (a:Int)).toNat=a:=by
  rw[Bi,Bq];exact B6 (by omega)
 have h2:(BitVec.ofInt 64 (b:Int)).toNat=b:=by
  rw[Bi,Bq];exact B6 (by omega)
 show IntKind.u64.wrap ((BitVec.ofInt 64 (a:Int) ||| BitVec.ofInt 64 (b:Int)).toNat:Int)=_;rw[BitVec.toNat_or,h1,h2,IntKind.wrap_u64];omega
def KX(a c:Nat)(hc:c<256):a*256 ||| c=a*256+c:=by
 have:=Nat.two_pow_add_eq_or_of_lt (b:=c) (i:=8) hc a;rw[AK]at this;exact this.symm
def KO(a c:Nat)(ha:a<72057594037927936)(hc:c<256):bits .or .u64 ((a:Int)*256) (c:Int)=((a*256+c:Nat):Int):=by
 have:=eI (a*256) c (by omega) (by omega);rw[KX a c hc]at this;rw[<-this]
 congr 1
def QX(w:World)(rb:Nat)(v:Value)(r:Option (Value×Nat))(e:Ending)(w':World):Prop :=
 (∃x p,r=some (x,p)/\e = .returned x/\D7 w' rb v p/\DW (EJ rb) w w')\/(r=none/\Ql rb w e w')
def zW(rb pos:Nat)(v:Value)(bs:List UInt8)(w:World)(h:D7 w rb v pos)(hb:BR w v bs)(r:Dl (EJ rb) v)(hp:pos<=bs.length):Calls prog 127 #[.pointer (some ⟨rb,0,none⟩)] w (QX w rb v ((Ds bs pos).map λq=>(.int .u64 q.1,q.2))):=by
 by_cases s:pos<bs.length
 ·obtain⟨c,hc⟩:∃c,bs[pos]?=some c:=⟨bs[pos],AJ s⟩;have t:(bs.drop pos).take 1=[c]:=by
   rw[List.take_one,List.head?_drop,hc];rfl
  have t1:=Nb rb 1 pos 1 rfl v bs w h hb r (by omega);rw[t]at t1;have hcl:=c.toNat_lt;have u:=Ws ⟨c.toNat,by omega⟩;simp only at u;have L:c.toNat / 64=0\/c.toNat / 64=1\/c.toNat / 64=2\/c.toNat / 64=3:=by omega
  have M:=zb L;have N:=zb hb;have O:=zb hc;clear h hb L hc t;go_enter func127,ntmps127;go_wp2_with fail;refine t1.mono ?_;rintro e G ⟨sv,rfl,hs,h1,m1⟩;obtain⟨a,cap,rfl,_,_,h3⟩:=hs;obtain⟨g,o,rfl,d⟩:=h3 0 c rfl;clear h3 t1;simp only[Br]at d;have y:=zb h1;have f:=zb m1;clear h1 m1;simp only[AQ,AX];have z:IntKind.u64.wrap (IntKind.u64.wrap (2 ^ (c.toNat / 64))-1)=((D4 c-1:Nat):Int):=by
   unfold D4;rcases M.z with e|e|e|e<;>rw[e]<;>rfl
  have hz1:1<=D4 c:=Nat.one_le_two_pow;have hz8:D4 c<=8:=by
   unfold D4;rcases M.z with e|e|e|e<;>rw[e]<;>decide
  by_cases j:pos+D4 c<=bs.length
  ·have A:=Nb rb (D4 c-1) (pos+1) _ z v bs G y.z (N.z.mod f.z r) r (by omega);have B:((bs.drop (pos+1)).take (D4 c-1)).length=D4 c-1:=by simp;omega
   have F:AA (Ds bs pos=some (Fp c ((bs.drop (pos+1)).take (D4 c-1)),pos+D4 c)):=by
    show _=_;unfold Ds;rw[O.z];simp only[AN j]
   obtain⟨b,l⟩:=nm ((bs.drop (pos+1)).take (D4 c-1));rw[l]at A B F;clear l;have Zv:=zb z;clear z;go_wp2_with fail;refine A.mono ?_;rintro e P ⟨sv,rfl,H,h2,Q⟩;have H2:AA (D7 P rb v (pos+D4 c)):=by
    have e:pos+1+(D4 c-1)=pos+D4 c:=by omega
    rw[e]at h2;exact h2
   have HM:=zb (f.z.trans Q);obtain⟨a2,R,rfl,hq1,I,h4⟩:=H;have S:b.length<=7:=by omega
   unfold maxLen at I;clear h2 Q A B u d Zv;go_wp2_with fail
   go_loop [4,6,21] (λn _ i=>∃k:Nat,k<=b.length/\i = .int .i64 k/\n = .int .u64 (Fp c (b.take k):Int)) (λ_ _ i=>b.length-(intOf i).toNat)
   case atStart=>exact⟨0,AL _,rfl,by simp[Fp]⟩
   case round =>
    obtain⟨k,hk,rfl,rfl⟩:=hrel;by_cases J:k<b.length
    ·obtain⟨x,K⟩:∃x,b[k]?=some x:=⟨b[k],AJ J⟩;obtain⟨g2,o2,rfl,hc2⟩:=h4 k x K;have T:AA (Fp c (b.take (k+1))=Fp c (b.take k)*256+x.toNat):=by
      show _=_;rw[UA b k x K,eJ]
     have C:Fp c (b.take k)<72057594037927936:=by
      have h1:=Ro c (b.take k);have h2:(b.take k).length<=6:=by rw[AS];omega
      have h3:256 ^ (b.take k).length<=256 ^ 6:=Nat.pow_le_pow_right (by omega) h2;have h5:64*256 ^ (b.take k).length<=64*256 ^ 6:=Cx _ h3;have h6:64*256 ^ 6<=72057594037927936:=by decide
      exact Aw h1 (AO h5 h6)
     obtain⟨m,p⟩:=nm (Fp c (b.take k));have hxl:=x.toNat_lt;rw[p]at C T ⊢;have hor:=KO m x.toNat C (by omega);have hw1:=wu ((m:Int)*256) (by omega);clear p h4 K;go_wp2_with fail
     go_round
     case rel=>exact⟨k+1,by omega,by go_num,by rw[T.z];go_num⟩
     case measure=>simp[intOf];omega
    ·have D:b.take k=b:=AW (by omega);rw[D];clear D h4;go_wp2_with fail;go_ret;exact .inl ⟨_,_,by rw[F.z];rfl,rfl,H2.z,HM.z⟩
  ·have A:=PG rb (D4 c-1) (pos+1) _ z v bs G y.z (N.z.mod f.z r) (by omega) (by omega);have F:AA (Ds bs pos=none):=by
    show _=_;unfold Ds;rw[O.z];simp only[AH j]
   clear z;go_wp2_with (go_at_call 129;refine A.mono ?_;rintro e P ⟨E,p⟩;unfold D2 at E;subst E);exact⟨rfl,.inr ⟨by rw[F.z];rfl,rfl,f.z.trans p⟩⟩
 ·have hr:AA (Ds bs pos=none):=by
   show _=_;unfold Ds;rw[Bo (by omega)]
  have t1:=PG rb 1 pos 1 rfl v bs w h hb hp (by omega);clear h hb r s;go_enter func127,ntmps127;go_wp2_with (go_at_call 129;refine t1.mono ?_;rintro e G ⟨E,p⟩;unfold D2 at E;subst E);exact⟨rfl,.inr ⟨by rw[hr.z];rfl,rfl,p⟩⟩
def PW:(prog.info? 214).map (λi=>(i.zero,i.size,i.bytes))=some (some (.agg #[.int .u64 0,.int .u64 0]),2,16):=by kernel_rfl
def Jp:(prog.info? 214).map (·.size)=some 2:=by kernel_rfl
def PV(w:World):(zeroValue 214).run prog w = .ok (.agg #[.int .u64 0,.int .u64 0]) w:=by kernel_rfl
def gz(w:World)(g g2 o h i lb cb:Nat)(b a:List Value)(hg:w.heap[g]?=some (.cells b.toArray 214 (0,0)))(c:w.heap[g2]?=some (.cells a.toArray 214 (0,0)))
  (f:g2≠g) (d:b.length≠0) :
  (callFunc 202 #[.slice (some ⟨g2,0,none⟩) h i,.slice (some ⟨g,o,none⟩) lb cb]).run prog w = .ok (.value (.bool false)) w:=by
 rw[run_callFunc_extern func202 (by kernel_rfl) (by kernel_rfl) (by kernel_rfl) (e:=Extern.SlicesOverlaps.overlaps #[63,63] #[4]) (by kernel_rfl),
  Lib.run_overlaps_apart w 63 4 214 underlying63 2 (λw=>UC Jp w) ⟨g2,0,none⟩ ⟨g,o,none⟩ h i lb cb f 214 214 a.length b.length
   (by simp[World.shape?,c]) (by simp[World.shape?,hg]) d (by simp[World.frozen?,c]) (by simp[World.frozen?,c])]
 rfl
def LL(a:List Value)(i n:Nat)(r:List Value):List Value:=splice (splice a ((i+1)*2) ((a.drop (i*2)).take ((n-i)*2))) (i*2) r
def Wr(g g2 i n cap:Nat)(a:List Value)(r:Nat×Nat)(w:World)(hi:i<n)(hn:n+1<=cap)(o:cap<=9223372036854775807)
  (hg:w.heap[g]?=some (.cells a.toArray 214 (0,0))) (d:a.length=cap*2) (k:∀v∈(a.drop (i*2)).take ((n-i)*2),v.oneCell'=true) (f:w.heap[g2]?=some (.cells [.int .u64 r.1,.int .u64 r.2].toArray 214 (0,0))) (h:g2≠g) :
  Calls prog 201 #[.slice (some ⟨g,0,none⟩) n cap,.int .i64 i,.slice (some ⟨g2,0,none⟩) 1 1] w λe w'=>e = .returned (.slice (some ⟨g,0,none⟩) (n+1) cap) /\
   w'=(w.setRow g (LL a i n [.int .u64 r.1,.int .u64 r.2]).toArray).drew:=by
 have h1:(i:Int)<n:=by omega
 have h2:decide ((i:Int)=n)=false:=by simp;omega
 have h3:((i:Int)==n)=false:=by simp;omega
 have h4:i+1<cap:=by omega
 have hov:=gz w g g2 ((i+1)*2) 1 1 (n-i) (cap-(i+1)) a _ hg f h (by omega);have l:∀ty,(Builtin.copy_ #[63,63] ty #[.slice (some ⟨g,(i+1)*2,none⟩) (n-i) (cap-(i+1)),.slice (some ⟨g,i*2,none⟩) (n+1-i) (cap-i)]).run prog w.drew =
   .ok (goInt (n-i:Nat)) (w.setRow g (splice a ((i+1)*2) ((a.drop (i*2)).take ((n-i)*2))).toArray).drew:=λty =>
  Le (P:=prog) w.drew 63 63 ty 214 2 underlying63 Jp g ((i+1)*2) (n-i) (cap-(i+1)) g (i*2) (n+1-i) (cap-i) (n-i) a a _ _ _ hg hg
   (by omega) (by omega) (by omega) (by omega) (by omega) k
 obtain⟨j,b⟩:=nm (splice a ((i+1)*2) ((a.drop (i*2)).take ((n-i)*2)));rw[b]at l;have p:j.length=cap*2:=by rw[<-b,length_splice _ _ _ (by simp;omega)];exact d
 obtain⟨m,c⟩:=nm (splice j (i*2) [Value.int .u64 r.1,Value.int .u64 r.2]);have hc2:∀ty,(Builtin.copy_ #[63,63] ty #[.slice (some ⟨g,i*2,none⟩) (n+1-i) (cap-i),.slice (some ⟨g2,0,none⟩) 1 1]).run prog (w.setRow g j.toArray).drew =
   .ok (goInt (1:Nat)) (w.setRow g m.toArray).drew:=λty=>by
  rw[Le (P:=prog) (w.setRow g j.toArray).drew 63 63 ty 214 2 underlying63 Jp g (i*2) (n+1-i) (cap-i) g2 0 1 1 1 j _ _ _ _ (setRow_heap w g _ _ _ _ hg)
   ((setRow_other w g g2 _ h).trans f) (by omega) (by omega) (by omega) (by simp) (by omega) (by simp[Value.oneCell'])]
  simp only[Bv,Ca,CR,Nat.one_mul,c]
  congr 1
  exact A0 World.drew (setRow_setRow w g _ _)
 have HC:AA (LL a i n [.int .u64 r.1,.int .u64 r.2]=m):=by
  show splice (splice _ _ _) _ _=m;rw[b,c]
 clear b c;go_enter func201,ntmps201;go_wp2_with fail
 go_region
 go_wp2_with fail;go_ret;exact⟨rfl,by rw[HC.z]⟩
def U2(g2 n cap:Nat)(a:Option Addr)(v':Value)(w c:World)(d:n<=cap)(b:cap<=9223372036854775807)
  (Dc:∀ty,(Builtin.append_ #[63,63] ty #[.slice a n cap,.slice (some ⟨g2,0,none⟩) 1 1]).run prog w = .ok v' c) :
  Calls prog 201 #[.slice a n cap,.int .i64 n,.slice (some ⟨g2,0,none⟩) 1 1] w λe w'=>e = .returned v'/\w'=c:=by
 by_cases hc:n=cap
 ·subst hc;cases a;all_goals
   go_enter func201,ntmps201;go_wp2_with (at_builtin;refine zm rfl _ _ _ _ rfl _ _ _ rfl rfl Dc ?_);go_ret;exact⟨rfl,rfl⟩
 ·have h1:n<cap:=by omega
  cases a;all_goals
   go_enter func201,ntmps201;go_wp2_with (at_builtin;refine zm rfl _ _ _ _ rfl _ _ _ rfl rfl Dc ?_);go_ret;exact⟨rfl,rfl⟩
def LR(C0 a:List Value)(i n:Nat)(r:List Value):List Value:=splice (splice C0 (i*2) r) ((i+1)*2) ((a.drop (i*2)).take ((n-i)*2))
def Wq(g g2 h i n cap c:Nat)(a j:List Value)(r:Nat×Nat)(w b:World)(hi:i<n)(hnc:n<=cap)(hn:cap<n+1)(s:cap<=9223372036854775807)
  (t:a.length=cap*2) (m:∀v∈(a.drop (i*2)).take ((n-i)*2),v.oneCell'=true)
  (Dc:∀ty,(Builtin.append_ #[63,3] ty #[.slice (some ⟨g,0,none⟩) i cap,.int .i64 ((n:Int)+1-i)]).run prog w = .ok (.slice (some ⟨h,0,none⟩) (n+1) c) b)
  (hg:b.heap[g]?=some (.cells a.toArray 214 (0,0))) (o:b.heap[g2]?=some (.cells [.int .u64 r.1,.int .u64 r.2].toArray 214 (0,0)))
  (u:b.heap[h]?=some (.cells j.toArray 214 (0,0))) (p:j.length=c*2) (x:n+1<=c) (y:c<=9223372036854775807) (_hne:g2≠h) (l:g≠h) :
  Calls prog 201 #[.slice (some ⟨g,0,none⟩) n cap,.int .i64 i,.slice (some ⟨g2,0,none⟩) 1 1] w λe w'=>e = .returned (.slice (some ⟨h,0,none⟩) (n+1) c) /\
   w'=(b.setRow h (LR j a i n [.int .u64 r.1,.int .u64 r.2]).toArray).drew:=by
 have h1:(i:Int)<n:=by omega
 have h3:((i:Int)==n)=false:=by simp;omega
 have h4:i<cap:=by omega
 have h5:i+1<c:=by omega
 obtain⟨k,d⟩:=nm (splice j (i*2) [Value.int .u64 r.1,Value.int .u64 r.2]);have z:k.length=c*2:=by rw[<-d,length_splice _ _ _ (by simp;omega)];exact p
 have hc1:∀ty,(Builtin.copy_ #[63,63] ty #[.slice (some ⟨h,i*2,none⟩) (n+1-i) (c-i),.slice (some ⟨g2,0,none⟩) 1 1]).run prog b =
   .ok (goInt (1:Nat)) (b.setRow h k.toArray):=λty=>by
  rw[Le (P:=prog) b 63 63 ty 214 2 underlying63 Jp h (i*2) (n+1-i) (c-i) g2 0 1 1 1 j _ _ _ _ u
   o (by omega) (by omega) (by omega) (by simp) (by omega) (by simp[Value.oneCell'])]
  simp only[Bv,Ca,CR,Nat.one_mul,d]
 obtain⟨q,f⟩:=nm (splice k ((i+1)*2) ((a.drop (i*2)).take ((n-i)*2)));have hc2:∀ty,(Builtin.copy_ #[63,63] ty #[.slice (some ⟨h,(i+1)*2,none⟩) (n-i) (c-(i+1)),.slice (some ⟨g,i*2,none⟩) (n-i) (cap-i)]).run prog (b.setRow h k.toArray).drew =
   .ok (goInt (n-i:Nat)) (b.setRow h q.toArray).drew:=λty=>by
  rw[Le (P:=prog) (b.setRow h k.toArray).drew 63 63 ty 214 2 underlying63 Jp h ((i+1)*2) (n-i) (c-(i+1)) g (i*2) (n-i) (cap-i) (n-i) k a _ _ _ (setRow_heap b h _ _ _ _ u)
   ((setRow_other b h g _ l).trans hg) (by omega) (by omega) (by omega) (by omega) (by omega) m]
  rw[f]
  congr 1
  exact A0 World.drew (setRow_setRow b h _ _)
 have HC:AA (LR j a i n [.int .u64 r.1,.int .u64 r.2]=q):=by
  show splice (splice _ _ _) _ _=q;rw[d,f]
 clear d f;go_enter func201,ntmps201;go_wp2_with (at_builtin;refine zm rfl _ _ _ _ rfl _ _ _ rfl rfl Dc ?_)
 go_region
 go_wp2_with fail;go_ret;exact⟨rfl,by rw[HC.z]⟩
end
end Go.Proofs.YtddfdpbaiedcjaaGreatDoor
