/- A part of Carried's proof. Conditions: none. Part 2 of 13. -/
import Derived.Laws.CopyOwn
import Derived.Test.YtddfdpbaiedcjaaGreatDoorRows
import Derived.BigQuiet
import Derived.WalkSpells
import Derived.Test.YtddfdpbaiedcjaaGreatDoorCar1
import Derived.RangeFuncNested
import Derived.Shelf.Abstract
import Derived.OwnWalkIn
import Derived.TacticsInMore
import Derived.LoopNIn
import Derived.LoopIn
import Derived.Laws.EntriesVeiled
import Derived.Lib.LazyBuf
import Derived.WalkLawsBesides
set_option maxRecDepth 100000
set_option maxHeartbeats 16000000
set_option linter.all false
namespace Go.Proofs.YtddfdpbaiedcjaaGreatDoor
open Go.RowKit Go.Proofs.Tryz
theorem zb{p:Prop}(h:p):Hid p:=h
abbrev zA:=List (Nat×Nat)
def loAt(rs:zA)(i:Nat):Nat:=(rs.getD i (0,0)).1
def hiAt(rs:zA)(i:Nat):Nat:=(rs.getD i (0,0)).2
def zn:zA→List Value
 | []=>[]
 | r::rs=>.int .u64 (r.1:Int) :: .int .u64 (r.2:Int)::zn rs
theorem zL(rs:zA):(zn rs).length=rs.length*2:=by
 induction rs with
 | nil=>rfl
 | cons r rs ih=>simp only[zn,List.length_cons,ih];omega
theorem zax(a b:zA):zn (a++b)=zn a++zn b:=by
 induction a with
 | nil=>rfl
 | cons r rs ih=>simp[zn,ih]
theorem zlR(rs:zA):∀i,i<rs.length→(zn rs)[i*2]?=some (.int .u64 (loAt rs i:Int)):=by
 induction rs with
 | nil=>intro i h;simp at h
 | cons r rs ih =>
  intro i h;cases i with
  | zero=>rfl
  | succ i =>
   have e:(i+1)*2=i*2+1+1:=by omega
   rw[e];simp only[zn,List.getElem?_cons_succ,loAt,List.getD_cons_succ];exact ih i (by simpa using h)
theorem zlS(rs:zA):∀i,i<rs.length→(zn rs)[i*2+1]?=some (.int .u64 (hiAt rs i:Int)):=by
 induction rs with
 | nil=>intro i h;simp at h
 | cons r rs ih =>
  intro i h;cases i with
  | zero=>rfl
  | succ i =>
   have e:(i+1)*2+1=i*2+1+1+1:=by omega
   rw[e];simp only[zn,List.getElem?_cons_succ,hiAt,List.getD_cons_succ];exact ih i (by simpa using h)
theorem zch(rs:zA):∀k,(zn rs).take (k*2)=zn (rs.take k):=by
 induction rs with
 | nil=>intro k;simp[zn]
 | cons r rs ih =>
  intro k;cases k with
  | zero=>simp[zn]
  | succ k =>
   have e:(k+1)*2=k*2+1+1:=by omega
   rw[e];simp[zn,ih]
theorem zeF(rs:zA):∀k,(zn rs).drop (k*2)=zn (rs.drop k):=by
 induction rs with
 | nil=>intro k;simp[zn]
 | cons r rs ih =>
  intro k;cases k with
  | zero=>simp[zn]
  | succ k =>
   have e:(k+1)*2=k*2+1+1:=by omega
   rw[e];simp[zn,ih]
variable{base cap e g n:Nat}{rs:zA}{w:World}
theorem zaJ(h:w.ownsRow base e 2 (.slice (some ⟨g,0,none⟩) n cap) rs.length (zn rs)):∀i,i<rs.length→w.cell? ⟨g,i*2,none⟩=some (.int .u64 (loAt rs i:Int))∧w.cell? ⟨g,i*2+1,none⟩=some (.int .u64 (hiAt rs i:Int)):=by
 intro i hi;have hc:=h.cells (g:=g) rfl;have a:∀j,(⟨g,0,none⟩:Addr).add j=⟨g,j,none⟩:=fun j=>by unfold Addr.add;split<;>simp_all
 exact⟨by rw[←a];exact hc _ _ (zlR rs i hi),by rw[←a];exact hc _ _ (zlS rs i hi)⟩
variable{sz:Nat}{v:Value}{xs:List Value}
theorem zi(h:w.ownsRow base e sz v n xs):∃a cap,v = .slice a n cap∧n≤cap∧cap≤maxLen∧(0<n→∃g,a=some ⟨g,0,none⟩):=by
 rcases h.2 with⟨rfl,rfl⟩|⟨g,cap,cur,rfl,_,_,h1,h2,_⟩
 ·exact⟨none,0,rfl,Nat.le_refl _,Nat.zero_le _,fun h=>absurd h (Nat.lt_irrefl _)⟩
 ·exact⟨_,cap,rfl,h1,h2,fun _=>⟨g,rfl⟩⟩
structure Mod(S:Nat→Prop)(w w':World):Prop where
 os:w'.os=w.os
 tape:w'.tape=w.tape
 output:w'.output=w.output
 size:w.heap.size≤w'.heap.size
 block:∀k,k<w.heap.size→¬S k→w'.heap[k]?=w.heap[k]?
def NoB:Nat→Prop:=fun _=>False
section
variable {S:Nat→Prop} {w w' w'':World}
theorem Mod.refl(S:Nat→Prop)(w:World):Mod S w w:=⟨rfl,rfl,rfl,Nat.le_refl _,fun _ _ _=>rfl⟩
theorem Mod.trans(h:Mod S w w')(k:Mod S w' w''):Mod S w w'' :=
 ⟨k.os.trans h.os,k.tape.trans h.tape,k.output.trans h.output,Nat.le_trans h.size k.size,fun i hi a=>(k.block i (Nat.lt_of_lt_of_le hi h.size) a).trans (h.block i hi a)⟩
theorem Mod.then{S':Nat→Prop}(h:Mod S w w')(k:Mod S' w' w'')(hs:∀i,S' i→S i∨w.heap.size≤i):Mod S w w'' :=
 ⟨k.os.trans h.os,k.tape.trans h.tape,k.output.trans h.output,Nat.le_trans h.size k.size,
  fun i hi a=>(k.block i (Nat.lt_of_lt_of_le hi h.size) (fun x=>(hs i x).elim a (fun y=>by omega))).trans (h.block i hi a)⟩
theorem Mod.mono{S':Nat→Prop}(h:Mod S w w')(hs:∀i,S i→S' i∨w.heap.size≤i):Mod S' w w' :=
 ⟨h.os,h.tape,h.output,h.size,fun i hi hn=>h.block i hi (fun x=>(hs i x).elim hn (fun y=>by omega))⟩
theorem Mod.drewN(h:Mod S w w')(n:Nat):Mod S w (w'.drewN n):=⟨h.os,h.tape,h.output,h.size,h.block⟩
theorem Mod.drew(h:Mod S w w'):Mod S w w'.drew:=⟨h.os,h.tape,h.output,h.size,h.block⟩
theorem Mod.alloc(h:Mod S w w')(o:Obj):Mod S w (w'.alloc o) :=
 ⟨h.os,h.tape,h.output,Nat.le_trans h.size (by simp),fun i hi hn=>(Below.heap_alloc w' o i (Nat.lt_of_lt_of_le hi h.size)).trans (h.block i hi hn)⟩
theorem Mod.setCell(h:Mod S w w'){p:Addr}(a:S p.block∨w.heap.size≤p.block)(u:Value):Mod S w (w'.setCell p u) :=
 ⟨h.os,h.tape,h.output,by simpa [World.setCell]using h.size,fun i hi b=>(Below.heap_setCell w' p u i (by
  rintro rfl;rcases a with a|a
  ·exact b a
  ·omega)).trans (h.block i hi b)⟩
theorem Mod.grown{row:Option Nat}(h:Mod S w w')(hg:w'.grownBy w'' row)(hr:∀k,row=some k→S k∨w.heap.size≤k):Mod S w w'' :=
 ⟨hg.os.trans h.os,hg.tape.trans h.tape,hg.output.trans h.output,Nat.le_trans h.size hg.size,
  fun i hi a=>(hg.block i (Nat.lt_of_lt_of_le hi h.size) (fun e=>by
   rcases hr i e.symm with x|x
   ·exact a x
   ·omega)).trans (h.block i hi a)⟩
theorem Mod.of_below(h:Below w.heap.size w w'):Mod S w w':=⟨h.os,h.tape,h.output,h.size,fun i hi _=>h.block i hi⟩
theorem Mod.below(h:Mod NoB w w'):Below w.heap.size w w':=⟨h.os,h.tape,h.output,h.size,fun i hi=>h.block i hi (fun x=>x)⟩
theorem Mod.cell(h:Mod S w w'){a:Addr}(hs:¬S a.block)(hc:w.cell? a=some v):w'.cell? a=some v :=
 (World.cell?_of_block (h.block a.block (World.block_lt_of_cell? w a hc) hs)).trans hc
variable{k:Nat}
theorem Mod.obj(h:Mod S w w'){o:Obj}(hs:¬S k)(hc:w.heap[k]?=some o):w'.heap[k]?=some o :=
 (h.block k (Array.getElem?_eq_some_iff.1 hc).1 hs).trans hc
theorem Mod.owns(h:Mod S w w')(b:w.ownsRow base e sz v n xs)(hs:∀g,v.ownBlock=some g→¬S g):w'.ownsRow base e sz v n xs:=by
 refine⟨b.1,?_⟩;rcases b.2 with hn|⟨g,cap,a,rfl,hb,hg,rest⟩
 ·exact .inl hn
 ·exact .inr ⟨g,cap,a,rfl,hb,h.obj (hs g rfl) hg,rest⟩
end
variable{b o:Nat}
theorem zk(h:w.cell? ⟨b,o,none⟩=some v):b<w.heap.size:=World.block_lt_of_cell? w _ h
variable{cs:Array Value}{fz:Nat×Nat}{k t:Nat}
theorem za(h:w.heap[k]?=some (.cells cs t fz))(hv:cs[o]?=some v):w.cell? ⟨k,o,none⟩=some v:=by
 unfold World.cell?;simp only[h];simpa using hv
theorem zf(h:w.heap[k]?=some (.cells cs t (0,0))):w.frozen? ⟨k,o,none⟩=false:=by
 unfold World.frozen?;simp only[h];simp
variable{j:Nat}
theorem zci{R:Nat}{x:Value}{a:Addr}(h:w.cell? a=some v)(ne:¬a.block=R):(w.setCell ⟨R,j,none⟩ x).cell? a=some v :=
 ((Mod.refl (fun k=>k=R) w).setCell (p:=⟨R,j,none⟩) (.inl rfl) x).cell ne h
theorem zkD{R:Nat}{x:Value}{a:Addr}(h:w.cell? a=some v)(ne:¬a.block=R):(w.setCell ⟨R,j,none⟩ x).drew.cell? a=some v:=zci h ne
theorem zkE{R:Nat}{x y:Value}{a:Addr}(h:w.cell? a=some v)(ne:¬a.block=R):((w.setCell ⟨R,j,none⟩ x).setCell ⟨R,k,none⟩ y).drew.cell? a=some v:=zci (zci h ne) ne
variable{w':World}
theorem zbh(h:w'.heap[b]?=w.heap[b]?)(o:Nat)(v:Value):(w'.setCell ⟨b,o,none⟩ v).heap[b]?=(w.setCell ⟨b,o,none⟩ v).heap[b]?:=by
 simp only[World.setCell,Array.getElem?_modify,h]
variable{P:Program}
theorem zdv {f : FuncId} {fn : Func} {c : Code} (hf : P.funcs[f]? = some fn) (a : (fn.name == "runtime.NumGoroutine") = false) (hb : fn.body = some c) (args : Array Value) (w : World):(callFunc f args).run P w = .ok (.enter f args) w:=by
 have h1 : fn.name ≠ "runtime.NumGoroutine" := by simpa using a
 simp[callFunc,hf,h1,hb]
section
variable {P:Program}
theorem zU(g o j:Nat):(⟨g,o,none⟩:Addr).add j=⟨g,o+j,none⟩:=by unfold Addr.add;split<;>simp_all
theorem zeb(hk:(P.info? e).map (·.size)=some k)(w:World):(sizeOf e).run P w = .ok k w:=by
 cases hq:P.info? e with
 | none=>simp[hq]at hk
 | some i=>simp[hq]at hk;simp[sizeOf,typeInfo,hq,hk]
theorem zg2{a:List Value}(hg:w.heap[g]?=some (.cells a.toArray t fz))(o n:Nat):∀j v,((a.drop o).take n)[j]?=some v→w.cell? ((⟨g,o,none⟩:Addr).add j)=some v:=by
 intro j v b;rw[zU];rw[List.getElem?_take]at b;split at b
 ·rw[List.getElem?_drop]at b;simpa [World.cell?,hg]using b
 ·cases b
theorem zaX(w:World)(f sT ty e k:Nat)(hu:P.underlying f=some (.slice e))(hk:(P.info? e).map (·.size)=some k)
  (g d dl dc h os sl i n:Nat) (b src:List Value) (t t':Nat) (fz:Nat×Nat)
  (hg:w.heap[g]?=some (.cells b.toArray t (0,0))) (hh:w.heap[h]?=some (.cells src.toArray t' fz)) (hn1:n≤sl) (hn2:n≤dl) (hn3:n=sl∨n=dl)
  (hs:os+n*k≤src.length) (hd:d+n*k≤b.length) (h1:∀v∈(src.drop os).take (n*k),v.oneCell'=true) :
  (Builtin.copy_ #[f,sT] ty #[.slice (some ⟨g,d,none⟩) dl dc,.slice (some ⟨h,os,none⟩) sl i]).run P w =
   .ok (goInt n) (w.setRow g (splice b d ((src.drop os).take (n*k))).toArray):=by
 have hn:n=Nat.min sl dl:=by
  show n=min sl dl;omega
 have a:((src.drop os).take (n*k)).length=n*k:=by simp;omega
 have hl:=run_firstCells_some (P:=P) (w:=w) k n ⟨h,os,none⟩ sl i _ a (zg2 hh os (n*k));have c:=run_storeCells_at P g d t ((src.drop os).take (n*k)) 0 b.toArray w hg (by simp;omega) h1;have hz:=zeb hk;subst hn;simp only[Nat.add_zero,a]at c;have j:=c;simp[Builtin.copy_,run_underlying hu,Builtin.lenOf,hz,hl,c,splice,a];try omega
theorem zgl(z:Array Value)(n:Nat)(h1:∀v∈z.toList,v.oneCell'=true):∀v∈(Builtin.zeroCells z n).toList,v.oneCell'=true:=by
 intro v b;simp only[Builtin.zeroCells,Array.toList_map,List.mem_map]at b;obtain⟨i,hi,rfl⟩:=b;by_cases hz:z.size=0
 ·simp[hz]at hi
 ·have a:i % z.size<z.size:=Nat.mod_lt _ (by omega);apply h1;rw[getElem!_pos z _ a];exact Array.getElem_mem_toList a
theorem zaK(w:World)(T ty e:Nat)(z:Value)(k:Nat)(f:P.underlying T=some (.slice e))(hv:∀w,(zeroValue e).run P w = .ok z w)(hz:z.cells.size=k)
  (h1:∀v∈z.cells.toList,v.oneCell'=true) (g o n c:Nat) (a:List Value) (t:Nat) (hg:w.heap[g]?=some (.cells a.toArray t (0,0))) (hd:o+n*k≤a.length) :
  (Builtin.clear_ #[T] ty #[.slice (some ⟨g,o,none⟩) n c]).run P w = .ok (.tuple #[]) (w.setRow g (splice a o (Builtin.zeroCells z.cells n).toList).toArray):=by
 have b:(Builtin.zeroCells z.cells n).toList.length=n*k:=by simp[size_zeroCells,hz]
 have d:=run_storeCells_at P g o t (Builtin.zeroCells z.cells n).toList 0 a.toArray w hg (by rw[b];simpa using hd) (zgl _ _ h1);simp only[Nat.add_zero,b]at d;cases n with
 | zero =>
  have e1:(Builtin.zeroCells z.cells 0).toList=[]:=by simp[Builtin.zeroCells]
  have:=setRow_self w g a.toArray t (0,0) hg;simp[Builtin.clear_,run_underlying f,e1,splice,this]
 | succ n =>
  simp only[Builtin.clear_];simp[run_underlying f,hv,d,splice,b]
def zaH(w:World)(v v':Value):Prop:=∀k,v'.ownBlock=some k→v.ownBlock=some k∨w.heap.size≤k
theorem zaH.refl(w:World)(v:Value):zaH w v v:=fun _ h=>.inl h
theorem zQ(w:World)(t e:Nat)(i:TypeInfo)(z:Value)(size bytes:Nat)(D:P.underlying t=some (.slice e))(hi:P.info? e=some i)(K:i.zero=some z)
  (r:i.size=size) (F:i.bytes=bytes) (G:z.cells.size=size) (hsz:0<size)
  (v:Value) (n:Nat) (xs:List Value) (d:w.ownsRow 0 e size v n xs)
  (a:Addr) (m c:Nat) (b:List Value) (hl:b.length=m*size) (f:∀j u,b[j]?=some u→w.cell? (a.add j)=some u) (h1:∀u∈b,u.oneCell'=true)
  (A:n+m≤maxLen) (l:(n+m)*bytes≤140737488355328) :
  ∃v' w',(∀ty,(Builtin.append_ #[t,t] ty #[v,.slice (some a) m c]).run P w = .ok v' w')∧w'.ownsRow 0 e size v' (n+m) (xs++b)∧w.grownBy w' v.ownBlock∧zaH w v v':=by
 subst r;subst F;have E:n+m≤9223372036854775807:=by simp only[maxLen]at A;omega
 have o:(xs++b).length=(n+m)*i.size:=by rw[List.length_append,d.1,hl,Nat.add_mul]
 have grown:∀(old:Nat),old<n+m→∀(row:Option Nat),
   (w.drew.alloc (.cells (xs.toArray++b.toArray++Builtin.zeroCells z.cells (grownCap w (n+m) old e-(n+m))) e)).ownsRow 0 e i.size
    (.slice (some ⟨w.heap.size,0,none⟩) (n+m) (grownCap w (n+m) old e)) (n+m) (xs++b) ∧
   w.grownBy (w.drew.alloc (.cells (xs.toArray++b.toArray++Builtin.zeroCells z.cells (grownCap w (n+m) old e-(n+m))) e)) row:=by
  intro old ho row;have H:=grownCap_ge w (n+m) old e;have s:grownCap w (n+m) old e≤maxLen:=grownCap_le_maxLen w (n+m) old e A;refine⟨⟨o,.inr ⟨w.heap.size,_,_,rfl,Nat.zero_le _,heap_alloc_new w.drew _,H,s,?_,?_⟩⟩,⟨rfl,rfl,rfl,by simp,fun k hk _=>Below.heap_alloc w.drew _ k hk⟩⟩
  ·simp only[Array.size_append,List.size_toArray,size_zeroCells,G,d.1,hl,←Nat.add_mul]
   congr 1
   omega
  ·simp only[Array.toList_append,List.append_assoc];rw[←List.append_assoc,←o];exact List.take_left
 have q:∀c n v,zaH w v (.slice (some ⟨w.heap.size,0,none⟩) n c):=fun c n v k hk=>by
  simp[Value.ownBlock]at hk;omega
 rcases d.2 with⟨rfl,rfl⟩|⟨g,cap,x,rfl,I,hg,hnc,s,J,y⟩
 ·have hx:xs=[]:=List.eq_nil_of_length_eq_zero (by simpa using d.1);subst hx;by_cases hm:m=0
  ·subst hm;have hn:b=[]:=List.eq_nil_of_length_eq_zero (by simpa using hl);subst hn;refine⟨.slice none 0 0,w,fun ty=>?_,World.ownsRow_nil w 0 e i.size,⟨rfl,rfl,rfl,Nat.le_refl _,fun _ _ _=>rfl⟩,zaH.refl _ _⟩;simp[Builtin.append_,run_underlying D,sizeOf,typeInfo,hi,Builtin.lenOf,Builtin.firstCells,loadCells,loadCellsFrom]
  ·have B:=fun ty=>run_append_nil (P:=P) w t ty e i z D hi K a m c b hl f (by omega) (by omega) (by have hb:=l;simp only[Nat.zero_add]at hb;omega)
   have p:=grown 0 (by omega) (Value.ownBlock (.slice none 0 0));simp only[Nat.zero_add,List.nil_append,Array.empty_append]at p ⊢;exact⟨_,_,B,p.1,p.2,q _ _ _⟩
 ·by_cases h:n+m≤cap
  ·have C:n*i.size+b.length≤x.size:=by rw[hl,J,←Nat.add_mul];exact Nat.mul_le_mul_right _ h
   have B:=fun ty=>run_append_room (P:=P) w t ty e i D hi g n cap x hg a m c b hl f h1 h C
   refine⟨_,_,B,⟨o,.inr ⟨g,cap,_,rfl,I,setRow_heap w g x _ e _ hg,h,s,?_,?_⟩⟩,⟨rfl,rfl,rfl,by simp,fun k _ hk=>setRow_other w g k _ (fun e=>hk (by simp[Value.ownBlock,e]))⟩,fun k hk=>.inl hk⟩
   ·simp only[List.size_toArray,List.length_append,List.length_take,List.length_drop,Array.length_toList];omega
   ·rw[y,←o];exact List.take_left
  ·have holds:∀j u,xs[j]?=some u→w.cell? ((⟨g,0,none⟩:Addr).add j)=some u:=d.cells (g:=g) rfl;have B:=fun ty=>run_append_grow (P:=P) w t ty e i z D hi K ⟨g,0,none⟩ n cap xs d.1 holds a m c b hl f (by omega) (by omega) (growslice_fits (by omega) l)
   have p:=grown cap (by omega) (Value.ownBlock (.slice (some ⟨g,0,none⟩) n cap));exact⟨_,_,B,p.1,p.2,q _ _ _⟩
theorem zeG(w:World)(t u ty e:Nat)(ik:IntKind)(i:TypeInfo)(z:Value)(ht:P.underlying t=some (.slice e))(hu:P.underlying u=some (.int ik))(hi:P.info? e=some i)(hz:i.zero=some z)
  (b:Addr) (a c n:Nat) (d:List Value) (m:d.length=a*i.size) (holds:∀j v,d[j]?=some v→w.cell? (b.add j)=some v)
  (hg:c<a+n) (h63:a+n≤9223372036854775807) (hb:(a+n)*i.bytes≤140737488355328) (hnz:0<n*i.size) :
  (Builtin.append_ #[t,u] ty #[.slice (some b) a c,.int .i64 (n:Int)]).run P w =
   .ok (.slice (some ⟨w.heap.size,0,none⟩) (a+n) (grownCap w (a+n) c e))
    (w.drew.alloc (.cells (d.toArray++Builtin.zeroCells z.cells n++Builtin.zeroCells z.cells (grownCap w (a+n) c e-(a+n))) e)):=by
 have hn:¬(a+n≤c):=by omega
 have g:¬(9223372036854775807<((a:Int)+(n:Int))):=by omega
 have q:=growslice_fits hg hb;have h:¬(281474976710656<Builtin.nextslicecap (a+n) c*i.bytes):=by omega
 have hw:IntKind.i64.wrap (n:Int)=(n:Int):=IntWalk.i64_in _ (by omega);have k:¬((n:Int)<0):=by omega
 have hbn:n*i.bytes≤281474976710656:=by rw[Nat.add_mul]at hb;omega
 have l:¬(281474976710656<(n:Int)*(i.bytes:Int)):=by
  have:((n*i.bytes:Nat):Int)≤281474976710656:=by omega
  rw[Int.natCast_mul]at this;omega
 have f:¬(n*i.size=0):=by omega
 have o:=run_firstCells_some (P:=P) w.drew i.size a b a c d m (by simpa using holds);have p:Sem.run P (asIntOf (.int .i64 (n:Int))) w = .ok (.i64,(n:Int)) w:=rfl;simp[Builtin.append_,run_underlying ht,run_underlying hu,sizeOf,typeInfo,zeroValue,hi,hz,asInt,p,hw,k,l,hn,g,h,f,Question.forced,o,newRow,grownCap]
variable{Q:Exit→Act→World→Prop}{ops:Array Oper}{w1:World}
theorem zl{rest:List Oper}{o:Oper}{a:Act}(c:o.guard=none)(s x:Operand)(t u:TypeId)
  (ho:o.op = .call { callee:=.builtin .append,args:=#[s,x],argTypes:=#[t,u] }) (d e v':Value) (hs:a.eval s=d) (hx:a.eval x=e)
  (happ:∀ty,(Builtin.append_ #[t,u] ty #[d,e]).run P w = .ok v' w1) (h:wpList P ops Q rest (a.put o.dst v') w1):wpList P ops Q (o::rest) a w:=by
 refine wpList_plain c fun K hK=>?_
 have b:=happ o.type;unfold Oper.wp;simp[execOp,ho,resolve,invoke,builtin,hs,hx,b,Result.andThen];exact hK _ _ h
variable{Q:Exit→Act→World→Prop}{ops:Array Oper}{w1:World}
theorem zO{o:Oper}{a:Act}{K:Act→World→Prop}{E:Prop}(c:o.guard=none)(s x:Operand)(t u:TypeId)
  (ho:o.op = .call { callee:=.builtin .append,args:=#[s,x],argTypes:=#[t,u] }) (d e v':Value) (hs:a.eval s=d) (hx:a.eval x=e)
  (happ:∀ty,(Builtin.append_ #[t,u] ty #[d,e]).run P w = .ok v' w1) (h:K (a.put o.dst v') w1) :
  if Region.wanted o (yielded ops a.tmps)=true then Oper.wp P o a w K Q else E:=by
 have hw:Region.wanted o (yielded ops a.tmps)=true:=by simp[Region.wanted,c]
 rw[if_pos hw];have b:=happ o.type;unfold Oper.wp;simp[execOp,ho,resolve,invoke,builtin,hs,hx,b,Result.andThen];exact h
end
section
variable {P:Program}
theorem zau(w:World)(t e:Nat)(i:TypeInfo)(z:Value)(size bytes:Nat)(E:P.underlying t=some (.slice e))(hi:P.info? e=some i)(M:i.zero=some z)
  (y:i.size=size) (G:i.bytes=bytes) (H:z.cells.size=size) (hsz:0<size)
  (v:Value) (n:Nat) (xs:List Value) (d:w.ownsRow 0 e size v n xs)
  (a:Addr) (m c:Nat) (b:List Value) (hl:b.length=m*size) (f:∀j u,b[j]?=some u→w.cell? (a.add j)=some u) (h1:∀u∈b,u.oneCell'=true)
  (A:n+m≤maxLen) (l:(n+m)*bytes≤140737488355328) :
  ∃v' w',(∀ty,(Builtin.append_ #[t,t] ty #[v,.slice (some a) m c]).run P w = .ok v' w')∧w'.ownsRow 0 e size v' (n+m) (xs++b)∧w.grownBy w' v.ownBlock∧zaH w v v'∧w'.ownsRow 0 e size v n xs:=by
 subst y;subst G;have F:n+m≤9223372036854775807:=by simp only[maxLen]at A;omega
 have o:(xs++b).length=(n+m)*i.size:=by rw[List.length_append,d.1,hl,Nat.add_mul]
 have grown:∀(old:Nat),old<n+m→∀(row:Option Nat),
   (w.drew.alloc (.cells (xs.toArray++b.toArray++Builtin.zeroCells z.cells (grownCap w (n+m) old e-(n+m))) e)).ownsRow 0 e i.size
    (.slice (some ⟨w.heap.size,0,none⟩) (n+m) (grownCap w (n+m) old e)) (n+m) (xs++b) ∧
   w.grownBy (w.drew.alloc (.cells (xs.toArray++b.toArray++Builtin.zeroCells z.cells (grownCap w (n+m) old e-(n+m))) e)) row:=by
  intro old ho row;have I:=grownCap_ge w (n+m) old e;have s:grownCap w (n+m) old e≤maxLen:=grownCap_le_maxLen w (n+m) old e A;refine⟨⟨o,.inr ⟨w.heap.size,_,_,rfl,Nat.zero_le _,heap_alloc_new w.drew _,I,s,?_,?_⟩⟩,⟨rfl,rfl,rfl,by simp,fun k hk _=>Below.heap_alloc w.drew _ k hk⟩⟩
  ·simp only[Array.size_append,List.size_toArray,size_zeroCells,H,d.1,hl,←Nat.add_mul]
   congr 1
   omega
  ·simp only[Array.toList_append,List.append_assoc];rw[←List.append_assoc,←o];exact List.take_left
 have q:∀c n v,zaH w v (.slice (some ⟨w.heap.size,0,none⟩) n c):=fun c n v k hk=>by
  simp[Value.ownBlock]at hk;omega
 rcases d.2 with⟨rfl,rfl⟩|⟨g,cap,x,rfl,B,hg,J,s,K,r⟩
 ·have hx:xs=[]:=List.eq_nil_of_length_eq_zero (by simpa using d.1);subst hx;by_cases hm:m=0
  ·subst hm;have hn:b=[]:=List.eq_nil_of_length_eq_zero (by simpa using hl);subst hn;refine⟨.slice none 0 0,w,fun ty=>?_,World.ownsRow_nil w 0 e i.size,⟨rfl,rfl,rfl,Nat.le_refl _,fun _ _ _=>rfl⟩,zaH.refl _ _,World.ownsRow_nil w 0 e i.size⟩;simp[Builtin.append_,run_underlying E,sizeOf,typeInfo,hi,Builtin.lenOf,Builtin.firstCells,loadCells,loadCellsFrom]
  ·have C:=fun ty=>run_append_nil (P:=P) w t ty e i z E hi M a m c b hl f (by omega) (by omega) (by have hb:=l;simp only[Nat.zero_add]at hb;omega)
   have p:=grown 0 (by omega) (Value.ownBlock (.slice none 0 0));simp only[Nat.zero_add,List.nil_append,Array.empty_append]at p ⊢;exact⟨_,_,C,p.1,p.2,q _ _ _,World.ownsRow_nil _ 0 e i.size⟩
 ·by_cases h:n+m≤cap
  ·have D:n*i.size+b.length≤x.size:=by rw[hl,K,←Nat.add_mul];exact Nat.mul_le_mul_right _ h
   have C:=fun ty=>run_append_room (P:=P) w t ty e i E hi g n cap x hg a m c b hl f h1 h D
   refine⟨_,_,C,⟨o,.inr ⟨g,cap,_,rfl,B,setRow_heap w g x _ e _ hg,h,s,?_,?_⟩⟩,⟨rfl,rfl,rfl,by simp,fun k _ hk=>setRow_other w g k _ (fun e=>hk (by simp[Value.ownBlock,e]))⟩,fun k hk=>.inl hk,⟨d.1,.inr ⟨g,cap,_,rfl,B,setRow_heap w g x _ e _ hg,J,s,?_,?_⟩⟩⟩
   ·simp only[List.size_toArray,List.length_append,List.length_take,List.length_drop,Array.length_toList];omega
   ·rw[r,←o];exact List.take_left
   ·simp only[List.size_toArray,List.length_append,List.length_take,List.length_drop,Array.length_toList];omega
   ·rw[r,←d.1,List.append_assoc];exact List.take_left
  ·have holds:∀j u,xs[j]?=some u→w.cell? ((⟨g,0,none⟩:Addr).add j)=some u:=d.cells (g:=g) rfl;have C:=fun ty=>run_append_grow (P:=P) w t ty e i z E hi M ⟨g,0,none⟩ n cap xs d.1 holds a m c b hl f (by omega) (by omega) (growslice_fits (by omega) l)
   have p:=grown cap (by omega) (Value.ownBlock (.slice (some ⟨g,0,none⟩) n cap));have L:=grown cap (by omega) none;exact⟨_,_,C,p.1,p.2,q _ _ _,d.kept L.2 (by simp[Value.ownBlock])⟩
theorem zdc(w:World)(t u e:Nat)(i:TypeInfo)(C:P.underlying t=some (.slice e))(D:P.underlying u=some .string)(hi:P.info? e=some i)(M:i.zero=some (.int .u8 0))
  (d:i.size=1) (y:i.bytes=1) (v:Value) (n:Nat) (xs:List Value) (a:w.ownsRow 0 e 1 v n xs) (s:ByteArray) (z:n+s.size≤maxLen) (E:n+s.size≤140737488355328) :
  ∃v' w',(∀ty,(Builtin.append_ #[t,u] ty #[v,.string s]).run P w = .ok v' w')∧w'.ownsRow 0 e 1 v' (n+s.size) (xs++Lib.strCells s)∧w.grownBy w' v.ownBlock∧zaH w v v'∧w'.ownsRow 0 e 1 v n xs:=by
 have F:n+s.size≤9223372036854775807:=by simp only[maxLen]at z;omega
 have p:xs.length=n:=by simpa using a.1
 have f:(xs++Lib.strCells s).length=(n+s.size)*1:=by rw[List.length_append,p,Lib.strCells_length,Nat.mul_one]
 have grown:∀(old:Nat),old<n+s.size→∀(row:Option Nat),
   (w.drew.alloc (.cells (xs.toArray++(Lib.strCells s).toArray++Builtin.zeroCells (Value.int .u8 0).cells (grownCap w (n+s.size) old e-(n+s.size))) e)).ownsRow 0 e 1
    (.slice (some ⟨w.heap.size,0,none⟩) (n+s.size) (grownCap w (n+s.size) old e)) (n+s.size) (xs++Lib.strCells s) ∧
   w.grownBy (w.drew.alloc (.cells (xs.toArray++(Lib.strCells s).toArray++Builtin.zeroCells (Value.int .u8 0).cells (grownCap w (n+s.size) old e-(n+s.size))) e)) row:=by
  intro old ho row;have H:=grownCap_ge w (n+s.size) old e;have q:grownCap w (n+s.size) old e≤maxLen:=grownCap_le_maxLen w (n+s.size) old e z;refine⟨⟨f,.inr ⟨w.heap.size,_,_,rfl,Nat.zero_le _,heap_alloc_new w.drew _,H,q,?_,?_⟩⟩,⟨rfl,rfl,rfl,by simp,fun k hk _=>Below.heap_alloc w.drew _ k hk⟩⟩
  ·have I:(Value.int IntKind.u8 0).cells.size=1:=rfl;simp only[Array.size_append,List.size_toArray,size_zeroCells,I,p,Lib.strCells_length];omega
  ·simp only[Array.toList_append,List.append_assoc];rw[←List.append_assoc,←f];exact List.take_left
 have l:∀c n v,zaH w v (.slice (some ⟨w.heap.size,0,none⟩) n c):=fun c n v k hk=>by
  simp[Value.ownBlock]at hk;omega
 rcases a.2 with⟨rfl,rfl⟩|⟨g,cap,m,rfl,A,hg,J,q,K,r⟩
 ·have hx:xs=[]:=List.eq_nil_of_length_eq_zero p;subst hx;by_cases G:s.size=0
  ·have hn:Lib.strCells s=[]:=List.eq_nil_of_length_eq_zero (by rw[Lib.strCells_length];exact G);refine⟨.slice none 0 0,w,fun ty=>?_,by rw[G,hn];exact World.ownsRow_nil w 0 e 1,⟨rfl,rfl,rfl,Nat.le_refl _,fun _ _ _=>rfl⟩,zaH.refl _ _,World.ownsRow_nil w 0 e 1⟩;have hf:=Lib.run_firstCells_string (P:=P) w 1 s;rw[G]at hf;simp[Builtin.append_,run_underlying C,run_underlying D,sizeOf,typeInfo,hi,d,Builtin.lenOf,G,hf]
  ·have x:=fun ty=>run_append_nil_string (P:=P) w t u ty e i (.int .u8 0) C D hi M s (by omega) (by omega) (by rw[y];omega)
   have h:=grown 0 (by omega) (Value.ownBlock (.slice none 0 0));simp only[Nat.zero_add,List.nil_append,Array.empty_append]at h ⊢;have e1:(s.data.map fun b=>Value.int .u8 b.toNat)=(Lib.strCells s).toArray:=by
    apply Array.ext';simp[Lib.strCells]
   rw[e1]at x;exact⟨_,_,x,h.1,h.2,l _ _ _,World.ownsRow_nil _ 0 e 1⟩
 ·by_cases o:n+s.size≤cap
  ·have N:m.size=cap:=by simpa using K
   have B:m.toList.take n=xs:=by simpa using r
   have x:=fun ty=>Lib.run_append_room_string (P:=P) w t u ty e i C D hi d g n cap m hg s o (by omega)
   refine⟨_,_,x,⟨f,.inr ⟨g,cap,_,rfl,A,setRow_heap w g m _ e _ hg,o,q,?_,?_⟩⟩,⟨rfl,rfl,rfl,by simp,fun k _ hk=>setRow_other w g k _ (fun e=>hk (by simp[Value.ownBlock,e]))⟩,fun k hk=>.inl hk,⟨a.1,.inr ⟨g,cap,_,rfl,A,setRow_heap w g m _ e _ hg,J,q,?_,?_⟩⟩⟩
   ·simp only[List.size_toArray,List.length_append,List.length_take,List.length_drop,Array.length_toList,Lib.strCells_length];omega
   ·rw[B,←f];exact List.take_left
   ·simp only[List.size_toArray,List.length_append,List.length_take,List.length_drop,Array.length_toList,Lib.strCells_length];omega
   ·rw[B,←a.1,List.append_assoc];exact List.take_left
  ·have holds:∀j u,xs[j]?=some u→w.cell? ((⟨g,0,none⟩:Addr).add j)=some u:=a.cells (g:=g) rfl;have x:=fun ty=>Lib.run_append_grow_string (P:=P) w t u ty e i (.int .u8 0) C D hi M ⟨g,0,none⟩ n cap xs (by rw[d];simpa using p) holds s (by omega) (by omega) (by rw[y];exact growslice_fits (by omega) (by omega))
   have h:=grown cap (by omega) (Value.ownBlock (.slice (some ⟨g,0,none⟩) n cap));have L:=grown cap (by omega) none;exact⟨_,_,x,h.1,h.2,l _ _ _,a.kept L.2 (by simp[Value.ownBlock])⟩
end
def zP(l:List UInt8):List Value:=l.map fun c=>.int .u8 (c.toNat:Int)
theorem zan(l:List UInt8):(zP l).length=l.length:=by simp[zP]
theorem zbi(a b:List UInt8):zP (a++b)=zP a++zP b:=by simp[zP]
theorem zdW(l:List UInt8):∀u∈zP l,u.oneCell'=true:=by
 intro u a;simp only[zP,List.mem_map]at a;obtain⟨_,_,rfl⟩:=a;rfl
def OB(w:World)(v:Value)(l:List UInt8):Prop:=w.ownsRow 0 5 1 v l.length (zP l)
theorem OB.nil(w:World):OB w (.slice none 0 0) []:=World.ownsRow_nil w 0 _ 1
structure App(w:World)(v:Value)(l new:List UInt8)(v':Value)(w':World):Prop where
 own:OB w' v' (l++new)
 old:OB w' v l
 grown:w.grownBy w' v.ownBlock
 at_:zaH w v v'
variable{m:Nat}{v':Value}
theorem zkF{j:List Value}(h:w.ownsRow 0 e sz v n xs)(h':w.ownsRow 0 e sz v' m (xs++j))(hb:v'.ownBlock=v.ownBlock)(k:w'.ownsRow 0 e sz v' m (xs++j)):w'.ownsRow 0 e sz v n xs:=by
 rcases h.2 with⟨rfl,rfl⟩|⟨g,cap,cur,rfl,hbg,hg,l,o,p,q⟩
 ·have:xs=[]:=List.eq_nil_of_length_eq_zero (by simpa using h.1);subst this;exact World.ownsRow_nil w' 0 e sz
 ·rcases h'.2 with⟨rfl,_⟩|⟨g',t,u,rfl,_,c,x,y,d,i⟩
  ·simp[Value.ownBlock]at hb
  ·simp[Value.ownBlock]at hb;subst hb;rw[hg]at c;cases c;rcases k.2 with⟨r,_⟩|⟨g2,z,b,r,_,s,A,B,f,a⟩
   ·cases r
   ·cases r;refine⟨h.1,.inr ⟨g',cap,b,rfl,Nat.zero_le _,s,l,o,by rw[f,←d,p],?_⟩⟩;have C:=h.1;have D:(b.toList.take (m*sz)).take (n*sz)=(xs++j).take (n*sz):=by rw[a]
    rw[List.take_take,←C,List.take_left]at D;have e3:=k.1;simp only[List.length_append]at e3
    rwa [Nat.min_eq_left (by omega),C]at D
variable{l:List UInt8}
theorem App.refl(h:OB w v l):App w v l [] v w :=
 ⟨by simpa using h,h,⟨rfl,rfl,rfl,Nat.le_refl _,fun _ _ _=>rfl⟩,zaH.refl _ _⟩
variable{w1:World}
theorem App.trans{c:World}{d j:Value}{a b:List UInt8}(h:App w v l a d w1)(k:App w1 d (l++a) b j c):App w v l (a++b) j c:=by
 have f:w.grownBy c v.ownBlock:=⟨k.grown.os.trans h.grown.os,k.grown.tape.trans h.grown.tape,k.grown.output.trans h.grown.output,Nat.le_trans h.grown.size k.grown.size,fun i hi m =>
  (k.grown.block i (Nat.lt_of_lt_of_le hi h.grown.size) (fun e=>by
   rcases h.at_ i e.symm with x|x
   ·exact m x.symm
   ·omega)).trans (h.grown.block i hi m)⟩
 refine⟨by rw[←List.append_assoc];exact k.own,?_,f,fun i hi=>?_⟩
 ·by_cases hb:d.ownBlock=v.ownBlock
  ·have h1:=h.own;have h2:=k.old;unfold OB at h1 h2 ⊢;rw[zbi]at h1 h2;exact zkF h.old h1 hb h2
  ·refine h.old.kept k.grown ?_;cases hv:v.ownBlock with
   | none=>simp
   | some g=>simpa [hv]using fun e=>hb (e.symm.trans hv.symm)
 ·rcases k.at_ i hi with x|x
  ·exact h.at_ i x
  ·exact .inr (Nat.le_trans h.grown.size x)
def zN(n:Nat):List UInt8 :=
 if n<64 then [UInt8.ofNat n]
 else if n<16384 then [UInt8.ofNat (n / 256+64),UInt8.ofNat n]
 else if n<1073741824 then [UInt8.ofNat (n / 16777216+128),UInt8.ofNat (n / 65536),UInt8.ofNat (n / 256),UInt8.ofNat n]
 else [UInt8.ofNat (n / 72057594037927936+192),UInt8.ofNat (n / 281474976710656),UInt8.ofNat (n / 1099511627776),UInt8.ofNat (n / 4294967296),UInt8.ofNat (n / 16777216),UInt8.ofNat (n / 65536),UInt8.ofNat (n / 256),UInt8.ofNat n]
theorem zgm:(prog.info? 5).map (fun i=>(i.zero,i.size,i.bytes))=some (some (.int .u8 0),1,1):=by kernel_rfl
theorem zdX(w:World)(v:Value)(l new:List UInt8)(cs:Array Value)(m:Nat)(h:OB w v l)(c:cs.toList=zP new)(f:new.length=m)(hl:l.length+m≤140737488355328):∃v' w',(∀ty,(Builtin.append_ #[60,60] ty #[v,.slice (some ⟨w.heap.size,0,none⟩) m m]).run prog (w.alloc (.cells cs 5)) = .ok v' w')∧App w v l new v' w':=by
 obtain⟨i,hi,hz,d,e⟩:=info_parts zgm;have b:(w.alloc (.cells cs 5)).ownsRow 0 5 1 v l.length (zP l):=World.ownsRow.alloc h _;have a:∀(j:Nat) u,(zP new)[j]?=some u→(w.alloc (.cells cs 5)).cell? ((⟨w.heap.size,0,none⟩:Addr).add j)=some u:=by
  intro j u hj;rw[zU];refine za (heap_alloc_new w _) ?_;rw[Nat.zero_add,←Array.getElem?_toList,c];exact hj
 obtain⟨v',w',h1,h2,h3,h4,h5⟩:=zau (P:=prog) (w.alloc (.cells cs 5)) 60 5 i (.int .u8 0) 1 1 underlying60 hi hz d e rfl (by decide) v l.length (zP l) b
  ⟨w.heap.size,0,none⟩ m m (zP new) (by rw[zan,f,Nat.mul_one]) a (zdW new) (by unfold maxLen;omega) (by omega)
 refine⟨v',w',h1,⟨?_,h5,?_,?_⟩⟩
 ·unfold OB;rw[List.length_append,f,zbi];exact h2
 ·exact⟨h3.os,h3.tape,h3.output,Nat.le_trans (by simp) h3.size,fun k hk hn=>(h3.block k (by simp;omega) hn).trans (Below.heap_alloc w _ k hk)⟩
 ·intro k hk;rcases h4 k hk with x|x
  ·exact .inl x
  ·exact .inr (by simp at x;omega)
theorem zqv:∀a:Fin 64,bits BinOp.or IntKind.u8 ((a.val:Nat):Int) 64=((a.val+64:Nat):Int)∧bits BinOp.or IntKind.u8 ((a.val:Nat):Int) 128=((a.val+128:Nat):Int)∧bits BinOp.or IntKind.u8 ((a.val:Nat):Int) 192=((a.val+192:Nat):Int):=by decide +kernel
theorem zgn(n:Nat):Value.int .u8 ((UInt8.ofNat n).toNat:Int) = .int .u8 ((n:Int) % 256):=by
 rw[UInt8.toNat_ofNat']
 congr 1
theorem zoe(v:Value)(l:List UInt8)(n:Nat)(w:World)(h:OB w v l)(hl:l.length≤70368744177664)(b:n<64):Calls prog 83 #[v,.int .u64 (n:Int)] w fun e w'=>∃v',e = .returned v'∧App w v l (zN n) v' w':=by
 have d1:(n:Int)<64:=by omega
 obtain⟨v',w',hr,happ⟩:=zdX w v l (zN n) #[.int .u8 (n:Int)] 1 h (by simp[zN,b,zP];omega) (by simp[zN,b]) (by omega);obtain⟨a,cap,rfl,_⟩:=zi h;have H:=zb happ;clear happ;go_enter func83,ntmps83;go_wp2_with (at_builtin;refine zl rfl _ _ _ _ rfl _ _ _ rfl rfl hr ?_);go_ret;exact⟨_,rfl,H.out⟩
theorem zof(v:Value)(l:List UInt8)(n:Nat)(w:World)(h:OB w v l)(hl:l.length≤70368744177664)(hn:64≤n)(b:n<16384):Calls prog 83 #[v,.int .u64 (n:Int)] w fun e w'=>∃v',e = .returned v'∧App w v l (zN n) v' w':=by
 have d1:¬(n:Int)<64:=by omega
 have d2:(n:Int)<16384:=by omega
 have c:(#[.int .u8 (bits BinOp.or IntKind.u8 ((n:Int) / 256) 64),.int .u8 ((n:Int) % 256)]:Array Value).toList=zP (zN n):=by
  have o:=zqv ⟨n / 256,by omega⟩;have e:((n / 256:Nat):Int)=(n:Int) / 256:=by omega
  simp only[e]at o;simp only[o.1];unfold zN;simp only[show ¬n<64 by omega,b,if_true,if_false,zP,List.map_cons,List.map_nil,zgn];simp;omega
 obtain⟨v',w',hr,happ⟩:=zdX w v l (zN n) (#[.int .u8 (bits BinOp.or IntKind.u8 ((n:Int) / 256) 64),.int .u8 ((n:Int) % 256)]:Array Value) 2 h c (by rw[←zan,←c];rfl) (by omega);clear c;obtain⟨a,cap,rfl,_⟩:=zi h;have H:=zb happ;clear happ;go_enter func83,ntmps83;go_wp2_with (at_builtin;refine zl rfl _ _ _ _ rfl _ _ _ rfl rfl hr ?_);go_ret;exact⟨_,rfl,H.out⟩
theorem zog(v:Value)(l:List UInt8)(n:Nat)(w:World)(h:OB w v l)(hl:l.length≤70368744177664)(hn:16384≤n)(b:n<1073741824):Calls prog 83 #[v,.int .u64 (n:Int)] w fun e w'=>∃v',e = .returned v'∧App w v l (zN n) v' w':=by
 have d1:¬(n:Int)<64:=by omega
 have d2:¬(n:Int)<16384:=by omega
 have d3:(n:Int)<1073741824:=by omega
 have c:(#[.int .u8 (bits BinOp.or IntKind.u8 ((n:Int) / 16777216) 128),.int .u8 ((n:Int) / 65536 % 256),.int .u8 ((n:Int) / 256 % 256),.int .u8 ((n:Int) % 256)]:Array Value).toList=zP (zN n):=by
  have o:=zqv ⟨n / 16777216,by omega⟩;have e:((n / 16777216:Nat):Int)=(n:Int) / 16777216:=by omega
  simp only[e]at o;simp only[o.2.1];unfold zN;simp only[show ¬n<64 by omega,show ¬n<16384 by omega,b,if_true,if_false,zP,List.map_cons,List.map_nil,zgn];simp;omega
 obtain⟨v',w',hr,happ⟩:=zdX w v l (zN n) (#[.int .u8 (bits BinOp.or IntKind.u8 ((n:Int) / 16777216) 128),.int .u8 ((n:Int) / 65536 % 256),.int .u8 ((n:Int) / 256 % 256),.int .u8 ((n:Int) % 256)]:Array Value) 4 h c (by rw[←zan,←c];rfl) (by omega);clear c;obtain⟨a,cap,rfl,_⟩:=zi h;have H:=zb happ;clear happ;go_enter func83,ntmps83;go_wp2_with (at_builtin;refine zl rfl _ _ _ _ rfl _ _ _ rfl rfl hr ?_);go_ret;exact⟨_,rfl,H.out⟩
theorem zoh(v:Value)(l:List UInt8)(n:Nat)(w:World)(h:OB w v l)(hl:l.length≤70368744177664)(hn:1073741824≤n)(hn2:n<4611686018427387904):Calls prog 83 #[v,.int .u64 (n:Int)] w fun e w'=>∃v',e = .returned v'∧App w v l (zN n) v' w':=by
 have d1:¬(n:Int)<64:=by omega
 have d2:¬(n:Int)<16384:=by omega
 have d3:¬(n:Int)<1073741824:=by omega
 have b:(#[.int .u8 (bits BinOp.or IntKind.u8 ((n:Int) / 72057594037927936) 192),.int .u8 ((n:Int) / 281474976710656 % 256),.int .u8 ((n:Int) / 1099511627776 % 256),.int .u8 ((n:Int) / 4294967296 % 256),.int .u8 ((n:Int) / 16777216 % 256),.int .u8 ((n:Int) / 65536 % 256),.int .u8 ((n:Int) / 256 % 256),.int .u8 ((n:Int) % 256)]:Array Value).toList=zP (zN n):=by
  have o:=zqv ⟨n / 72057594037927936,by omega⟩;have e:((n / 72057594037927936:Nat):Int)=(n:Int) / 72057594037927936:=by omega
  simp only[e]at o;simp only[o.2.2];unfold zN;simp only[show ¬n<64 by omega,show ¬n<16384 by omega,show ¬n<1073741824 by omega,if_false,zP,List.map_cons,List.map_nil,zgn];simp;omega
 obtain⟨v',w',hr,happ⟩:=zdX w v l (zN n) (#[.int .u8 (bits BinOp.or IntKind.u8 ((n:Int) / 72057594037927936) 192),.int .u8 ((n:Int) / 281474976710656 % 256),.int .u8 ((n:Int) / 1099511627776 % 256),.int .u8 ((n:Int) / 4294967296 % 256),.int .u8 ((n:Int) / 16777216 % 256),.int .u8 ((n:Int) / 65536 % 256),.int .u8 ((n:Int) / 256 % 256),.int .u8 ((n:Int) % 256)]:Array Value) 8 h b (by rw[←zan,←b];rfl) (by omega);clear b;obtain⟨a,cap,rfl,_⟩:=zi h;have H:=zb happ;clear happ;go_enter func83,ntmps83;go_wp2_with (at_builtin;refine zl rfl _ _ _ _ rfl _ _ _ rfl rfl hr ?_);go_ret;exact⟨_,rfl,H.out⟩
theorem zZ(v:Value)(l:List UInt8)(n:Nat)(w:World)(h:OB w v l)(hl:l.length≤70368744177664)(hn:n<4611686018427387904):Calls prog 83 #[v,.int .u64 (n:Int)] w fun e w'=>∃v',e = .returned v'∧App w v l (zN n) v' w':=by
 by_cases h1:n<64
 ·exact zoe v l n w h hl h1
 ·by_cases h2:n<16384
  ·exact zof v l n w h hl (by omega) h2
  ·by_cases h3:n<1073741824
   ·exact zog v l n w h hl (by omega) h3
   ·exact zoh v l n w h hl (by omega) hn
theorem zbG(n:Int):IntKind.u32.wrap n=n % 4294967296:=by simp[IntKind.wrap,IntKind.bits,IntKind.signed]
theorem zgo(a b:Nat)(ha:a<4294967296)(hb:b<4294967296):bits .xor .u32 (a:Int) (b:Int)=((a ^^^ b:Nat):Int):=by
 have hx:a ^^^ b<2 ^ 32:=Nat.xor_lt_two_pow (by omega) (by omega);have h1:(BitVec.ofInt 32 (a:Int)).toNat=a:=by
  rw[BitVec.ofInt_natCast,BitVec.toNat_ofNat];exact Nat.mod_eq_of_lt (by omega)
 have h2:(BitVec.ofInt 32 (b:Int)).toNat=b:=by
  rw[BitVec.ofInt_natCast,BitVec.toNat_ofNat];exact Nat.mod_eq_of_lt (by omega)
 show IntKind.u32.wrap ((BitVec.ofInt 32 (a:Int) ^^^ BitVec.ofInt 32 (b:Int)).toNat:Int)=_;rw[BitVec.toNat_xor,h1,h2,zbG];omega
theorem zqw(a b:Nat)(ha:a<4294967296)(hb:b<4294967296):bits .and .u32 (a:Int) (b:Int)=((a &&& b:Nat):Int):=by
 have hx:a &&& b<2 ^ 32:=Nat.and_lt_two_pow _ (by omega);have h1:(BitVec.ofInt 32 (a:Int)).toNat=a:=by
  rw[BitVec.ofInt_natCast,BitVec.toNat_ofNat];exact Nat.mod_eq_of_lt (by omega)
 have h2:(BitVec.ofInt 32 (b:Int)).toNat=b:=by
  rw[BitVec.ofInt_natCast,BitVec.toNat_ofNat];exact Nat.mod_eq_of_lt (by omega)
 show IntKind.u32.wrap ((BitVec.ofInt 32 (a:Int) &&& BitVec.ofInt 32 (b:Int)).toNat:Int)=_;rw[BitVec.toNat_and,h1,h2,zbG];omega
theorem zg3(a:Nat)(ha:a<4294967296):bits .and .u32 (a:Int) 15=((a % 16:Nat):Int):=by
 have:=zqw a 15 ha (by omega);rw[show a &&& 15=a % 16 from Nat.and_two_pow_sub_one_eq_mod a 4]at this;exact this
def ctab:List Nat:=[0,498536548,997073096,651767980,1994146192,1802195444,1303535960,1342533948,3988292384,4027552580,3604390888,3412177804,2607071920,2262029012,2685067896,3183342108]
def ct(i:Nat):Nat:=ctab.getD i 0
theorem zqx(i:Nat):ct i<4294967296:=by
 unfold ct;by_cases h:i<16
 ·have:∀j:Fin 16,ctab.getD j.val 0<4294967296:=by decide
  exact this ⟨i,h⟩
 ·rw[List.getD_eq_getElem?_getD,List.getElem?_eq_none (by simp[ctab];omega)]
  decide
def nib(c:Nat):Nat:=(c / 16) ^^^ ct (c % 16)
def zlM(c:Nat)(x:UInt8):Nat:=nib (nib (c ^^^ x.toNat))
def crcL(l:List UInt8):Nat:=l.foldl zlM 4294967295
def crc(l:List UInt8):Nat:=4294967295 ^^^ crcL l
theorem zeH(c:Nat)(h:c<4294967296):nib c<4294967296:=Nat.xor_lt_two_pow (n:=32) (by omega) (zqx _)
theorem zb4(c:Nat)(x:UInt8)(h:c<4294967296):c ^^^ x.toNat<4294967296:=Nat.xor_lt_two_pow (n:=32) h (by have:=x.toNat_lt;omega)
theorem zeI(c:Nat)(x:UInt8)(h:c<4294967296):zlM c x<4294967296:=zeH _ (zeH _ (zb4 c x h))
theorem zlT(l:List UInt8)(x:UInt8):crcL (l++[x])=zlM (crcL l) x:=by simp[crcL]
theorem zec(l:List UInt8):∀c,c<4294967296→l.foldl zlM c<4294967296:=by
 induction l with
 | nil=>intro c h;exact h
 | cons x l ih=>intro c h;exact ih _ (zeI c x h)
theorem ziv(l:List UInt8):crcL l<4294967296:=zec l _ (by omega)
def BR(w:World)(v:Value)(l:List UInt8):Prop :=
 ∃a cap,v = .slice a l.length cap∧l.length≤cap∧cap≤maxLen∧∀i c,l[i]?=some c→∃g o,a=some ⟨g,o,none⟩∧w.cell? ⟨g,o+i,none⟩=some (.int .u8 (c.toNat:Int))
theorem OB.br(h:OB w v l):BR w v l:=by
 obtain⟨a,cap,rfl,h1,h2,h3⟩:=zi h;refine⟨a,cap,rfl,h1,h2,fun i c hc=>?_⟩;have hi:i<l.length:=(List.getElem?_eq_some_iff.1 hc).1;obtain⟨g,rfl⟩:=h3 (by omega);refine⟨g,0,rfl,?_⟩;have:=h.cells (g:=g) rfl i (.int .u8 (c.toNat:Int)) (by simp[zP,hc])
 rwa [zU]at this
def Tab(w:World):Prop:=∀i,i<16→w.cell? ⟨1,i,none⟩=some (.int .u32 (ct i:Int))
variable{S:Nat→Prop}
theorem Tab.mod(h:Tab w)(m:Mod S w w')(hs:¬S 1):Tab w':=fun i hi=>m.cell (a:=⟨1,i,none⟩) hs (h i hi)
theorem Tab.lt(h:Tab w):1<w.heap.size:=zk (h 0 (by omega))
theorem zed(l:List UInt8)(k:Nat)(c:UInt8)(h:l[k]?=some c):l.take (k+1)=l.take k++[c]:=by
 rw[List.take_add_one,h];rfl
theorem ziw(v:Value)(l:List UInt8)(w:World)(h:BR w v l)(r:Tab w):Calls prog 125 #[v] w fun e w'=>e = .returned (.int .u32 (crc l:Int))∧w=w':=by
 obtain⟨a,cap,rfl,h1,h2,h3⟩:=h;unfold maxLen at h2;go_enter func125,ntmps125;go_wp2_with fail
 go_loop [3,8] (fun c i=>∃k:Nat,k≤l.length∧i = .int .i64 k∧c = .int .u32 (crcL (l.take k):Int)) (fun _ i=>l.length-(intOf i).toNat)
 case atStart=>exact⟨0,Nat.zero_le _,rfl,rfl⟩
 case round =>
  obtain⟨k,hk,rfl,rfl⟩:=hrel;by_cases s:k<l.length
  ·obtain⟨c,hc⟩:∃c,l[k]?=some c:=⟨l[k],List.getElem?_eq_getElem s⟩;obtain⟨g,o,rfl,f⟩:=h3 k c hc;have B:=zb (congrArg crcL (zed l k c hc));obtain⟨x,p⟩:=nm (crcL (l.take k));have j:=ziv (l.take k);rw[p]at j;have t:Hid (crcL (l.take (k+1))=zlM x c):=by
    show _=_;rw[B.out,zlT,p]
   rw[p];have u:=c.toNat_lt;obtain⟨d,hd⟩:=nm c.toNat;rw[hd]at f u;have e1:=zgo x d j (by omega);have q:=zb4 x c j;rw[hd]at q;obtain⟨y,m⟩:=nm (x ^^^ d);rw[m]at e1 q;have e2:=zg3 y q;have t1:=r (y % 16) (by omega);have C:=zgo (y / 16) (ct (y % 16)) (by omega) (zqx _);have D:=zeH y q;obtain⟨z,b⟩:=nm (nib y);rw[show(y / 16 ^^^ ct (y % 16))=z from b]at C;rw[b]at D;have e4:=zg3 z D;have t2:=r (z % 16) (by omega);have e5:=zgo (z / 16) (ct (z % 16)) (by omega) (zqx _);have A:Hid (zlM x c=(z / 16 ^^^ ct (z % 16))):=by
    show nib (nib (x ^^^ c.toNat))=_;rw[hd,m,b];rfl
   rw[show((y / 16:Nat):Int)=(y:Int) / 16 by omega]at C;rw[show((z / 16:Nat):Int)=(z:Int) / 16 by omega]at e5;clear B p hd m b h3 r hc;go_wp2_with fail
   go_round
   case rel=>exact⟨k+1,by omega,by go_num,by rw[t.out,A.out]⟩
   case measure=>simp[intOf];omega
  ·have n:l.take k=l:=List.take_of_length_le (by omega);rw[n];have HE:Hid (bits .xor .u32 IntKind.u32.max (crcL l:Int)=(crc l:Int)):=zgo 4294967295 (crcL l) (by omega) (ziv l);clear n;go_wp2_with fail;go_ret;exact⟨by rw[HE.out];rfl,rfl⟩
theorem zfO(l:List UInt8):crc l<4294967296:=Nat.xor_lt_two_pow (n:=32) (by omega) (ziv l)
def zdt(s:Nat):List UInt8:=[UInt8.ofNat (s / 16777216),UInt8.ofNat (s / 65536),UInt8.ofNat (s / 256),UInt8.ofNat s]
theorem zoi(v:Value)(l:List UInt8)(w:World)(h:OB w v l)(hl:l.length≤70368744177664)(d:Tab w):Calls prog 86 #[v] w fun e w'=>∃v',e = .returned v'∧App w v l (zdt (crc l)) v' w':=by
 have b:=ziw v l w h.br d;have hc:=zfO l;obtain⟨s,c⟩:=nm (crc l);rw[c]at b hc;rw[c];obtain⟨v',w',hr,happ⟩:=zdX w v l (zdt s) #[.int .u8 ((s:Int) / 16777216),.int .u8 ((s:Int) / 65536 % 256),.int .u8 ((s:Int) / 256 % 256),.int .u8 ((s:Int) % 256)] 4 h (by
  simp only[zdt,zP,List.map_cons,List.map_nil,zgn];simp;omega) rfl (by omega)
 obtain⟨a,cap,rfl,_⟩:=zi h;have H:=zb happ;clear happ c d;go_enter func86,ntmps86;go_wp2_with (first|(go_at_call 125;refine b.mono ?_;rintro e w' ⟨rfl,rfl⟩)|(at_builtin;refine zl rfl _ _ _ _ rfl _ _ _ rfl rfl hr ?_));go_ret;exact⟨_,rfl,H.out⟩
theorem zqy(w:World)(v:Value)(l:List UInt8)(s:ByteArray)(h:OB w v l)(hl:l.length+s.size≤140737488355328):∃v' w',(∀ty,(Builtin.append_ #[60,9] ty #[v,.string s]).run prog w = .ok v' w')∧App w v l s.data.toList v' w':=by
 obtain⟨i,hi,hz,a,b⟩:=info_parts zgm;obtain⟨v',w',h1,h2,h3,h4,h5⟩:=zdc (P:=prog) w 60 9 5 i underlying60 underlying9 hi hz a b v l.length (zP l) h s (by unfold maxLen;omega) (by omega);refine⟨v',w',h1,⟨?_,h5,h3,h4⟩⟩;unfold OB;rw[List.length_append,zbi];exact h2
def zq(l:List UInt8):ByteArray:=⟨l.toArray⟩
theorem zF(l:List UInt8):(zq l).size=l.length:=by simp[zq,ByteArray.size]
theorem zaL(l:List UInt8):(zq l).data.toList=l:=by simp[zq]
theorem zu(n:Nat):(zN n).length≤8:=by
 unfold zN;split
 ·simp
 ·split
  ·simp
  ·split<;>simp
theorem zgp(v:Value)(l s:List UInt8)(w:World)(h:OB w v l)(hl:l.length≤70368744177664)(hs:s.length≤35184372088832):Calls prog 181 #[v,.string (zq s)] w fun e w'=>∃v',e = .returned v'∧App w v l (zN s.length++s) v' w':=by
 have hv:=zZ v l s.length w h hl (by omega);have hz:=zF s;have hzm:(zq s).size≤9223372036854775807:=by omega
 obtain⟨a,cap,rfl,_⟩:=zi h;go_enter func181,ntmps181;have hvl:(zN s.length).length≤8:=zu _;go_wp2_with (first|(go_at_call 83;refine hv.mono ?_;rintro e w1 ⟨v1,rfl,b⟩;obtain⟨v2,w2,d,c⟩:=zqy w1 v1 _ (zq s) b.own (by rw[List.length_append];omega);rw[zaL]at c;have H:=zb (b.trans c);clear b c)|(at_builtin;refine zl rfl _ _ _ _ rfl _ _ _ rfl rfl d ?_));go_ret;exact⟨_,rfl,H.out⟩
structure Frm where
 kind:Int
 stream:Int
 off:Nat
 rel:Nat
 lim:Nat
 fin:Bool
 id:Nat
 dl:Nat
 data:List UInt8
 rngs:zA
def zj(f:Frm)(rv:Value):Array Value :=
 #[.int .i64 f.kind,.int .i64 f.stream,.int .u64 (f.off:Int),.int .u64 (f.rel:Int),.int .u64 (f.lim:Int),.bool f.fin,.int .u64 (f.id:Int),.int .u64 (f.dl:Int),.string (zq f.data),rv]
def zh(w:World)(b:Nat)(f:Frm)(rv:Value):Prop:=w.heap[b]?=some (.cells (zj f rv) 65 (0,0))
variable{f:Frm}{i:Nat}{rv:Value}
theorem zh.cell(h:zh w b f rv)(hv:(zj f rv)[i]?=some v):w.cell? ⟨b,i,none⟩=some v:=za h hv
theorem zh.mod(h:zh w b f rv)(m:Mod S w w')(hs:¬S b):zh w' b f rv:=m.obj hs h
variable{new:List UInt8}
theorem App.mod(h:App w v l new v' w'):Mod (fun k=>v.ownBlock=some k) w w':=(Mod.refl _ w).grown h.grown (fun k hk=>.inl hk)
theorem OB.apart(h:OB w v l)(hf:zh w b f rv):¬v.ownBlock=some b:=by
 intro hb;rcases h.2 with⟨rfl,_⟩|⟨g,cap,cur,rfl,_,hg,_⟩
 ·cases hb
 ·simp[Value.ownBlock]at hb;subst hb;unfold zh at hf;rw[hg]at hf;simp at hf
theorem zh.app(hf:zh w b f rv)(h:OB w v l)(ha:App w v l new v' w'):zh w' b f rv :=
 hf.mod ha.mod (h.apart hf)
theorem zbV(w:World)(v:Value)(l:List UInt8)(t:UInt8)(z:Int)(h:OB w v l)(hz:z=(t.toNat:Int))(hl:l.length≤70368744177664):∃v' w',(∀ty,(Builtin.append_ #[60,60] ty #[v,.slice (some ⟨w.heap.size,0,none⟩) 1 1]).run prog (w.alloc (.cells #[.int .u8 z] 5)) = .ok v' w')∧App w v l [t] v' w' :=
 zdX w v l [t] #[.int .u8 z] 1 h (by simp[zP,hz]) rfl (by omega)
theorem zh.cells(h:zh w b f rv):w.cell? ⟨b,0,none⟩=some (.int .i64 f.kind)∧w.cell? ⟨b,1,none⟩=some (.int .i64 f.stream)∧w.cell? ⟨b,2,none⟩=some (.int .u64 (f.off:Int))∧w.cell? ⟨b,3,none⟩=some (.int .u64 (f.rel:Int))∧w.cell? ⟨b,4,none⟩=some (.int .u64 (f.lim:Int)) ∧
  w.cell? ⟨b,5,none⟩=some (.bool f.fin)∧w.cell? ⟨b,6,none⟩=some (.int .u64 (f.id:Int))∧w.cell? ⟨b,7,none⟩=some (.int .u64 (f.dl:Int))∧w.cell? ⟨b,8,none⟩=some (.string (zq f.data))∧w.cell? ⟨b,9,none⟩=some rv :=
 ⟨h.cell rfl,h.cell rfl,h.cell rfl,h.cell rfl,h.cell rfl,h.cell rfl,h.cell rfl,h.cell rfl,h.cell rfl,h.cell rfl⟩
theorem App.drew(h:App w.drew v l new v' w'):App w v l new v' w' :=
 ⟨h.own,h.old,⟨h.grown.os,h.grown.tape,h.grown.output,h.grown.size,h.grown.block⟩,h.at_⟩
theorem zcW(v:Value)(l:List UInt8)(z:Int)(w:World)(h:OB w v l)(hl:l.length≤70368744177664)(h0:0≤z)(hn:z<4611686018427387904):Calls prog 83 #[v,.int .u64 z] w fun e w'=>∃v',e = .returned v'∧App w v l (zN z.toNat) v' w':=by
 have:=zZ v l z.toNat w h hl (by omega)
 rwa [Int.toNat_of_nonneg h0]at this
structure Frm.Bounds(f:Frm):Prop where
 s0:0≤f.stream
 s8:f.stream<8
 bo:f.off<4611686018427387904
 br:f.rel<4611686018427387904
 bl:f.lim<4611686018427387904
 bi:f.id<4611686018427387904
 bd:f.dl<4611686018427387904
 bt:f.data.length≤35184372088832
def zdd(w:World)(tb ab:Nat)(t:UInt8):Prop:=w.cell? ⟨tb,0,none⟩=some (.int .u8 (t.toNat:Int))∧w.cell? ⟨ab,0,none⟩=some (.func (.func 186) #[] #[])
theorem zdd.mod{tb b:Nat}{t:UInt8}(h:zdd w tb b t)(m:Mod S w w')(h1:¬S tb)(h2:¬S b):zdd w' tb b t:=⟨m.cell (a:=⟨tb,0,none⟩) h1 h.1,m.cell (a:=⟨b,0,none⟩) h2 h.2⟩
theorem zdd.app{tb b:Nat}{t:UInt8}(h:zdd w tb b t)(h1:¬v.ownBlock=some tb)(h2:¬v.ownBlock=some b)(a:App w v l new v' w'):zdd w' tb b t:=h.mod a.mod h1 h2
theorem zeK(b:Nat)(w:World):Calls prog 186 #[.pointer (some ⟨b,0,none⟩)] w fun e w'=>e = .returned (.pointer (some ⟨b,4,none⟩))∧w=w':=by
 go_enter func186,ntmps186;go_wp2_with fail;go_ret;exact⟨rfl,rfl⟩
def zoa(w:World)(v:Value)(l new:List UInt8)(e:Ending)(w':World):Prop:=∃v',e = .returned v'∧App w v l new v' w'
def zcH(f:Frm):List UInt8:=[17]++zN f.stream.toNat++zN f.lim
theorem write6(v:Value)(l:List UInt8)(b:Nat)(f:Frm)(r:Value)(w:World)(hf:zh w b f r)(h:OB w v l)(hl:l.length≤35184372088832)(hb:f.Bounds):Calls prog 187 #[v,.pointer (some ⟨b,0,none⟩)] w (zoa w v l (zcH f)):=by
 obtain⟨s0,s8,bo,br,bl,bi,bd,bt⟩:=hb;have hwr:IntKind.u64.wrap f.stream=f.stream:=by rw[IntKind.wrap_u64];omega
 obtain⟨v1,w1,i,g⟩:=zbV w.drew v l 17 17 h rfl (by omega);have s:=zh.app (w:=w.drew) hf h g;have L1:(l++[(17:UInt8)]).length≤35184372088832+1:=by simp;omega
 go_enter func187,ntmps187;go_wp2_with fail;refine zm 15 (fun w'=>zh w' b f r) (hf) ?_;refine GI 0 ?_;refine GS rfl ?_ ?_ ?_;rotate_left
 ·(intro j a;(try dsimp only at a);have hc:=a.cells;clear a;obtain⟨c0,c1,c2,c3,c4,k,m,n,o,p⟩:=hc;go_simp;try with_reducible rfl)
 try simp only[PS]
 refine GI 3 ?_;iterate 5
  refine GS rfl ?_ ?_ ?_;rotate_left
  ·(intro j a;(try dsimp only at a);have hc:=a.cells;clear a;obtain⟨c0,c1,c2,c3,c4,k,m,n,o,p⟩:=hc;go_simp;try with_reducible rfl)
  try simp only[PS]
 refine GI 9 ?_;iterate 4
  refine GS rfl ?_ ?_ ?_;rotate_left
  ·(intro j a;(try dsimp only at a);have hc:=a.cells;clear a;obtain⟨c0,c1,c2,c3,c4,k,m,n,o,p⟩:=hc;go_simp;try with_reducible rfl)
  try simp only[PS]
 refine zz 1 rfl (fun K c=>?_);go_simp;refine c.out _ _ ?_ ?_
 ·exact zh.mod (w:=w.drew) (S:=NoB) hf ((Mod.refl _ _).alloc _) (fun x=>x)
 clear c K;try simp only[PS]
 refine zz 2 rfl (fun K c=>?_);refine zO rfl _ _ _ _ rfl _ _ _ rfl rfl i ?_;refine c.out _ _ s ?_;clear c K;try simp only[PS]
 refine zz 8 rfl (fun K c=>?_);go_simp;refine(zcW v1 (l++([17])) (f.stream) w1 g.own (by omega) (by omega) (by omega)).mono ?_;rintro e w2 ⟨v2,rfl,d⟩;have t:=s.app g.own d;have q:=g.trans d;have L2:(l++([17]++zN f.stream.toNat)).length≤35184372088832+9:=by have:=zu (f.stream.toNat);simp at this L1 ⊢;omega
 refine c.out _ _ t ?_;clear d;clear c K;try simp only[PS]
 refine zz 13 rfl (fun K c=>?_);go_simp;refine(zZ v2 (l++([17]++zN f.stream.toNat)) (f.lim) w2 q.own (by omega) (by omega)).mono ?_;rintro e w3 ⟨v3,rfl,d⟩;have F3:=t.app q.own d;have A3:=q.trans d;have L3:(l++([17]++zN f.stream.toNat++zN f.lim)).length≤35184372088832+17:=by have:=zu (f.lim);simp at this L2 ⊢;omega
 refine c.out _ _ F3 ?_;clear d;clear c K;try simp only[PS]
 refine GI 14 ?_;refine GS rfl ?_ ?_ ?_;rotate_left
 ·(intro j a;(try dsimp only at a);have hc:=a.cells;clear a;obtain⟨c0,c1,c2,c3,c4,k,m,n,o,p⟩:=hc;go_simp;try with_reducible rfl)
 try simp only[PS]
 refine zo ?_;go_wp2_with fail;go_ret;exact⟨_,rfl,A3.drew⟩
def zcI(f:Frm):List UInt8:=[36]++zN f.stream.toNat++zN f.off++zN f.rel
theorem write3(v:Value)(l:List UInt8)(b:Nat)(f:Frm)(s:Value)(w:World)(hf:zh w b f s)(h:OB w v l)(hl:l.length≤35184372088832)(hb:f.Bounds):Calls prog 176 #[v,.pointer (some ⟨b,0,none⟩)] w (zoa w v l (zcI f)):=by
 obtain⟨s0,s8,bo,br,bl,bi,bd,bt⟩:=hb;have hwr:IntKind.u64.wrap f.stream=f.stream:=by rw[IntKind.wrap_u64];omega
 obtain⟨v1,w1,p,g⟩:=zbV w.drew v l 36 36 h rfl (by omega);have t:=zh.app (w:=w.drew) hf h g;have L1:(l++[(36:UInt8)]).length≤35184372088832+1:=by simp;omega
 go_enter func176,ntmps176;go_wp2_with fail;refine zm 20 (fun w'=>zh w' b f s) (hf) ?_;refine GI 0 ?_;refine GS rfl ?_ ?_ ?_;rotate_left
 ·(intro i a;(try dsimp only at a);have hc:=a.cells;clear a;obtain⟨c0,c1,c2,c3,c4,j,k,m,n,o⟩:=hc;go_simp;try with_reducible rfl)
 try simp only[PS]
 refine GI 3 ?_;iterate 5
  refine GS rfl ?_ ?_ ?_;rotate_left
  ·(intro i a;(try dsimp only at a);have hc:=a.cells;clear a;obtain⟨c0,c1,c2,c3,c4,j,k,m,n,o⟩:=hc;go_simp;try with_reducible rfl)
  try simp only[PS]
 refine GI 9 ?_;iterate 4
  refine GS rfl ?_ ?_ ?_;rotate_left
  ·(intro i a;(try dsimp only at a);have hc:=a.cells;clear a;obtain⟨c0,c1,c2,c3,c4,j,k,m,n,o⟩:=hc;go_simp;try with_reducible rfl)
  try simp only[PS]
 refine GI 14 ?_;iterate 4
  refine GS rfl ?_ ?_ ?_;rotate_left
  ·(intro i a;(try dsimp only at a);have hc:=a.cells;clear a;obtain⟨c0,c1,c2,c3,c4,j,k,m,n,o⟩:=hc;go_simp;try with_reducible rfl)
  try simp only[PS]
 refine zz 1 rfl (fun K c=>?_);go_simp;refine c.out _ _ ?_ ?_
 ·exact zh.mod (w:=w.drew) (S:=NoB) hf ((Mod.refl _ _).alloc _) (fun x=>x)
 clear c K;try simp only[PS]
 refine zz 2 rfl (fun K c=>?_);refine zO rfl _ _ _ _ rfl _ _ _ rfl rfl p ?_;refine c.out _ _ t ?_;clear c K;try simp only[PS]
 refine zz 8 rfl (fun K c=>?_);go_simp;refine(zcW v1 (l++([36])) (f.stream) w1 g.own (by omega) (by omega) (by omega)).mono ?_;rintro e w2 ⟨v2,rfl,d⟩;have u:=t.app g.own d;have q:=g.trans d;have L2:(l++([36]++zN f.stream.toNat)).length≤35184372088832+9:=by have:=zu (f.stream.toNat);simp at this L1 ⊢;omega
 refine c.out _ _ u ?_;clear d;clear c K;try simp only[PS]
 refine zz 13 rfl (fun K c=>?_);go_simp;refine(zZ v2 (l++([36]++zN f.stream.toNat)) (f.off) w2 q.own (by omega) (by omega)).mono ?_;rintro e w3 ⟨v3,rfl,d⟩;have y:=u.app q.own d;have r:=q.trans d;have L3:(l++([36]++zN f.stream.toNat++zN f.off)).length≤35184372088832+17:=by have:=zu (f.off);simp at this L2 ⊢;omega
 refine c.out _ _ y ?_;clear d;clear c K;try simp only[PS]
 refine zz 18 rfl (fun K c=>?_);go_simp;refine(zZ v3 (l++([36]++zN f.stream.toNat++zN f.off)) (f.rel) w3 r.own (by omega) (by omega)).mono ?_;rintro e w4 ⟨v4,rfl,d⟩;have F4:=y.app r.own d;have A4:=r.trans d;have L4:(l++([36]++zN f.stream.toNat++zN f.off++zN f.rel)).length≤35184372088832+25:=by have:=zu (f.rel);simp at this L3 ⊢;omega
 refine c.out _ _ F4 ?_;clear d;clear c K;try simp only[PS]
 refine GI 19 ?_;refine GS rfl ?_ ?_ ?_;rotate_left
 ·(intro i a;(try dsimp only at a);have hc:=a.cells;clear a;obtain⟨c0,c1,c2,c3,c4,j,k,m,n,o⟩:=hc;go_simp;try with_reducible rfl)
 try simp only[PS]
 refine zo ?_;go_wp2_with fail;go_ret;exact⟨_,rfl,A4.drew⟩
def zcJ(f:Frm):List UInt8:=[48]++zN f.id++zN f.dl++(zN f.data.length++f.data)
theorem write7(v:Value)(l:List UInt8)(b:Nat)(f:Frm)(s:Value)(w:World)(hf:zh w b f s)(h:OB w v l)(hl:l.length≤35184372088832)(hb:f.Bounds):Calls prog 189 #[v,.pointer (some ⟨b,0,none⟩)] w (zoa w v l (zcJ f)):=by
 obtain⟨s0,s8,bo,br,bl,bi,bd,bt⟩:=hb;have hwr:IntKind.u64.wrap f.stream=f.stream:=by rw[IntKind.wrap_u64];omega
 obtain⟨v1,w1,p,g⟩:=zbV w.drew v l 48 48 h rfl (by omega);have t:=zh.app (w:=w.drew) hf h g;have L1:(l++[(48:UInt8)]).length≤35184372088832+1:=by simp;omega
 go_enter func189,ntmps189;go_wp2_with fail;refine zm 19 (fun w'=>zh w' b f s) (hf) ?_;refine GI 0 ?_;refine GS rfl ?_ ?_ ?_;rotate_left
 ·(intro i a;(try dsimp only at a);have hc:=a.cells;clear a;obtain⟨c0,c1,c2,c3,c4,j,k,m,n,o⟩:=hc;go_simp;try with_reducible rfl)
 try simp only[PS]
 refine GI 3 ?_;iterate 4
  refine GS rfl ?_ ?_ ?_;rotate_left
  ·(intro i a;(try dsimp only at a);have hc:=a.cells;clear a;obtain⟨c0,c1,c2,c3,c4,j,k,m,n,o⟩:=hc;go_simp;try with_reducible rfl)
  try simp only[PS]
 refine GI 8 ?_;iterate 4
  refine GS rfl ?_ ?_ ?_;rotate_left
  ·(intro i a;(try dsimp only at a);have hc:=a.cells;clear a;obtain⟨c0,c1,c2,c3,c4,j,k,m,n,o⟩:=hc;go_simp;try with_reducible rfl)
  try simp only[PS]
 refine GI 13 ?_;iterate 4
  refine GS rfl ?_ ?_ ?_;rotate_left
  ·(intro i a;(try dsimp only at a);have hc:=a.cells;clear a;obtain⟨c0,c1,c2,c3,c4,j,k,m,n,o⟩:=hc;go_simp;try with_reducible rfl)
  try simp only[PS]
 refine zz 1 rfl (fun K c=>?_);go_simp;refine c.out _ _ ?_ ?_
 ·exact zh.mod (w:=w.drew) (S:=NoB) hf ((Mod.refl _ _).alloc _) (fun x=>x)
 clear c K;try simp only[PS]
 refine zz 2 rfl (fun K c=>?_);refine zO rfl _ _ _ _ rfl _ _ _ rfl rfl p ?_;refine c.out _ _ t ?_;clear c K;try simp only[PS]
 refine zz 7 rfl (fun K c=>?_);go_simp;refine(zZ v1 (l++([48])) (f.id) w1 g.own (by omega) (by omega)).mono ?_;rintro e w2 ⟨v2,rfl,d⟩;have u:=t.app g.own d;have q:=g.trans d;have L2:(l++([48]++zN f.id)).length≤35184372088832+9:=by have:=zu (f.id);simp at this L1 ⊢;omega
 refine c.out _ _ u ?_;clear d;clear c K;try simp only[PS]
 refine zz 12 rfl (fun K c=>?_);go_simp;refine(zZ v2 (l++([48]++zN f.id)) (f.dl) w2 q.own (by omega) (by omega)).mono ?_;rintro e w3 ⟨v3,rfl,d⟩;have y:=u.app q.own d;have r:=q.trans d;have L3:(l++([48]++zN f.id++zN f.dl)).length≤35184372088832+17:=by have:=zu (f.dl);simp at this L2 ⊢;omega
 refine c.out _ _ y ?_;clear d;clear c K;try simp only[PS]
 refine zz 17 rfl (fun K c=>?_);go_simp;refine(zgp v3 (l++([48]++zN f.id++zN f.dl)) f.data w3 r.own (by omega) bt).mono ?_;rintro e w4 ⟨v4,rfl,d⟩;have F4:=y.app r.own d;have A4:=r.trans d;refine c.out _ _ F4 ?_;clear d;clear c K;try simp only[PS]
 refine GI 18 ?_;refine GS rfl ?_ ?_ ?_;rotate_left
 ·(intro i a;(try dsimp only at a);have hc:=a.cells;clear a;obtain⟨c0,c1,c2,c3,c4,j,k,m,n,o⟩:=hc;go_simp;try with_reducible rfl)
 try simp only[PS]
 refine zo ?_;go_wp2_with fail;go_ret;exact⟨_,rfl,A4.drew⟩
def zcK(f:Frm):List UInt8:=[8]++zN f.stream.toNat++zN f.off++(zN f.data.length++f.data)
theorem write4(v:Value)(l:List UInt8)(b:Nat)(f:Frm)(t:Value)(w:World)(hf:zh w b f t)(h:OB w v l)(hl:l.length≤35184372088832)(hb:f.Bounds)(g:f.fin=false):Calls prog 180 #[v,.pointer (some ⟨b,0,none⟩)] w (zoa w v l (zcK f)):=by
 obtain⟨s0,s8,bo,br,bl,bi,bd,bt⟩:=hb;have hwr:IntKind.u64.wrap f.stream=f.stream:=by rw[IntKind.wrap_u64];omega
 obtain⟨v1,w1,q,i⟩:=zbV w.drew v l 8 8 h rfl (by omega);have u:=zh.app (w:=w.drew) hf h i;have L1:(l++[(8:UInt8)]).length≤35184372088832+1:=by simp;omega
 have d5:w.cell? ⟨b,5,none⟩=some (.bool false):=by rw[←g];exact hf.cell rfl
 go_enter func180,ntmps180;go_wp2_with fail;refine zm 21 (fun w'=>zh w' b f t) (hf) ?_;refine GI 0 ?_;iterate 2
  refine GS rfl ?_ ?_ ?_;rotate_left
  ·(intro j a;(try dsimp only at a);have hc:=a.cells;clear a;obtain⟨c0,c1,c2,c3,c4,k,m,n,o,p⟩:=hc;go_simp;try with_reducible rfl)
  try simp only[PS]
 refine GI 4 ?_;iterate 5
  refine GS rfl ?_ ?_ ?_;rotate_left
  ·(intro j a;(try dsimp only at a);have hc:=a.cells;clear a;obtain⟨c0,c1,c2,c3,c4,k,m,n,o,p⟩:=hc;go_simp;try with_reducible rfl)
  try simp only[PS]
 refine GI 10 ?_;iterate 4
  refine GS rfl ?_ ?_ ?_;rotate_left
  ·(intro j a;(try dsimp only at a);have hc:=a.cells;clear a;obtain⟨c0,c1,c2,c3,c4,k,m,n,o,p⟩:=hc;go_simp;try with_reducible rfl)
  try simp only[PS]
 refine GI 15 ?_;iterate 4
  refine GS rfl ?_ ?_ ?_;rotate_left
  ·(intro j a;(try dsimp only at a);have hc:=a.cells;clear a;obtain⟨c0,c1,c2,c3,c4,k,m,n,o,p⟩:=hc;go_simp;try with_reducible rfl)
  try simp only[PS]
 refine zz 2 rfl (fun K c=>?_);go_simp;refine c.out _ _ ?_ ?_
 ·exact zh.mod (w:=w.drew) (S:=NoB) hf ((Mod.refl _ _).alloc _) (fun x=>x)
 clear c K;try simp only[PS]
 refine zz 3 rfl (fun K c=>?_);refine zO rfl _ _ _ _ rfl _ _ _ rfl rfl q ?_;refine c.out _ _ u ?_;clear c K;try simp only[PS]
 refine zz 9 rfl (fun K c=>?_);go_simp;refine(zcW v1 (l++([8])) (f.stream) w1 i.own (by omega) (by omega) (by omega)).mono ?_;rintro e w2 ⟨v2,rfl,d⟩;have y:=u.app i.own d;have r:=i.trans d;have L2:(l++([8]++zN f.stream.toNat)).length≤35184372088832+9:=by have:=zu (f.stream.toNat);simp at this L1 ⊢;omega
 refine c.out _ _ y ?_;clear d;clear c K;try simp only[PS]
 refine zz 14 rfl (fun K c=>?_);go_simp;refine(zZ v2 (l++([8]++zN f.stream.toNat)) (f.off) w2 r.own (by omega) (by omega)).mono ?_;rintro e w3 ⟨v3,rfl,d⟩;have z:=y.app r.own d;have s:=r.trans d;have L3:(l++([8]++zN f.stream.toNat++zN f.off)).length≤35184372088832+17:=by have:=zu (f.off);simp at this L2 ⊢;omega
 refine c.out _ _ z ?_;clear d;clear c K;try simp only[PS]
 refine zz 19 rfl (fun K c=>?_);go_simp;refine(zgp v3 (l++([8]++zN f.stream.toNat++zN f.off)) f.data w3 s.own (by omega) bt).mono ?_;rintro e w4 ⟨v4,rfl,d⟩;have F4:=z.app s.own d;have A4:=s.trans d;refine c.out _ _ F4 ?_;clear d;clear c K;try simp only[PS]
 refine GI 20 ?_;refine GS rfl ?_ ?_ ?_;rotate_left
 ·(intro j a;(try dsimp only at a);have hc:=a.cells;clear a;obtain⟨c0,c1,c2,c3,c4,k,m,n,o,p⟩:=hc;go_simp;try with_reducible rfl)
 try simp only[PS]
 refine zo ?_;go_wp2_with fail;go_ret;exact⟨_,rfl,A4.drew⟩
def zbW(f:Frm):List UInt8:=[9]++zN f.stream.toNat++zN f.off++(zN f.data.length++f.data)
theorem zqz(v:Value)(l:List UInt8)(b:Nat)(f:Frm)(t:Value)(w:World)(hf:zh w b f t)(h:OB w v l)(hl:l.length≤35184372088832)(hb:f.Bounds)(g:f.fin=true):Calls prog 180 #[v,.pointer (some ⟨b,0,none⟩)] w (zoa w v l (zbW f)):=by
 obtain⟨s0,s8,bo,br,bl,bi,bd,bt⟩:=hb;have hwr:IntKind.u64.wrap f.stream=f.stream:=by rw[IntKind.wrap_u64];omega
 obtain⟨v1,w1,q,i⟩:=zbV w.drew v l 9 9 h rfl (by omega);have u:=zh.app (w:=w.drew) hf h i;have L1:(l++[(9:UInt8)]).length≤35184372088832+1:=by simp;omega
 have d5:w.cell? ⟨b,5,none⟩=some (.bool true):=by rw[←g];exact hf.cell rfl
 go_enter func180,ntmps180;go_wp2_with fail;refine zm 21 (fun w'=>zh w' b f t) (hf) ?_;refine GI 0 ?_;iterate 2
  refine GS rfl ?_ ?_ ?_;rotate_left
  ·(intro j a;(try dsimp only at a);have hc:=a.cells;clear a;obtain⟨c0,c1,c2,c3,c4,k,m,n,o,p⟩:=hc;go_simp;try with_reducible rfl)
  try simp only[PS]
 refine GI 4 ?_;iterate 5
  refine GS rfl ?_ ?_ ?_;rotate_left
  ·(intro j a;(try dsimp only at a);have hc:=a.cells;clear a;obtain⟨c0,c1,c2,c3,c4,k,m,n,o,p⟩:=hc;go_simp;try with_reducible rfl)
  try simp only[PS]
 refine GI 10 ?_;iterate 4
  refine GS rfl ?_ ?_ ?_;rotate_left
  ·(intro j a;(try dsimp only at a);have hc:=a.cells;clear a;obtain⟨c0,c1,c2,c3,c4,k,m,n,o,p⟩:=hc;go_simp;try with_reducible rfl)
  try simp only[PS]
 refine GI 15 ?_;iterate 4
  refine GS rfl ?_ ?_ ?_;rotate_left
  ·(intro j a;(try dsimp only at a);have hc:=a.cells;clear a;obtain⟨c0,c1,c2,c3,c4,k,m,n,o,p⟩:=hc;go_simp;try with_reducible rfl)
  try simp only[PS]
 refine zz 2 rfl (fun K c=>?_);go_simp;refine c.out _ _ ?_ ?_
 ·exact zh.mod (w:=w.drew) (S:=NoB) hf ((Mod.refl _ _).alloc _) (fun x=>x)
 clear c K;try simp only[PS]
 refine zz 3 rfl (fun K c=>?_);refine zO rfl _ _ _ _ rfl _ _ _ rfl rfl q ?_;refine c.out _ _ u ?_;clear c K;try simp only[PS]
 refine zz 9 rfl (fun K c=>?_);go_simp;refine(zcW v1 (l++([9])) (f.stream) w1 i.own (by omega) (by omega) (by omega)).mono ?_;rintro e w2 ⟨v2,rfl,d⟩;have y:=u.app i.own d;have r:=i.trans d;have L2:(l++([9]++zN f.stream.toNat)).length≤35184372088832+9:=by have:=zu (f.stream.toNat);simp at this L1 ⊢;omega
 refine c.out _ _ y ?_;clear d;clear c K;try simp only[PS]
 refine zz 14 rfl (fun K c=>?_);go_simp;refine(zZ v2 (l++([9]++zN f.stream.toNat)) (f.off) w2 r.own (by omega) (by omega)).mono ?_;rintro e w3 ⟨v3,rfl,d⟩;have z:=y.app r.own d;have s:=r.trans d;have L3:(l++([9]++zN f.stream.toNat++zN f.off)).length≤35184372088832+17:=by have:=zu (f.off);simp at this L2 ⊢;omega
 refine c.out _ _ z ?_;clear d;clear c K;try simp only[PS]
 refine zz 19 rfl (fun K c=>?_);go_simp;refine(zgp v3 (l++([9]++zN f.stream.toNat++zN f.off)) f.data w3 s.own (by omega) bt).mono ?_;rintro e w4 ⟨v4,rfl,d⟩;have F4:=z.app s.own d;have A4:=s.trans d;refine c.out _ _ F4 ?_;clear d;clear c K;try simp only[PS]
 refine GI 20 ?_;refine GS rfl ?_ ?_ ?_;rotate_left
 ·(intro j a;(try dsimp only at a);have hc:=a.cells;clear a;obtain⟨c0,c1,c2,c3,c4,k,m,n,o,p⟩:=hc;go_simp;try with_reducible rfl)
 try simp only[PS]
 refine zo ?_;go_wp2_with fail;go_ret;exact⟨_,rfl,A4.drew⟩
def zlN(t:UInt8)(f:Frm):List UInt8:=[t]++zN f.lim
theorem zg6(v:Value)(l:List UInt8)(b tb d:Nat)(t:UInt8)(f:Frm)(j:Value)(w:World)(hf:zh w b f j)(hc:zdd w tb d t)(g:¬v.ownBlock=some tb)(i:¬v.ownBlock=some d)(h:OB w v l)(hl:l.length≤35184372088832)(hb:f.Bounds):Calls prog 213 #[v,.pointer (some ⟨b,0,none⟩),.pointer (some ⟨tb,0,none⟩),.pointer (some ⟨d,0,none⟩)] w (zoa w v l (zlN t f)):=by
 obtain⟨s0,s8,bo,br,bl,bi,bd,bt⟩:=hb;obtain⟨v1,k,n,m⟩:=zbV w.drew v l t (t.toNat:Int) h rfl (by omega);have A:zh k b f j∧zdd k tb d t:=⟨zh.app (w:=w.drew) hf h m,zdd.app (w:=w.drew) hc g i m⟩;have L1:(l++[t]).length≤35184372088832+1:=by simp;omega
 go_enter func213,ntmps213;go_wp2_with fail;refine zm 11 (fun w'=>zh w' b f j∧zdd w' tb d t) (⟨hf,hc⟩) ?_;refine GI 0 ?_;iterate 2
  refine GS rfl ?_ ?_ ?_;rotate_left
  ·(intro o a;(try dsimp only at a);have hc:=a.1.cells;obtain⟨p,cb⟩:=a.2;clear a;obtain⟨c0,c1,c2,c3,c4,q,r,s,u,y⟩:=hc;go_simp;try with_reducible rfl)
  try simp only[PS]
 refine GI 4 ?_;iterate 2
  refine GS rfl ?_ ?_ ?_;rotate_left
  ·(intro o a;(try dsimp only at a);have hc:=a.1.cells;obtain⟨p,cb⟩:=a.2;clear a;obtain⟨c0,c1,c2,c3,c4,q,r,s,u,y⟩:=hc;go_simp;try with_reducible rfl)
  try simp only[PS]
 refine zz 2 rfl (fun K c=>?_);go_simp;refine c.out _ _ ?_ ?_
 ·exact⟨zh.mod (w:=w.drew) (S:=NoB) hf ((Mod.refl _ _).alloc _) (fun x=>x),zdd.mod (w:=w.drew) (S:=NoB) hc ((Mod.refl _ _).alloc _) (fun x=>x) (fun x=>x)⟩
 clear c K;try simp only[PS]
 refine zz 3 rfl (fun K c=>?_);refine zO rfl _ _ _ _ rfl _ _ _ rfl rfl n ?_;refine c.out _ _ A ?_;clear c K;try simp only[PS]
 refine zz 6 rfl (fun K c=>?_);go_simp;refine(zeK b k).mono ?_;rintro e w' ⟨rfl,rfl⟩;refine c.out _ _ A ?_;clear c K;try simp only[PS]
 refine GI 7 ?_;iterate 2
  refine GS rfl ?_ ?_ ?_;rotate_left
  ·(intro o a;(try dsimp only at a);have hc:=a.1.cells;obtain⟨p,cb⟩:=a.2;clear a;obtain⟨c0,c1,c2,c3,c4,q,r,s,u,y⟩:=hc;go_simp;try with_reducible rfl)
  try simp only[PS]
 refine zz 9 rfl (fun K c=>?_);go_simp;refine(zZ v1 (l++[t]) f.lim k m.own (by omega) bl).mono ?_;rintro e B ⟨v2,rfl,C⟩;have z:=m.trans C;have F2:zh B b f j∧zdd B tb d t:=⟨zh.app (w:=w.drew) hf h z,zdd.app (w:=w.drew) hc g i z⟩;refine c.out _ _ F2 ?_;clear C;clear c K;try simp only[PS]
 refine GI 10 ?_;refine GS rfl ?_ ?_ ?_;rotate_left
 ·(intro o a;(try dsimp only at a);have hc:=a.1.cells;obtain⟨p,cb⟩:=a.2;clear a;obtain⟨c0,c1,c2,c3,c4,q,r,s,u,y⟩:=hc;go_simp;try with_reducible rfl)
 try simp only[PS]
 refine zo ?_;go_wp2_with fail;go_ret;exact⟨_,rfl,z.drew⟩
theorem write1(v:Value)(l:List UInt8)(b:Nat)(w:World)(h:OB w v l)(hl:l.length≤35184372088832):Calls prog 170 #[v,.pointer (some ⟨b,0,none⟩)] w (zoa w v l [1]):=by
 obtain⟨v1,w1,c,d⟩:=zbV w v l 1 1 h rfl (by omega);obtain⟨a,cap,rfl,_⟩:=zi h;have H:=zb d;clear d;go_enter func170,ntmps170;go_wp2_with (at_builtin;refine zl rfl _ _ _ _ rfl _ _ _ rfl rfl c ?_);go_ret;exact⟨_,rfl,H.out⟩
def RR(w:World)(v:Value)(rs:zA):Prop :=
 ∃a cap,v = .slice a rs.length cap∧rs.length≤cap∧cap≤maxLen∧∀i,i<rs.length→∃g o,a=some ⟨g,o,none⟩∧w.cell? ⟨g,o+i*2,none⟩=some (.int .u64 (loAt rs i:Int))∧w.cell? ⟨g,o+i*2+1,none⟩=some (.int .u64 (hiAt rs i:Int))∧loAt rs i<18446744073709551616∧hiAt rs i<18446744073709551616
def za2(S:Nat→Prop)(v:Value):Prop:=∀g o n c,v = .slice (some ⟨g,o,none⟩) n c→¬S g
theorem RR.mod(h:RR w v rs)(m:Mod S w w')(b:za2 S v):RR w' v rs:=by
 obtain⟨a,cap,rfl,h1,h2,h3⟩:=h;refine⟨a,cap,rfl,h1,h2,fun i hi=>?_⟩;obtain⟨g,o,rfl,c1,c2,c3⟩:=h3 i hi;exact⟨g,o,rfl,m.cell (a:=⟨g,_,none⟩) (b g o _ _ rfl) c1,m.cell (a:=⟨g,_,none⟩) (b g o _ _ rfl) c2,c3⟩
theorem za2.no(v:Value):za2 NoB v:=fun _ _ _ _ _ x=>x
def zob(rs:zA)(i:Nat):Bool :=
 decide (loAt rs i≤hiAt rs i)&&decide (hiAt rs i≤4611686018427387903)&&(decide (i=0)||(decide (2≤loAt rs (i-1))&&decide (hiAt rs i+2≤loAt rs (i-1))))
def zoc(rs:zA)(k:Nat):Bool:=(List.range k).all (zob rs)
theorem zlU(rs:zA)(k:Nat):zoc rs (k+1)=(zoc rs k&&zob rs k):=by simp[zoc,List.range_succ]
def zaw(rs:zA):Bool:=zoc rs rs.length&&decide (0<rs.length)
theorem zkG(hk:k<rs.length)(h:zob rs k=false):zaw rs=false:=by
 unfold zaw;have:zoc rs rs.length=false:=by
  cases hq:zoc rs rs.length
  ·rfl
  ·unfold zoc at hq;rw[List.all_eq_true]at hq;have:=hq k (List.mem_range.2 hk);rw[h]at this;cases this
 rw[this];rfl
def zok(w:World)(x:Bool)(e:Ending)(w':World):Prop:=e = .returned (.bool x)∧Mod NoB w w'
theorem zef(b:Nat)(f:Frm)(D:Value)(w:World)(hf:zh w b f D)(v:RR w D f.rngs)(hb:f.rngs.length≤1099511627776):Calls prog 175 #[.pointer (some ⟨b,0,none⟩)] w (zok w (zaw f.rngs)):=by
 have c9:=hf.cells.2.2.2.2.2.2.2.2.2;obtain⟨a,cap,rfl,h1,h2,h3⟩:=id v;unfold maxLen at h2;clear h3;go_enter func175,ntmps175;go_wp2_with fail
 go_loopw [10] (fun i wr=>∃k:Nat,k≤f.rngs.length∧i = .int .i64 k∧zoc f.rngs k=true∧Mod NoB w wr) (fun i _=>f.rngs.length-(intOf i).toNat)
 case atStart=>exact⟨0,Nat.zero_le _,rfl,rfl,Mod.refl _ _⟩
 case round =>
  obtain⟨k,hk,rfl,q,c⟩:=hrel;have d:=zb q;clear q;by_cases r:k<f.rngs.length
  ·obtain⟨a',E,hv,_,_,h3⟩:=v.mod c (za2.no _);cases hv;obtain⟨g,o,rfl,F,e2,b1,b2⟩:=h3 k r;have p:0<k→wr.cell? ⟨g,o+(k-1)*2,none⟩=some (.int .u64 (loAt f.rngs (k-1):Int))∧loAt f.rngs (k-1)<18446744073709551616:=fun h0=>by
    obtain⟨g',o',hg,p,_,b3,_⟩:=h3 (k-1) (by omega);cases hg;exact⟨p,b3⟩
   have s:=(hf.mod c (fun x=>x)).cells.2.2.2.2.2.2.2.2.2;have hbl:=zk s;have hgl:=zk F;have G:=zb (zlU f.rngs k);have u:=zb (fun h=>zkG (rs:=f.rngs) r h);have e:Hid (zob f.rngs k=(decide (loAt f.rngs k≤hiAt f.rngs k)&&decide (hiAt f.rngs k≤4611686018427387903)&&(decide (k=0)||(decide (2≤loAt f.rngs (k-1))&&decide (hiAt f.rngs k+2≤loAt f.rngs (k-1)))))):=rfl;obtain⟨lo,j⟩:=nm (loAt f.rngs k);obtain⟨hi,l⟩:=nm (hiAt f.rngs k);obtain⟨m,n⟩:=nm (loAt f.rngs (k-1));rw[j,l,n]at e;rw[j]at F b1;rw[l]at e2 b2;rw[n]at p;clear j l n h3 v;clear hf c9;by_cases d1:hi<lo
   ·have y:decide (hi<lo)=true:=by simpa using d1
    go_wp2_with fail;go_quiet (fail);go_wp2_with fail;go_ret;exact⟨by rw[u.out (by rw[e.out];simp;omega)];rfl,(c.alloc _).drewN _⟩
   ·have y:decide (hi<lo)=false:=by simpa using d1
    by_cases d2:(4611686018427387903:Int)<hi
    ·have z:decide ((4611686018427387903:Int)<hi)=true:=by simpa using d2
     go_wp2_with fail;go_quiet (fail);go_wp2_with fail;go_ret;exact⟨by rw[u.out (by rw[e.out];simp;omega)];rfl,(c.alloc _).drewN _⟩
    ·have z:decide ((4611686018427387903:Int)<hi)=false:=by simpa using d2
     by_cases H:0<k
     ·have A:decide (0<k)=true:=by simpa using H
      obtain⟨e4,b4⟩:=p (by omega);have s1:IntKind.i64.wrap ((k:Int)-1)=(k:Int)-1:=IntWalk.i64_in _ (by omega);have s2:((k:Int)-1).toNat=k-1:=by omega
      have s3:0≤(k:Int)-1:=by omega
      have s4:(k:Int)-1<f.rngs.length:=by omega
      clear p;by_cases I:(m:Int)<2
      ·have B:decide ((m:Int)<2)=true:=by simpa using I
       go_wp2_with fail;go_quiet (fail);go_wp2_with fail;go_ret;exact⟨by rw[u.out (by rw[e.out];simp;omega)];rfl,(c.alloc _).drewN _⟩
      ·have B:decide ((m:Int)<2)=false:=by simpa using I
       have s5:=wu ((m:Int)-2) (by omega);by_cases J:(m:Int)-2<hi
       ·have C:decide ((m:Int)-2<hi)=true:=by simpa using J
        go_wp2_with fail;go_quiet (fail);go_wp2_with fail;go_ret;exact⟨by rw[u.out (by rw[e.out];simp;omega)];rfl,(c.alloc _).drewN _⟩
       ·have C:decide ((m:Int)-2<hi)=false:=by simpa using J
        go_wp2_with fail;go_quiet (fail);go_wp2_with fail;go_roundw
        case rel=>exact⟨k+1,by omega,by go_num,by rw[G.out,d.out,e.out];simp;omega,(c.alloc _).drewN _⟩
        case measure=>simp[intOf];omega
     ·have A:decide (0<k)=false:=by simpa using H
      clear p;go_wp2_with fail;go_quiet (fail);go_wp2_with fail;go_roundw
      case rel=>exact⟨k+1,by omega,by go_num,by rw[G.out,d.out,e.out];simp;omega,(c.alloc _).drewN _⟩
      case measure=>simp[intOf];omega
  ·have t:k=f.rngs.length:=by omega
   have HE:Hid (zaw f.rngs=decide (0<f.rngs.length)):=by
    show _=_;unfold zaw;have:=d.out;rw[t]at this;rw[this];simp
   have s:=(hf.mod c (fun x=>x)).cells.2.2.2.2.2.2.2.2.2;clear t;go_wp2_with fail;go_ret;exact⟨by rw[HE.out];rfl,c⟩
end Go.Proofs.YtddfdpbaiedcjaaGreatDoor
namespace Go.Proofs.YtddfdpbaiedcjaaGreatDoor
open Go.RowKit Go.Proofs.Tryz Go.Shelf
attribute [local go_sem] Oper.semAt_some
def za3(rs:zA)(k:Nat):List (Nat×(Nat×Nat)):=(List.range k).map fun j=>(rs.length-1-j,(loAt rs (rs.length-1-j),hiAt rs (rs.length-1-j)))
theorem zix(rs:zA)(k:Nat):za3 rs (k+1)=za3 rs k++[(rs.length-1-k,(loAt rs (rs.length-1-k),hiAt rs (rs.length-1-k)))]:=by simp[za3,List.range_succ]
theorem zgq(rs:zA)(k:Nat):(za3 rs k).length=k:=by simp[za3]
def zp8(x:Nat×(Nat×Nat)):Array Value:=#[.int .i64 (x.1:Int),.agg #[.int .u64 (x.2.1:Int),.int .u64 (x.2.2:Int)]]
def zb9(b:Nat)(a:Option Addr)(W W':World):Prop:=W'.heap[b]?=W.heap[b]?∧∀g o,a=some ⟨g,o,none⟩→W'.heap[g]?=W.heap[g]?
theorem zb9.refl(Bs:Nat)(a:Option Addr)(W:World):zb9 Bs a W W:=⟨rfl,fun _ _ _=>rfl⟩
variable{a:Option Addr}
theorem zb9.trans{b:Nat}{A B C:World}(h:zb9 b a A B)(k:zb9 b a B C):zb9 b a A C:=⟨k.1.trans h.1,fun g o e=>(k.2 g o e).trans (h.2 g o e)⟩
variable{v:Value}
theorem zb9.box{b:Nat}{A B:World}(h:zb9 b a A B)(hc:A.cell? ⟨b,0,none⟩=some v):B.cell? ⟨b,0,none⟩=some v:=(World.cell?_of_block h.1).trans hc
variable{g o:Nat}
theorem zb9.row{Bs x:Nat}{A B:World}(h:zb9 Bs (some ⟨g,o,none⟩) A B)(hc:A.cell? ⟨g,x,none⟩=some v):B.cell? ⟨g,x,none⟩=some v:=(World.cell?_of_block (h.2 g o rfl)).trans hc
theorem zol(F:Fence)(n:Nat)(hF:F.fn 215)(z:F.round=none)(hn:1≤n)(l w cap:Nat)(a:Option Addr)(rs:zA)(J y:List (Nat×(Nat×Nat))→World→Prop)
  (A:∀pre x W,J pre W→pre.length<rs.length→YieldAt F (n-1) prog l (zp8 x) W fun e W' =>
   (e = .returned (.bool true)∧J (pre++[x]) W'∧zb9 w a W W')∨(e = .returned (.bool false)∧y (pre++[x]) W'))
  (W:World) (h:W.cell? ⟨w,0,none⟩=some (.slice a rs.length cap)) (hr:RR W (.slice a rs.length cap) rs) (h0:J [] W) :
  CallsIn F n prog 215 #[.func (.yield l) #[] #[],.pointer (some ⟨w,0,none⟩)] W fun e W'=>(∃v,e = .returned v) ∧
   ((∃ys,ys=za3 rs rs.length∧J ys W')∨(∃pre,(∃k,k≤rs.length∧pre=za3 rs k)∧y pre W')):=by
 obtain⟨_,_,e,r1,r2,B⟩:=hr;cases e;unfold maxLen at r2;have H:(rs.length:Int)≤9223372036854775807:=by omega
 refine callsIn_of_wp func215 rfl hF ?_ z;simp only[ntmps215,List.size_toArray,List.length_cons,List.length_nil,Nat.reduceAdd,Nat.reduceSub,Array.replicate_succ,Array.replicate_zero,List.push_toArray,List.append_toArray,List.nil_append,List.cons_append];gi_wp2
 gi_loopw [3] (fun i wr=>∃k:Nat,k≤rs.length∧i = .int .i64 ((rs.length:Int)-1-k)∧J (za3 rs k) wr∧zb9 w a W wr) (fun i _=>(intOf i+1).toNat)
 case atStart=>exact⟨0,Nat.zero_le _,by simp,h0,zb9.refl _ _ _⟩
 case round =>
  obtain⟨k,hk,rfl,c,b⟩:=hrel;by_cases C:k<rs.length
  ·obtain⟨q,I⟩:=nm (rs.length-1-k);have j:(rs.length:Int)-1-k=(q:Int):=by omega
   have D:q<rs.length:=by omega
   obtain⟨g,o,rfl,c1,c2,_,_⟩:=B q D;have d:=b.box h;have p:=b.row c1;have r:=b.row c2;obtain⟨fn,tmps,assign,body,K,L⟩:=A _ (q,(loAt rs q,hiAt rs q)) wr c (by rw[zgq];exact C);have HB:=zb (zix rs k);have M:=zb I;have N:=zb c;have E:=zb j;unfold zp8 at K;dsimp only at K;rw[j];clear I c B c1 c2 j;gi_wp2;refine L.mono ?_;clear L A;rintro e O (⟨rfl,s,t⟩|⟨rfl,f⟩)
   ·have m:Hid (J (za3 rs (k+1)) O):=by
     show J _ _;rw[HB.out,M.out];exact s
    have G:=zb (b.trans t);clear s t b d p r h;gi_wp2;go_roundw
    case rel=>exact⟨k+1,by omega,by rw[←E.out];congr 1;omega,m.out,G.out⟩
    case measure=>simp[intOf]
   ·have m:Hid (y (za3 rs (k+1)) O):=by
     show y _ _;rw[HB.out,M.out];exact f
    clear f b d p r h;gi_wp2;refine bodyPost_ret (results_none rfl _ _ _) rfl ?_;exact⟨⟨_,rfl⟩,.inr ⟨_,⟨k+1,by omega,rfl⟩,m.out⟩⟩
  ·have u:k=rs.length:=by omega
   have N:=zb c;have HK:=zb u;have P:¬(0:Int)≤(rs.length:Int)-1-k:=by omega
   clear c u B A;gi_wp2
   go_end0
   exact⟨⟨_,rfl⟩,.inl (by rw[←HK.out];exact N.out)⟩
theorem zlV(F:Fence)(n:Nat)(hF:F.fn 194)(b:F.round=none)(a:Option Addr)(len cap:Nat)(w:World):CallsIn F n prog 194 #[.slice a len cap] w fun e w'=>e = .returned (.func (.func 215) #[] #[.pointer (some ⟨w.heap.size,0,none⟩)])∧w'=w.alloc (.cells #[.slice a len cap] 63):=by
 refine callsIn_of_wp func194 rfl hF ?_ b;simp only[ntmps194,List.size_toArray,List.length_cons,List.length_nil,Nat.reduceAdd,Nat.reduceSub,Array.replicate_succ,Array.replicate_zero,List.push_toArray,List.append_toArray,List.nil_append,List.cons_append];gi_wp2;go_ret;exact⟨rfl,rfl⟩
theorem zkH(F:Fence)(n:Nat)(hF:F.fn 215)(d:F.round=none)(hn:1≤n)(b cap:Nat)(a:Option Addr)(rs:zA)(w:World)(c:w.cell? ⟨b,0,none⟩=some (.slice a rs.length cap))(hr:RR w (.slice a rs.length cap) rs):SeqStopsK F n prog 215 #[.pointer (some ⟨b,0,none⟩)] zp8 (zb9 b a) (fun ys=>ys=za3 rs rs.length) (fun pre=>∃k,k≤rs.length∧pre=za3 rs k) rs.length w:=fun l J Jx W f _ _ hY h0=>by
 have h:=zk c;refine zol F n hF d hn l b cap a rs J Jx hY W ((f.cell (p:=⟨b,0,none⟩) h).trans c) ?_ h0;obtain⟨_,_,e,h1,h2,h3⟩:=hr;cases e;refine⟨_,_,rfl,h1,h2,fun i hi=>?_⟩;obtain⟨g,o,e,j,q2,q3,q4⟩:=h3 i hi;have hl:=zk j;exact⟨g,o,e,(f.cell (p:=⟨g,_,none⟩) hl).trans j,(f.cell (p:=⟨g,_,none⟩) hl).trans q2,q3,q4⟩
end Go.Proofs.YtddfdpbaiedcjaaGreatDoor
namespace Go.Proofs.YtddfdpbaiedcjaaGreatDoor
open Go.RowKit Go.Proofs.Tryz
def TestAt(F:FuncId)(a:Array Value)(n:Nat)(p:Nat→Bool)(w:World):Prop :=
 ∀i k,i<n→Calls prog F (#[.int .i64 (i:Int)]++a) (w.drewN k) fun e w'=>e = .returned (.bool (p i))∧∃k,w'=w.drewN k
def zjK(F:FuncId):Prop:=∀args w,(callFunc F args).run prog w = .ok (.enter F args) w
def zab(n:Nat)(p:Nat→Bool)(m:Nat):Prop:=m≤n∧(0<m→p (m-1)=false)∧(m<n→p m=true)
theorem zlW(n:Nat)(F:FuncId)(c:Array Value)(p:Nat→Bool)(w:World)(hn:n≤4611686018427387904)(hF:zjK F)(hp:TestAt F c n p w):Calls prog 152 #[.int .i64 n,.func (.func F) #[] c] w fun e w'=>∃m:Nat,zab n p m∧e = .returned (.int .i64 m)∧∃k,w'=w.drewN k:=by
 go_enter func152,ntmps152;go_wp2_with fail
 go_loopw [5,6] (fun i j w'=>∃a b:Nat,a≤b∧b≤n∧i = .int .i64 a∧j = .int .i64 b∧(0<a→p (a-1)=false)∧(b<n→p b=true)∧∃k,w'=w.drewN k) (fun i j _=>((intOf j)-(intOf i)).toNat)
 case atStart=>exact⟨0,n,by omega,by omega,rfl,rfl,by omega,by omega,0,rfl⟩
 case round =>
  obtain⟨a,b,hab,hbn,rfl,rfl,h1,h2,k,rfl⟩:=hrel;by_cases hlt:a<b
  ·have e1:(a+b) / 2<n:=by omega
   have H:=hp ((a+b) / 2) k e1;have e2:0≤(a:Int)+b:=by omega
   have g:(((a+b) / 2:Nat):Int)=((a:Int)+b) / 2:=by omega
   rw[g]at H;have hF':∀args w,(callFunc F args).run prog w = .ok (.enter F args) w:=hF;clear g;cases hpv:p ((a+b) / 2)
   ·rw[hpv]at H;have d:Hid (p ((a+b) / 2)=false):=hpv;clear hpv;go_wp2_with (refine H.mono ?_;rintro e w' ⟨rfl,f,rfl⟩);go_roundw
    case rel=>exact⟨(a+b) / 2+1,b,by omega,by omega,by go_num,rfl,fun _=>d,h2,f,rfl⟩
    case measure=>simp[intOf];omega
   ·rw[hpv]at H;have d:Hid (p ((a+b) / 2)=true):=hpv;clear hpv;go_wp2_with (refine H.mono ?_;rintro e w' ⟨rfl,f,rfl⟩);go_roundw
    case rel=>exact⟨a,(a+b) / 2,by omega,by omega,rfl,by go_num,h1,fun _=>d,f,rfl⟩
    case measure=>simp[intOf];omega
  ·go_wp2_with fail;go_ret;exact⟨a,⟨by omega,h1,fun h=>by have e:a=b:=(by omega);rw[e];exact h2 (by omega)⟩,rfl,k,rfl⟩
structure zbA(w:World)(b o:Nat)(v:Value)(rs:zA)(fl most:Nat):Prop where
 cl:w.cell? ⟨b,o,none⟩=some v
 cf:w.cell? ⟨b,o+1,none⟩=some (.int .u64 (fl:Int))
 cm:w.cell? ⟨b,o+2,none⟩=some (.int .i64 (most:Int))
 own:w.ownsRow 0 214 2 v rs.length (zn rs)
 len:rs.length≤1099511627776
 fz:∀j,w.frozen? ⟨b,j,none⟩=false
variable{S:Nat→Prop}{b o:Nat}{rs:zA}{v:Value}{w w':World}
theorem zbA.mod{fl most:Nat}(h:zbA w b o v rs fl most)(m:Mod S w w')(hb:¬S b)(hs:∀g,v.ownBlock=some g→¬S g):zbA w' b o v rs fl most :=
 ⟨m.cell hb h.cl,m.cell hb h.cf,m.cell hb h.cm,m.owns h.own hs,h.len,fun j=>by rw[World.frozen?_of_block (w:=w) (m.block b (zk h.cl) hb)];exact h.fz j⟩
def zqA(rs:zA)(n:Nat)(i:Nat):Bool:=decide (n≤hiAt rs i)
theorem zom(rs:zA)(fl most i b o c d n:Nat)(v:Value)(w:World)
  (hs:w.cell? ⟨c,0,none⟩=some (.pointer (some ⟨b,o,none⟩))) (hn:w.cell? ⟨d,0,none⟩=some (.int .u64 (n:Int)))
  (h:zbA w b o v rs fl most) (hi:i<rs.length) :
  Calls prog 153 #[.int .i64 i,.pointer (some ⟨c,0,none⟩),.pointer (some ⟨d,0,none⟩)] w fun e w'=>e = .returned (.bool (zqA rs n i))∧∃k,w'=w.drewN k:=by
 obtain⟨a,cap,rfl,h1,h2,h3⟩:=zi h.own;obtain⟨g,rfl⟩:=h3 (by omega);have hl:=h.cl;have hr:=(zaJ h.own i hi).2;have hi1:(i:Int)<rs.length:=by omega
 have hi0:0≤(i:Int):=by omega
 unfold maxLen at h2;clear h3;go_enter func153,ntmps153;go_wp2_with fail;go_quiet (fail);go_wp2_with fail;go_ret;exact⟨rfl,_,rfl⟩
def zp9(rs:zA)(fl n:Nat):Bool:=decide (n<fl)||rs.any fun r=>decide (r.1≤n)&&decide (n≤r.2)
theorem ziy:zjK 153:=fun args w=>zdv func153 (by kernel_rfl) rfl args w
theorem zon(rs:zA)(fl most b o n:Nat)(v:Value)(w:World)(h:zbA w b o v rs fl most):Calls prog 87 #[.pointer (some ⟨b,o,none⟩),.int .u64 n] w fun e w'=>∃m,zab rs.length (zqA rs n) m∧e = .returned (.bool (decide (n<fl)||decide (m<rs.length)&&decide (loAt rs m≤n)))∧Below w.heap.size w w':=by
 have hbw:=zk h.cl;have f:=h.len;obtain⟨a,cap,hv,h1,h2,h3⟩:=zi h.own;unfold maxLen at h2;have c:=zlW rs.length 153 #[.pointer (some ⟨w.heap.size,0,none⟩),.pointer (some ⟨w.heap.size+1,0,none⟩)] (zqA rs n) ((w.alloc (.cells #[.pointer (some ⟨b,o,none⟩)] 114)).alloc (.cells #[.int .u64 n] 43)) (by omega) ziy (by
  intro i k hi;have d:Mod NoB w (((w.alloc (.cells #[.pointer (some ⟨b,o,none⟩)] 114)).alloc (.cells #[.int .u64 n] 43)).drewN k):=(((Mod.refl _ _).alloc _).alloc _).drewN k;exact(zom rs fl most i b o w.heap.size (w.heap.size+1) n v _ (by simp) (by simp) (h.mod d (fun x=>x) (fun _ _ x=>x)) hi).mono fun e w' ⟨he,k',hw⟩=>⟨he,k+k',by rw[hw,World.drewN_drewN]⟩)
 have hl:=h.cl;have hf:=h.cf;subst hv;go_enter func87,ntmps87;go_wp2_with (go_at_call 152;refine c.mono ?_;rintro e w' ⟨m,d,rfl,k,rfl⟩);have fin:∀j,Below w.heap.size w ((((w.alloc (.cells #[.pointer (some ⟨b,o,none⟩)] 114)).alloc (.cells #[.int .u64 n] 43)).drewN k).drewN j):=fun j=>(((((Mod.refl NoB _).alloc _).alloc _).drewN k).drewN j).below
 by_cases c1:n<fl
 ·have d1:decide ((n:Int)<fl)=true:=by simp;omega
  go_quiet (fail);go_wp2_with fail;go_ret;exact⟨m,d,by simp[c1],fin _⟩
 ·have d1:decide ((n:Int)<fl)=false:=by simp;omega
  by_cases c2:m<rs.length
  ·have d2:decide ((m:Int)<rs.length)=true:=by simp;omega
   obtain⟨g,rfl⟩:=h3 (by omega);have hr:=(zaJ h.own m c2).1;have hg:=zk hr;clear h3 c;go_quiet (fail);go_wp2_with fail;go_ret;exact⟨m,d,by simp[c1,c2],fin _⟩
  ·have d2:decide ((m:Int)<rs.length)=false:=by simp;omega
   clear h3 c;go_quiet (fail);go_wp2_with fail;go_ret;exact⟨m,d,by simp[c1,c2],fin _⟩
theorem zeL(most:Int)(w:World)(hm:most≤9223372036854775807)(hl : -9223372036854775808≤most):Calls prog 102 #[.int .i64 most] w fun e w'=>e = .returned (.pointer (some ⟨w.heap.size,0,none⟩))∧w'=w.alloc (.cells #[.slice none 0 0,.int .u64 0,.int .i64 (max most 1)] 116):=by
 go_enter func102,ntmps102;go_wp2_with fail
 ·go_ret;exact⟨rfl,by rw[show max most 1=1 by omega]⟩
 ·go_ret;exact⟨rfl,by rw[show max most 1=most by omega]⟩
end Go.Proofs.YtddfdpbaiedcjaaGreatDoor
namespace Go.Proofs.YtddfdpbaiedcjaaGreatDoor
open Go.RowKit Go.Proofs.Tryz Go.Shelf
attribute [local go_sem] Oper.semAt_some
theorem zqB(F:Fence)(n:Nat)(hF:F.fn 141)(a:F.round=none)(b:Nat)(w:World):CallsIn F n prog 141 #[.pointer (some ⟨b,0,none⟩)] w fun e w'=>e = .returned (.func (.func 193) #[] #[.pointer (some ⟨w.heap.size,0,none⟩)])∧w'=w.alloc (.cells #[.pointer (some ⟨b,0,none⟩)] 114):=by
 refine callsIn_of_wp func141 rfl hF ?_ a;simp only[ntmps141,List.size_toArray,List.length_cons,List.length_nil,Nat.reduceAdd,Nat.reduceSub,Array.replicate_succ,Array.replicate_zero,List.push_toArray,List.append_toArray,List.nil_append,List.cons_append];gi_wp2;go_ret;exact⟨rfl,rfl⟩
def zeg(lb lr:Nat)(a:Option Addr)(W:World)(k:Nat):Prop:=k=lb∨k=lr∨((∀g o,a=some ⟨g,o,none⟩→k≠g)∧∃cs fz,W.heap[k]?=some (.cells cs 214 fz))
def zrI(x:Nat×Nat):Array Value:=#[.agg #[.int .u64 (x.1:Int),.int .u64 (x.2:Int)]]
theorem zoo(F:Fence)(n:Nat)(p:∀f,F.fn f)(q:F.round=none)(hn:4≤n)(l N b lb cap:Nat)(a:Option Addr)(rs:zA)(J Jx:List (Nat×Nat)→World→Prop)(W:World)
  (hY:∀m pre x W1,J pre W1→pre.length<rs.length→YieldAt F m prog l (zrI x) W1 fun e W' =>
   Mod (zeg lb l a W1) W1 W'∧((e = .returned (.bool true)∧J (pre++[x]) W')∨(e = .returned (.bool false)∧Jx (pre++[x]) W')))
  (hJ:OwnFrom W.heap.size J) (O:OwnFrom W.heap.size Jx) (w:W.cell? ⟨N,0,none⟩=some (.pointer (some ⟨b,0,none⟩))) (hb:W.cell? ⟨b,0,none⟩=some (.slice a rs.length cap)) (j:RR W (.slice a rs.length cap) rs) (hlb:lb<W.heap.size) (hl:l<W.heap.size) (P:∀g o,a=some ⟨g,o,none⟩→g<W.heap.size∧g≠lb∧g≠l) (h0:J [] W) :
  CallsIn F n prog 193 #[.func (.yield l) #[] #[],.pointer (some ⟨N,0,none⟩)] W fun e W'=>(∃v,e = .returned v) ∧
   (J ((za3 rs rs.length).map (·.2)) W'∨∃k,k≤rs.length∧Jx ((za3 rs k).map (·.2)) W'):=by
 have Q:=zb hJ;have R:=zb O;have HY:=zb hY;have HR:=zb j;have H0:=zb h0;have aa:(W.alloc (.cells #[.func (.yield l) #[] #[]] 300)).cell? ⟨N,0,none⟩=some (.pointer (some ⟨b,0,none⟩)):=((Mod.refl NoB W).alloc _).cell (a:=⟨N,0,none⟩) id w;have ab:(W.alloc (.cells #[.func (.yield l) #[] #[]] 300)).cell? ⟨b,0,none⟩=some (.slice a rs.length cap):=((Mod.refl NoB W).alloc _).cell (a:=⟨b,0,none⟩) id hb;have h1:1≤n:=by omega
 clear hJ O hY j h0;refine callsIn_of_wp_marks func193 rfl (p _) ?_ q;simp only[ntmps193,List.size_toArray,List.length_cons,List.length_nil,Nat.reduceAdd,Nat.reduceSub,Array.replicate_succ,Array.replicate_zero,List.push_toArray,List.append_toArray,List.nil_append,List.cons_append]
 gi_wp2_with (gi_at_call 194;refine(zlV F (n-1) (p _) q _ _ _ _).mono ?_;rintro e w' ⟨rfl,rfl⟩)
 obtain⟨d,y⟩:=nm W.heap.size;have bY:Boxed ((W.alloc (.cells #[.func (.yield l) #[] #[]] 300)).alloc (.cells #[.slice a rs.length cap] 63)) d 300 (.func (.yield l) #[] #[]):=by
  rw[←y];exact(Boxed.new W _ _).alloc _
 have bS:Boxed ((W.alloc (.cells #[.func (.yield l) #[] #[]] 300)).alloc (.cells #[.slice a rs.length cap] 63)) (d+1) 63 (.slice a rs.length cap):=by
  have:=Boxed.new (W.alloc (.cells #[.func (.yield l) #[] #[]] 300)) 63 (.slice a rs.length cap);rw[World.size_alloc,y]at this;exact this
 have m0:Mod NoB W ((W.alloc (.cells #[.func (.yield l) #[] #[]] 300)).alloc (.cells #[.slice a rs.length cap] 63)):=((Mod.refl _ _).alloc _).alloc _;obtain⟨w1,t⟩:=nm (((W.alloc (.cells #[.func (.yield l) #[] #[]] 300)).alloc (.cells #[.slice a rs.length cap] 63)));have hs1:w1.heap.size=d+2:=by rw[←t];simp;omega
 have ac:J [] w1:=by rw[←t];exact Q.out.alloc _ (Q.out.alloc _ H0.out)
 rw[t]at bY bS m0 ⊢;rw[y];have ad:=HR.out.mod m0 (za2.no _);clear t aa ab;refine wpIn_rangeFunc_ownH q h1 (gf:=215) (lb:=#[.pointer (some ⟨d+1,0,none⟩)]) rfl (p _) (enters_of func215 (by kernel_rfl) rfl)
  (zkH F (n-1) (p _) q (by omega) (d+1) cap a rs w1 bS.cell ad) (fun h k=>h.trans k) ?hKb (Below.refl _ _) (fun _=>rfl)
  (fun pre X=>(J (pre.map (·.2)) X∧Boxed X d 300 (.func (.yield l) #[] #[]))∧Boxed X (d+1) 63 (.slice a rs.length cap))
  (fun c pre X=>c = .ret∧Jx (pre.map (·.2)) X) ?hI ?hIx ⟨⟨ac,bY⟩,bS⟩
  (fun x a' X=>∃rb,a'={ tmps:=#[.func (.yield l) #[] #[],.pointer (some ⟨N,0,none⟩),.pointer (some ⟨d,0,none⟩),undef,.pointer (some ⟨rb,0,none⟩),.pointer (some ⟨b,0,none⟩),.pointer (some ⟨b,0,none⟩),.pointer (some ⟨b,0,none⟩),.slice a rs.length cap,.func (.func 215) #[] #[.pointer (some ⟨d+1,0,none⟩)],.int .i64 (x.1:Int),.agg #[.int .u64 (x.2.1:Int),.int .u64 (x.2.2:Int)],undef,undef,undef,undef],defers:=[] } ∧
   X.heap[rb]?=some (.cells #[.int .u64 (x.2.1:Int),.int .u64 (x.2.2:Int)] 214 (0,0))) ?hAx ?assign ?body ?done ?stop
 case hKb =>
  intro X l2 o o' hl2 _ _ _;exact⟨World.putObj_heap_other (by omega),fun g o e=>World.putObj_heap_other (by have:=(P g o e).1;omega)⟩
 case hI =>
  exact OwnFrom.and (OwnFrom.and (fun s A B row w hg j=>Q.out _ A B row w hg (fun r e=>⟨by have:=(j r e).1;omega,(j r e).2⟩)) (Own.from (boxed_own d _ (fun _=>_)) _)) (Own.from (boxed_own (d+1) _ (fun _=>_)) _)
 case hIx =>
  intro c s A B row w hg j;exact⟨w.1,R.out _ A B row w.2 hg (fun r e=>⟨by have:=(j r e).1;omega,(j r e).2⟩)⟩
 case hAx =>
  intro x a' s A B row w hg j;obtain⟨rb,e,z⟩:=w;refine⟨rb,e,(hg.block rb (Array.getElem?_eq_some_iff.1 z).1 (fun e2=>?_)).trans z⟩;obtain⟨_,o,S,C⟩:=j rb e2.symm;rw[z]at S;cases S;cases C
 case assign =>
  intro l' pre x X K hI E;unfold zp8;gi_wp2;refine E _ _ ((KeepsOthers.alloc X _).from _) ⟨Below.heap_alloc _ _ _ hI.2.lt,fun g o e=>Below.heap_alloc _ _ _ ?_⟩ ⟨⟨?_,hI.1.2.alloc _⟩,hI.2.alloc _⟩ ⟨X.heap.size,rfl,heap_alloc_new X _⟩
  ·have q1:=(P g o e).1;have q2:=hI.2.lt;omega
  ·exact Q.out.alloc _ hI.1.1
 case body =>
  rintro l' pre x a' X hl' T ⟨⟨G,hy⟩,H⟩ ⟨rb,rfl,U⟩ ae;have yc:=hy.cell;have r0:X.cell? ⟨rb,0,none⟩=some (.int .u64 (x.2.1:Int)):=za U rfl;have r1:X.cell? ⟨rb,1,none⟩=some (.int .u64 (x.2.2:Int)):=za U rfl;obtain⟨fn,tmps,assign,body,I,hR⟩:=HY.out (n-1-1-1) (pre.map (·.2)) x.2 X G (by simpa using ae);unfold zrI at I;have hn1:1≤n-1-1:=by omega
  have HJP:=zb G;clear G T;have af:=zb hR;clear hR;gi_wp2;refine RoundIn.mono (F:=F.inRound l') (show RoundIn (F.inRound l') _ _ _ _ _ _ _ _ _ from af.out) ?_;rintro e X3 ⟨L,V⟩;have Y:=hy.lt;have i:=H.lt;have nY:¬zeg lb l a X d:=by
   rintro(h|h|⟨_,cs,fz,h⟩)
   ·omega
   ·omega
   ·rw[show X.heap[d]?=_ from hy]at h;simp at h
  have nS:¬zeg lb l a X (d+1):=by
   rintro(h|h|⟨_,cs,fz,h⟩)
   ·omega
   ·omega
   ·rw[show X.heap[d+1]?=_ from H]at h;simp at h
  have Z:Hid (KeepsFrom w1.heap.size X X3):=⟨L.size,fun k o hk z C=>by
   refine(L.block k (Array.getElem?_eq_some_iff.1 z).1 ?_).trans z;rintro(h|h|⟨_,cs,fz,h⟩)
   ·omega
   ·omega
   ·rw[z]at h;cases h;cases C⟩
  have ah:Hid (zb9 (d+1) a X X3):=⟨L.block _ i nS,fun g o e=>L.block _ (by have:=(P g o e).1;omega) (by
   rintro(h|h|⟨h,_⟩)
   ·exact(P g o e).2.1 h
   ·exact(P g o e).2.2 h
   ·exact h g o e rfl)⟩
  have ai:Hid (Boxed X3 d 300 (.func (.yield l) #[] #[])):=(L.block _ Y nY).trans hy;have aj:Hid (Boxed X3 (d+1) 63 (.slice a rs.length cap)):=(L.block _ i nS).trans H;clear nY nS L Y i;rcases V with⟨rfl,u⟩|⟨rfl,u⟩
  ·have M:=zb u;clear u yc I;gi_wp2;exact⟨Z.out,ah.out,⟨by rw[List.map_append];exact M.out,ai.out⟩,aj.out⟩
  ·have M:=zb u;clear u yc I;gi_wp2;exact⟨Z.out,rfl,by rw[List.map_append];exact M.out⟩
 case done =>
  rintro D ys X hD rfl ⟨⟨u,_⟩,_⟩ E;gi_wp2;refine⟨by simp,.inl ⟨_,_,rfl,run_takeDeferred E,?_⟩⟩;exact⟨_,results_none rfl _ _ _,⟨_,rfl⟩,.inl (Q.out.putObj _ u (by omega) E rfl)⟩
 case stop =>
  rintro D c pre X hD ⟨k,hk,rfl⟩ ⟨rfl,u⟩ E;gi_wp2;refine⟨by simp,.inl ⟨_,_,rfl,run_takeDeferred E,?_⟩⟩;exact⟨_,results_none rfl _ _ _,⟨_,rfl⟩,.inr ⟨k,hk,R.out.putObj _ u (by omega) E rfl⟩⟩
end Go.Proofs.YtddfdpbaiedcjaaGreatDoor
namespace Go.Proofs.YtddfdpbaiedcjaaGreatDoor
open Go.RowKit Go.Proofs.Tryz
def zc5(rs:zA):Nat→List UInt8
 | 0=>[]
 | k+1=>(zc5 rs k++zN (loAt rs k-hiAt rs (k+1)-2))++zN (hiAt rs (k+1)-loAt rs (k+1))
theorem zde(rs:zA):∀k,(zc5 rs k).length≤16*k
 | 0=>by simp[zc5]
 | k+1=>by
  have h1:=zde rs k;have h2:=zu (loAt rs k-hiAt rs (k+1)-2);have h3:=zu (hiAt rs (k+1)-loAt rs (k+1));simp only[zc5,List.length_append];omega
def za6(f:Frm):List UInt8:=((([2]++zN (hiAt f.rngs 0))++zN (f.rngs.length-1))++zN (hiAt f.rngs 0-loAt f.rngs 0))++zc5 f.rngs (f.rngs.length-1)
variable{i:Nat}{rs:zA}
theorem zqC(h:zaw rs=true)(hi:i<rs.length):zob rs i=true:=by
 unfold zaw zoc at h;simp only[Bool.and_eq_true,List.all_eq_true,List.mem_range]at h;exact h.1 i hi
theorem zcX(h:zaw rs=true)(hi:i<rs.length):loAt rs i≤hiAt rs i∧hiAt rs i≤4611686018427387903∧(0<i→hiAt rs i+2≤loAt rs (i-1)):=by
 have:=zqC h hi;simp only[zob,Bool.and_eq_true,Bool.or_eq_true,decide_eq_true_eq]at this;obtain⟨⟨h1,h2⟩,h3⟩:=this;refine⟨h1,h2,fun h0=>?_⟩;rcases h3 with h3|h3
 ·omega
 ·exact h3.2
variable{l new:List UInt8}{v v':Value}{w w':World}
theorem App.alloc(h:App w v l new v' w')(o:Obj):App w v l new v' (w'.alloc o) :=
 ⟨World.ownsRow.alloc h.own o,World.ownsRow.alloc h.old o,⟨h.grown.os,h.grown.tape,h.grown.output,Nat.le_trans h.grown.size (by simp),fun k hk hn=>(Below.heap_alloc w' o k (Nat.lt_of_lt_of_le hk h.grown.size)).trans (h.grown.block k hk hn)⟩,h.at_⟩
theorem App.drewR(h:App w v l new v' w'):App w v l new v' w'.drew :=
 ⟨h.own,h.old,⟨h.grown.os,h.grown.tape,h.grown.output,h.grown.size,h.grown.block⟩,h.at_⟩
variable{g n o:Nat}
theorem RR.cell0{c:Nat}(h:RR w (.slice (some ⟨g,o,none⟩) n c) rs)(hp:0<rs.length):w.cell? ⟨g,o+0*2,none⟩=some (.int .u64 (loAt rs 0:Int)):=by
 obtain⟨a,cap,hv,_,_,h3⟩:=h;obtain⟨g',o',e,e1,_⟩:=h3 0 hp;cases hv;cases e;exact e1
theorem OB.mod0(h:OB w v l)(m:Mod NoB w w'):OB w' v l:=m.owns h (fun _ _ x=>x)
theorem zqD(h:OB w v l):∀g,v.ownBlock=some g→g<w.heap.size:=by
 intro g hg;rcases h.2 with⟨rfl,_⟩|⟨g',cap,cur,rfl,_,h0,_⟩
 ·cases hg
 ·simp[Value.ownBlock]at hg;subst hg;exact(Array.getElem?_eq_some_iff.1 h0).1
theorem write2(v:Value)(l:List UInt8)(b:Nat)(f:Frm)(rv:Value)(w:World)(hf:zh w b f rv)(hr:RR w rv f.rngs)(hs:zaw f.rngs=true)(hn:f.rngs.length≤1099511627776)(I:za2 (fun k=>v.ownBlock=some k) rv)(h:OB w v l)(hl:l.length≤35184372088832):Calls prog 173 #[v,.pointer (some ⟨b,0,none⟩)] w (zoa w v l (za6 f)):=by
 have E:=hf.cells.2.2.2.2.2.2.2.2.2;have hbl:=zk E;have J:0<f.rngs.length:=by
  unfold zaw at hs;simp only[Bool.and_eq_true,decide_eq_true_eq]at hs;exact hs.2
 obtain⟨a,cap,rfl,h1,h2,h3⟩:=id hr;unfold maxLen at h2;obtain⟨g,o,rfl,L,e2,b1,b2⟩:=h3 0 J;have an:=zk L;obtain⟨k1,k2,_⟩:=zcX hs J;have HB:Hid (za6 f=((([2]++zN (hiAt f.rngs 0))++zN (f.rngs.length-1))++zN (hiAt f.rngs 0-loAt f.rngs 0))++zc5 f.rngs (f.rngs.length-1)):=rfl;have hH:∀i,i<f.rngs.length→loAt f.rngs i≤hiAt f.rngs i∧hiAt f.rngs i≤4611686018427387903∧(0<i→hiAt f.rngs i+2≤loAt f.rngs (i-1)):=fun i hi=>zcX hs hi
 have HH:=zb hH;clear hH;obtain⟨lo,R⟩:=nm (loAt f.rngs 0);obtain⟨hi,T⟩:=nm (hiAt f.rngs 0);rw[R]at L b1 k1;rw[T]at e2 b2 k1 k2;rw[R,T]at HB;simp only[Nat.zero_mul,Nat.add_zero]at L e2;clear R T h3;have z1:IntKind.i64.wrap ((f.rngs.length:Int)-1)=(f.rngs.length:Int)-1:=IntWalk.i64_in _ (by omega);have z2:IntKind.u64.wrap ((f.rngs.length:Int)-1)=((f.rngs.length-1:Nat):Int):=by rw[IntKind.wrap_u64];omega
 have z3:IntKind.u64.wrap ((hi:Int)-lo)=((hi-lo:Nat):Int):=by rw[IntKind.wrap_u64];omega
 go_enter func173,ntmps173;go_wp2_with fail;obtain⟨t,C⟩:=nm ((w.alloc (.cells #[.int .u64 (lo:Int),.int .u64 (hi:Int)] 214)).drew);have A:Mod NoB w t:=by rw[←C];exact((Mod.refl _ _).alloc _).drew
 have B:zh t b f (.slice (some ⟨g,o,none⟩) f.rngs.length cap):=hf.mod A (fun x=>x);have hB:t.heap[w.heap.size]?=some (.cells #[.int .u64 (lo:Int),.int .u64 (hi:Int)] 214 (0,0)):=by rw[←C];exact heap_alloc_new w _
 have j:t.cell? ⟨w.heap.size,0,none⟩=some (.int .u64 (lo:Int)):=za hB rfl;have m:t.cell? ⟨w.heap.size,1,none⟩=some (.int .u64 (hi:Int)):=za hB rfl;have n:¬v.ownBlock=some w.heap.size:=fun hx=>by have:=zqD h _ hx;omega
 have hX:OB t v l:=h.mod0 A;obtain⟨v1,w1,ae,A1⟩:=zbV t v l 2 2 hX rfl (by omega);have F1:zh w1 b f (.slice (some ⟨g,o,none⟩) f.rngs.length cap)∧w1.cell? ⟨w.heap.size,0,none⟩=some (.int .u64 (lo:Int))∧w1.cell? ⟨w.heap.size,1,none⟩=some (.int .u64 (hi:Int)):=⟨zh.app (w:=t) B (h.mod0 A) A1,A1.mod.cell (a:=⟨w.heap.size,0,none⟩) n j,A1.mod.cell (a:=⟨w.heap.size,1,none⟩) n m⟩;have L1:(l++[(2:UInt8)]).length≤35184372088832+1:=by simp;omega
 have U:=zb (A.trans (S:=NoB) (Mod.refl _ _));refine zm 21 (fun w'=>zh w' b f (.slice (some ⟨g,o,none⟩) f.rngs.length cap)∧w'.cell? ⟨w.heap.size,0,none⟩=some (.int .u64 (lo:Int))∧w'.cell? ⟨w.heap.size,1,none⟩=some (.int .u64 (hi:Int))) ?_ ?_
 ·rw[C];exact⟨B,j,m⟩
 rw[C];clear C;refine GI 0 ?_;refine GS rfl ?_ ?_ ?_;rotate_left
 ·(intro V c;(try dsimp only at c);have hc:=c.1.cells;obtain⟨W,cb⟩:=c.2;clear c;obtain⟨c0,c1,c2,c3,c4,X,Z,c7,c8,E⟩:=hc;go_simp;try with_reducible rfl)
 try simp only[PS]
 refine GI 3 ?_;iterate 2
  refine GS rfl ?_ ?_ ?_;rotate_left
  ·(intro V c;(try dsimp only at c);have hc:=c.1.cells;obtain⟨W,cb⟩:=c.2;clear c;obtain⟨c0,c1,c2,c3,c4,X,Z,c7,c8,E⟩:=hc;go_simp;try with_reducible rfl)
  try simp only[PS]
 refine GI 6 ?_;iterate 7
  refine GS rfl ?_ ?_ ?_;rotate_left
  ·(intro V c;(try dsimp only at c);have hc:=c.1.cells;obtain⟨W,cb⟩:=c.2;clear c;obtain⟨c0,c1,c2,c3,c4,X,Z,c7,c8,E⟩:=hc;go_simp;try with_reducible rfl)
  try simp only[PS]
 refine GI 14 ?_;iterate 5
  refine GS rfl ?_ ?_ ?_;rotate_left
  ·(intro V c;(try dsimp only at c);have hc:=c.1.cells;obtain⟨W,cb⟩:=c.2;clear c;obtain⟨c0,c1,c2,c3,c4,X,Z,c7,c8,E⟩:=hc;go_simp;try with_reducible rfl)
  try simp only[PS]
 refine zz 1 rfl (fun K p=>?_);go_simp;refine p.out _ _ ?_ ?_
 ·exact⟨B.mod (S:=NoB) ((Mod.refl _ _).alloc _) (fun x=>x),((Mod.refl NoB t).alloc _).cell (a:=⟨w.heap.size,0,none⟩) id j,((Mod.refl NoB t).alloc _).cell (a:=⟨w.heap.size,1,none⟩) id m⟩
 clear p K;try simp only[PS]
 refine zz 2 rfl (fun K p=>?_);refine zO rfl _ _ _ _ rfl _ _ _ rfl rfl ae ?_;refine p.out _ _ F1 ?_;clear p K;try simp only[PS]
 refine zz 5 rfl (fun K p=>?_);go_simp;refine(zZ v1 (l++([2])) hi w1 A1.own (by omega) (by omega)).mono ?_;rintro e w2 ⟨v2,rfl,M⟩;have A2:=A1.trans M;have F2:zh w2 b f (.slice (some ⟨g,o,none⟩) f.rngs.length cap)∧w2.cell? ⟨w.heap.size,0,none⟩=some (.int .u64 (lo:Int))∧w2.cell? ⟨w.heap.size,1,none⟩=some (.int .u64 (hi:Int)):=⟨zh.app (w:=t) B (h.mod0 A) A2,A2.mod.cell (a:=⟨w.heap.size,0,none⟩) n j,A2.mod.cell (a:=⟨w.heap.size,1,none⟩) n m⟩;have L2:(l++([2]++zN hi)).length≤35184372088832+9:=by have:=zu hi;simp at this L1 ⊢;omega
 refine p.out _ _ F2 ?_;clear M;clear p K;try simp only[PS]
 refine zz 13 rfl (fun K p=>?_);go_simp;refine(zZ v2 (l++([2]++zN hi)) (f.rngs.length-1) w2 A2.own (by omega) (by omega)).mono ?_;rintro e w3 ⟨v3,rfl,M⟩;have A3:=A2.trans M;have F3:zh w3 b f (.slice (some ⟨g,o,none⟩) f.rngs.length cap)∧w3.cell? ⟨w.heap.size,0,none⟩=some (.int .u64 (lo:Int))∧w3.cell? ⟨w.heap.size,1,none⟩=some (.int .u64 (hi:Int)):=⟨zh.app (w:=t) B (h.mod0 A) A3,A3.mod.cell (a:=⟨w.heap.size,0,none⟩) n j,A3.mod.cell (a:=⟨w.heap.size,1,none⟩) n m⟩;have L3:(l++([2]++zN hi++zN (f.rngs.length-1))).length≤35184372088832+17:=by have:=zu (f.rngs.length-1);simp at this L2 ⊢;omega
 refine p.out _ _ F3 ?_;clear M;clear p K;try simp only[PS]
 refine zz 19 rfl (fun K p=>?_);go_simp;refine(zZ v3 (l++([2]++zN hi++zN (f.rngs.length-1))) (hi-lo) w3 A3.own (by omega) (by omega)).mono ?_;rintro e w4 ⟨v4,rfl,M⟩;have A4:=A3.trans M;have F4:zh w4 b f (.slice (some ⟨g,o,none⟩) f.rngs.length cap)∧w4.cell? ⟨w.heap.size,0,none⟩=some (.int .u64 (lo:Int))∧w4.cell? ⟨w.heap.size,1,none⟩=some (.int .u64 (hi:Int)):=⟨zh.app (w:=t) B (h.mod0 A) A4,A4.mod.cell (a:=⟨w.heap.size,0,none⟩) n j,A4.mod.cell (a:=⟨w.heap.size,1,none⟩) n m⟩;have L4:(l++([2]++zN hi++zN (f.rngs.length-1)++zN (hi-lo))).length≤35184372088832+25:=by have:=zu (hi-lo);simp at this L3 ⊢;omega
 refine p.out _ _ F4 ?_;clear M;clear p K;try simp only[PS]
 refine GI 20 ?_;refine GS rfl ?_ ?_ ?_;rotate_left
 ·(intro V c;(try dsimp only at c);have hc:=c.1.cells;obtain⟨W,cb⟩:=c.2;clear c;obtain⟨c0,c1,c2,c3,c4,X,Z,c7,c8,E⟩:=hc;go_simp;try with_reducible rfl)
 try simp only[PS]
 refine zo ?_;have c9b:=F4.1.cells.2.2.2.2.2.2.2.2.2;have af:RR t (.slice (some ⟨g,o,none⟩) f.rngs.length cap) f.rngs:=hr.mod A (za2.no _);have aa:=zb A4;have ao:=zb B;have HvB:=zb n;obtain⟨r,D⟩:=nm ([2]++zN hi++zN (f.rngs.length-1)++zN (hi-lo));rw[D]at aa HB;have N:(l++r).length≤35184372088832+25:=by rw[←D];exact L4
 have aq:=zb hX;have ah:=zb af;clear F1 F2 F3 F4 A1 A2 A3 A4 L1 L2 L3 L4 D z1 z2 z3 hf hr h hX af ae j m hB A B n k1 k2 b1 b2 L e2 E;have O:Hid (∀k vb wr,za6 f=r++zc5 f.rngs k→App t v l (r++zc5 f.rngs k) vb wr→App w v l (za6 f) vb wr):=by
  intro k vb wr hq u;rw[hq];exact⟨u.own,u.old,⟨u.grown.os.trans U.out.os,u.grown.tape.trans U.out.tape,u.grown.output.trans U.out.output,Nat.le_trans U.out.size u.grown.size,fun i hi hn=>(u.grown.block i (Nat.lt_of_lt_of_le hi U.out.size) hn).trans (U.out.block i hi (fun x=>x))⟩,fun i hi=>(u.at_ i hi).imp id (fun q=>Nat.le_trans U.out.size q)⟩
 by_cases ar:f.rngs.length≤1
 ·have HF:Hid (za6 f=r++zc5 f.rngs 0):=by
   have:f.rngs.length-1=0:=by omega
   show _=_;rw[HB.out,this]
  have Hn:=zb ar;have hn2:(f.rngs.length:Int)-1≤0:=by omega
  have hn3:f.rngs.length-1≤0:=by omega
  go_wp2_with fail;all_goals
   refine wp_loop_rounds 1 ?_;rw[rounds_succ];go_wp2_with fail
  all_goals
   go_ret;exact⟨_,rfl,O.out 0 _ _ HF.out (by simpa [zc5]using aa.out)⟩
 have au:1<cap:=by omega
 have av:¬(1=cap):=by omega
 have aw:¬(cap=1):=by omega
 go_wp2_with fail
 go_loopw [0,40] (fun vb i wr=>∃k:Nat,k≤f.rngs.length-1∧i = .int .i64 k∧App t v l (r++zc5 f.rngs k) vb wr) (fun _ i _=>f.rngs.length-1-(intOf i).toNat)
 case atStart=>exact⟨0,Nat.zero_le _,rfl,by simpa [zc5]using aa.out⟩
 case round =>
  obtain⟨k,hk,rfl,u⟩:=hrel;have ax:=zqD u.own;have ay:RR wr (.slice (some ⟨g,o,none⟩) f.rngs.length cap) f.rngs:=ah.out.mod u.mod I;have ab:zh wr b f (.slice (some ⟨g,o,none⟩) f.rngs.length cap):=zh.app ao.out aq.out u;have ai:=ab.cells.2.2.2.2.2.2.2.2.2;have aA:=zk ai;obtain⟨_,_,az,_,_,h3⟩:=ay;cases az;by_cases hlt:k<f.rngs.length-1
  ·obtain⟨g',o',ac,L,_,b1,_⟩:=h3 k (by omega);cases ac;obtain⟨g',o',ac,e3,e4,b3,b4⟩:=h3 (k+1) (by omega);cases ac;obtain⟨q1,q2,q3⟩:=HH.out (k+1) (by omega);have q4:=q3 (by omega);obtain⟨r1,r2,_⟩:=HH.out k (by omega);simp only[Nat.add_sub_cancel]at q4;have an:=zk L;have aB:k<f.rngs.length:=by omega
   have HS:Hid (zc5 f.rngs (k+1)=(zc5 f.rngs k++zN (loAt f.rngs k-hiAt f.rngs (k+1)-2))++zN (hiAt f.rngs (k+1)-loAt f.rngs (k+1))):=rfl;have HL:=zde f.rngs k;obtain⟨F,aj⟩:=nm (loAt f.rngs k);obtain⟨s,P⟩:=nm (loAt f.rngs (k+1));obtain⟨d,Q⟩:=nm (hiAt f.rngs (k+1));rw[aj]at L b1 q4 HS r1;have r3:=Nat.le_trans r1 r2;clear r1 r2;rw[P]at e3 b3 q1 HS;rw[Q]at e4 b4 q1 q2 q4 HS;clear aj P Q q3 h3;have p1:o+(k+1)*2=o+2+k*2:=by omega
   rw[p1]at e3 e4;have z1:=wu ((F:Int)-d) (by omega);have z2:IntKind.u64.wrap ((F:Int)-d-2)=((F-d-2:Nat):Int):=by rw[IntKind.wrap_u64];omega
   have z3:IntKind.u64.wrap ((d:Int)-s)=((d-s:Nat):Int):=by rw[IntKind.wrap_u64];omega
   have G:=zb u;clear u p1;go_wp2_with fail;obtain⟨Y,hY⟩:=nm ((wr.alloc (.cells #[.int .u64 (s:Int),.int .u64 (d:Int)] 214)).drew);have A:Mod NoB wr Y:=by rw[←hY];exact((Mod.refl _ _).alloc _).drew
   have AY:App t v l (r++zc5 f.rngs k) u0 Y:=by rw[←hY];exact(G.out.alloc _).drewR
   have ad:=AY.own;have B:zh Y b f (.slice (some ⟨g,o,none⟩) f.rngs.length cap):=ab.mod A (fun x=>x);have hB:Y.heap[wr.heap.size]?=some (.cells #[.int .u64 (s:Int),.int .u64 (d:Int)] 214 (0,0)):=by rw[←hY];exact heap_alloc_new wr _
   have j:Y.cell? ⟨wr.heap.size,0,none⟩=some (.int .u64 (s:Int)):=za hB rfl;have m:Y.cell? ⟨wr.heap.size,1,none⟩=some (.int .u64 (d:Int)):=za hB rfl;have eX:Y.cell? ⟨g,o+k*2,none⟩=some (.int .u64 (F:Int)):=A.cell (a:=⟨g,_,none⟩) id L;have H:¬u0.ownBlock=some wr.heap.size:=fun hx=>by have:=ax _ hx;omega
   have ak:¬u0.ownBlock=some g:=fun hx=>by
    rcases G.out.at_ _ hx with h1|h1
    ·exact I g o _ _ rfl h1
    ·exact absurd (zk (ah.out.cell0 (by omega))) (by omega)
   clear ab ai;refine zm 21 (fun w'=>zh w' b f (.slice (some ⟨g,o,none⟩) f.rngs.length cap)∧w'.cell? ⟨wr.heap.size,0,none⟩=some (.int .u64 (s:Int))∧w'.cell? ⟨wr.heap.size,1,none⟩=some (.int .u64 (d:Int))∧w'.cell? ⟨g,o+k*2,none⟩=some (.int .u64 (F:Int))) ?_ ?_
   ·rw[hY];exact⟨B,j,m,eX⟩
   rw[hY];clear hY;refine GI 0 ?_;iterate 13
    refine GS rfl ?_ ?_ ?_;rotate_left
    ·(intro V c;(try dsimp only at c);have hc:=c.1.cells;obtain⟨W,cb,cd⟩:=c.2;clear c;obtain⟨c0,c1,c2,c3,c4,X,Z,c7,c8,E⟩:=hc;go_simp;try with_reducible rfl)
    try simp only[PS]
   refine GI 14 ?_;iterate 5
    refine GS rfl ?_ ?_ ?_;rotate_left
    ·(intro V c;(try dsimp only at c);have hc:=c.1.cells;obtain⟨W,cb,cd⟩:=c.2;clear c;obtain⟨c0,c1,c2,c3,c4,X,Z,c7,c8,E⟩:=hc;go_simp;try with_reducible rfl)
    try simp only[PS]
   refine zz 13 rfl (fun K p=>?_);go_simp;refine(zZ u0 (l++(r++zc5 f.rngs k)) (F-d-2) Y ad (by simp at N ⊢;omega) (by omega)).mono ?_;rintro e y1 ⟨x1,rfl,z⟩;have G1:zh y1 b f (.slice (some ⟨g,o,none⟩) f.rngs.length cap)∧y1.cell? ⟨wr.heap.size,0,none⟩=some (.int .u64 (s:Int))∧y1.cell? ⟨wr.heap.size,1,none⟩=some (.int .u64 (d:Int))∧y1.cell? ⟨g,o+k*2,none⟩=some (.int .u64 (F:Int)):=⟨zh.app B (ad) z,z.mod.cell (a:=⟨wr.heap.size,0,none⟩) H j,z.mod.cell (a:=⟨wr.heap.size,1,none⟩) H m,z.mod.cell (a:=⟨g,_,none⟩) ak eX⟩;have B1:=AY.trans z;have hl1:=zu (F-d-2);refine p.out _ _ G1 ?_;clear p K;try simp only[PS]
   refine zz 19 rfl (fun K p=>?_);go_simp;refine(zZ x1 (l++(r++zc5 f.rngs k++zN (F-d-2))) (d-s) y1 B1.own (by simp at N ⊢;omega) (by omega)).mono ?_;rintro e y2 ⟨x2,rfl,al⟩;have B2:=B1.trans al;have y:=z.trans (by rw[List.append_assoc];exact al);have G2:zh y2 b f (.slice (some ⟨g,o,none⟩) f.rngs.length cap)∧y2.cell? ⟨wr.heap.size,0,none⟩=some (.int .u64 (s:Int))∧y2.cell? ⟨wr.heap.size,1,none⟩=some (.int .u64 (d:Int))∧y2.cell? ⟨g,o+k*2,none⟩=some (.int .u64 (F:Int)):=⟨zh.app B (ad) y,y.mod.cell (a:=⟨wr.heap.size,0,none⟩) H j,y.mod.cell (a:=⟨wr.heap.size,1,none⟩) H m,y.mod.cell (a:=⟨g,_,none⟩) ak eX⟩;refine p.out _ _ G2 ?_;clear p K;try simp only[PS]
   refine GI 20 ?_;refine GS rfl ?_ ?_ ?_;rotate_left
   ·(intro V c;(try dsimp only at c);have hc:=c.1.cells;obtain⟨W,cb,cd⟩:=c.2;clear c;obtain⟨c0,c1,c2,c3,c4,X,Z,c7,c8,E⟩:=hc;go_simp;try with_reducible rfl)
   try simp only[PS]
   refine zo ?_;go_wp2_with fail;go_roundw
   case rel=>exact⟨k+1,by omega,by go_num,by rw[HS.out,←List.append_assoc,←List.append_assoc];exact B2⟩
   case measure=>simp[intOf];omega
  ·have am:k=f.rngs.length-1:=by omega
   have HF:Hid (za6 f=r++zc5 f.rngs k):=by rw[am];exact HB.out
   have G:=zb u;clear u am;go_wp2_with fail;go_ret;exact⟨_,rfl,O.out k _ _ HF.out G.out⟩
def zex(F:FuncId):Prop:=∀args w,(callFunc F args).run prog w = .ok (.enter F args) w
def zbM(w:World)(b:Nat)(wv rv sv:Value):Prop:=w.cell? ⟨b,0,none⟩=some wv∧w.cell? ⟨b,1,none⟩=some rv∧w.cell? ⟨b,2,none⟩=some sv
variable{S:Nat→Prop}{b:Nat}{rv:Value}
theorem zbM.mod{d e:Value}(h:zbM w b d rv e)(m:Mod S w w')(c:¬S b):zbM w' b d rv e :=
 ⟨m.cell (a:=⟨b,0,none⟩) c h.1,m.cell (a:=⟨b,1,none⟩) c h.2.1,m.cell (a:=⟨b,2,none⟩) c h.2.2⟩
def fnv(F:FuncId):Value:=.func (.func F) #[] #[]
def zdZ(w:World)(wv rv sv:Value)(e:Ending)(w':World):Prop:=∃b,e = .returned (.pointer (some ⟨b,0,none⟩))∧zbM w' b wv rv sv∧Mod NoB w w'∧w.heap.size≤b
def IsNum(w:World)(t:UInt8)(e:Ending)(w':World):Prop:=∃b tb ab,e = .returned (.pointer (some ⟨b,0,none⟩))∧zbM w' b (.func (.func 213) #[] #[.pointer (some ⟨tb,0,none⟩),.pointer (some ⟨ab,0,none⟩)]) (.func (.func 214) #[] #[.pointer (some ⟨ab,0,none⟩)]) (fnv 172)∧zdd w' tb ab t∧Mod NoB w w'∧w.heap.size≤b∧w.heap.size≤tb∧w.heap.size≤ab
theorem zfQ(t:UInt8)(w:World):Calls prog 185 #[.int .u8 (t.toNat:Int),.func (.func 186) #[] #[]] w fun e w'=>e = .returned (.agg #[.func (.func 213) #[] #[.pointer (some ⟨w.heap.size,0,none⟩),.pointer (some ⟨w.heap.size+1,0,none⟩)],.func (.func 214) #[] #[.pointer (some ⟨w.heap.size+1,0,none⟩)],.func (.func 172) #[] #[]]) ∧
  w'=((w.alloc (.cells #[.int .u8 (t.toNat:Int)] 5)).alloc (.cells #[.func (.func 186) #[] #[]] 284)).alloc (.cells #[.func (.func 213) #[] #[.pointer (some ⟨w.heap.size,0,none⟩),.pointer (some ⟨w.heap.size+1,0,none⟩)],.func (.func 214) #[] #[.pointer (some ⟨w.heap.size+1,0,none⟩)],.func (.func 172) #[] #[]] 241):=by
 go_enter func185,ntmps185;go_wp2_with fail;exact bodyPost_ret (by simp[results,results185,go_sem]) rfl ⟨rfl,rfl⟩
theorem of_1(w:World):Calls prog 131 #[.int .i64 1] w (zdZ w (fnv 170) (fnv 171) (fnv 172)):=by
 go_enter func131,ntmps131;go_wp2_with fail;go_ret;exact⟨w.heap.size,rfl,⟨by simp[fnv],by simp[fnv],by simp[fnv]⟩,(Mod.refl _ _).alloc _,Nat.le_refl _⟩
theorem of_2(w:World):Calls prog 131 #[.int .i64 2] w (zdZ w (fnv 173) (fnv 174) (fnv 175)):=by
 go_enter func131,ntmps131;go_wp2_with fail;go_ret;exact⟨w.heap.size,rfl,⟨by simp[fnv],by simp[fnv],by simp[fnv]⟩,(Mod.refl _ _).alloc _,Nat.le_refl _⟩
theorem of_3(w:World):Calls prog 131 #[.int .i64 3] w (zdZ w (fnv 176) (fnv 177) (fnv 179)):=by
 go_enter func131,ntmps131;go_wp2_with fail;go_ret;exact⟨w.heap.size,rfl,⟨by simp[fnv],by simp[fnv],by simp[fnv]⟩,(Mod.refl _ _).alloc _,Nat.le_refl _⟩
theorem of_4(w:World):Calls prog 131 #[.int .i64 4] w (zdZ w (fnv 180) (fnv 182) (fnv 184)):=by
 go_enter func131,ntmps131;go_wp2_with fail;go_ret;exact⟨w.heap.size,rfl,⟨by simp[fnv],by simp[fnv],by simp[fnv]⟩,(Mod.refl _ _).alloc _,Nat.le_refl _⟩
theorem of_6(w:World):Calls prog 131 #[.int .i64 6] w (zdZ w (fnv 187) (fnv 188) (fnv 172)):=by
 go_enter func131,ntmps131;go_wp2_with fail;go_ret;exact⟨w.heap.size,rfl,⟨by simp[fnv],by simp[fnv],by simp[fnv]⟩,(Mod.refl _ _).alloc _,Nat.le_refl _⟩
theorem of_7(w:World):Calls prog 131 #[.int .i64 7] w (zdZ w (fnv 189) (fnv 190) (fnv 172)):=by
 go_enter func131,ntmps131;go_wp2_with fail;go_ret;exact⟨w.heap.size,rfl,⟨by simp[fnv],by simp[fnv],by simp[fnv]⟩,(Mod.refl _ _).alloc _,Nat.le_refl _⟩
theorem zjL(w:World)(o o':Obj)(t:UInt8)(z:Int)(T b:Nat)(hz:z=(t.toNat:Int)):zdd ((((w.alloc o).alloc (.cells #[.int .u8 z] T)).alloc (.cells #[.func (.func 186) #[] #[]] b)).alloc o') (w.heap.size+1) (w.heap.size+1+1) t:=by
 subst hz;have e1:(w.alloc o).heap.size=w.heap.size+1:=by simp
 have e2:((w.alloc o).alloc (.cells #[.int .u8 (t.toNat:Int)] T)).heap.size=w.heap.size+1+1:=by simp
 have c1:((w.alloc o).alloc (.cells #[.int .u8 (t.toNat:Int)] T)).cell? ⟨w.heap.size+1,0,none⟩=some (.int .u8 (t.toNat:Int)):=by rw[←e1];exact za (heap_alloc_new _ _) rfl
 have c2:(((w.alloc o).alloc (.cells #[.int .u8 (t.toNat:Int)] T)).alloc (.cells #[.func (.func 186) #[] #[]] b)).cell? ⟨w.heap.size+1+1,0,none⟩=some (.func (.func 186) #[] #[]):=by rw[←e2];exact za (heap_alloc_new _ _) rfl
 exact⟨(((Mod.refl NoB _).alloc _).alloc _).cell (a:=⟨_,0,none⟩) id c1,((Mod.refl NoB _).alloc _).cell (a:=⟨_,0,none⟩) id c2⟩
theorem of_5(w:World):Calls prog 131 #[.int .i64 5] w (IsNum w 16):=by
 go_enter func131,ntmps131;go_wp2_with (go_at_call 185;refine(zfQ 16 _).mono ?_;rintro e w' ⟨rfl,rfl⟩);go_ret;refine⟨w.heap.size,w.heap.size+1,w.heap.size+1+1,rfl,?_,?_,?_,Nat.le_refl _,by omega,by omega⟩
 ·have h0:∀(a b c:Value),zbM (w.alloc (.cells #[a,b,c] 241)) w.heap.size a b c:=fun a b c=>⟨za (heap_alloc_new w _) rfl,za (heap_alloc_new w _) rfl,za (heap_alloc_new w _) rfl⟩
  exact(h0 _ _ _).mod ((((Mod.refl NoB _).alloc _).alloc _).alloc _) (fun x=>x)
 ·exact zjL w _ _ _ _ _ _ rfl
 ·exact((((Mod.refl _ _).alloc _).alloc _).alloc _).alloc _
theorem of_8(w:World):Calls prog 131 #[.int .i64 8] w (IsNum w 28):=by
 go_enter func131,ntmps131;go_wp2_with (go_at_call 185;refine(zfQ 28 _).mono ?_;rintro e w' ⟨rfl,rfl⟩);go_ret;refine⟨w.heap.size,w.heap.size+1,w.heap.size+1+1,rfl,?_,?_,?_,Nat.le_refl _,by omega,by omega⟩
 ·have h0:∀(a b c:Value),zbM (w.alloc (.cells #[a,b,c] 241)) w.heap.size a b c:=fun a b c=>⟨za (heap_alloc_new w _) rfl,za (heap_alloc_new w _) rfl,za (heap_alloc_new w _) rfl⟩
  exact(h0 _ _ _).mod ((((Mod.refl NoB _).alloc _).alloc _).alloc _) (fun x=>x)
 ·exact zjL w _ _ _ _ _ _ rfl
 ·exact((((Mod.refl _ _).alloc _).alloc _).alloc _).alloc _
theorem of_no(k:Int)(hk:k<1∨8<k)(w:World):Calls prog 131 #[.int .i64 k] w fun e w'=>e = .returned (.pointer none)∧Mod NoB w w':=by
 have d1:(k==1)=false:=by simp;omega
 have d2:(k==2)=false:=by simp;omega
 have d3:(k==3)=false:=by simp;omega
 have d4:(k==4)=false:=by simp;omega
 have d5:(k==5)=false:=by simp;omega
 have d6:(k==6)=false:=by simp;omega
 have d7:(k==7)=false:=by simp;omega
 have d8:(k==8)=false:=by simp;omega
 go_enter func131,ntmps131;go_wp2_with fail;go_ret;exact⟨rfl,(Mod.refl _ _).alloc _⟩
theorem zaM(p:Value)(w:World):Calls prog 172 #[p] w (zok w true):=by
 go_enter func172,ntmps172;go_wp2_with fail;go_ret;exact⟨rfl,Mod.refl _ _⟩
theorem zqa(b:Nat)(f:Frm)(rv:Value)(w:World)(hf:zh w b f rv):Calls prog 179 #[.pointer (some ⟨b,0,none⟩)] w (zok w (decide (f.rel≤f.off))):=by
 obtain⟨c0,c1,c2,c3,c4,c5,c6,c7,c8,c9⟩:=hf.cells;go_enter func179,ntmps179;go_wp2_with fail;go_quiet (fail);go_wp2_with fail;go_ret;exact⟨rfl,(Mod.refl _ _).drewN _⟩
theorem zqb(b:Nat)(f:Frm)(rv:Value)(w:World)(hf:zh w b f rv)(ho:f.off≤4611686018427387903)(hd:f.data.length≤4611686018427387903):Calls prog 184 #[.pointer (some ⟨b,0,none⟩)] w (zok w (decide (f.data.length+f.off≤4611686018427387903))):=by
 obtain⟨c0,c1,c2,c3,c4,c5,c6,c7,c8,c9⟩:=hf.cells;have hz:=zF f.data;have e1:=wu (4611686018427387903-(f.off:Int)) (by omega);have e2:IntKind.u64.wrap (f.data.length:Int)=(f.data.length:Int):=by rw[IntKind.wrap_u64];omega
 have HE:Hid (decide ((f.data.length:Int)≤4611686018427387903-(f.off:Int))=decide (f.data.length+f.off≤4611686018427387903)):=by
  show _=_;rw[decide_eq_decide];omega
 go_enter func184,ntmps184;go_wp2_with fail;go_quiet (fail);go_wp2_with fail;go_ret;exact⟨by rw[←HE.out];rfl,(Mod.refl _ _).drewN _⟩
def zir(f:Frm):List Nat:=[f.off,f.rel,f.lim,f.id,f.dl]
def zaC(f:Frm):Bool:=(zir f).all fun n=>decide (n≤4611686018427387903)
def nAt(f:Frm)(k:Nat):Nat:=(zir f).getD k 0
variable{f:Frm}{k:Nat}
theorem zg7(hk:k<5)(h:4611686018427387903<nAt f k):zaC f=false:=by
 cases hq:zaC f
 ·rfl
 ·unfold zaC at hq;rw[List.all_eq_true]at hq;have hm:nAt f k∈zir f:=by
   unfold nAt;rw[List.getD_eq_getElem?_getD,List.getElem?_eq_getElem (by simpa [zir]using hk)];exact List.getElem_mem _
  have:=hq _ hm;simp at this;omega
theorem ziz(h:∀k,k<5→nAt f k≤4611686018427387903):zaC f=true:=by
 have h0:=h 0 (by omega);have h1:=h 1 (by omega);have h2:=h 2 (by omega);have h3:=h 3 (by omega);have h4:=h 4 (by omega);simp[nAt,zir]at h0 h1 h2 h3 h4;simp[zaC,zir];omega
theorem zcL(h:zaC f=true):f.off≤4611686018427387903∧f.rel≤4611686018427387903∧f.lim≤4611686018427387903∧f.id≤4611686018427387903∧f.dl≤4611686018427387903:=by
 simpa [zaC,zir]using h
def zbB(f:Frm):Bool:=decide (0≤f.stream)&&decide (f.stream<8)
theorem zg8(b cb:Nat)(f:Frm)(D wv ev:Value)(G:FuncId)(E:Bool)(w:World)(hf:zh w b f D)(hc:zbM w cb wv ev (.func (.func G) #[] #[]))(F:zex G)
  (H:∀w',Mod NoB w w'→zaC f=true→Calls prog G #[.pointer (some ⟨b,0,none⟩)] w' (zok w' E)) :
  Calls prog 132 #[.pointer (some ⟨b,0,none⟩),.pointer (some ⟨cb,0,none⟩)] w (zok w (zaC f&&zbB f&&E)):=by
 have u:=zk hf.cells.1;have hE':∀args w,(callFunc G args).run prog w = .ok (.enter G args) w:=F;have HG:=zb H;clear H F;go_enter func132,ntmps132;go_wp2_with fail;refine zm 23 (fun w'=>zh w' b f D) (hf) ?_;refine GI 0 ?_;iterate 20
  refine GS rfl ?_ ?_ ?_;rotate_left
  ·(intro I a;(try dsimp only at a);have hc:=a.cells;clear a;obtain⟨c0,c1,c2,c3,c4,J,L,M,N,O⟩:=hc;go_simp;try with_reducible rfl)
  try simp only[PS]
 refine GI 22 ?_;refine GS rfl ?_ ?_ ?_;rotate_left
 ·(intro I a;(try dsimp only at a);have hc:=a.cells;clear a;obtain⟨c0,c1,c2,c3,c4,J,L,M,N,O⟩:=hc;go_simp;try with_reducible rfl)
 try simp only[PS]
 refine zz 20 rfl (fun K P=>?_);go_simp;refine P.out _ _ ?_ ?_
 ·exact zh.mod (w:=w.drew) (S:=NoB) hf ((Mod.refl _ _).alloc _) (fun x=>x)
 clear P K;try simp only[PS]
 refine GI 21 ?_;refine GS rfl ?_ ?_ ?_;rotate_left
 ·(intro I a;(try dsimp only at a);have hc:=a.cells;clear a;obtain⟨c0,c1,c2,c3,c4,J,L,M,N,O⟩:=hc;go_simp;try with_reducible rfl)
 try simp only[PS]
 refine zo ?_;obtain⟨X,s⟩:=nm ((w.alloc (.cells #[.int .u64 (f.off:Int),.int .u64 (f.rel:Int),.int .u64 (f.lim:Int),.int .u64 (f.id:Int),.int .u64 (f.dl:Int)] 43)).drew);have t:Mod NoB w X:=by rw[←s];exact((Mod.refl _ _).alloc _).drew
 have v:∀k,k<5→X.cell? ⟨w.heap.size,k,none⟩=some (.int .u64 (nAt f k:Int)):=fun k hk=>by
  rw[←s];refine za (heap_alloc_new w _) ?_
  match k,hk with
  | 0,_=>rfl
  | 1,_=>rfl
  | 2,_=>rfl
  | 3,_=>rfl
  | 4,_=>rfl
 rw[s];have Q:=hf.mod t (fun x=>x);have cX:=(hc.mod t (fun x=>x)).2.2;have c1:=Q.cells.2.1;clear s hf hc Q u;have o:=zb t;clear t;go_wp2_with fail
 go_loop [6,29] (fun _ i=>∃k:Nat,k≤5∧i = .int .i64 k∧Hid (∀j,j<k→nAt f j≤4611686018427387903)) (fun _ i=>5-(intOf i).toNat)
 case atStart=>exact⟨0,by omega,rfl,zb (fun j y=>absurd y (Nat.not_lt_zero j))⟩
 case round =>
  obtain⟨k,hk,rfl,z⟩:=hrel;by_cases p:k<5
  ·have c:=v k p;obtain⟨n,d⟩:=nm (nAt f k);rw[d]at c;have R:=zb d;clear v d;by_cases q:4611686018427387903<n
   ·have HF:=zb (zg7 p (by rw[R.out];exact q));have g:(4611686018427387903:Int)<n:=by omega
    go_wp2_with fail;go_ret;exact⟨by rw[HF.out];rfl,o.out⟩
   ·have g:¬(4611686018427387903:Int)<n:=by omega
    go_wp2_with fail
    go_round
    case rel=>exact⟨k+1,by omega,by go_num,zb (fun j y=>by
     by_cases h:j<k
     ·exact z.out j h
     ·have:j=k:=by omega
      rw[this,R.out];omega)⟩
    case measure=>simp[intOf];omega
  ·have A:k=5:=by omega
   have l:=ziz (f:=f) (fun j y=>z.out j (by omega));have B:=zb l;have m:=HG.out X o.out l;clear l v A z;by_cases d1:0≤f.stream
   ·by_cases d2:f.stream<8
    ·have r:Hid (zbB f=true):=by show _=_;simp[zbB,d1,d2]
     have T:decide (0≤f.stream)=true:=by simpa using d1
     have e2:decide (f.stream<8)=true:=by simpa using d2
     go_wp2_with (refine m.mono ?_;rintro e w' ⟨rfl,C⟩);go_ret;exact⟨by rw[B.out,r.out,Bool.true_and,Bool.true_and];rfl,o.out.trans C⟩
    ·have r:Hid (zbB f=false):=by show _=_;simp[zbB,d2]
     have T:decide (0≤f.stream)=true:=by simpa using d1
     have e2:decide (f.stream<8)=false:=by simpa using d2
     go_wp2_with fail;go_ret;exact⟨by rw[B.out,r.out,Bool.true_and,Bool.false_and];rfl,o.out⟩
   ·have r:Hid (zbB f=false):=by show _=_;simp[zbB,d1]
    have T:decide (0≤f.stream)=false:=by simpa using d1
    go_wp2_with fail;go_ret;exact⟨by rw[B.out,r.out,Bool.true_and,Bool.false_and];rfl,o.out⟩
theorem App.after{Y:World}(m:Mod NoB w Y)(h:App Y v l new v' w'):App w v l new v' w' :=
 ⟨h.own,h.old,⟨h.grown.os.trans m.os,h.grown.tape.trans m.tape,h.grown.output.trans m.output,Nat.le_trans m.size h.grown.size,fun i hi hn=>(h.grown.block i (Nat.lt_of_lt_of_le hi m.size) hn).trans (m.block i hi (fun x=>x))⟩,fun i hi=>(h.at_ i hi).imp id (fun q=>Nat.le_trans m.size q)⟩
def zdw(f:Frm)(a:Value)(l new:List UInt8)(c:Bool)(w:World)(e:Ending)(w':World):Prop :=
 ∃b F caps G ev,e = .returned (.pointer (some ⟨b,0,none⟩))∧zbM w' b (.func (.func F) #[] caps) ev (.func (.func G) #[] #[])∧zex F∧zex G∧Mod NoB w w' ∧
  (∀Y bf,Mod NoB w' Y→zh Y bf f a→zaC f=true→Calls prog G #[.pointer (some ⟨bf,0,none⟩)] Y (zok Y c)) ∧
  (∀Y v bf,Mod NoB w' Y→zh Y bf f a→OB Y v l→(∀g,v.ownBlock=some g→g<w.heap.size)→(0<f.rngs.length→za2 (fun k=>v.ownBlock=some k) a)→(zaC f&&zbB f&&c)=true→Calls prog F (#[v,.pointer (some ⟨bf,0,none⟩)]++caps) Y (zoa Y v l new))
def zey(w:World)(v:Value)(l:List UInt8)(ok:Bool)(new:List UInt8)(e:Ending)(w':World):Prop :=
 (ok=true∧zoa w v l new e w')∨(ok=false∧e = .returned (.slice none 0 0)∧Mod NoB w w')
theorem zbd(v:Value)(l:List UInt8)(f:Frm)(d:Value)(new:List UInt8)(A:Bool)(w:World)(h:OB w v l)(j:0<f.rngs.length→za2 (fun k=>v.ownBlock=some k) d)
  (t:∀w1,Mod NoB w w1→Calls prog 131 #[.int .i64 f.kind] w1 (zdw f d l new A w1)) :
  Calls prog 144 #[v,.agg (zj f d)] w (zey w v l (zaC f&&zbB f&&A) new):=by
 have u:Mod NoB w (w.alloc (.cells (zj f d) 65)):=(Mod.refl _ _).alloc _;have i:zh (w.alloc (.cells (zj f d) 65)) w.heap.size f d:=heap_alloc_new w _;have c0:=i.cells.1;have c:=t _ u;have y:=zqD h;have n:=zb j;obtain⟨X,J⟩:=nm (w.alloc (.cells (zj f d) 65));rw[J]at c i c0 u;have C:w.heap.size≤X.heap.size:=u.size;have HH:=zb h;have D:=zb i;have o:=zb u;have E:=zb y;clear h t j i u y;obtain⟨ok,p⟩:=nm ((zaC f&&zbB f&&A));have z:=zb p;rw[p];unfold zj at J ⊢;cases ok;all_goals
  clear p;go_enter func144,ntmps144;go_wp2_with fail;refine c.mono ?_;rintro e w1 ⟨b,F,K,G,ev,rfl,hc,L,M,m1,N,O⟩;have B:zh w1 w.heap.size f d:=D.out.mod m1 (fun x=>x);have a:=zg8 w.heap.size b f d _ ev G A w1 B hc M (fun w' m hn=>N w' _ m (B.mod m (fun x=>x)) hn);rw[z.out]at a;have Hc:=zb hc;have q:=zb m1;have Hw:=zb O;have H:=zb B;have hF':∀args w,(callFunc F args).run prog w = .ok (.enter F args) w:=L;clear hc m1 O N B M L c;go_wp2_with fail;refine a.mono ?_;rintro e w2 ⟨rfl,r⟩;clear a
 ·go_wp2_with fail;go_ret;exact .inr ⟨rfl,rfl,(o.out.trans q.out).trans r⟩
 ·have hc2:=(Hc.out.mod r (fun x=>x)).1;have s:=Hw.out w2 v w.heap.size r (H.out.mod r (fun x=>x)) (((HH.out.mod0 o.out).mod0 q.out).mod0 r) (fun g hg=>Nat.lt_of_lt_of_le (E.out g hg) C) n.out z.out;have I:=zb r;clear r;go_wp2_with fail;refine s.mono ?_;rintro e w3 ⟨v3,rfl,P⟩;have Ha:=zb P;clear P;go_wp2_with fail;go_ret;exact .inl ⟨rfl,_,rfl,App.after ((o.out.trans q.out).trans I.out) Ha.out⟩
def zK(f:Frm):Bool :=
 if f.kind=2 then zaw f.rngs
 else if f.kind=3 then decide (f.rel≤f.off)
 else if f.kind=4 then decide (f.data.length+f.off≤4611686018427387903)
 else decide (1≤f.kind)&&decide (f.kind≤8)
def zS(f:Frm):Bool:=zaC f&&zbB f&&zK f
def zC(f:Frm):List UInt8 :=
 if f.kind=1 then [1]
 else if f.kind=2 then za6 f
 else if f.kind=3 then zcI f
 else if f.kind=4 then(if f.fin then zbW f else zcK f)
 else if f.kind=5 then zlN 16 f
 else if f.kind=6 then zcH f
 else if f.kind=7 then zcJ f
 else zlN 28 f
theorem zbN{sc:Bool}(h:(zaC f&&zbB f&&sc)=true)(hd:f.data.length≤35184372088832):f.Bounds:=by
 simp only[Bool.and_eq_true]at h;obtain⟨⟨h1,h2⟩,_⟩:=h;obtain⟨a,b,c,d,e⟩:=zcL h1;simp only[zbB,Bool.and_eq_true,decide_eq_true_eq]at h2;exact⟨h2.1,h2.2,by omega,by omega,by omega,by omega,by omega,hd⟩
theorem zaO {F : FuncId} {fn : Func} {c : Code} (hf : prog.funcs[F]? = some fn) (a : (fn.name == "runtime.NumGoroutine") = false) (hb : fn.body = some c) : zex F := fun args w => zdv hf a hb args w
theorem zbt:zex 172:=zaO func172 (by kernel_rfl) rfl
theorem zjM:zex 213:=zaO func213 (by kernel_rfl) rfl
theorem zop:zex 170:=zaO func170 (by kernel_rfl) rfl
theorem zoq:zex 189:=zaO func189 (by kernel_rfl) rfl
theorem zor:zex 176:=zaO func176 (by kernel_rfl) rfl
theorem zjN:zex 179:=zaO func179 (by kernel_rfl) rfl
theorem zos:zex 180:=zaO func180 (by kernel_rfl) rfl
theorem zjO:zex 184:=zaO func184 (by kernel_rfl) rfl
theorem zot:zex 187:=zaO func187 (by kernel_rfl) rfl
theorem zjP:zex 175:=zaO func175 (by kernel_rfl) rfl
theorem zou:zex 173:=zaO func173 (by kernel_rfl) rfl
theorem zov(f:Frm)(a:Value)(l:List UInt8)(w:World)(hk:f.kind=1)(hr:RR w a f.rngs)(hn:f.rngs.length≤1099511627776)(hd:f.data.length≤35184372088832)(hl:l.length≤35184372088832):Calls prog 131 #[.int .i64 f.kind] w (zdw f a l ([1]) (true) w):=by
 rw[hk];refine(of_1 w).mono ?_;rintro e w' ⟨b,rfl,hc,hm,hb⟩;refine⟨b,170,#[],172,_,rfl,hc,zop,zbt,hm,fun Y c m hf hq=>zaM _ Y,fun Y v c m hf ho hlt d hok=>?_⟩;exact write1 v l c Y ho hl
theorem zow(f:Frm)(d:Value)(l:List UInt8)(w:World)(hk:f.kind=2)(i:RR w d f.rngs)(j:f.rngs.length≤1099511627776)(hd:f.data.length≤35184372088832)(hl:l.length≤35184372088832):Calls prog 131 #[.int .i64 f.kind] w (zdw f d l (za6 f) (zaw f.rngs) w):=by
 rw[hk];refine(of_2 w).mono ?_;rintro e w' ⟨b,rfl,hc,g,hb⟩;refine⟨b,173,#[],175,_,rfl,hc,zou,zjP,g,fun Y h m hf hq=>zef h f d Y hf (i.mod (g.trans m) (za2.no _)) j,fun Y v h m hf ho hlt c a=>?_⟩;exact write2 v l h f d Y hf (i.mod (g.trans m) (za2.no _)) (by simp only[Bool.and_eq_true]at a;exact a.2) j (c (by simp only[Bool.and_eq_true,zaw,decide_eq_true_eq]at a;exact a.2.2)) ho hl
theorem zox(f:Frm)(a:Value)(l:List UInt8)(w:World)(hk:f.kind=3)(hr:RR w a f.rngs)(hn:f.rngs.length≤1099511627776)(hd:f.data.length≤35184372088832)(hl:l.length≤35184372088832):Calls prog 131 #[.int .i64 f.kind] w (zdw f a l (zcI f) (decide (f.rel≤f.off)) w):=by
 rw[hk];refine(of_3 w).mono ?_;rintro e w' ⟨b,rfl,hc,hm,hb⟩;refine⟨b,176,#[],179,_,rfl,hc,zor,zjN,hm,fun Y c m hf hq=>zqa c f a Y hf,fun Y v c m hf ho hlt g d=>?_⟩;exact write3 v l c f a Y hf ho hl (zbN d hd)
theorem zoy(f:Frm)(a:Value)(l:List UInt8)(w:World)(hk:f.kind=4)(hr:RR w a f.rngs)(hn:f.rngs.length≤1099511627776)(hd:f.data.length≤35184372088832)(hl:l.length≤35184372088832):Calls prog 131 #[.int .i64 f.kind] w (zdw f a l (if f.fin then zbW f else zcK f) (decide (f.data.length+f.off≤4611686018427387903)) w):=by
 rw[hk];refine(of_4 w).mono ?_;rintro e w' ⟨b,rfl,hc,hm,hb⟩;refine⟨b,180,#[],184,_,rfl,hc,zos,zjO,hm,fun Y d m hf hq=>zqb d f a Y hf (zcL hq).1 (by omega),fun Y v d m hf g hlt h c=>?_⟩;cases hfin:f.fin
 ·exact write4 v l d f a Y hf g hl (zbN c hd) hfin
 ·exact zqz v l d f a Y hf g hl (zbN c hd) hfin
theorem zoz(f:Frm)(d:Value)(l:List UInt8)(w:World)(hk:f.kind=5)(hr:RR w d f.rngs)(hn:f.rngs.length≤1099511627776)(hd:f.data.length≤35184372088832)(hl:l.length≤35184372088832):Calls prog 131 #[.int .i64 f.kind] w (zdw f d l (zlN 16 f) (true) w):=by
 rw[hk];refine(of_5 w).mono ?_;rintro e w' ⟨b,tb,ab,rfl,hc,a,hm,hb,htb,hab⟩;refine⟨b,_,_,172,_,rfl,hc,zjM,zbt,hm,fun Y i _ _ _=>zaM _ Y,fun Y v i m hf ho c j g=>?_⟩;exact zg6 v l i tb ab _ f d Y hf (a.mod m (fun x=>x) (fun x=>x)) (fun h=>by have:=c _ h;omega) (fun h=>by have:=c _ h;omega) ho hl (zbN g hd)
theorem zoA(f:Frm)(a:Value)(l:List UInt8)(w:World)(hk:f.kind=6)(hr:RR w a f.rngs)(hn:f.rngs.length≤1099511627776)(hd:f.data.length≤35184372088832)(hl:l.length≤35184372088832):Calls prog 131 #[.int .i64 f.kind] w (zdw f a l (zcH f) (true) w):=by
 rw[hk];refine(of_6 w).mono ?_;rintro e w' ⟨b,rfl,hc,hm,hb⟩;refine⟨b,187,#[],172,_,rfl,hc,zot,zbt,hm,fun Y d m hf hq=>zaM _ Y,fun Y v d m hf ho hlt g c=>?_⟩;exact write6 v l d f a Y hf ho hl (zbN c hd)
theorem zoB(f:Frm)(a:Value)(l:List UInt8)(w:World)(hk:f.kind=7)(hr:RR w a f.rngs)(hn:f.rngs.length≤1099511627776)(hd:f.data.length≤35184372088832)(hl:l.length≤35184372088832):Calls prog 131 #[.int .i64 f.kind] w (zdw f a l (zcJ f) (true) w):=by
 rw[hk];refine(of_7 w).mono ?_;rintro e w' ⟨b,rfl,hc,hm,hb⟩;refine⟨b,189,#[],172,_,rfl,hc,zoq,zbt,hm,fun Y d m hf hq=>zaM _ Y,fun Y v d m hf ho hlt g c=>?_⟩;exact write7 v l d f a Y hf ho hl (zbN c hd)
theorem zoC(f:Frm)(d:Value)(l:List UInt8)(w:World)(hk:f.kind=8)(hr:RR w d f.rngs)(hn:f.rngs.length≤1099511627776)(hd:f.data.length≤35184372088832)(hl:l.length≤35184372088832):Calls prog 131 #[.int .i64 f.kind] w (zdw f d l (zlN 28 f) (true) w):=by
 rw[hk];refine(of_8 w).mono ?_;rintro e w' ⟨b,tb,ab,rfl,hc,a,hm,hb,htb,hab⟩;refine⟨b,_,_,172,_,rfl,hc,zjM,zbt,hm,fun Y i _ _ _=>zaM _ Y,fun Y v i m hf ho c j g=>?_⟩;exact zg6 v l i tb ab _ f d Y hf (a.mod m (fun x=>x) (fun x=>x)) (fun h=>by have:=c _ h;omega) (fun h=>by have:=c _ h;omega) ho hl (zbN g hd)
theorem zlX(v:Value)(l:List UInt8)(f:Frm)(b:Value)(w:World)(hk:f.kind<1∨8<f.kind)(hv:∃a n c,v = .slice a n c):Calls prog 144 #[v,.agg (zj f b)] w fun e w'=>e = .returned (.slice none 0 0)∧Mod NoB w w':=by
 have c0:(w.alloc (.cells (zj f b) 65)).cell? ⟨w.heap.size,0,none⟩=some (.int .i64 f.kind):=za (heap_alloc_new w _) rfl;have g:Mod NoB w (w.alloc (.cells (zj f b) 65)):=(Mod.refl _ _).alloc _;have d:=of_no f.kind hk (w.alloc (.cells (zj f b) 65));obtain⟨X,i⟩:=nm (w.alloc (.cells (zj f b) 65));rw[i]at d g c0;have h:=zb g;clear g hk;obtain⟨a,n,c,rfl⟩:=hv;unfold zj at i ⊢;go_enter func144,ntmps144;go_wp2_with fail;refine d.mono ?_;rintro e w1 ⟨rfl,m1⟩;go_wp2_with fail;go_ret;exact⟨rfl,h.out.trans m1⟩
theorem zd0(v:Value)(l:List UInt8)(f:Frm)(d:Value)(w:World)(h:OB w v l)(b:0<f.rngs.length→za2 (fun k=>v.ownBlock=some k) d)(n:RR w d f.rngs)(o:f.rngs.length≤1099511627776)(hd:f.data.length≤35184372088832)(hl:l.length≤35184372088832):Calls prog 144 #[v,.agg (zj f d)] w (zey w v l (zS f) (zC f)):=by
 by_cases hk:f.kind<1∨8<f.kind
 ·have hs:zS f=false:=by
   have:zK f=false:=by
    unfold zK;rw[if_neg (by omega),if_neg (by omega),if_neg (by omega)];simp;omega
   rw[zS,this,Bool.and_false]
  refine(zlX v l f d w hk (by obtain⟨a,c,rfl,_⟩:=zi h;exact⟨a,_,c,rfl⟩)).mono ?_;rintro e w' ⟨rfl,hm⟩;exact .inr ⟨hs,rfl,hm⟩
 ·have p:f.kind=1∨f.kind=2∨f.kind=3∨f.kind=4∨f.kind=5∨f.kind=6∨f.kind=7∨f.kind=8:=by omega
  rcases p with e|e|e|e|e|e|e|e
  ·have g:zC f=[1]:=by simp[zC,e]
   have i:zK f=(true):=by simp[zK,e]
   rw[zS,g,i];exact zbd v l f d _ _ w h b (fun j m=>zov f d l j e (n.mod m (za2.no _)) o hd hl)
  ·have g:zC f=za6 f:=by simp[zC,e]
   have i:zK f=(zaw f.rngs):=by simp[zK,e]
   rw[zS,g,i];exact zbd v l f d _ _ w h b (fun j m=>zow f d l j e (n.mod m (za2.no _)) o hd hl)
  ·have g:zC f=zcI f:=by simp[zC,e]
   have i:zK f=(decide (f.rel≤f.off)):=by simp[zK,e]
   rw[zS,g,i];exact zbd v l f d _ _ w h b (fun j m=>zox f d l j e (n.mod m (za2.no _)) o hd hl)
  ·have g:zC f=if f.fin then zbW f else zcK f:=by simp[zC,e]
   have i:zK f=(decide (f.data.length+f.off≤4611686018427387903)):=by simp[zK,e]
   rw[zS,g,i];exact zbd v l f d _ _ w h b (fun j m=>zoy f d l j e (n.mod m (za2.no _)) o hd hl)
  ·have g:zC f=zlN 16 f:=by simp[zC,e]
   have i:zK f=(true):=by simp[zK,e]
   rw[zS,g,i];exact zbd v l f d _ _ w h b (fun j m=>zoz f d l j e (n.mod m (za2.no _)) o hd hl)
  ·have g:zC f=zcH f:=by simp[zC,e]
   have i:zK f=(true):=by simp[zK,e]
   rw[zS,g,i];exact zbd v l f d _ _ w h b (fun j m=>zoA f d l j e (n.mod m (za2.no _)) o hd hl)
  ·have g:zC f=zcJ f:=by simp[zC,e]
   have i:zK f=(true):=by simp[zK,e]
   rw[zS,g,i];exact zbd v l f d _ _ w h b (fun j m=>zoB f d l j e (n.mod m (za2.no _)) o hd hl)
  ·have g:zC f=zlN 28 f:=by simp[zC,e]
   have i:zK f=(true):=by simp[zK,e]
   rw[zS,g,i];exact zbd v l f d _ _ w h b (fun j m=>zoC f d l j e (n.mod m (za2.no _)) o hd hl)
def zet(w:World)(v:Value)(fs:List (Frm×Value)):Prop :=
 ∃a cap,v = .slice a fs.length cap∧fs.length≤cap∧cap≤maxLen∧∀i fr,fs[i]?=some fr →
  (∃g o,a=some ⟨g,o,none⟩∧∀j x,(zj fr.1 fr.2)[j]?=some x→w.cell? ⟨g,o+i*10+j,none⟩=some x)∧RR w fr.2 fr.1.rngs
theorem zet.mod{fs:List (Frm×Value)}(h:zet w v fs)(m:Mod S w w')(hs:za2 S v)(hr:∀fr∈fs,za2 S fr.2):zet w' v fs:=by
 obtain⟨a,cap,rfl,h1,h2,h3⟩:=h;refine⟨a,cap,rfl,h1,h2,fun i fr hi=>?_⟩;obtain⟨⟨g,o,rfl,hc⟩,b⟩:=h3 i fr hi;exact⟨⟨g,o,rfl,fun j x hx=>m.cell (a:=⟨g,_,none⟩) (hs g o _ _ rfl) (hc j x hx)⟩,b.mod m (hr fr (List.mem_of_getElem? hi))⟩
theorem zet.mod0{fs:List (Frm×Value)}(h:zet w v fs)(m:Mod NoB w w'):zet w' v fs:=h.mod m (za2.no _) (fun _ _=>za2.no _)
theorem App.mod0(h:App w (.slice none 0 0) l new v' w'):Mod NoB w w':=h.mod.mono (fun i hi=>by cases hi)
def sealed(l:List UInt8):List UInt8:=l++zdt (crc l)
theorem zbX(h:∀j x,(zj f rv)[j]?=some x→w.cell? ⟨g,b+j,none⟩=some x):w.cell? ⟨g,b,none⟩=some (.int .i64 f.kind)∧w.cell? ⟨g,b+1,none⟩=some (.int .i64 f.stream)∧w.cell? ⟨g,b+2,none⟩=some (.int .u64 (f.off:Int))∧w.cell? ⟨g,b+3,none⟩=some (.int .u64 (f.rel:Int))∧w.cell? ⟨g,b+4,none⟩=some (.int .u64 (f.lim:Int)) ∧
  w.cell? ⟨g,b+5,none⟩=some (.bool f.fin)∧w.cell? ⟨g,b+6,none⟩=some (.int .u64 (f.id:Int))∧w.cell? ⟨g,b+7,none⟩=some (.int .u64 (f.dl:Int))∧w.cell? ⟨g,b+8,none⟩=some (.string (zq f.data))∧w.cell? ⟨g,b+9,none⟩=some rv :=
 ⟨h 0 _ rfl,h 1 _ rfl,h 2 _ rfl,h 3 _ rfl,h 4 _ rfl,h 5 _ rfl,h 6 _ rfl,h 7 _ rfl,h 8 _ rfl,h 9 _ rfl⟩
def zaf:Ending:=.panicked [{ v:=.iface 230 (.agg #[]),recovered:=false }]
def zcF(w:World)(rb:Nat)(v:Value)(pos:Nat):Prop:=w.heap[rb]?=some (.cells #[v,.int .i64 (pos:Int)] 229 (0,0))
variable{pos rb:Nat}
theorem zcF.mod(h:zcF w rb v pos)(m:Mod S w w')(hs:¬S rb):zcF w' rb v pos:=m.obj hs h
theorem zcF.c0(h:zcF w rb v pos):w.cell? ⟨rb,0,none⟩=some v:=za h rfl
theorem zcF.c1(h:zcF w rb v pos):w.cell? ⟨rb,1,none⟩=some (.int .i64 (pos:Int)):=za h rfl
theorem BR.mod(h:BR w v l)(m:Mod S w w')(hs:za2 S v):BR w' v l:=by
 obtain⟨a,cap,rfl,h1,h2,h3⟩:=h;refine⟨a,cap,rfl,h1,h2,fun i c hi=>?_⟩;obtain⟨g,o,rfl,hc⟩:=h3 i c hi;exact⟨g,o,rfl,m.cell (a:=⟨g,_,none⟩) (hs g o _ _ rfl) hc⟩
def zdu(rb:Nat):Nat→Prop:=fun k=>k=rb
theorem zbY(p:Value)(w:World):Calls prog 128 #[p] w fun e w'=>e=zaf∧w=w':=by
 go_enter func128,ntmps128;go_wp2_with fail;exact⟨rfl,rfl,rfl⟩
variable{cs:Array Value}{fz:Nat×Nat}{t:Nat}
theorem zc(h:w.heap[b]?=some (.cells cs t fz)):(w.setCell ⟨b,i,none⟩ v).heap[b]?=some (.cells (cs.setIfInBounds i v) t fz):=by
 simp[World.setCell,Array.getElem?_modify,h]
variable{a:Option Addr}{bs:List UInt8}{cap:Nat}
theorem BR.sub(h:BR w (.slice a bs.length cap) bs)(hp:pos+n≤bs.length):BR w (.slice (a.map fun x=>x.add pos) n (cap-pos)) ((bs.drop pos).take n):=by
 obtain⟨a',d,hv,h1,h2,h3⟩:=h;cases hv;have hl:((bs.drop pos).take n).length=n:=by simp;omega
 refine⟨a.map fun x=>x.add pos,cap-pos,by rw[hl],by omega,by unfold maxLen at h2 ⊢;omega,fun i c hi=>?_⟩;have b:i<n:=by
  have:=(List.getElem?_eq_some_iff.1 hi).1;omega
 rw[List.getElem?_take,if_pos b,List.getElem?_drop]at hi;obtain⟨g,o,rfl,hc⟩:=h3 (pos+i) c hi;refine⟨g,o+pos,?_,?_⟩
 ·simp only[Option.map_some,zU]
 ·rw[Nat.add_assoc];exact hc
theorem BR.nil(w:World)(a:Option Addr)(c:Nat)(h:c≤maxLen):BR w (.slice a 0 c) []:=⟨a,c,rfl,Nat.zero_le _,h,fun i c hi=>by simp at hi⟩
def zqc(rb:Nat)(w:World)(e:Ending)(w':World):Prop:=e=zaf∧Mod (zdu rb) w w'
theorem ziA(rb n pos:Nat)(z:Int)(hz:z=(n:Int))(v:Value)(bs:List UInt8)(w:World)(h:zcF w rb v pos)(hb:BR w v bs)(hp:pos≤bs.length)(hn:bs.length-pos<n):Calls prog 129 #[.pointer (some ⟨rb,0,none⟩),.int .u64 z] w (zqc rb w):=by
 subst hz;obtain⟨a,cap,rfl,h1,h2,h3⟩:=hb;unfold maxLen at h2;have c0:=h.c0;have c1:=h.c1;have e1:IntKind.i64.wrap ((bs.length:Int)-pos)=(bs.length:Int)-pos:=IntWalk.i64_in _ (by omega);have e2:=wu ((bs.length:Int)-pos) (by omega);have d:(bs.length:Int)-pos<n:=by omega
 clear h3 h;go_enter func129,ntmps129;go_wp2_with fail;go_quiet (fail);go_wp2_with (go_at_call 128;refine(zbY _ _).mono ?_;rintro e w' ⟨b,rfl⟩;unfold zaf at b;subst b);exact⟨rfl,rfl,(Mod.refl _ _).drewN _⟩
theorem zgr(rb n pos:Nat)(z:Int)(hz:z=(n:Int))(v:Value)(bs:List UInt8)(w:World)(h:zcF w rb v pos)(hb:BR w v bs)(hv:za2 (zdu rb) v)(hp:pos+n≤bs.length):Calls prog 129 #[.pointer (some ⟨rb,0,none⟩),.int .u64 z] w fun e w'=>∃sv,e = .returned sv∧BR w' sv ((bs.drop pos).take n)∧zcF w' rb v (pos+n)∧Mod (zdu rb) w w':=by
 subst hz;obtain⟨a,cap,rfl,h1,h2,h3⟩:=id hb;unfold maxLen at h2;have c0:=h.c0;have c1:=h.c1;have e1:IntKind.i64.wrap ((bs.length:Int)-pos)=(bs.length:Int)-pos:=IntWalk.i64_in _ (by omega);have e2:=wu ((bs.length:Int)-pos) (by omega);have e3:IntKind.i64.wrap (n:Int)=(n:Int):=IntWalk.i64_in _ (by omega);have e4:IntKind.i64.wrap ((pos:Int)+n)=(pos:Int)+n:=IntWalk.i64_in _ (by omega);have d:¬((bs.length:Int)-pos<n):=by omega
 have c:w.frozen? ⟨rb,1,none⟩=false:=zf h;clear h3;have H:=zb h;have Hb:=zb hb;clear h hb;go_enter func129,ntmps129;go_wp2_with fail;go_quiet (fail);go_wp2_with fail;obtain⟨W,b⟩:=nm ((w.drewN nq).setCell ⟨rb,1,none⟩ (.int .i64 ((pos:Int)+n)));have f:Mod (zdu rb) w W:=by rw[←b];exact((Mod.refl (zdu rb) w).drewN nq).setCell (p:=⟨rb,1,none⟩) (.inl rfl) _
 have k1:W.cell? ⟨rb,1,none⟩=some (.int .i64 ((pos:Int)+n)):=by rw[←b];exact World.cell?_setCell_same _ _ _ c1
 have k0:W.cell? ⟨rb,0,none⟩=some (.slice a bs.length cap):=by rw[←b,World.cell?_setCell_other _ _ _ _ (by simp)];exact c0
 have i:Hid (zcF W rb (.slice a bs.length cap) (pos+n)):=by
  show W.heap[rb]?=_;rw[←b,zc (w:=w.drewN nq) H.out];simp
 have HB:=zb (Hb.out.mod f hv);have j:=zb f;rw[b];clear b f c0 c1 c;have k:IntKind.i64.wrap ((pos:Int)+n-n)=(pos:Int):=by rw[show(pos:Int)+n-n=pos by omega];exact IntWalk.i64_in _ (by omega)
 have e6:((pos:Int)+n).toNat=pos+n:=by omega
 by_cases hc:pos=cap
 ·have g:n=0:=by omega
  subst g;have hl:bs.length=pos:=by omega
  have HL:=zb hl;subst hc;clear hl k e6;have k:IntKind.i64.wrap ((pos:Int)+((0:Nat):Int)-((0:Nat):Int))=(pos:Int):=by rw[show(pos:Int)+((0:Nat):Int)-((0:Nat):Int)=pos by omega];exact IntWalk.i64_in _ (by omega)
  go_quiet (fail);go_wp2_with fail;go_ret;refine⟨_,rfl,?_,i.out.mod (S:=NoB) ((Mod.refl _ _).drewN _) (fun x=>x),j.out.drewN _⟩;rw[List.take_zero];exact BR.nil _ _ _ (by unfold maxLen;omega)
 ·have hc':¬cap=pos:=fun h=>hc h.symm
  go_quiet (fail);go_wp2_with fail;go_ret;refine⟨_,rfl,?_,i.out.mod (S:=NoB) ((Mod.refl _ _).drewN _) (fun x=>x),j.out.drewN _⟩;exact(HB.out.sub hp).mod (S:=NoB) ((Mod.refl _ _).drewN _) (za2.no _)
def vsz(c:UInt8):Nat:=2 ^ (c.toNat / 64)
def zc3(c:UInt8)(l:List UInt8):Nat:=l.foldl (fun n x=>n*256+x.toNat) (c.toNat % 64)
def zas(bs:List UInt8)(pos:Nat):Option (Nat×Nat) :=
 match bs[pos]? with
 | none=>none
 | some c=>if pos+vsz c≤bs.length then some (zc3 c ((bs.drop (pos+1)).take (vsz c-1)),pos+vsz c)else none
theorem zkI(c:UInt8)(l:List UInt8)(x:UInt8):zc3 c (l++[x])=zc3 c l*256+x.toNat:=by simp[zc3]
theorem zg9(l:List UInt8):∀n b,n<b→l.foldl (fun n x=>n*256+x.toNat) n<b*256 ^ l.length:=by
 induction l with
 | nil=>intro n b h;simpa using h
 | cons x l ih =>
  intro n b h;have hx:=x.toNat_lt;have:=ih (n*256+x.toNat) (b*256) (by omega);simp only[List.foldl_cons,List.length_cons,Nat.pow_succ];rw[Nat.mul_assoc,Nat.mul_comm 256]at this;exact this
theorem zjQ(c:UInt8)(l:List UInt8):zc3 c l<64*256 ^ l.length:=zg9 l _ 64 (Nat.mod_lt _ (by decide))
theorem zoD:∀a:Fin 256,bits .and .u8 ((a.val:Nat):Int) 63=((a.val % 64:Nat):Int):=by decide +kernel
theorem zkJ(a b:Nat)(ha:a<18446744073709551616)(hb:b<18446744073709551616):bits .or .u64 (a:Int) (b:Int)=((a ||| b:Nat):Int):=by
 have hx:a ||| b<2 ^ 64:=Nat.or_lt_two_pow (by omega) (by omega);have h1:(BitVec.ofInt 64 (a:Int)).toNat=a:=by
  rw[BitVec.ofInt_natCast,BitVec.toNat_ofNat];exact Nat.mod_eq_of_lt (by omega)
 have h2:(BitVec.ofInt 64 (b:Int)).toNat=b:=by
  rw[BitVec.ofInt_natCast,BitVec.toNat_ofNat];exact Nat.mod_eq_of_lt (by omega)
 show IntKind.u64.wrap ((BitVec.ofInt 64 (a:Int) ||| BitVec.ofInt 64 (b:Int)).toNat:Int)=_;rw[BitVec.toNat_or,h1,h2,IntKind.wrap_u64];omega
theorem or_256(a c:Nat)(hc:c<256):a*256 ||| c=a*256+c:=by
 have:=Nat.two_pow_add_eq_or_of_lt (b:=c) (i:=8) hc a;rw[Nat.mul_comm]at this;exact this.symm
theorem u64_or(a c:Nat)(ha:a<72057594037927936)(hc:c<256):bits .or .u64 ((a:Int)*256) (c:Int)=((a*256+c:Nat):Int):=by
 have:=zkJ (a*256) c (by omega) (by omega);rw[or_256 a c hc]at this;rw[←this]
 congr 1
def Rds(w:World)(rb:Nat)(v:Value)(r:Option (Value×Nat))(e:Ending)(w':World):Prop :=
 (∃x p,r=some (x,p)∧e = .returned x∧zcF w' rb v p∧Mod (zdu rb) w w')∨(r=none∧zqc rb w e w')
theorem zV(rb pos:Nat)(v:Value)(bs:List UInt8)(w:World)(h:zcF w rb v pos)(hb:BR w v bs)(r:za2 (zdu rb) v)(hp:pos≤bs.length):Calls prog 127 #[.pointer (some ⟨rb,0,none⟩)] w (Rds w rb v ((zas bs pos).map fun q=>(.int .u64 (q.1:Int),q.2))):=by
 by_cases s:pos<bs.length
 ·obtain⟨c,hc⟩:∃c,bs[pos]?=some c:=⟨bs[pos],List.getElem?_eq_getElem s⟩;have t:(bs.drop pos).take 1=[c]:=by
   rw[List.take_one,List.head?_drop,hc];rfl
  have t1:=zgr rb 1 pos 1 rfl v bs w h hb r (by omega);rw[t]at t1;have hcl:=c.toNat_lt;have u:=zoD ⟨c.toNat,by omega⟩;simp only at u;have L:c.toNat / 64=0∨c.toNat / 64=1∨c.toNat / 64=2∨c.toNat / 64=3:=by omega
  have M:=zb L;have N:=zb hb;have O:=zb hc;clear h hb L hc t;go_enter func127,ntmps127;go_wp2_with fail;refine t1.mono ?_;rintro e G ⟨sv,rfl,hs,h1,m1⟩;obtain⟨a,cap,rfl,_,_,h3⟩:=hs;obtain⟨g,o,rfl,d⟩:=h3 0 c rfl;clear h3 t1;simp only[Nat.add_zero]at d;have y:=zb h1;have f:=zb m1;clear h1 m1;simp only[List.length_cons,List.length_nil];have z:IntKind.u64.wrap (IntKind.u64.wrap (2 ^ (c.toNat / 64))-1)=((vsz c-1:Nat):Int):=by
   unfold vsz;rcases M.out with e|e|e|e<;>rw[e]<;>rfl
  have hz1:1≤vsz c:=Nat.one_le_two_pow;have hz8:vsz c≤8:=by
   unfold vsz;rcases M.out with e|e|e|e<;>rw[e]<;>decide
  by_cases j:pos+vsz c≤bs.length
  ·have A:=zgr rb (vsz c-1) (pos+1) _ z v bs G y.out (N.out.mod f.out r) r (by omega);have B:((bs.drop (pos+1)).take (vsz c-1)).length=vsz c-1:=by simp;omega
   have F:Hid (zas bs pos=some (zc3 c ((bs.drop (pos+1)).take (vsz c-1)),pos+vsz c)):=by
    show _=_;unfold zas;rw[O.out];simp only[if_pos j]
   obtain⟨b,l⟩:=nm ((bs.drop (pos+1)).take (vsz c-1));rw[l]at A B F;clear l;have Zv:=zb z;clear z;go_wp2_with fail;refine A.mono ?_;rintro e P ⟨sv,rfl,H,h2,Q⟩;have H2:Hid (zcF P rb v (pos+vsz c)):=by
    have e:pos+1+(vsz c-1)=pos+vsz c:=by omega
    rw[e]at h2;exact h2
   have HM:=zb (f.out.trans Q);obtain⟨a2,R,rfl,hq1,I,h4⟩:=H;have S:b.length≤7:=by omega
   unfold maxLen at I;clear h2 Q A B u d Zv;go_wp2_with fail
   go_loop [4,6,21] (fun n _ i=>∃k:Nat,k≤b.length∧i = .int .i64 k∧n = .int .u64 (zc3 c (b.take k):Int)) (fun _ _ i=>b.length-(intOf i).toNat)
   case atStart=>exact⟨0,Nat.zero_le _,rfl,by simp[zc3]⟩
   case round =>
    obtain⟨k,hk,rfl,rfl⟩:=hrel;by_cases J:k<b.length
    ·obtain⟨x,K⟩:∃x,b[k]?=some x:=⟨b[k],List.getElem?_eq_getElem J⟩;obtain⟨g2,o2,rfl,hc2⟩:=h4 k x K;have T:Hid (zc3 c (b.take (k+1))=zc3 c (b.take k)*256+x.toNat):=by
      show _=_;rw[zed b k x K,zkI]
     have C:zc3 c (b.take k)<72057594037927936:=by
      have h1:=zjQ c (b.take k);have h2:(b.take k).length≤6:=by rw[List.length_take];omega
      have h3:256 ^ (b.take k).length≤256 ^ 6:=Nat.pow_le_pow_right (by omega) h2;have h5:64*256 ^ (b.take k).length≤64*256 ^ 6:=Nat.mul_le_mul_left _ h3;have h6:64*256 ^ 6≤72057594037927936:=by decide
      exact Nat.lt_of_lt_of_le h1 (Nat.le_trans h5 h6)
     obtain⟨m,p⟩:=nm (zc3 c (b.take k));have hxl:=x.toNat_lt;rw[p]at C T ⊢;have hor:=u64_or m x.toNat C (by omega);have hw1:=wu ((m:Int)*256) (by omega);clear p h4 K;go_wp2_with fail
     go_round
     case rel=>exact⟨k+1,by omega,by go_num,by rw[T.out];go_num⟩
     case measure=>simp[intOf];omega
    ·have D:b.take k=b:=List.take_of_length_le (by omega);rw[D];clear D h4;go_wp2_with fail;go_ret;exact .inl ⟨_,_,by rw[F.out];rfl,rfl,H2.out,HM.out⟩
  ·have A:=ziA rb (vsz c-1) (pos+1) _ z v bs G y.out (N.out.mod f.out r) (by omega) (by omega);have F:Hid (zas bs pos=none):=by
    show _=_;unfold zas;rw[O.out];simp only[if_neg j]
   clear z;go_wp2_with (go_at_call 129;refine A.mono ?_;rintro e P ⟨E,p⟩;unfold zaf at E;subst E);exact⟨rfl,.inr ⟨by rw[F.out];rfl,rfl,f.out.trans p⟩⟩
 ·have hr:Hid (zas bs pos=none):=by
   show _=_;unfold zas;rw[List.getElem?_eq_none (by omega)]
  have t1:=ziA rb 1 pos 1 rfl v bs w h hb hp (by omega);clear h hb r s;go_enter func127,ntmps127;go_wp2_with (go_at_call 129;refine t1.mono ?_;rintro e G ⟨E,p⟩;unfold zaf at E;subst E);exact⟨rfl,.inr ⟨by rw[hr.out];rfl,rfl,p⟩⟩
end Go.Proofs.YtddfdpbaiedcjaaGreatDoor
