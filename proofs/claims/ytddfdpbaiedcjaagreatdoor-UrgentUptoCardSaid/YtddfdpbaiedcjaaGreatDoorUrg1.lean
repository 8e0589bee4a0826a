/- A part of Urgent's proof. Conditions: none. Part 1 of 32. -/
import Derived.Laws.CopyOwn
import Derived.Lib.AppendStr
import Derived.Test.YtddfdpbaiedcjaaGreatDoorRows
import Derived.BigQuiet
import Derived.WalkSpells
set_option maxRecDepth 100000
set_option maxHeartbeats 16000000
set_option linter.all false
namespace Go.Proofs.YtddfdpbaiedcjaaGreatDoor
open Go.RowKit
theorem nm {α : Sort _} (e : α) : ∃ x, e = x := ⟨e, rfl⟩
theorem nn {α : Sort _} (e : α) : ∃ x, x = e := ⟨e, rfl⟩
theorem zb{p:Prop}(h:p):Hid p:=h
abbrev zD:=List (Nat×Nat)
def loAt(rs:zD)(i:Nat):Nat:=(rs.getD i (0,0)).1
def hiAt(rs:zD)(i:Nat):Nat:=(rs.getD i (0,0)).2
def zn:zD→List Value
 | []=>[]
 | r::rs=>.int .u64 (r.1:Int) :: .int .u64 (r.2:Int)::zn rs
theorem zM(rs:zD):(zn rs).length=rs.length*2:=by
 induction rs with
 | nil=>rfl
 | cons r rs ih=>simp only[zn,List.length_cons,ih];omega
theorem zaw(a b:zD):zn (a++b)=zn a++zn b:=by
 induction a with
 | nil=>rfl
 | cons r rs ih=>simp[zn,ih]
theorem zlf(rs:zD):∀i,i<rs.length→(zn rs)[i*2]?=some (.int .u64 (loAt rs i:Int)):=by
 induction rs with
 | nil=>intro i h;simp at h
 | cons r rs ih =>
  intro i h;cases i with
  | zero=>rfl
  | succ i =>
   have e:(i+1)*2=i*2+1+1:=by omega
   rw[e];simp only[zn,List.getElem?_cons_succ,loAt,List.getD_cons_succ];exact ih i (by simpa using h)
theorem zlg(rs:zD):∀i,i<rs.length→(zn rs)[i*2+1]?=some (.int .u64 (hiAt rs i:Int)):=by
 induction rs with
 | nil=>intro i h;simp at h
 | cons r rs ih =>
  intro i h;cases i with
  | zero=>rfl
  | succ i =>
   have e:(i+1)*2+1=i*2+1+1+1:=by omega
   rw[e];simp only[zn,List.getElem?_cons_succ,hiAt,List.getD_cons_succ];exact ih i (by simpa using h)
theorem zcc(rs:zD):∀k,(zn rs).take (k*2)=zn (rs.take k):=by
 induction rs with
 | nil=>intro k;simp[zn]
 | cons r rs ih =>
  intro k;cases k with
  | zero=>simp[zn]
  | succ k =>
   have e:(k+1)*2=k*2+1+1:=by omega
   rw[e];simp[zn,ih]
theorem zez(rs:zD):∀k,(zn rs).drop (k*2)=zn (rs.drop k):=by
 induction rs with
 | nil=>intro k;simp[zn]
 | cons r rs ih =>
  intro k;cases k with
  | zero=>simp[zn]
  | succ k =>
   have e:(k+1)*2=k*2+1+1:=by omega
   rw[e];simp[zn,ih]
theorem zaI{w:World}{base e:Nat}{g n cap:Nat}{rs:zD}(h:w.ownsRow base e 2 (.slice (some ⟨g,0,none⟩) n cap) rs.length (zn rs)) :
  ∀i,i<rs.length→w.cell? ⟨g,i*2,none⟩=some (.int .u64 (loAt rs i:Int))∧w.cell? ⟨g,i*2+1,none⟩=some (.int .u64 (hiAt rs i:Int)):=by
 intro i hi;have hc:=h.cells (g:=g) rfl;have a:∀j,(⟨g,0,none⟩:Addr).add j=⟨g,j,none⟩:=fun j=>by unfold Addr.add;split<;>simp_all
 exact⟨by rw[←a];exact hc _ _ (zlf rs i hi),by rw[←a];exact hc _ _ (zlg rs i hi)⟩
theorem zj{w:World}{base e sz:Nat}{v:Value}{n:Nat}{xs:List Value}(h:w.ownsRow base e sz v n xs) :
  ∃a cap,v = .slice a n cap∧n≤cap∧cap≤maxLen∧(0<n→∃g,a=some ⟨g,0,none⟩):=by
 rcases h.2 with⟨rfl,rfl⟩|⟨g,cap,cur,rfl,_,_,h1,h2,_⟩
 ·exact⟨none,0,rfl,Nat.le_refl _,Nat.zero_le _,fun h=>absurd h (Nat.lt_irrefl _)⟩
 ·exact⟨_,cap,rfl,h1,h2,fun _=>⟨g,rfl⟩⟩
structure Mod(S:Nat→Prop)(w w':World):Prop where
 os:w'.os=w.os
 tape:w'.tape=w.tape
 output:w'.output=w.output
 size:w.heap.size≤w'.heap.size
 block:∀k,k<w.heap.size→¬S k→w'.heap[k]?=w.heap[k]?
def NoB:Nat→Prop:=fun _=>False
section
variable {S:Nat→Prop} {w w' w'':World}
theorem Mod.refl(S:Nat→Prop)(w:World):Mod S w w:=⟨rfl,rfl,rfl,Nat.le_refl _,fun _ _ _=>rfl⟩
theorem Mod.trans(h:Mod S w w')(k:Mod S w' w''):Mod S w w'' :=
 ⟨k.os.trans h.os,k.tape.trans h.tape,k.output.trans h.output,Nat.le_trans h.size k.size,fun i hi hs=>(k.block i (Nat.lt_of_lt_of_le hi h.size) hs).trans (h.block i hi hs)⟩
theorem Mod.then{S':Nat→Prop}(h:Mod S w w')(k:Mod S' w' w'')(hs:∀i,S' i→S i∨w.heap.size≤i):Mod S w w'' :=
 ⟨k.os.trans h.os,k.tape.trans h.tape,k.output.trans h.output,Nat.le_trans h.size k.size,
  fun i hi a=>(k.block i (Nat.lt_of_lt_of_le hi h.size) (fun x=>(hs i x).elim a (fun y=>by omega))).trans (h.block i hi a)⟩
theorem Mod.mono{S':Nat→Prop}(h:Mod S w w')(hs:∀i,S i→S' i∨w.heap.size≤i):Mod S' w w' :=
 ⟨h.os,h.tape,h.output,h.size,fun i hi hn=>h.block i hi (fun x=>(hs i x).elim hn (fun y=>by omega))⟩
theorem Mod.drewN(h:Mod S w w')(n:Nat):Mod S w (w'.drewN n):=⟨h.os,h.tape,h.output,h.size,h.block⟩
theorem Mod.drew(h:Mod S w w'):Mod S w w'.drew:=⟨h.os,h.tape,h.output,h.size,h.block⟩
theorem Mod.alloc(h:Mod S w w')(o:Obj):Mod S w (w'.alloc o) :=
 ⟨h.os,h.tape,h.output,Nat.le_trans h.size (by simp),fun i hi hn=>(Below.heap_alloc w' o i (Nat.lt_of_lt_of_le hi h.size)).trans (h.block i hi hn)⟩
theorem Mod.setCell(h:Mod S w w'){p:Addr}(a:S p.block∨w.heap.size≤p.block)(u:Value):Mod S w (w'.setCell p u) :=
 ⟨h.os,h.tape,h.output,by simpa [World.setCell]using h.size,fun i hi b=>(Below.heap_setCell w' p u i (by
  rintro rfl;rcases a with a|a
  ·exact b a
  ·omega)).trans (h.block i hi b)⟩
theorem Mod.grown{row:Option Nat}(h:Mod S w w')(hg:w'.grownBy w'' row)(hr:∀k,row=some k→S k∨w.heap.size≤k):Mod S w w'' :=
 ⟨hg.os.trans h.os,hg.tape.trans h.tape,hg.output.trans h.output,Nat.le_trans h.size hg.size,
  fun i hi a=>(hg.block i (Nat.lt_of_lt_of_le hi h.size) (fun e=>by
   rcases hr i e.symm with x|x
   ·exact a x
   ·omega)).trans (h.block i hi a)⟩
theorem Mod.of_below(h:Below w.heap.size w w'):Mod S w w':=⟨h.os,h.tape,h.output,h.size,fun i hi _=>h.block i hi⟩
theorem Mod.below(h:Mod NoB w w'):Below w.heap.size w w':=⟨h.os,h.tape,h.output,h.size,fun i hi=>h.block i hi (fun x=>x)⟩
theorem Mod.cell(h:Mod S w w'){a:Addr}{v:Value}(hs:¬S a.block)(hc:w.cell? a=some v):w'.cell? a=some v :=
 (World.cell?_of_block (h.block a.block (World.block_lt_of_cell? w a hc) hs)).trans hc
theorem Mod.obj(h:Mod S w w'){k:Nat}{o:Obj}(hs:¬S k)(hc:w.heap[k]?=some o):w'.heap[k]?=some o :=
 (h.block k (Array.getElem?_eq_some_iff.1 hc).1 hs).trans hc
theorem Mod.owns(h:Mod S w w'){base e sz n:Nat}{v:Value}{xs:List Value}(b:w.ownsRow base e sz v n xs)(hs:∀g,v.ownBlock=some g→¬S g):w'.ownsRow base e sz v n xs:=by
 refine⟨b.1,?_⟩;rcases b.2 with hn|⟨g,cap,a,rfl,hb,hg,rest⟩
 ·exact .inl hn
 ·exact .inr ⟨g,cap,a,rfl,hb,h.obj (hs g rfl) hg,rest⟩
end
theorem zk{w:World}{b o:Nat}{v:Value}(h:w.cell? ⟨b,o,none⟩=some v):b<w.heap.size:=World.block_lt_of_cell? w _ h
theorem za{w:World}{k o t:Nat}{cs:Array Value}{fz:Nat×Nat}{v:Value}(h:w.heap[k]?=some (.cells cs t fz))(hv:cs[o]?=some v):w.cell? ⟨k,o,none⟩=some v:=by
 unfold World.cell?;simp only[h];simpa using hv
theorem zd{w:World}{k o t:Nat}{cs:Array Value}(h:w.heap[k]?=some (.cells cs t (0,0))):w.frozen? ⟨k,o,none⟩=false:=by
 unfold World.frozen?;simp only[h];simp
theorem zcd{w:World}{R j:Nat}{x v:Value}{a:Addr}(h:w.cell? a=some v)(ne:¬a.block=R):(w.setCell ⟨R,j,none⟩ x).cell? a=some v :=
 ((Mod.refl (fun k=>k=R) w).setCell (p:=⟨R,j,none⟩) (.inl rfl) x).cell ne h
theorem zj5{w:World}{R j:Nat}{x v:Value}{a:Addr}(h:w.cell? a=some v)(ne:¬a.block=R):(w.setCell ⟨R,j,none⟩ x).drew.cell? a=some v:=zcd h ne
theorem zj6{w:World}{R j k:Nat}{x y v:Value}{a:Addr}(h:w.cell? a=some v)(ne:¬a.block=R):((w.setCell ⟨R,j,none⟩ x).setCell ⟨R,k,none⟩ y).drew.cell? a=some v:=zcd (zcd h ne) ne
theorem zbf{w w':World}{b:Nat}(h:w'.heap[b]?=w.heap[b]?)(o:Nat)(v:Value):(w'.setCell ⟨b,o,none⟩ v).heap[b]?=(w.setCell ⟨b,o,none⟩ v).heap[b]?:=by
 simp only[World.setCell,Array.getElem?_modify,h]
theorem zdn {P : Program} {f : FuncId} {fn : Func} {c : Code} (hf : P.funcs[f]? = some fn) (a : (fn.name == "runtime.NumGoroutine") = false) (hb : fn.body = some c) (args : Array Value) (w : World) :
  (callFunc f args).run P w = .ok (.enter f args) w:=by
 have h1 : fn.name ≠ "runtime.NumGoroutine" := by simpa using a
 simp[callFunc,hf,h1,hb]
section
variable {P:Program}
theorem addr_add(g o j:Nat):(⟨g,o,none⟩:Addr).add j=⟨g,o+j,none⟩:=by unfold Addr.add;split<;>simp_all
theorem zd3{e k:Nat}(hk:(P.info? e).map (·.size)=some k)(w:World):(sizeOf e).run P w = .ok k w:=by
 cases hq:P.info? e with
 | none=>simp[hq]at hk
 | some i=>simp[hq]at hk;simp[sizeOf,typeInfo,hq,hk]
theorem zgG{w:World}{g:Nat}{a:List Value}{t:Nat}{fz:Nat×Nat}(hg:w.heap[g]?=some (.cells a.toArray t fz))(o n:Nat) :
  ∀j v,((a.drop o).take n)[j]?=some v→w.cell? ((⟨g,o,none⟩:Addr).add j)=some v:=by
 intro j v b;rw[addr_add];rw[List.getElem?_take]at b;split at b
 ·rw[List.getElem?_drop]at b;simpa [World.cell?,hg]using b
 ·cases b
theorem zaV(w:World)(f sT ty e k:Nat)(hu:P.underlying f=some (.slice e))(hk:(P.info? e).map (·.size)=some k)
  (g d dl dc h os sl sc n:Nat) (b src:List Value) (t t':Nat) (fz:Nat×Nat)
  (hg:w.heap[g]?=some (.cells b.toArray t (0,0))) (hh:w.heap[h]?=some (.cells src.toArray t' fz)) (hn1:n≤sl) (hn2:n≤dl) (hn3:n=sl∨n=dl)
  (hs:os+n*k≤src.length) (hd:d+n*k≤b.length) (h1:∀v∈(src.drop os).take (n*k),v.oneCell'=true) :
  (Builtin.copy_ #[f,sT] ty #[.slice (some ⟨g,d,none⟩) dl dc,.slice (some ⟨h,os,none⟩) sl sc]).run P w =
   .ok (goInt n) (w.setRow g (splice b d ((src.drop os).take (n*k))).toArray):=by
 have hn:n=Nat.min sl dl:=by
  show n=min sl dl;omega
 have a:((src.drop os).take (n*k)).length=n*k:=by simp;omega
 have hl:=run_firstCells_some (P:=P) (w:=w) k n ⟨h,os,none⟩ sl sc _ a (zgG hh os (n*k));have c:=run_storeCells_at P g d t ((src.drop os).take (n*k)) 0 b.toArray w hg (by simp;omega) h1;have hz:=zd3 hk;subst hn;simp only[Nat.add_zero,a]at c;have i:=c;simp[Builtin.copy_,run_underlying hu,Builtin.lenOf,hz,hl,c,splice,a];try omega
theorem zfY(z:Array Value)(n:Nat)(h1:∀v∈z.toList,v.oneCell'=true):∀v∈(Builtin.zeroCells z n).toList,v.oneCell'=true:=by
 intro v b;simp only[Builtin.zeroCells,Array.toList_map,List.mem_map]at b;obtain⟨i,hi,rfl⟩:=b;by_cases hz:z.size=0
 ·simp[hz]at hi
 ·have a:i % z.size<z.size:=Nat.mod_lt _ (by omega);apply h1;rw[getElem!_pos z _ a];exact Array.getElem_mem_toList a
theorem zaJ(w:World)(T ty e:Nat)(z:Value)(k:Nat)(f:P.underlying T=some (.slice e))(hv:∀w,(zeroValue e).run P w = .ok z w)(hz:z.cells.size=k)
  (h1:∀v∈z.cells.toList,v.oneCell'=true) (g o n c:Nat) (a:List Value) (t:Nat) (hg:w.heap[g]?=some (.cells a.toArray t (0,0))) (hd:o+n*k≤a.length) :
  (Builtin.clear_ #[T] ty #[.slice (some ⟨g,o,none⟩) n c]).run P w = .ok (.tuple #[]) (w.setRow g (splice a o (Builtin.zeroCells z.cells n).toList).toArray):=by
 have b:(Builtin.zeroCells z.cells n).toList.length=n*k:=by simp[size_zeroCells,hz]
 have d:=run_storeCells_at P g o t (Builtin.zeroCells z.cells n).toList 0 a.toArray w hg (by rw[b];simpa using hd) (zfY _ _ h1);simp only[Nat.add_zero,b]at d;cases n with
 | zero =>
  have e1:(Builtin.zeroCells z.cells 0).toList=[]:=by simp[Builtin.zeroCells]
  have:=setRow_self w g a.toArray t (0,0) hg;simp[Builtin.clear_,run_underlying f,e1,splice,this]
 | succ n =>
  simp only[Builtin.clear_];simp[run_underlying f,hv,d,splice,b]
def zaG(w:World)(v v':Value):Prop:=∀k,v'.ownBlock=some k→v.ownBlock=some k∨w.heap.size≤k
theorem zaG.refl(w:World)(v:Value):zaG w v v:=fun _ h=>.inl h
theorem zH(w:World)(t e:Nat)(i:TypeInfo)(z:Value)(size bytes:Nat)(E:P.underlying t=some (.slice e))(hi:P.info? e=some i)(L:i.zero=some z)
  (r:i.size=size) (G:i.bytes=bytes) (H:z.cells.size=size) (hsz:0<size)
  (v:Value) (n:Nat) (xs:List Value) (d:w.ownsRow 0 e size v n xs)
  (a:Addr) (m c:Nat) (b:List Value) (s:b.length=m*size) (f:∀j u,b[j]?=some u→w.cell? (a.add j)=some u) (h1:∀u∈b,u.oneCell'=true)
  (B:n+m≤maxLen) (l:(n+m)*bytes≤140737488355328) :
  ∃v' w',(∀ty,(Builtin.append_ #[t,t] ty #[v,.slice (some a) m c]).run P w = .ok v' w')∧w'.ownsRow 0 e size v' (n+m) (xs++b)∧w.grownBy w' v.ownBlock∧zaG w v v':=by
 subst r;subst G;have F:n+m≤9223372036854775807:=by simp only[maxLen]at B;omega
 have o:(xs++b).length=(n+m)*i.size:=by rw[List.length_append,d.1,s,Nat.add_mul]
 have grown:∀(old:Nat),old<n+m→∀(row:Option Nat),
   (w.drew.alloc (.cells (xs.toArray++b.toArray++Builtin.zeroCells z.cells (grownCap w (n+m) old e-(n+m))) e)).ownsRow 0 e i.size
    (.slice (some ⟨w.heap.size,0,none⟩) (n+m) (grownCap w (n+m) old e)) (n+m) (xs++b) ∧
   w.grownBy (w.drew.alloc (.cells (xs.toArray++b.toArray++Builtin.zeroCells z.cells (grownCap w (n+m) old e-(n+m))) e)) row:=by
  intro old ho row;have I:=grownCap_ge w (n+m) old e;have x:grownCap w (n+m) old e≤maxLen:=grownCap_le_maxLen w (n+m) old e B;refine⟨⟨o,.inr ⟨w.heap.size,_,_,rfl,Nat.zero_le _,heap_alloc_new w.drew _,I,x,?_,?_⟩⟩,⟨rfl,rfl,rfl,by simp,fun k hk _=>Below.heap_alloc w.drew _ k hk⟩⟩
  ·simp only[Array.size_append,List.size_toArray,size_zeroCells,H,d.1,s,←Nat.add_mul]
   congr 1
   omega
  ·simp only[Array.toList_append,List.append_assoc];rw[←List.append_assoc,←o];exact List.take_left
 have q:∀c n v,zaG w v (.slice (some ⟨w.heap.size,0,none⟩) n c):=fun c n v k hk=>by
  simp[Value.ownBlock]at hk;omega
 rcases d.2 with⟨rfl,rfl⟩|⟨g,cap,y,rfl,J,hg,hnc,x,K,A⟩
 ·have hx:xs=[]:=List.eq_nil_of_length_eq_zero (by simpa using d.1);subst hx;by_cases hm:m=0
  ·subst hm;have hn:b=[]:=List.eq_nil_of_length_eq_zero (by simpa using s);subst hn;refine⟨.slice none 0 0,w,fun ty=>?_,World.ownsRow_nil w 0 e i.size,⟨rfl,rfl,rfl,Nat.le_refl _,fun _ _ _=>rfl⟩,zaG.refl _ _⟩;simp[Builtin.append_,run_underlying E,sizeOf,typeInfo,hi,Builtin.lenOf,Builtin.firstCells,loadCells,loadCellsFrom]
  ·have C:=fun ty=>run_append_nil (P:=P) w t ty e i z E hi L a m c b s f (by omega) (by omega) (by have hb:=l;simp only[Nat.zero_add]at hb;omega)
   have p:=grown 0 (by omega) (Value.ownBlock (.slice none 0 0));simp only[Nat.zero_add,List.nil_append,Array.empty_append]at p ⊢;exact⟨_,_,C,p.1,p.2,q _ _ _⟩
 ·by_cases h:n+m≤cap
  ·have D:n*i.size+b.length≤y.size:=by rw[s,K,←Nat.add_mul];exact Nat.mul_le_mul_right _ h
   have C:=fun ty=>run_append_room (P:=P) w t ty e i E hi g n cap y hg a m c b s f h1 h D
   refine⟨_,_,C,⟨o,.inr ⟨g,cap,_,rfl,J,setRow_heap w g y _ e _ hg,h,x,?_,?_⟩⟩,⟨rfl,rfl,rfl,by simp,fun k _ hk=>setRow_other w g k _ (fun e=>hk (by simp[Value.ownBlock,e]))⟩,fun k hk=>.inl hk⟩
   ·simp only[List.size_toArray,List.length_append,List.length_take,List.length_drop,Array.length_toList];omega
   ·rw[A,←o];exact List.take_left
  ·have holds:∀j u,xs[j]?=some u→w.cell? ((⟨g,0,none⟩:Addr).add j)=some u:=d.cells (g:=g) rfl;have C:=fun ty=>run_append_grow (P:=P) w t ty e i z E hi L ⟨g,0,none⟩ n cap xs d.1 holds a m c b s f (by omega) (by omega) (growslice_fits (by omega) l)
   have p:=grown cap (by omega) (Value.ownBlock (.slice (some ⟨g,0,none⟩) n cap));exact⟨_,_,C,p.1,p.2,q _ _ _⟩
theorem zeA(w:World)(t u ty e:Nat)(ik:IntKind)(i:TypeInfo)(z:Value)(ht:P.underlying t=some (.slice e))(hu:P.underlying u=some (.int ik))(hi:P.info? e=some i)(hz:i.zero=some z)
  (b:Addr) (a c n:Nat) (d:List Value) (m:d.length=a*i.size) (holds:∀j v,d[j]?=some v→w.cell? (b.add j)=some v)
  (hg:c<a+n) (h63:a+n≤9223372036854775807) (hb:(a+n)*i.bytes≤140737488355328) (hnz:0<n*i.size) :
  (Builtin.append_ #[t,u] ty #[.slice (some b) a c,.int .i64 (n:Int)]).run P w =
   .ok (.slice (some ⟨w.heap.size,0,none⟩) (a+n) (grownCap w (a+n) c e))
    (w.drew.alloc (.cells (d.toArray++Builtin.zeroCells z.cells n++Builtin.zeroCells z.cells (grownCap w (a+n) c e-(a+n))) e)):=by
 have hn:¬(a+n≤c):=by omega
 have g:¬(9223372036854775807<((a:Int)+(n:Int))):=by omega
 have q:=growslice_fits hg hb;have h:¬(281474976710656<Builtin.nextslicecap (a+n) c*i.bytes):=by omega
 have hw:IntKind.i64.wrap (n:Int)=(n:Int):=IntWalk.i64_in _ (by omega);have k:¬((n:Int)<0):=by omega
 have hbn:n*i.bytes≤281474976710656:=by rw[Nat.add_mul]at hb;omega
 have l:¬(281474976710656<(n:Int)*(i.bytes:Int)):=by
  have:((n*i.bytes:Nat):Int)≤281474976710656:=by omega
  rw[Int.natCast_mul]at this;omega
 have f:¬(n*i.size=0):=by omega
 have o:=run_firstCells_some (P:=P) w.drew i.size a b a c d m (by simpa using holds);have p:Sem.run P (asIntOf (.int .i64 (n:Int))) w = .ok (.i64,(n:Int)) w:=rfl;simp[Builtin.append_,run_underlying ht,run_underlying hu,sizeOf,typeInfo,zeroValue,hi,hz,asInt,p,hw,k,l,hn,g,h,f,Question.forced,o,newRow,grownCap]
theorem zm{w d:World}{ops:Array Oper}{rest:List Oper}{o:Oper}{a:Act}{Q:Exit→Act→World→Prop}(c:o.guard=none)(s x:Operand)(t u:TypeId)
  (ho:o.op = .call { callee:=.builtin .append,args:=#[s,x],argTypes:=#[t,u] }) (e f v':Value) (hs:a.eval s=e) (hx:a.eval x=f)
  (happ:∀ty,(Builtin.append_ #[t,u] ty #[e,f]).run P w = .ok v' d) (h:wpList P ops Q rest (a.put o.dst v') d):wpList P ops Q (o::rest) a w:=by
 refine wpList_plain c fun K hK=>?_
 have b:=happ o.type;unfold Oper.wp;simp[execOp,ho,resolve,invoke,builtin,hs,hx,b,Result.andThen];exact hK _ _ h
theorem zF{w d:World}{ops:Array Oper}{o:Oper}{a:Act}{K:Act→World→Prop}{Q:Exit→Act→World→Prop}{E:Prop}(c:o.guard=none)(s x:Operand)(t u:TypeId)
  (ho:o.op = .call { callee:=.builtin .append,args:=#[s,x],argTypes:=#[t,u] }) (e f v':Value) (hs:a.eval s=e) (hx:a.eval x=f)
  (happ:∀ty,(Builtin.append_ #[t,u] ty #[e,f]).run P w = .ok v' d) (h:K (a.put o.dst v') d) :
  if Region.wanted o (yielded ops a.tmps)=true then Oper.wp P o a w K Q else E:=by
 have hw:Region.wanted o (yielded ops a.tmps)=true:=by simp[Region.wanted,c]
 rw[if_pos hw];have b:=happ o.type;unfold Oper.wp;simp[execOp,ho,resolve,invoke,builtin,hs,hx,b,Result.andThen];exact h
end
section
variable {P:Program}
theorem zas(w:World)(t e:Nat)(i:TypeInfo)(z:Value)(size bytes:Nat)(F:P.underlying t=some (.slice e))(hi:P.info? e=some i)(N:i.zero=some z)
  (y:i.size=size) (H:i.bytes=bytes) (I:z.cells.size=size) (hsz:0<size)
  (v:Value) (n:Nat) (xs:List Value) (d:w.ownsRow 0 e size v n xs)
  (a:Addr) (m c:Nat) (b:List Value) (A:b.length=m*size) (f:∀j u,b[j]?=some u→w.cell? (a.add j)=some u) (h1:∀u∈b,u.oneCell'=true)
  (B:n+m≤maxLen) (l:(n+m)*bytes≤140737488355328) :
  ∃v' w',(∀ty,(Builtin.append_ #[t,t] ty #[v,.slice (some a) m c]).run P w = .ok v' w')∧w'.ownsRow 0 e size v' (n+m) (xs++b)∧w.grownBy w' v.ownBlock∧zaG w v v'∧w'.ownsRow 0 e size v n xs:=by
 subst y;subst H;have G:n+m≤9223372036854775807:=by simp only[maxLen]at B;omega
 have o:(xs++b).length=(n+m)*i.size:=by rw[List.length_append,d.1,A,Nat.add_mul]
 have grown:∀(old:Nat),old<n+m→∀(row:Option Nat),
   (w.drew.alloc (.cells (xs.toArray++b.toArray++Builtin.zeroCells z.cells (grownCap w (n+m) old e-(n+m))) e)).ownsRow 0 e i.size
    (.slice (some ⟨w.heap.size,0,none⟩) (n+m) (grownCap w (n+m) old e)) (n+m) (xs++b) ∧
   w.grownBy (w.drew.alloc (.cells (xs.toArray++b.toArray++Builtin.zeroCells z.cells (grownCap w (n+m) old e-(n+m))) e)) row:=by
  intro old ho row;have J:=grownCap_ge w (n+m) old e;have s:grownCap w (n+m) old e≤maxLen:=grownCap_le_maxLen w (n+m) old e B;refine⟨⟨o,.inr ⟨w.heap.size,_,_,rfl,Nat.zero_le _,heap_alloc_new w.drew _,J,s,?_,?_⟩⟩,⟨rfl,rfl,rfl,by simp,fun k hk _=>Below.heap_alloc w.drew _ k hk⟩⟩
  ·simp only[Array.size_append,List.size_toArray,size_zeroCells,I,d.1,A,←Nat.add_mul]
   congr 1
   omega
  ·simp only[Array.toList_append,List.append_assoc];rw[←List.append_assoc,←o];exact List.take_left
 have q:∀c n v,zaG w v (.slice (some ⟨w.heap.size,0,none⟩) n c):=fun c n v k hk=>by
  simp[Value.ownBlock]at hk;omega
 rcases d.2 with⟨rfl,rfl⟩|⟨g,cap,x,rfl,C,hg,K,s,L,r⟩
 ·have hx:xs=[]:=List.eq_nil_of_length_eq_zero (by simpa using d.1);subst hx;by_cases hm:m=0
  ·subst hm;have hn:b=[]:=List.eq_nil_of_length_eq_zero (by simpa using A);subst hn;refine⟨.slice none 0 0,w,fun ty=>?_,World.ownsRow_nil w 0 e i.size,⟨rfl,rfl,rfl,Nat.le_refl _,fun _ _ _=>rfl⟩,zaG.refl _ _,World.ownsRow_nil w 0 e i.size⟩;simp[Builtin.append_,run_underlying F,sizeOf,typeInfo,hi,Builtin.lenOf,Builtin.firstCells,loadCells,loadCellsFrom]
  ·have D:=fun ty=>run_append_nil (P:=P) w t ty e i z F hi N a m c b A f (by omega) (by omega) (by have hb:=l;simp only[Nat.zero_add]at hb;omega)
   have p:=grown 0 (by omega) (Value.ownBlock (.slice none 0 0));simp only[Nat.zero_add,List.nil_append,Array.empty_append]at p ⊢;exact⟨_,_,D,p.1,p.2,q _ _ _,World.ownsRow_nil _ 0 e i.size⟩
 ·by_cases h:n+m≤cap
  ·have E:n*i.size+b.length≤x.size:=by rw[A,L,←Nat.add_mul];exact Nat.mul_le_mul_right _ h
   have D:=fun ty=>run_append_room (P:=P) w t ty e i F hi g n cap x hg a m c b A f h1 h E
   refine⟨_,_,D,⟨o,.inr ⟨g,cap,_,rfl,C,setRow_heap w g x _ e _ hg,h,s,?_,?_⟩⟩,⟨rfl,rfl,rfl,by simp,fun k _ hk=>setRow_other w g k _ (fun e=>hk (by simp[Value.ownBlock,e]))⟩,fun k hk=>.inl hk,⟨d.1,.inr ⟨g,cap,_,rfl,C,setRow_heap w g x _ e _ hg,K,s,?_,?_⟩⟩⟩
   ·simp only[List.size_toArray,List.length_append,List.length_take,List.length_drop,Array.length_toList];omega
   ·rw[r,←o];exact List.take_left
   ·simp only[List.size_toArray,List.length_append,List.length_take,List.length_drop,Array.length_toList];omega
   ·rw[r,←d.1,List.append_assoc];exact List.take_left
  ·have holds:∀j u,xs[j]?=some u→w.cell? ((⟨g,0,none⟩:Addr).add j)=some u:=d.cells (g:=g) rfl;have D:=fun ty=>run_append_grow (P:=P) w t ty e i z F hi N ⟨g,0,none⟩ n cap xs d.1 holds a m c b A f (by omega) (by omega) (growslice_fits (by omega) l)
   have p:=grown cap (by omega) (Value.ownBlock (.slice (some ⟨g,0,none⟩) n cap));have M:=grown cap (by omega) none;exact⟨_,_,D,p.1,p.2,q _ _ _,d.kept M.2 (by simp[Value.ownBlock])⟩
theorem zc2(w:World)(t u e:Nat)(i:TypeInfo)(C:P.underlying t=some (.slice e))(D:P.underlying u=some .string)(hi:P.info? e=some i)(M:i.zero=some (.int .u8 0))
  (d:i.size=1) (y:i.bytes=1) (v:Value) (n:Nat) (xs:List Value) (a:w.ownsRow 0 e 1 v n xs) (s:ByteArray) (z:n+s.size≤maxLen) (E:n+s.size≤140737488355328) :
  ∃v' w',(∀ty,(Builtin.append_ #[t,u] ty #[v,.string s]).run P w = .ok v' w')∧w'.ownsRow 0 e 1 v' (n+s.size) (xs++Lib.strCells s)∧w.grownBy w' v.ownBlock∧zaG w v v'∧w'.ownsRow 0 e 1 v n xs:=by
 have F:n+s.size≤9223372036854775807:=by simp only[maxLen]at z;omega
 have p:xs.length=n:=by simpa using a.1
 have f:(xs++Lib.strCells s).length=(n+s.size)*1:=by rw[List.length_append,p,Lib.strCells_length,Nat.mul_one]
 have grown:∀(old:Nat),old<n+s.size→∀(row:Option Nat),
   (w.drew.alloc (.cells (xs.toArray++(Lib.strCells s).toArray++Builtin.zeroCells (Value.int .u8 0).cells (grownCap w (n+s.size) old e-(n+s.size))) e)).ownsRow 0 e 1
    (.slice (some ⟨w.heap.size,0,none⟩) (n+s.size) (grownCap w (n+s.size) old e)) (n+s.size) (xs++Lib.strCells s) ∧
   w.grownBy (w.drew.alloc (.cells (xs.toArray++(Lib.strCells s).toArray++Builtin.zeroCells (Value.int .u8 0).cells (grownCap w (n+s.size) old e-(n+s.size))) e)) row:=by
  intro old ho row;have H:=grownCap_ge w (n+s.size) old e;have q:grownCap w (n+s.size) old e≤maxLen:=grownCap_le_maxLen w (n+s.size) old e z;refine⟨⟨f,.inr ⟨w.heap.size,_,_,rfl,Nat.zero_le _,heap_alloc_new w.drew _,H,q,?_,?_⟩⟩,⟨rfl,rfl,rfl,by simp,fun k hk _=>Below.heap_alloc w.drew _ k hk⟩⟩
  ·have I:(Value.int IntKind.u8 0).cells.size=1:=rfl;simp only[Array.size_append,List.size_toArray,size_zeroCells,I,p,Lib.strCells_length];omega
  ·simp only[Array.toList_append,List.append_assoc];rw[←List.append_assoc,←f];exact List.take_left
 have l:∀c n v,zaG w v (.slice (some ⟨w.heap.size,0,none⟩) n c):=fun c n v k hk=>by
  simp[Value.ownBlock]at hk;omega
 rcases a.2 with⟨rfl,rfl⟩|⟨g,cap,m,rfl,A,hg,J,q,K,r⟩
 ·have hx:xs=[]:=List.eq_nil_of_length_eq_zero p;subst hx;by_cases G:s.size=0
  ·have hn:Lib.strCells s=[]:=List.eq_nil_of_length_eq_zero (by rw[Lib.strCells_length];exact G);refine⟨.slice none 0 0,w,fun ty=>?_,by rw[G,hn];exact World.ownsRow_nil w 0 e 1,⟨rfl,rfl,rfl,Nat.le_refl _,fun _ _ _=>rfl⟩,zaG.refl _ _,World.ownsRow_nil w 0 e 1⟩;have N:=Lib.run_firstCells_string (P:=P) w 1 s;rw[G]at N;simp[Builtin.append_,run_underlying C,run_underlying D,sizeOf,typeInfo,hi,d,Builtin.lenOf,G,N]
  ·have x:=fun ty=>run_append_nil_string (P:=P) w t u ty e i (.int .u8 0) C D hi M s (by omega) (by omega) (by rw[y];omega)
   have h:=grown 0 (by omega) (Value.ownBlock (.slice none 0 0));simp only[Nat.zero_add,List.nil_append,Array.empty_append]at h ⊢;have e1:(s.data.map fun b=>Value.int .u8 b.toNat)=(Lib.strCells s).toArray:=by
    apply Array.ext';simp[Lib.strCells]
   rw[e1]at x;exact⟨_,_,x,h.1,h.2,l _ _ _,World.ownsRow_nil _ 0 e 1⟩
 ·by_cases o:n+s.size≤cap
  ·have O:m.size=cap:=by simpa using K
   have B:m.toList.take n=xs:=by simpa using r
   have x:=fun ty=>Lib.run_append_room_string (P:=P) w t u ty e i C D hi d g n cap m hg s o (by omega)
   refine⟨_,_,x,⟨f,.inr ⟨g,cap,_,rfl,A,setRow_heap w g m _ e _ hg,o,q,?_,?_⟩⟩,⟨rfl,rfl,rfl,by simp,fun k _ hk=>setRow_other w g k _ (fun e=>hk (by simp[Value.ownBlock,e]))⟩,fun k hk=>.inl hk,⟨a.1,.inr ⟨g,cap,_,rfl,A,setRow_heap w g m _ e _ hg,J,q,?_,?_⟩⟩⟩
   ·simp only[List.size_toArray,List.length_append,List.length_take,List.length_drop,Array.length_toList,Lib.strCells_length];omega
   ·rw[B,←f];exact List.take_left
   ·simp only[List.size_toArray,List.length_append,List.length_take,List.length_drop,Array.length_toList,Lib.strCells_length];omega
   ·rw[B,←a.1,List.append_assoc];exact List.take_left
  ·have holds:∀j u,xs[j]?=some u→w.cell? ((⟨g,0,none⟩:Addr).add j)=some u:=a.cells (g:=g) rfl;have x:=fun ty=>Lib.run_append_grow_string (P:=P) w t u ty e i (.int .u8 0) C D hi M ⟨g,0,none⟩ n cap xs (by rw[d];simpa using p) holds s (by omega) (by omega) (by rw[y];exact growslice_fits (by omega) (by omega))
   have h:=grown cap (by omega) (Value.ownBlock (.slice (some ⟨g,0,none⟩) n cap));have L:=grown cap (by omega) none;exact⟨_,_,x,h.1,h.2,l _ _ _,a.kept L.2 (by simp[Value.ownBlock])⟩
end
def zO(l:List UInt8):List Value:=l.map fun c=>.int .u8 (c.toNat:Int)
theorem zal(l:List UInt8):(zO l).length=l.length:=by simp[zO]
theorem zbg(a b:List UInt8):zO (a++b)=zO a++zO b:=by simp[zO]
theorem zdN(l:List UInt8):∀u∈zO l,u.oneCell'=true:=by
 intro u a;simp only[zO,List.mem_map]at a;obtain⟨_,_,rfl⟩:=a;rfl
def OB(w:World)(v:Value)(l:List UInt8):Prop:=w.ownsRow 0 5 1 v l.length (zO l)
theorem OB.nil(w:World):OB w (.slice none 0 0) []:=World.ownsRow_nil w 0 _ 1
structure App(w:World)(v:Value)(l new:List UInt8)(v':Value)(w':World):Prop where
 own:OB w' v' (l++new)
 old:OB w' v l
 grown:w.grownBy w' v.ownBlock
 at_:zaG w v v'
theorem zj7{w w':World}{e sz n m:Nat}{v v':Value}{xs j:List Value}(h:w.ownsRow 0 e sz v n xs)(h':w.ownsRow 0 e sz v' m (xs++j))(hb:v'.ownBlock=v.ownBlock)(k:w'.ownsRow 0 e sz v' m (xs++j)) :
  w'.ownsRow 0 e sz v n xs:=by
 rcases h.2 with⟨rfl,rfl⟩|⟨g,cap,cur,rfl,hbg,hg,l,o,p,q⟩
 ·have:xs=[]:=List.eq_nil_of_length_eq_zero (by simpa using h.1);subst this;exact World.ownsRow_nil w' 0 e sz
 ·rcases h'.2 with⟨rfl,_⟩|⟨g',t,u,rfl,_,c,x,y,d,i⟩
  ·simp[Value.ownBlock]at hb
  ·simp[Value.ownBlock]at hb;subst hb;rw[hg]at c;cases c;rcases k.2 with⟨r,_⟩|⟨g2,z,b,r,_,s,A,B,f,a⟩
   ·cases r
   ·cases r;refine⟨h.1,.inr ⟨g',cap,b,rfl,Nat.zero_le _,s,l,o,by rw[f,←d,p],?_⟩⟩;have C:=h.1;have D:(b.toList.take (m*sz)).take (n*sz)=(xs++j).take (n*sz):=by rw[a]
    rw[List.take_take,←C,List.take_left]at D;have e3:=k.1;simp only[List.length_append]at e3
    rwa [Nat.min_eq_left (by omega),C]at D
theorem App.refl{w:World}{v:Value}{l:List UInt8}(h:OB w v l):App w v l [] v w :=
 ⟨by simpa using h,h,⟨rfl,rfl,rfl,Nat.le_refl _,fun _ _ _=>rfl⟩,zaG.refl _ _⟩
theorem App.trans{w j c:World}{v d m:Value}{l a b:List UInt8}(h:App w v l a d j)(k:App j d (l++a) b m c):App w v l (a++b) m c:=by
 have f:w.grownBy c v.ownBlock:=⟨k.grown.os.trans h.grown.os,k.grown.tape.trans h.grown.tape,k.grown.output.trans h.grown.output,Nat.le_trans h.grown.size k.grown.size,fun i hi n =>
  (k.grown.block i (Nat.lt_of_lt_of_le hi h.grown.size) (fun e=>by
   rcases h.at_ i e.symm with x|x
   ·exact n x.symm
   ·omega)).trans (h.grown.block i hi n)⟩
 refine⟨by rw[←List.append_assoc];exact k.own,?_,f,fun i hi=>?_⟩
 ·by_cases hb:d.ownBlock=v.ownBlock
  ·have h1:=h.own;have h2:=k.old;unfold OB at h1 h2 ⊢;rw[zbg]at h1 h2;exact zj7 h.old h1 hb h2
  ·refine h.old.kept k.grown ?_;cases hv:v.ownBlock with
   | none=>simp
   | some g=>simpa [hv]using fun e=>hb (e.symm.trans hv.symm)
 ·rcases k.at_ i hi with x|x
  ·exact h.at_ i x
  ·exact .inr (Nat.le_trans h.grown.size x)
def zL(n:Nat):List UInt8 :=
 if n<64 then [UInt8.ofNat n]
 else if n<16384 then [UInt8.ofNat (n / 256+64),UInt8.ofNat n]
 else if n<1073741824 then [UInt8.ofNat (n / 16777216+128),UInt8.ofNat (n / 65536),UInt8.ofNat (n / 256),UInt8.ofNat n]
 else [UInt8.ofNat (n / 72057594037927936+192),UInt8.ofNat (n / 281474976710656),UInt8.ofNat (n / 1099511627776),UInt8.ofNat (n / 4294967296),UInt8.ofNat (n / 16777216),UInt8.ofNat (n / 65536),UInt8.ofNat (n / 256),UInt8.ofNat n]
theorem zfZ:(Tryz.prog.info? 5).map (fun i=>(i.zero,i.size,i.bytes))=some (some (.int .u8 0),1,1):=by kernel_rfl
theorem zdO(w:World)(v:Value)(l new:List UInt8)(cs:Array Value)(m:Nat)(h:OB w v l)(c:cs.toList=zO new)(f:new.length=m)(hl:l.length+m≤140737488355328) :
  ∃v' w',(∀ty,(Builtin.append_ #[60,60] ty #[v,.slice (some ⟨w.heap.size,0,none⟩) m m]).run Tryz.prog (w.alloc (.cells cs 5)) = .ok v' w')∧App w v l new v' w':=by
 obtain⟨i,hi,hz,d,e⟩:=info_parts zfZ;have b:(w.alloc (.cells cs 5)).ownsRow 0 5 1 v l.length (zO l):=World.ownsRow.alloc h _;have a:∀(j:Nat) u,(zO new)[j]?=some u→(w.alloc (.cells cs 5)).cell? ((⟨w.heap.size,0,none⟩:Addr).add j)=some u:=by
  intro j u hj;rw[addr_add];refine za (heap_alloc_new w _) ?_;rw[Nat.zero_add,←Array.getElem?_toList,c];exact hj
 obtain⟨v',w',h1,h2,h3,h4,h5⟩:=zas (P:=Tryz.prog) (w.alloc (.cells cs 5)) 60 5 i (.int .u8 0) 1 1 Tryz.underlying60 hi hz d e rfl (by decide) v l.length (zO l) b
  ⟨w.heap.size,0,none⟩ m m (zO new) (by rw[zal,f,Nat.mul_one]) a (zdN new) (by unfold maxLen;omega) (by omega)
 refine⟨v',w',h1,⟨?_,h5,?_,?_⟩⟩
 ·unfold OB;rw[List.length_append,f,zbg];exact h2
 ·exact⟨h3.os,h3.tape,h3.output,Nat.le_trans (by simp) h3.size,fun k hk hn=>(h3.block k (by simp;omega) hn).trans (Below.heap_alloc w _ k hk)⟩
 ·intro k hk;rcases h4 k hk with x|x
  ·exact .inl x
  ·exact .inr (by simp at x;omega)
theorem zpx:∀a:Fin 64,bits BinOp.or IntKind.u8 ((a.val:Nat):Int) 64=((a.val+64:Nat):Int)∧bits BinOp.or IntKind.u8 ((a.val:Nat):Int) 128=((a.val+128:Nat):Int)∧bits BinOp.or IntKind.u8 ((a.val:Nat):Int) 192=((a.val+192:Nat):Int):=by decide +kernel
theorem zf0(n:Nat):Value.int .u8 ((UInt8.ofNat n).toNat:Int) = .int .u8 ((n:Int) % 256):=by
 rw[UInt8.toNat_ofNat']
 congr 1
theorem znx(v:Value)(l:List UInt8)(n:Nat)(w:World)(h:OB w v l)(hl:l.length≤70368744177664)(b:n<64) :
  Calls Tryz.prog 83 #[v,.int .u64 (n:Int)] w fun e w'=>∃v',e = .returned v'∧App w v l (zL n) v' w':=by
 have d1:(n:Int)<64:=by omega
 obtain⟨v',w',hr,happ⟩:=zdO w v l (zL n) #[.int .u8 (n:Int)] 1 h (by simp[zL,b,zO];omega) (by simp[zL,b]) (by omega);obtain⟨a,cap,rfl,_⟩:=zj h;have H:=zb happ;clear happ;go_enter Tryz.func83,Tryz.ntmps83;go_wp2_with (at_builtin;refine zm rfl _ _ _ _ rfl _ _ _ rfl rfl hr ?_);go_ret;exact⟨_,rfl,H.out⟩
theorem zny(v:Value)(l:List UInt8)(n:Nat)(w:World)(h:OB w v l)(hl:l.length≤70368744177664)(hn:64≤n)(b:n<16384) :
  Calls Tryz.prog 83 #[v,.int .u64 (n:Int)] w fun e w'=>∃v',e = .returned v'∧App w v l (zL n) v' w':=by
 have d1:¬(n:Int)<64:=by omega
 have d2:(n:Int)<16384:=by omega
 have c:(#[.int .u8 (bits BinOp.or IntKind.u8 ((n:Int) / 256) 64),.int .u8 ((n:Int) % 256)]:Array Value).toList=zO (zL n):=by
  have o:=zpx ⟨n / 256,by omega⟩;have e:((n / 256:Nat):Int)=(n:Int) / 256:=by omega
  simp only[e]at o;simp only[o.1];unfold zL;simp only[show ¬n<64 by omega,b,if_true,if_false,zO,List.map_cons,List.map_nil,zf0];simp;omega
 obtain⟨v',w',hr,happ⟩:=zdO w v l (zL n) (#[.int .u8 (bits BinOp.or IntKind.u8 ((n:Int) / 256) 64),.int .u8 ((n:Int) % 256)]:Array Value) 2 h c (by rw[←zal,←c];rfl) (by omega);clear c;obtain⟨a,cap,rfl,_⟩:=zj h;have H:=zb happ;clear happ;go_enter Tryz.func83,Tryz.ntmps83;go_wp2_with (at_builtin;refine zm rfl _ _ _ _ rfl _ _ _ rfl rfl hr ?_);go_ret;exact⟨_,rfl,H.out⟩
theorem znz(v:Value)(l:List UInt8)(n:Nat)(w:World)(h:OB w v l)(hl:l.length≤70368744177664)(hn:16384≤n)(b:n<1073741824) :
  Calls Tryz.prog 83 #[v,.int .u64 (n:Int)] w fun e w'=>∃v',e = .returned v'∧App w v l (zL n) v' w':=by
 have d1:¬(n:Int)<64:=by omega
 have d2:¬(n:Int)<16384:=by omega
 have d3:(n:Int)<1073741824:=by omega
 have c:(#[.int .u8 (bits BinOp.or IntKind.u8 ((n:Int) / 16777216) 128),.int .u8 ((n:Int) / 65536 % 256),.int .u8 ((n:Int) / 256 % 256),.int .u8 ((n:Int) % 256)]:Array Value).toList=zO (zL n):=by
  have o:=zpx ⟨n / 16777216,by omega⟩;have e:((n / 16777216:Nat):Int)=(n:Int) / 16777216:=by omega
  simp only[e]at o;simp only[o.2.1];unfold zL;simp only[show ¬n<64 by omega,show ¬n<16384 by omega,b,if_true,if_false,zO,List.map_cons,List.map_nil,zf0];simp;omega
 obtain⟨v',w',hr,happ⟩:=zdO w v l (zL n) (#[.int .u8 (bits BinOp.or IntKind.u8 ((n:Int) / 16777216) 128),.int .u8 ((n:Int) / 65536 % 256),.int .u8 ((n:Int) / 256 % 256),.int .u8 ((n:Int) % 256)]:Array Value) 4 h c (by rw[←zal,←c];rfl) (by omega);clear c;obtain⟨a,cap,rfl,_⟩:=zj h;have H:=zb happ;clear happ;go_enter Tryz.func83,Tryz.ntmps83;go_wp2_with (at_builtin;refine zm rfl _ _ _ _ rfl _ _ _ rfl rfl hr ?_);go_ret;exact⟨_,rfl,H.out⟩
theorem znA(v:Value)(l:List UInt8)(n:Nat)(w:World)(h:OB w v l)(hl:l.length≤70368744177664)(hn:1073741824≤n)(hn2:n<4611686018427387904) :
  Calls Tryz.prog 83 #[v,.int .u64 (n:Int)] w fun e w'=>∃v',e = .returned v'∧App w v l (zL n) v' w':=by
 have d1:¬(n:Int)<64:=by omega
 have d2:¬(n:Int)<16384:=by omega
 have d3:¬(n:Int)<1073741824:=by omega
 have b:(#[.int .u8 (bits BinOp.or IntKind.u8 ((n:Int) / 72057594037927936) 192),.int .u8 ((n:Int) / 281474976710656 % 256),.int .u8 ((n:Int) / 1099511627776 % 256),.int .u8 ((n:Int) / 4294967296 % 256),.int .u8 ((n:Int) / 16777216 % 256),.int .u8 ((n:Int) / 65536 % 256),.int .u8 ((n:Int) / 256 % 256),.int .u8 ((n:Int) % 256)]:Array Value).toList=zO (zL n):=by
  have o:=zpx ⟨n / 72057594037927936,by omega⟩;have e:((n / 72057594037927936:Nat):Int)=(n:Int) / 72057594037927936:=by omega
  simp only[e]at o;simp only[o.2.2];unfold zL;simp only[show ¬n<64 by omega,show ¬n<16384 by omega,show ¬n<1073741824 by omega,if_false,zO,List.map_cons,List.map_nil,zf0];simp;omega
 obtain⟨v',w',hr,happ⟩:=zdO w v l (zL n) (#[.int .u8 (bits BinOp.or IntKind.u8 ((n:Int) / 72057594037927936) 192),.int .u8 ((n:Int) / 281474976710656 % 256),.int .u8 ((n:Int) / 1099511627776 % 256),.int .u8 ((n:Int) / 4294967296 % 256),.int .u8 ((n:Int) / 16777216 % 256),.int .u8 ((n:Int) / 65536 % 256),.int .u8 ((n:Int) / 256 % 256),.int .u8 ((n:Int) % 256)]:Array Value) 8 h b (by rw[←zal,←b];rfl) (by omega);clear b;obtain⟨a,cap,rfl,_⟩:=zj h;have H:=zb happ;clear happ;go_enter Tryz.func83,Tryz.ntmps83;go_wp2_with (at_builtin;refine zm rfl _ _ _ _ rfl _ _ _ rfl rfl hr ?_);go_ret;exact⟨_,rfl,H.out⟩
theorem zY(v:Value)(l:List UInt8)(n:Nat)(w:World)(h:OB w v l)(a:l.length≤70368744177664)(hn:n<4611686018427387904) :
  Calls Tryz.prog 83 #[v,.int .u64 (n:Int)] w fun e w'=>∃v',e = .returned v'∧App w v l (zL n) v' w':=by
 by_cases h1:n<64
 ·exact znx v l n w h a h1
 ·by_cases h2:n<16384
  ·exact zny v l n w h a (by omega) h2
  ·by_cases h3:n<1073741824
   ·exact znz v l n w h a (by omega) h3
   ·exact znA v l n w h a (by omega) hn
theorem zbF(n:Int):IntKind.u32.wrap n=n % 4294967296:=by simp[IntKind.wrap,IntKind.bits,IntKind.signed]
theorem zf1(a b:Nat)(ha:a<4294967296)(hb:b<4294967296):bits .xor .u32 (a:Int) (b:Int)=((a ^^^ b:Nat):Int):=by
 have hx:a ^^^ b<2 ^ 32:=Nat.xor_lt_two_pow (by omega) (by omega);have h1:(BitVec.ofInt 32 (a:Int)).toNat=a:=by
  rw[BitVec.ofInt_natCast,BitVec.toNat_ofNat];exact Nat.mod_eq_of_lt (by omega)
 have h2:(BitVec.ofInt 32 (b:Int)).toNat=b:=by
  rw[BitVec.ofInt_natCast,BitVec.toNat_ofNat];exact Nat.mod_eq_of_lt (by omega)
 show IntKind.u32.wrap ((BitVec.ofInt 32 (a:Int) ^^^ BitVec.ofInt 32 (b:Int)).toNat:Int)=_;rw[BitVec.toNat_xor,h1,h2,zbF];omega
theorem zpy(a b:Nat)(ha:a<4294967296)(hb:b<4294967296):bits .and .u32 (a:Int) (b:Int)=((a &&& b:Nat):Int):=by
 have hx:a &&& b<2 ^ 32:=Nat.and_lt_two_pow _ (by omega);have h1:(BitVec.ofInt 32 (a:Int)).toNat=a:=by
  rw[BitVec.ofInt_natCast,BitVec.toNat_ofNat];exact Nat.mod_eq_of_lt (by omega)
 have h2:(BitVec.ofInt 32 (b:Int)).toNat=b:=by
  rw[BitVec.ofInt_natCast,BitVec.toNat_ofNat];exact Nat.mod_eq_of_lt (by omega)
 show IntKind.u32.wrap ((BitVec.ofInt 32 (a:Int) &&& BitVec.ofInt 32 (b:Int)).toNat:Int)=_;rw[BitVec.toNat_and,h1,h2,zbF];omega
theorem zgH(a:Nat)(ha:a<4294967296):bits .and .u32 (a:Int) 15=((a % 16:Nat):Int):=by
 have:=zpy a 15 ha (by omega);rw[show a &&& 15=a % 16 from Nat.and_two_pow_sub_one_eq_mod a 4]at this;exact this
def ctab:List Nat:=[0,498536548,997073096,651767980,1994146192,1802195444,1303535960,1342533948,3988292384,4027552580,3604390888,3412177804,2607071920,2262029012,2685067896,3183342108]
def ct(i:Nat):Nat:=ctab.getD i 0
theorem zpz(i:Nat):ct i<4294967296:=by
 unfold ct;by_cases h:i<16
 ·have:∀j:Fin 16,ctab.getD j.val 0<4294967296:=by decide
  exact this ⟨i,h⟩
 ·rw[List.getD_eq_getElem?_getD,List.getElem?_eq_none (by simp[ctab];omega)]
  decide
def nib(c:Nat):Nat:=(c / 16) ^^^ ct (c % 16)
def zqK(c:Nat)(x:UInt8):Nat:=nib (nib (c ^^^ x.toNat))
def crcL(l:List UInt8):Nat:=l.foldl zqK 4294967295
def crc(l:List UInt8):Nat:=4294967295 ^^^ crcL l
theorem zlh(c:Nat)(h:c<4294967296):nib c<4294967296:=Nat.xor_lt_two_pow (n:=32) (by omega) (zpz _)
theorem zli(c:Nat)(x:UInt8)(h:c<4294967296):c ^^^ x.toNat<4294967296:=Nat.xor_lt_two_pow (n:=32) h (by have:=x.toNat_lt;omega)
theorem zpA(c:Nat)(x:UInt8)(h:c<4294967296):zqK c x<4294967296:=zlh _ (zlh _ (zli c x h))
theorem zlj(l:List UInt8)(x:UInt8):crcL (l++[x])=zqK (crcL l) x:=by simp[crcL]
theorem zgI(l:List UInt8):∀c,c<4294967296→l.foldl zqK c<4294967296:=by
 induction l with
 | nil=>intro c h;exact h
 | cons x l ih=>intro c h;exact ih _ (zpA c x h)
theorem zib(l:List UInt8):crcL l<4294967296:=zgI l _ (by omega)
def BR(w:World)(v:Value)(l:List UInt8):Prop :=
 ∃a cap,v = .slice a l.length cap∧l.length≤cap∧cap≤maxLen∧∀i c,l[i]?=some c→∃g o,a=some ⟨g,o,none⟩∧w.cell? ⟨g,o+i,none⟩=some (.int .u8 (c.toNat:Int))
theorem OB.br{w:World}{v:Value}{l:List UInt8}(h:OB w v l):BR w v l:=by
 obtain⟨a,cap,rfl,h1,h2,h3⟩:=zj h;refine⟨a,cap,rfl,h1,h2,fun i c hc=>?_⟩;have hi:i<l.length:=(List.getElem?_eq_some_iff.1 hc).1;obtain⟨g,rfl⟩:=h3 (by omega);refine⟨g,0,rfl,?_⟩;have:=h.cells (g:=g) rfl i (.int .u8 (c.toNat:Int)) (by simp[zO,hc])
 rwa [addr_add]at this
def Tab(w:World):Prop:=∀i,i<16→w.cell? ⟨1,i,none⟩=some (.int .u32 (ct i:Int))
theorem Tab.mod{S:Nat→Prop}{w w':World}(h:Tab w)(m:Mod S w w')(hs:¬S 1):Tab w':=fun i hi=>m.cell (a:=⟨1,i,none⟩) hs (h i hi)
theorem Tab.lt{w:World}(h:Tab w):1<w.heap.size:=zk (h 0 (by omega))
theorem zd4(l:List UInt8)(k:Nat)(c:UInt8)(h:l[k]?=some c):l.take (k+1)=l.take k++[c]:=by
 rw[List.take_add_one,h];rfl
theorem zic(v:Value)(l:List UInt8)(w:World)(h:BR w v l)(r:Tab w) :
  Calls Tryz.prog 125 #[v] w fun e w'=>e = .returned (.int .u32 (crc l:Int))∧w=w':=by
 obtain⟨a,cap,rfl,h1,h2,h3⟩:=h;unfold maxLen at h2;go_enter Tryz.func125,Tryz.ntmps125;go_wp2_with fail
 go_loop [3,8] (fun c i=>∃k:Nat,k≤l.length∧i = .int .i64 k∧c = .int .u32 (crcL (l.take k):Int)) (fun _ i=>l.length-(intOf i).toNat)
 case atStart=>exact⟨0,Nat.zero_le _,rfl,rfl⟩
 case round =>
  obtain⟨k,hk,rfl,rfl⟩:=hrel;by_cases s:k<l.length
  ·obtain⟨c,hc⟩:∃c,l[k]?=some c:=⟨l[k],List.getElem?_eq_getElem s⟩;obtain⟨g,o,rfl,f⟩:=h3 k c hc;have B:=zb (congrArg crcL (zd4 l k c hc));obtain⟨x,p⟩:=nm (crcL (l.take k));have j:=zib (l.take k);rw[p]at j;have t:Hid (crcL (l.take (k+1))=zqK x c):=by
    show _=_;rw[B.out,zlj,p]
   rw[p];have u:=c.toNat_lt;obtain⟨d,hd⟩:=nm c.toNat;rw[hd]at f u;have e1:=zf1 x d j (by omega);have q:=zli x c j;rw[hd]at q;obtain⟨y,m⟩:=nm (x ^^^ d);rw[m]at e1 q;have e2:=zgH y q;have t1:=r (y % 16) (by omega);have C:=zf1 (y / 16) (ct (y % 16)) (by omega) (zpz _);have D:=zlh y q;obtain⟨z,b⟩:=nm (nib y);rw[show(y / 16 ^^^ ct (y % 16))=z from b]at C;rw[b]at D;have e4:=zgH z D;have t2:=r (z % 16) (by omega);have e5:=zf1 (z / 16) (ct (z % 16)) (by omega) (zpz _);have A:Hid (zqK x c=(z / 16 ^^^ ct (z % 16))):=by
    show nib (nib (x ^^^ c.toNat))=_;rw[hd,m,b];rfl
   rw[show((y / 16:Nat):Int)=(y:Int) / 16 by omega]at C;rw[show((z / 16:Nat):Int)=(z:Int) / 16 by omega]at e5;clear B p hd m b h3 r hc;go_wp2_with fail
   go_round
   case rel=>exact⟨k+1,by omega,by go_num,by rw[t.out,A.out]⟩
   case measure=>simp[intOf];omega
  ·have n:l.take k=l:=List.take_of_length_le (by omega);rw[n];have HE:Hid (bits .xor .u32 IntKind.u32.max (crcL l:Int)=(crc l:Int)):=zf1 4294967295 (crcL l) (by omega) (zib l);clear n;go_wp2_with fail;go_ret;exact⟨by rw[HE.out];rfl,rfl⟩
theorem zjn(l:List UInt8):crc l<4294967296:=Nat.xor_lt_two_pow (n:=32) (by omega) (zib l)
def zla(s:Nat):List UInt8:=[UInt8.ofNat (s / 16777216),UInt8.ofNat (s / 65536),UInt8.ofNat (s / 256),UInt8.ofNat s]
theorem znB(v:Value)(l:List UInt8)(w:World)(h:OB w v l)(hl:l.length≤70368744177664)(c:Tab w) :
  Calls Tryz.prog 86 #[v] w fun e w'=>∃v',e = .returned v'∧App w v l (zla (crc l)) v' w':=by
 have b:=zic v l w h.br c;have hc:=zjn l;obtain⟨s,hs⟩:=nm (crc l);rw[hs]at b hc;rw[hs];obtain⟨v',w',hr,happ⟩:=zdO w v l (zla s) #[.int .u8 ((s:Int) / 16777216),.int .u8 ((s:Int) / 65536 % 256),.int .u8 ((s:Int) / 256 % 256),.int .u8 ((s:Int) % 256)] 4 h (by
  simp only[zla,zO,List.map_cons,List.map_nil,zf0];simp;omega) rfl (by omega)
 obtain⟨a,cap,rfl,_⟩:=zj h;have H:=zb happ;clear happ hs c;go_enter Tryz.func86,Tryz.ntmps86;go_wp2_with (first|(go_at_call 125;refine b.mono ?_;rintro e w' ⟨rfl,rfl⟩)|(at_builtin;refine zm rfl _ _ _ _ rfl _ _ _ rfl rfl hr ?_));go_ret;exact⟨_,rfl,H.out⟩
theorem zpB(w:World)(v:Value)(l:List UInt8)(s:ByteArray)(h:OB w v l)(hl:l.length+s.size≤140737488355328) :
  ∃v' w',(∀ty,(Builtin.append_ #[60,9] ty #[v,.string s]).run Tryz.prog w = .ok v' w')∧App w v l s.data.toList v' w':=by
 obtain⟨i,hi,hz,a,b⟩:=info_parts zfZ;obtain⟨v',w',h1,h2,h3,h4,h5⟩:=zc2 (P:=Tryz.prog) w 60 9 5 i Tryz.underlying60 Tryz.underlying9 hi hz a b v l.length (zO l) h s (by unfold maxLen;omega) (by omega);refine⟨v',w',h1,⟨?_,h5,h3,h4⟩⟩;unfold OB;rw[List.length_append,zbg];exact h2
def zq(l:List UInt8):ByteArray:=⟨l.toArray⟩
theorem zJ(l:List UInt8):(zq l).size=l.length:=by simp[zq,ByteArray.size]
theorem zaK(l:List UInt8):(zq l).data.toList=l:=by simp[zq]
theorem zs(n:Nat):(zL n).length≤8:=by
 unfold zL;split
 ·simp
 ·split
  ·simp
  ·split<;>simp
theorem zf2(v:Value)(l s:List UInt8)(w:World)(h:OB w v l)(hl:l.length≤70368744177664)(hs:s.length≤35184372088832) :
  Calls Tryz.prog 181 #[v,.string (zq s)] w fun e w'=>∃v',e = .returned v'∧App w v l (zL s.length++s) v' w':=by
 have hv:=zY v l s.length w h hl (by omega);have hz:=zJ s;have hzm:(zq s).size≤9223372036854775807:=by omega
 obtain⟨a,cap,rfl,_⟩:=zj h;go_enter Tryz.func181,Tryz.ntmps181;have hvl:(zL s.length).length≤8:=zs _;go_wp2_with (first|(go_at_call 83;refine hv.mono ?_;rintro e w1 ⟨v1,rfl,b⟩;obtain⟨v2,w2,d,c⟩:=zpB w1 v1 _ (zq s) b.own (by rw[List.length_append];omega);rw[zaK]at c;have H:=zb (b.trans c);clear b c)|(at_builtin;refine zm rfl _ _ _ _ rfl _ _ _ rfl rfl d ?_));go_ret;exact⟨_,rfl,H.out⟩
def TestAt(F:FuncId)(a:Array Value)(n:Nat)(p:Nat→Bool)(w:World):Prop :=
 ∀i k,i<n→Calls Tryz.prog F (#[.int .i64 (i:Int)]++a) (w.drewN k) fun e w'=>e = .returned (.bool (p i))∧∃k,w'=w.drewN k
def zjo(F:FuncId):Prop:=∀args w,(callFunc F args).run Tryz.prog w = .ok (.enter F args) w
def zag(n:Nat)(p:Nat→Bool)(m:Nat):Prop:=m≤n∧(0<m→p (m-1)=false)∧(m<n→p m=true)
theorem zlm(n:Nat)(F:FuncId)(c:Array Value)(p:Nat→Bool)(w:World)(hn:n≤4611686018427387904)(hF:zjo F)(hp:TestAt F c n p w) :
  Calls Tryz.prog 152 #[.int .i64 n,.func (.func F) #[] c] w fun e w'=>∃m:Nat,zag n p m∧e = .returned (.int .i64 m)∧∃k,w'=w.drewN k:=by
 go_enter Tryz.func152,Tryz.ntmps152;go_wp2_with fail
 go_loopw [5,6] (fun i j w'=>∃a b:Nat,a≤b∧b≤n∧i = .int .i64 a∧j = .int .i64 b∧(0<a→p (a-1)=false)∧(b<n→p b=true)∧∃k,w'=w.drewN k) (fun i j _=>((intOf j)-(intOf i)).toNat)
 case atStart=>exact⟨0,n,by omega,by omega,rfl,rfl,by omega,by omega,0,rfl⟩
 case round =>
  obtain⟨a,b,hab,hbn,rfl,rfl,h1,h2,k,rfl⟩:=hrel;by_cases hlt:a<b
  ·have e1:(a+b) / 2<n:=by omega
   have H:=hp ((a+b) / 2) k e1;have e2:0≤(a:Int)+b:=by omega
   have f:(((a+b) / 2:Nat):Int)=((a:Int)+b) / 2:=by omega
   rw[f]at H;have hF':∀args w,(callFunc F args).run Tryz.prog w = .ok (.enter F args) w:=hF;clear f;cases hpv:p ((a+b) / 2)
   ·rw[hpv]at H;have d:Hid (p ((a+b) / 2)=false):=hpv;clear hpv;go_wp2_with (refine H.mono ?_;rintro e w' ⟨rfl,k',rfl⟩);go_roundw
    case rel=>exact⟨(a+b) / 2+1,b,by omega,by omega,by go_num,rfl,fun _=>d,h2,k',rfl⟩
    case measure=>simp[intOf];omega
   ·rw[hpv]at H;have d:Hid (p ((a+b) / 2)=true):=hpv;clear hpv;go_wp2_with (refine H.mono ?_;rintro e w' ⟨rfl,k',rfl⟩);go_roundw
    case rel=>exact⟨a,(a+b) / 2,by omega,by omega,rfl,by go_num,h1,fun _=>d,k',rfl⟩
    case measure=>simp[intOf];omega
  ·go_wp2_with fail;go_ret;exact⟨a,⟨by omega,h1,fun h=>by have e:a=b:=(by omega);rw[e];exact h2 (by omega)⟩,rfl,k,rfl⟩
structure zbz(w:World)(b o:Nat)(v:Value)(rs:zD)(fl most:Nat):Prop where
 cl:w.cell? ⟨b,o,none⟩=some v
 cf:w.cell? ⟨b,o+1,none⟩=some (.int .u64 (fl:Int))
 cm:w.cell? ⟨b,o+2,none⟩=some (.int .i64 (most:Int))
 own:w.ownsRow 0 214 2 v rs.length (zn rs)
 len:rs.length≤1099511627776
 fz:∀j,w.frozen? ⟨b,j,none⟩=false
theorem zbz.mod{S:Nat→Prop}{w w':World}{b o:Nat}{v:Value}{rs:zD}{fl most:Nat}(h:zbz w b o v rs fl most)(m:Mod S w w')(hb:¬S b)(hs:∀g,v.ownBlock=some g→¬S g):zbz w' b o v rs fl most :=
 ⟨m.cell hb h.cl,m.cell hb h.cf,m.cell hb h.cm,m.owns h.own hs,h.len,fun j=>by rw[World.frozen?_of_block (w:=w) (m.block b (zk h.cl) hb)];exact h.fz j⟩
def zpD(rs:zD)(n:Nat)(i:Nat):Bool:=decide (n≤hiAt rs i)
theorem znE(rs:zD)(fl most i b o c d n:Nat)(v:Value)(w:World)
  (hs:w.cell? ⟨c,0,none⟩=some (.pointer (some ⟨b,o,none⟩))) (hn:w.cell? ⟨d,0,none⟩=some (.int .u64 (n:Int)))
  (h:zbz w b o v rs fl most) (hi:i<rs.length) :
  Calls Tryz.prog 153 #[.int .i64 i,.pointer (some ⟨c,0,none⟩),.pointer (some ⟨d,0,none⟩)] w fun e w'=>e = .returned (.bool (zpD rs n i))∧∃k,w'=w.drewN k:=by
 obtain⟨a,cap,rfl,h1,h2,h3⟩:=zj h.own;obtain⟨g,rfl⟩:=h3 (by omega);have hl:=h.cl;have hr:=(zaI h.own i hi).2;have hi1:(i:Int)<rs.length:=by omega
 have hi0:0≤(i:Int):=by omega
 unfold maxLen at h2;clear h3;go_enter Tryz.func153,Tryz.ntmps153;go_wp2_with fail;go_quiet (fail);go_wp2_with fail;go_ret;exact⟨rfl,_,rfl⟩
def zpE(rs:zD)(fl n:Nat):Bool:=decide (n<fl)||rs.any fun r=>decide (r.1≤n)&&decide (n≤r.2)
theorem zie:zjo 153:=fun args w=>zdn Tryz.func153 (by kernel_rfl) rfl args w
theorem znF(rs:zD)(fl most b o n:Nat)(v:Value)(w:World)(h:zbz w b o v rs fl most) :
  Calls Tryz.prog 87 #[.pointer (some ⟨b,o,none⟩),.int .u64 n] w fun e w'=>∃m,zag rs.length (zpD rs n) m∧e = .returned (.bool (decide (n<fl)||decide (m<rs.length)&&decide (loAt rs m≤n)))∧Below w.heap.size w w':=by
 have hbw:=zk h.cl;have f:=h.len;obtain⟨a,cap,hv,h1,h2,h3⟩:=zj h.own;unfold maxLen at h2;have c:=zlm rs.length 153 #[.pointer (some ⟨w.heap.size,0,none⟩),.pointer (some ⟨w.heap.size+1,0,none⟩)] (zpD rs n) ((w.alloc (.cells #[.pointer (some ⟨b,o,none⟩)] 114)).alloc (.cells #[.int .u64 n] 43)) (by omega) zie (by
  intro i k hi;have d:Mod NoB w (((w.alloc (.cells #[.pointer (some ⟨b,o,none⟩)] 114)).alloc (.cells #[.int .u64 n] 43)).drewN k):=(((Mod.refl _ _).alloc _).alloc _).drewN k;exact(znE rs fl most i b o w.heap.size (w.heap.size+1) n v _ (by simp) (by simp) (h.mod d (fun x=>x) (fun _ _ x=>x)) hi).mono fun e w' ⟨he,k',hw⟩=>⟨he,k+k',by rw[hw,World.drewN_drewN]⟩)
 have hl:=h.cl;have hf:=h.cf;subst hv;go_enter Tryz.func87,Tryz.ntmps87;go_wp2_with (go_at_call 152;refine c.mono ?_;rintro e w' ⟨m,d,rfl,k,rfl⟩);have fin:∀j,Below w.heap.size w ((((w.alloc (.cells #[.pointer (some ⟨b,o,none⟩)] 114)).alloc (.cells #[.int .u64 n] 43)).drewN k).drewN j):=fun j=>(((((Mod.refl NoB _).alloc _).alloc _).drewN k).drewN j).below
 by_cases c1:n<fl
 ·have d1:decide ((n:Int)<fl)=true:=by simp;omega
  go_quiet (fail);go_wp2_with fail;go_ret;exact⟨m,d,by simp[c1],fin _⟩
 ·have d1:decide ((n:Int)<fl)=false:=by simp;omega
  by_cases c2:m<rs.length
  ·have d2:decide ((m:Int)<rs.length)=true:=by simp;omega
   obtain⟨g,rfl⟩:=h3 (by omega);have hr:=(zaI h.own m c2).1;have hg:=zk hr;clear h3 c;go_quiet (fail);go_wp2_with fail;go_ret;exact⟨m,d,by simp[c1,c2],fin _⟩
  ·have d2:decide ((m:Int)<rs.length)=false:=by simp;omega
   clear h3 c;go_quiet (fail);go_wp2_with fail;go_ret;exact⟨m,d,by simp[c1,c2],fin _⟩
theorem zeD(most:Int)(w:World)(hm:most≤9223372036854775807)(hl : -9223372036854775808≤most) :
  Calls Tryz.prog 102 #[.int .i64 most] w fun e w'=>e = .returned (.pointer (some ⟨w.heap.size,0,none⟩))∧w'=w.alloc (.cells #[.slice none 0 0,.int .u64 0,.int .i64 (max most 1)] 116):=by
 go_enter Tryz.func102,Tryz.ntmps102;go_wp2_with fail
 ·go_ret;exact⟨rfl,by rw[show max most 1=1 by omega]⟩
 ·go_ret;exact⟨rfl,by rw[show max most 1=most by omega]⟩
end Go.Proofs.YtddfdpbaiedcjaaGreatDoor
