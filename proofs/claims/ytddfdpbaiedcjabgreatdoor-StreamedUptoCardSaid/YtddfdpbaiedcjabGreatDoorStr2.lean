/- Streamed. Part 2 of 17. -/
import Derived.Test.YtddfdpbaiedcjabGreatDoorRows
import Derived.BigQuiet
import Derived.WalkSpells
import Derived.Laws.CopyOwn
import Derived.Lib.Overlaps
import Derived.Deep.RegionHeld3
import Derived.Deep.DeepCutAuto
import Derived.Test.YtddfdpbaiedcjabGreatDoorStr1
import Derived.Lib.AppendStr
import Derived.Lib.ConvBytes
set_option maxRecDepth 100000
set_option maxHeartbeats 16000000
set_option linter.all false
namespace Go.Proofs.YtddfdpbaiedcjabGreatDoor
section
open Go.RowKit Go.Proofs.Tryz
inductive rI|a
abbrev rH:=rI.a
instance:CoeFun rI (λ_=>FuncId->Array rU->rT->(Ending->rT->Prop)->Prop):=⟨λ_=>Calls prog⟩
def zb{p:Prop}(h:p):AA p:=h
def PM:=And.intro @List.size_toArray.{0} (And.intro @List.length_cons.{0} (And.intro @List.length_nil.{0} (And.intro @ Array.replicate_succ.{0} (And.intro @ Array.replicate_zero.{0} (And.intro @List.push_toArray.{0} (And.intro @List.append_toArray.{0} (And.intro @List.nil_append.{0} @List.cons_append.{0})))))))
abbrev zE:=List<|Nat×Nat
def DE(rs:zE)(i:Nat):Nat:=(rs.getD i (0,0)).1
def DB(rs:zE)(i:Nat):Nat:=(rs.getD i (0,0)).2
def zw:zE->List rU
 | []=>[]
 | r::rs=>.int .u64 r.1 :: .int .u64 r.2::zw rs
theorem zX(rs:zE):(zw rs).length=rs.length*2:=by
 induction rs with
 | nil=>rfl
 | cons r rs ih=>simp only[zw,Aa,ih];omega
theorem JK(a b:zE):zw (a++b)=zw a++zw b:=by
 induction a with
 | nil=>rfl
 | cons r rs ih=>simp[zw,ih]
theorem dy(rs:zE):∀i,i<rs.length->(zw rs)[i*2]?=some (.int .u64 (DE rs i:Int)):=by
 induction rs with
 | nil=>intro i h;simp at h
 | cons r rs ih =>
  intro i h;cases i with
  | zero=>rfl
  | succ i =>
   have e:(i+1)*2=i*2+1+1:=I;rw[e];simp only[zw,Cr,DE,List.getD_cons_succ];exact ih i<|qp h
theorem dx(rs:zE):∀i,i<rs.length->(zw rs)[i*2+1]?=some (.int .u64 (DB rs i:Int)):=by
 induction rs with
 | nil=>intro i h;simp at h
 | cons r rs ih =>
  intro i h;cases i with
  | zero=>rfl
  | succ i =>
   have e:(i+1)*2+1=i*2+1+1+1:=I;rw[e];simp only[zw,Cr,DB,List.getD_cons_succ];exact ih i<|qp h
theorem Oo(rs:zE):∀k,(zw rs).take (k*2)=zw (rs.take k):=by
 induction rs with
 | nil=>intro k;simp[zw]
 | cons r rs ih =>
  intro k;cases k with
  | zero=>simp[zw]
  | succ k =>
   have e:(k+1)*2=k*2+1+1:=I;rw[e];simp[zw,ih]
theorem Us(rs:zE):∀k,(zw rs).drop (k*2)=zw (rs.drop k):=by
 induction rs with
 | nil=>intro k;simp[zw]
 | cons r rs ih =>
  intro k;cases k with
  | zero=>simp[zw]
  | succ k =>
   have e:(k+1)*2=k*2+1+1:=I;rw[e];simp[zw,ih]
variable{base cap e g n:Nat}{rs:zE}{w:rT}
def Hp(h:w.ownsRow base e 2 (.slice g n cap) rs.length (zw rs)):∀i,i<rs.length->w ⟨g,i*2,none⟩=some (.int .u64 (DE rs i:Int))/\w ⟨g,i*2+1,none⟩=some (.int .u64 (DB rs i:Int)):=by
 intro i e;have m:=h.cells (g:=g) rfl;have a:∀j,(⟨g,0,none⟩:Addr).add j=⟨g,j,none⟩:=λj=>by unfold Addr.add;split<;>simp_all
 exact⟨by rw[<-a];exact m _ _<|dy rs i e,by rw[<-a];exact m _ _<|dx rs i e⟩
variable{sz:Nat}{v:rU}{xs:qt}
def zi(h:w.ownsRow base e sz v n xs):∃a m,v=.slice a n m/\n<=m/\m<=maxLen/\(0<n->∃g,a=some ⟨g,0,none⟩):=by
 rcases h.2 with⟨rfl,rfl⟩|⟨g,m,a,rfl,_,_,q,u,_⟩
 .exact⟨none,0,rfl,AI _,AK _,λh=>absurd h<|Nat.lt_irrefl _⟩
 exact⟨_,m,rfl,q,u,λ_=>⟨g,rfl⟩⟩
structure C9(S:Nat->Prop)(w w':rT):Prop where
 os:w'.os=w.os
 tape:w'.tape=w.tape
 output:w'.output=w.output
 size:w.heap.size<=w'.heap.size
 block:∀k,k<w.heap.size->¬S k->w'.heap[k]?=w.heap[k]?
def DA:Nat->Prop:=λ_=>False
section
variable {S:Nat->Prop} {w w' w'':rT}
def C9.refl(S:Nat->Prop)(w:rT):C9 S w w:=⟨rfl,rfl,rfl,AI _,λ_ _ _=>rfl⟩
def rS{S:Nat->Prop}{w:rT}:C9 S w w:=C9.refl _ _
def C9.trans(h:C9 S w w')(k:C9 S w' w''):C9 S w w'' :=
 ⟨k.os.trans h.os,k.tape.trans h.tape,k.output.trans h.output,AR h.size k.size,λi a e=>(k.block i (Au a h.size) e).trans<|h.block i a e⟩
def C9.then{S':Nat->Prop}(h:C9 S w w')(k:C9 S' w' w'')(g:∀i,S' i->S i\/w.heap.size<=i):C9 S w w'' :=
 ⟨k.os.trans h.os,k.tape.trans h.tape,k.output.trans h.output,AR h.size k.size,
  λi a e=>(k.block i (Au a h.size)<|λx=>(g i x).elim e<|λy=>I).trans<|h.block i a e⟩
def C9.mono{S':Nat->Prop}(h:C9 S w w')(a:∀i,S i->S' i\/w.heap.size<=i):C9 S' w w' :=
 ⟨h.os,h.tape,h.output,h.size,λi e g=>h.block i e<|λx=>(a i x).elim g<|λy=>I⟩
def C9.drewN(h:C9 S w w')(n:Nat):C9 S w (w'.drewN n):=⟨h.os,h.tape,h.output,h.size,h.block⟩
def C9.drew(h:C9 S w w'):C9 S w w'.drew:=⟨h.os,h.tape,h.output,h.size,h.block⟩
def C9.alloc(h:C9 S w w')(o:Obj):C9 S w (w'.alloc o) :=
 ⟨h.os,h.tape,h.output,AR h.size nl,λi a e=>(Below.heap_alloc w' o i<|Au a h.size).trans<|h.block i a e⟩
def AB{W W1:rT}{o:Obj}(h:W.alloc o=W1):C9 DA W W1:=h ▸ rS.alloc _
def AC{W W1:rT}{o:Obj}(h:W.alloc o=W1):W1.heap.size=W.heap.size+1:=by rw[<-h];simp
def AD{W W1:rT}{o:Obj}(h:W.alloc o=W1):W1.heap[W.heap.size]?=some o:=by rw[<-h];exact heap_alloc_new W _
def C9.setCell(h:C9 S w w'){p:Addr}(a:S p.block\/w.heap.size<=p.block)(u:rU):C9 S w (w'.setCell p u) :=
 ⟨h.os,h.tape,h.output,by simpa [World.setCell]using h.size,λi g e=>(Below.heap_setCell w' p u i (by
  rintro rfl;rcases a with a|a
  .exact e a
  omega)).trans (h.block i g e)⟩
def C9.grown{row:Option Nat}(h:C9 S w w')(a:w'.grownBy w'' row)(n:∀k,row=some k->S k\/w.heap.size<=k):C9 S w w'' :=
 ⟨a.os.trans h.os,a.tape.trans h.tape,a.output.trans h.output,AR h.size a.size,
  λi g m=>(a.block i (Au g h.size) (λe=>by
   rcases n i e.symm with x|x
   .exact m x
   omega)).trans (h.block i g m)⟩
def C9.oU(h:Below w.heap.size w w'):C9 S w w':=⟨h.os,h.tape,h.output,h.size,λi a _=>h.block i a⟩
def C9.below(h:C9 DA w w'):Below w.heap.size w w':=⟨h.os,h.tape,h.output,h.size,λi a=>h.block i a rP⟩
def C9.cell(h:C9 S w w'){a:Addr}(g:¬S a.block)(e:w a=some v):w' a=some v :=
 (World.cell?_of_block<|h.block a.block (World.block_lt_of_cell? w a e) g).trans e
variable{k:Nat}
def C9.obj(h:C9 S w w'){o:Obj}(e:¬S k)(a:w.heap[k]?=some o):w'.heap[k]?=some o :=
 (h.block k (AJ.1 a).1 e).trans a
def C9.owns(h:C9 S w w')(q:w.ownsRow base e sz v n xs)(u:∀g,v.ownBlock=some g->¬S g):w'.ownsRow base e sz v n xs:=by
 refine⟨q.1,?_⟩;rcases q.2 with y|⟨g,a,m,rfl,hb,z,rest⟩
 .exact .inl y
 exact .inr ⟨g,a,m,rfl,hb,h.obj (u g rfl) z,rest⟩
end
variable{b o:Nat}
def zo(h:w (b,o)=some v):b<w.heap.size:=World.block_lt_of_cell? w _ h
variable{cs:Array rU}{k t:Nat}
def za{fz:Nat×Nat}(h:w.heap[k]?=some (.cells cs t fz))(a:cs[o]?=some v):w (k,o)=some v:=by
 unfold World.cell?;simp only[h];simpa using a
def zd(h:w.heap[k]?=some (.cells cs t (0,0))):w.frozen? ⟨k,o,none⟩=false:=by
 unfold World.frozen?;simp only[h];simp
variable{j:Nat}
def On{R:Nat}{x:rU}{a:Addr}(h:w a=some v)(e:¬a.block=R):(w.setCell (R,j) x) a=some v :=
 ((C9.refl (λk=>k=R) w).setCell (p:=(R,j)) rO x).cell e h
def LY{R:Nat}{x:rU}{a:Addr}(h:w a=some v)(e:¬a.block=R):(w.setCell (R,j) x).drew a=some v:=On h e
def LX{R:Nat}{x y:rU}{a:Addr}(h:w a=some v)(e:¬a.block=R):((w.setCell (R,j) x).setCell (R,k) y).drew a=some v:=On (On h e) e
variable{w':rT}
def My(h:w'.heap[b]?=w.heap[b]?)(o:Nat)(v:rU):(w'.setCell (b,o) v).heap[b]?=(w.setCell (b,o) v).heap[b]?:=by
 simp only[World.setCell,B4,h]
variable{P:Program}
def OR {f : FuncId} {e : Func} {c : Code} (g : P.funcs[f]? = some e) (a : (e.name == "runtime.NumGoroutine") = false) (hb : e.body = some c) (args : Array rU) (w : rT):(callFunc f args).run P w=.ok (.enter f args) w:=by
 have h : e.name ≠ "runtime.NumGoroutine" := qp a
 simp[callFunc,g,h,hb]
def LI(F:FuncId)(a:Array rU)(n:Nat)(p:Nat->Bool)(w:rT):Prop :=
 ∀i k,i<n->rH F (#[.int .i64 i]++a) (w.drewN k) λe w'=>e=.returned (.bool<|p i)/\∃k,w'=w.drewN k
def Nw(F:FuncId):Prop:=∀a w,(callFunc F a).run prog w=.ok (.enter F a) w
def zU(n:Nat)(p:Nat->Bool)(m:Nat):Prop:=m<=n/\(0<m->p (m-1)=false)/\(m<n->p m=true)
def PV(n:Nat)(F:FuncId)(g:Array rU)(p:Nat->Bool)(w:rT)(B:n<=4611686018427387904)(z:Nw F)(A:LI F g n p w):rH 75 #[[n],.func (.func F) #[] g] w λe w'=>∃m:Nat,zU n p m/\e=.returned (.int .i64 m)/\∃k,w'=w.drewN k:=by
 go_enter func75,ntmps75;go_wp2_with fail
 go_loopw [5,6] (λi j w'=>∃a b:Nat,a<=b/\b<=n/\i=.int .i64 a/\j=.int .i64 b/\(0<a->p (a-1)=false)/\(b<n->p b=true)/\∃k,w'=w.drewN k) (λi j _=>((intOf j)-(intOf i)).toNat)
 case atStart=>exact⟨0,n,I,I,rfl,rfl,I,I,0,rfl⟩
 case round =>
  obtain⟨a,b,g,m,rfl,rfl,u,y,k,rfl⟩:=hrel;by_cases g:a<b
  .have g:(a+b) / 2<n:=I;have H:=A ((a+b) / 2) k g;have g:0<=(a:Int)+b:=I;have m:(((a+b) / 2:Nat):Int)=((a:Int)+b) / 2:=I;rw[m]at H;have n:∀g w,(callFunc F g).run prog w=.ok (.enter F g) w:=z;clear m;cases hpv:p ((a+b) / 2)
   .rw[hpv]at H;have h:AA (p ((a+b) / 2)=false):=hpv;clear hpv;go_wp2_with (refine H.mono ?_;rintro e w' ⟨rfl,q,rfl⟩);go_roundw
    case rel=>exact⟨(a+b) / 2+1,b,I,I,by go_num,rfl,λ_=>h,y,q,rfl⟩
    simp[intOf];omega
   rw[hpv]at H;have h:AA (p ((a+b) / 2)=true):=hpv;clear hpv;go_wp2_with (refine H.mono ?_;rintro e w' ⟨rfl,q,rfl⟩);go_roundw
   case rel=>exact⟨a,(a+b) / 2,I,I,rfl,by go_num,u,λ_=>h,q,rfl⟩
   simp[intOf];omega
  go_wp2;go_ret;exact⟨a,⟨I,u,λh=>by have e:a=b:=I;rw[e];exact y I⟩,rfl,k,rfl⟩
structure Ed(w:rT)(b o:Nat)(v:rU)(rs:zE)(fl most:Nat):Prop where
 cl:w (b,o)=some v
 cf:w (b,o+1)=some (.int .u64 fl)
 cm:w (b,o+2)=some (.int .i64 most)
 own:w.ownsRow 0 110 2 v rs.length (zw rs)
 len:rs.length<=1099511627776
 fz:∀j,w.frozen? ⟨b,j,none⟩=false
variable{S:Nat->Prop}{fl most:Nat}
def Ed.mod(h:Ed w b o v rs fl most)(m:C9 S w w')(hb:¬S b)(a:∀g,v.ownBlock=some g->¬S g):Ed w' b o v rs fl most :=
 ⟨m.cell hb h.cl,m.cell hb h.cf,m.cell hb h.cm,m.owns h.own a,h.len,λj=>by rw[World.frozen?_of_block (w:=w) (m.block b (zo h.cl) hb)];exact h.fz j⟩
def Je(rs:zE)(n:Nat)(i:Nat):Bool:=decide (n<=DB rs i)
def cE(rs:zE)(q a i b o e g n:Nat)(v:rU)(w:rT)
  (y:w e=some (.pointer (b,o))) (z:w g=some (.int .u64 n))
  (h:Ed w b o v rs q a) (hi:i<rs.length) :
  rH 80 #[[i],(e,0),(g,0)] w λe w'=>e=.returned (.bool<|Je rs n i)/\∃k,w'=w.drewN k:=by
 obtain⟨a,e,rfl,g,u,m⟩:=zi h.own;obtain⟨g,rfl⟩:=m I;have a:=h.cl;have a:=(Hp h.own i hi).2;have a:(i:Int)<rs.length:=I;have a:0<=(i:Int):=I;unfold maxLen at u;clear m;go_enter func80,ntmps80;go_wp2;go_quiet (fail);go_wp2;go_ret;exact⟨rfl,_,rfl⟩
def G9(rs:zE)(a n:Nat):Bool:=decide (n<a)||rs.any λr=>decide (r.1<=n)&&decide (n<=r.2)
def iZ:Nw 80:=λa w=>OR func80 kw rfl a w
def cD(rs:zE)(u g b o n:Nat)(v:rU)(w:rT)(h:Ed w b o v rs u g):rH 40 #[(b,o),n] w λe w'=>∃m,zU rs.length (Je rs n) m/\e=.returned (.bool (decide (n<u)||decide (m<rs.length)&&decide (DE rs m<=n)))/\Below w.heap.size w w':=by
 have a:=zo h.cl;have a:=h.len;obtain⟨a,A,B,E,C,z⟩:=zi h.own;unfold maxLen at C;have q:=PV rs.length 80 #[.pointer w,.pointer (U (w.heap.size+1) 0)] (Je rs n) ((w.alloc<|.cells #[(b,o)] 101).alloc<|.cells #[n] 34) I iZ (by
  intro i k a;have y:C9 DA w (((w.alloc<|.cells #[(b,o)] 101).alloc<|.cells #[n] 34).drewN k):=((rS.alloc _).alloc _).drewN k;exact(cE rs u g i b o w.heap.size (w.heap.size+1) n v _ nl nl (h.mod y rP<|λ_ _ x=>x) a).mono λe w' ⟨he,k',hw⟩=>⟨he,k+k',by rw[hw,World.drewN_drewN]⟩)
 have a:=h.cl;have a:=h.cf;subst B;go_enter func40,ntmps40;go_wp2_with (go_at_call 75;refine q.mono ?_;rintro e w' ⟨m,y,rfl,k,rfl⟩);have fin:∀j,Below w.heap.size w ((((w.alloc<|.cells #[(b,o)] 101).alloc<|.cells #[n] 34).drewN k).drewN j):=λj=>(((((C9.refl DA _).alloc _).alloc _).drewN k).drewN j).below
 by_cases c1:n<u
 .have a:decide ((n:Int)<u)=true:=ol;go_quiet (fail);go_wp2;go_ret;exact⟨m,y,by simp[c1],fin _⟩
 have a:decide ((n:Int)<u)=false:=ol;by_cases c2:m<rs.length
 .have D:decide ((m:Int)<rs.length)=true:=ol;obtain⟨g,rfl⟩:=z I;have a:=(Hp h.own m c2).1;have e:=zo a;clear z q;go_quiet (fail);go_wp2;go_ret;exact⟨m,y,by simp[c1,c2],fin _⟩
 have D:decide ((m:Int)<rs.length)=false:=ol;clear z q;go_quiet (fail);go_wp2;go_ret;exact⟨m,y,by simp[c1,c2],fin _⟩
def Ur(a:Int)(w:rT)(e:a<=9223372036854775807)(g : -9223372036854775808<=a):rH 37 #[[a]] w λe w'=>e=.returned (.pointer w)/\w'=w.alloc (.cells #[rV,.int .u64 0,.int .i64 (max a 1)] 138):=by
 go_enter func37,ntmps37;go_wp2_with fail
 .go_ret;exact⟨rfl,by rw[(I:max a 1=1)]⟩
 go_ret;exact⟨rfl,by rw[(I:max a 1=a)]⟩
section
variable {P:Program}
def EU(g o j:Nat):(⟨g,o,none⟩:Addr).add j=⟨g,o+j,none⟩:=by unfold Addr.add;split<;>simp_all
theorem Uo(a:(P.info? e).map (·.size)=some k)(w:rT):(sizeOf e).run P w=.ok k w:=by
 cases hq:P.info? e with
 | none=>simp[hq]at a
 | some i=>simp[hq]at a;simp[sizeOf,typeInfo,hq,a]
def T8{a:qt}{fz:Nat×Nat}(h:w.heap[g]?=some (.cells a.toArray t fz))(o n:Nat):∀j v,((a.drop o).take n)[j]?=some v->w ((⟨g,o,none⟩:Addr).add j)=some v:=by
 intro j v e;rw[EU];rw[B2]at e;split at e
 .rw[BM]at e;simpa [World.cell?,h]using e
 cases e
def ME(w:rT)(z B C e k:Nat)(D:P.underlying z=some (.slice e))(E:(P.info? e).map (·.size)=some k)
  (g od y G h m u A n:Nat) (e src:qt) (t K:Nat) (fz:Nat×Nat)
  (L:w.heap[g]?=some (.cells e.toArray t (0,0))) (M:w.heap[h]?=some (.cells src.toArray K fz)) (K:n<=u) (N:n<=y) (O:n=u\/n=y)
  (N:m+n*k<=src.length) (hd:od+n*k<=e.length) (K:∀v∈(src.drop m).take (n*k),v.oneCell'=true) :
  (Builtin.copy_ #[z,B] C #[.slice (g,od) y G,.slice (h,m) u A]).run P w =
   .ok (goInt n) (w.setRow g (splice e od<|(src.drop m).take<|n*k).toArray):=by
 have R:n=Nat.min u y:=by
  show n=min u y;omega
 have a:((src.drop m).take<|n*k).length=n*k:=ol;have X:=run_firstCells_some (P:=P) (w:=w) k n ⟨h,m,none⟩ u A _ a<|T8 M m<|n*k;have q:=run_storeCells_at P g od t ((src.drop m).take<|n*k) 0 e.toArray w L ol K;have Y:=Uo E;subst R;simp only[Bb,a]at q;have e:=q;simp[Builtin.copy_,run_underlying D,Builtin.lenOf,Y,X,q,splice,a];try omega
def ji(z:Array rU)(n:Nat)(e:∀v∈z.toList,v.oneCell'=true):∀v∈(Builtin.zeroCells z n).toList,v.oneCell'=true:=by
 intro v a;simp only[Builtin.zeroCells,Array.toList_map,Ct]at a;obtain⟨i,g,rfl⟩:=a;by_cases a:z.size=0
 .simp[a]at g
 have a:i % z.size<z.size:=Nat.mod_lt _ I;apply e;rw[getElem!_pos z _ a];exact Array.getElem_mem_toList a
theorem MF(w:rT)(T y e:Nat)(z:rU)(k:Nat)(q:P.underlying T=some (.slice e))(A:∀w,(zeroValue e).run P w=.ok z w)(B:z.cells.size=k)
  (e:∀v∈z.cells.toList,v.oneCell'=true) (g o n c:Nat) (a:qt) (t:Nat) (u:w.heap[g]?=some (.cells a.toArray t (0,0))) (hd:o+n*k<=a.length) :
  (Builtin.clear_ #[T] y #[.slice (g,o) n c]).run P w=.ok (.tuple #[]) (w.setRow g (splice a o (Builtin.zeroCells z.cells n).toList).toArray):=by
 have h:(Builtin.zeroCells z.cells n).toList.length=n*k:=by simp[size_zeroCells,B]
 have m:=run_storeCells_at P g o t (Builtin.zeroCells z.cells n).toList 0 a.toArray w u (by rw[h];simpa using hd)<|ji _ _ e;simp only[Bb,h]at m;cases n with
 | zero =>
  have e:(Builtin.zeroCells z.cells 0).toList=[]:=by simp[Builtin.zeroCells]
  have:=setRow_self w g a.toArray t (0,0) u;simp[Builtin.clear_,run_underlying q,e,splice,this]
 | succ n =>
  simp only[Builtin.clear_];simp[run_underlying q,A,m,splice,h]
def Dh(w:rT)(v v':rU):Prop:=∀k,v'.ownBlock=some k->v.ownBlock=some k\/w.heap.size<=k
def Dh.refl(w:rT)(v:rU):Dh w v v:=λ_ h=>.inl h
def zY(w:rT)(t e:Nat)(i:TypeInfo)(z:rU)(size bytes:Nat)(Y:P.underlying t=some (.slice e))(hi:P.info? e=some i)(hz:i.zero=some z)
  (D:i.size=size) (X:i.bytes=bytes) (Z:z.cells.size=size) (u:0<size)
  (v:rU) (n:Nat) (xs:qt) (q:w.ownsRow 0 e size v n xs)
  (a:Addr) (m c:Nat) (h:qt) (K:h.length=m*size) (y:∀j u,h[j]?=some u->w (a.add j)=some u) (h1:∀u∈h,u.oneCell'=true)
  (R:n+m<=maxLen) (A:(n+m)*bytes<=140737488355328) :
  ∃u w',(∀G,(Builtin.append_ #[t,t] G #[v,.slice (some a) m c]).run P w=.ok u w')/\w'.ownsRow 0 e size u (n+m) (xs++h)/\w.grownBy w' v.ownBlock/\Dh w v u:=by
 subst D;subst X;have u:n+m<=9223372036854775807:=by simp only[maxLen]at R;omega
 have B:(xs++h).length=(n+m)*i.size:=by rw[AF,q.1,K,Cy]
 have grown:∀(u:Nat),u<n+m->∀(row:Option Nat),
   (w.drew.alloc<|.cells (xs.toArray++h.toArray++Builtin.zeroCells z.cells (grownCap w (n+m) u e-(n+m))) e).ownsRow 0 e i.size
    (.slice w (n+m)<|grownCap w (n+m) u e) (n+m) (xs++h) /\
   w.grownBy (w.drew.alloc<|.cells (xs.toArray++h.toArray++Builtin.zeroCells z.cells (grownCap w (n+m) u e-(n+m))) e) row:=by
  intro u D row;have D:=grownCap_ge w (n+m) u e;have L:=grownCap_le_maxLen w (n+m) u e R;refine⟨⟨B,.inr ⟨w.heap.size,_,_,rfl,AK _,heap_alloc_new w.drew _,D,L,?_,?_⟩⟩,⟨rfl,rfl,rfl,nl,λk M _=>Below.heap_alloc w.drew _ k M⟩⟩
  .simp only[Cm,BS,size_zeroCells,Z,q.1,K,<-Nat.add_mul];congr 1;omega
  simp only[Cg,BC];rw[<-List.append_assoc,<-B];exact BI
 have E:∀c n v,Dh w v (.slice w n c):=λc n v k M=>by
  simp[Value.ownBlock]at M;omega
 rcases q.2 with⟨rfl,rfl⟩|⟨g,C,N,rfl,aa,hg,u,L,ab,O⟩
 .have hx:=Aj<|qp q.1;subst hx;by_cases hm:m=0
  .subst hm;have hn:=Aj<|qp K;subst hn;refine⟨.slice none 0 0,w,λG=>?_,World.ownsRow_nil w 0 e i.size,⟨rfl,rfl,rfl,AI _,λ_ _ _=>rfl⟩,Dh.refl _ _⟩;simp[Builtin.append_,run_underlying Y,sizeOf,typeInfo,hi,Builtin.lenOf,Builtin.firstCells,loadCells,loadCellsFrom]
  have R:=λG=>run_append_nil (P:=P) w t G e i z Y hi hz a m c h K y I I (by have hb:=A;simp only[An]at hb;omega)
  have D:=grown 0 I<|Value.ownBlock rV;simp only[An,BV,Array.empty_append]at D ⊢;exact⟨_,_,R,D.1,D.2,E _ _ _⟩
 by_cases u:n+m<=C
 .have X:n*i.size+h.length<=N.size:=by rw[K,ab,<-Nat.add_mul];exact B7 _ u
  have R:=λG=>run_append_room (P:=P) w t G e i Y hi g n C N hg a m c h K y h1 u X
  refine⟨_,_,R,⟨B,.inr ⟨g,C,_,rfl,aa,setRow_heap w g N _ e _ hg,u,L,?_,?_⟩⟩,⟨rfl,rfl,rfl,nl,λk _ M=>setRow_other w g k _<|λe=>M<|by simp[Value.ownBlock,e]⟩,λk M=>.inl M⟩
  .simp only[BS,AF,AU,Af,Bw];omega
  rw[O,<-B];exact BI
 have u:=q.cells (g:=g) rfl;have R:=λG=>run_append_grow (P:=P) w t G e i z Y hi hz ⟨g,0,none⟩ n C xs q.1 u a m c h K y I I<|growslice_fits I A
 have D:=grown C I<|Value.ownBlock<|.slice g n C;exact⟨_,_,R,D.1,D.2,E _ _ _⟩
def j3(w:rT)(t u q e:Nat)(a:IntKind)(i:TypeInfo)(z:rU)(C:P.underlying t=some (.slice e))(D:P.underlying u=some (.int a))(hi:P.info? e=some i)(E:i.zero=some z)
  (b:Addr) (a g n:Nat) (h:qt) (A:h.length=a*i.size) (m:∀j v,h[j]?=some v->w (b.add j)=some v)
  (y:g<a+n) (B:a+n<=9223372036854775807) (hb:(a+n)*i.bytes<=140737488355328) (G:0<n*i.size) :
  (Builtin.append_ #[t,u] q #[.slice (some b) a g,.int .i64 n]).run P w =
   .ok (.slice w (a+n)<|grownCap w (a+n) g e)
    (w.drew.alloc<|.cells (h.toArray++Builtin.zeroCells z.cells n++Builtin.zeroCells z.cells (grownCap w (a+n) g e-(a+n))) e):=by
 have G:¬(a+n<=g):=I;have q:¬(9223372036854775807<((a:Int)+(n:Int))):=I;have e:=growslice_fits y hb;have u:¬(281474976710656<Builtin.nextslicecap (a+n) g*i.bytes):=I;have K:IntKind.i64.wrap (n:Int)=(n:Int):=IntWalk.i64_in _ I;have y:¬((n:Int)<0):=I;have e:n*i.bytes<=281474976710656:=by rw[Cy]at hb;omega
 have z:¬(281474976710656<(n:Int)*(i.bytes:Int)):=by
  have:((n*i.bytes:Nat):Int)<=281474976710656:=I;rw[Int.natCast_mul]at this;omega
 have e:¬(n*i.size=0):=I;have B:=run_firstCells_some (P:=P) w.drew i.size a b a g h A<|qp m;have a:Sem.run P (asIntOf<|.int .i64 n) w=.ok (.i64,(n:Int)) w:=rfl;simp[Builtin.append_,run_underlying C,run_underlying D,sizeOf,typeInfo,zeroValue,hi,E,asInt,a,K,y,z,G,q,u,e,Question.forced,B,newRow,grownCap]
variable{Q:Exit->Act->rT->Prop}{ops:Array Oper}{w1:rT}
def zm{rest:List Oper}{o:Oper}{a:Act}(e:o.guard=none)(s x:Operand)(t u:TypeId)
  (m:o.op=.call { callee:=.builtin .append,args:=#[s,x],argTypes:=#[t,u] }) (g h v':rU) (n:a.eval s=g) (q:a.eval x=h)
  (DG:∀y,(Builtin.append_ #[t,u] y #[g,h]).run P w=.ok v' w1) (h:wpList P ops Q rest (a.put o.dst v') w1):wpList P ops Q (o::rest) a w:=by
 refine wpList_plain e λK e=>?_
 have a:=DG o.type;unfold Oper.wp;simp[execOp,m,resolve,invoke,builtin,n,q,a,Result.andThen];exact e _ _ h
def zO{o:Oper}{a:Act}{K:Act->rT->Prop}{E:Prop}(e:o.guard=none)(s x:Operand)(t u:TypeId)
  (m:o.op=.call { callee:=.builtin .append,args:=#[s,x],argTypes:=#[t,u] }) (g h v':rU) (n:a.eval s=g) (q:a.eval x=h)
  (DG:∀y,(Builtin.append_ #[t,u] y #[g,h]).run P w=.ok v' w1) (h:K (a.put o.dst v') w1) :
  if Region.wanted o (yielded ops a.tmps)=true then Oper.wp P o a w K Q else E:=by
 have g:Region.wanted o (yielded ops a.tmps)=true:=by simp[Region.wanted,e]
 rw[AL g];have a:=DG o.type;unfold Oper.wp;simp[execOp,m,resolve,invoke,builtin,n,q,a,Result.andThen];exact h
end
def Pt:(prog.info? 110).map (λi=>(i.zero,i.size,i.bytes))=some (some (.agg #[.int .u64 0,.int .u64 0]),2,16):=kw
def J3:(prog.info? 110).map (·.size)=some 2:=kw
def Ps(w:rT):(zeroValue 110).run prog w=.ok (.agg #[.int .u64 0,.int .u64 0]) w:=kw
def iY(w:rT)(g q o y z lb A:Nat)(h a:qt)(B:w.heap[g]?=some (.cells h.toArray 110 (0,0)))(m:w.heap[q]?=some (.cells a.toArray 110 (0,0)))
  (u:q≠g) (n:h.length≠0) :
  (callFunc 108 #[.slice q y z,.slice (g,o) lb A]).run prog w=.ok (.value<|.bool false) w:=by
 rw[run_callFunc_extern func108 kw kw kw (e:=Extern.SlicesOverlaps.overlaps #[46,46] #[4]) kw,
  Lib.run_overlaps_apart w 46 4 110 underlying46 2 (λw=>Uo J3 w) ⟨q,0,none⟩ ⟨g,o,none⟩ y z lb A u 110 110 a.length h.length
   (by simp[World.shape?,m]) (by simp[World.shape?,B]) n (by simp[World.frozen?,m]) (by simp[World.frozen?,m])]
 rfl
def Li(a:qt)(i n:Nat)(r:qt):List rU:=splice (splice a ((i+1)*2) ((a.drop (i*2)).take ((n-i)*2))) (i*2) r
def cC(g h i n cap:Nat)(a:qt)(r:Nat×Nat)(w:rT)(hi:i<n)(m:n+1<=cap)(e:cap<=9223372036854775807)
  (A:w.heap[g]?=some (.cells a.toArray 110 (0,0))) (q:a.length=cap*2) (z:∀v∈(a.drop<|i*2).take ((n-i)*2),v.oneCell'=true) (u:w.heap[h]?=some (.cells [.int .u64 r.1,.int .u64 r.2].toArray 110 (0,0))) (y:h≠g) :
  rH 107 #[.slice g n cap,[i],.slice h 1 1] w λe w'=>e=.returned (.slice g (n+1) cap) /\
   w'=(w.setRow g (Li a i n [.int .u64 r.1,.int .u64 r.2]).toArray).drew:=by
 have e:(i:Int)<n:=I;have e:decide ((i:Int)=n)=false:=ol;have e:((i:Int)==n)=false:=ol;have e:i+1<cap:=I;have e:=iY w g h ((i+1)*2) 1 1 (n-i) (cap-(i+1)) a _ A u y I;have B:∀m,(Builtin.copy_ #[46,46] m #[.slice (g,(i+1)*2) (n-i) (cap-(i+1)),.slice (g,i*2) (n+1-i) (cap-i)]).run prog w.drew =
   .ok (goInt (n-i:Nat)) (w.setRow g (splice a ((i+1)*2)<|(a.drop<|i*2).take<|(n-i)*2).toArray).drew:=λm =>
  ME (P:=prog) w.drew 46 46 m 110 2 underlying46 J3 g ((i+1)*2) (n-i) (cap-(i+1)) g (i*2) (n+1-i) (cap-i) (n-i) a a _ _ _ A A
   I I I I I z
 obtain⟨z,e⟩:=nm<|splice a ((i+1)*2)<|(a.drop<|i*2).take<|(n-i)*2;rw[e]at B;have B:z.length=cap*2:=by rw[<-e,length_splice _ _ _ ol];exact q
 obtain⟨B,q⟩:=nm<|splice z (i*2) [Value.int .u64 r.1,Value.int .u64 r.2];have C:∀m,(Builtin.copy_ #[46,46] m #[.slice (g,i*2) (n+1-i) (cap-i),.slice h 1 1]).run prog (w.setRow g z.toArray).drew =
   .ok (goInt (1:Nat)) (w.setRow g B.toArray).drew:=λm=>by
  rw[ME (P:=prog) (w.setRow g z.toArray).drew 46 46 m 110 2 underlying46 J3 g (i*2) (n+1-i) (cap-i) h 0 1 1 1 z _ _ _ _ (setRow_heap w g _ _ _ _ A)
   ((setRow_other w g h _ y).trans u) I I I nl I (by simp[Value.oneCell'])]
  simp only[CR,Bt,B0,Nat.one_mul,q];congr 1;exact Ax World.drew<|setRow_setRow w g _ _
 have g:AA (Li a i n [.int .u64 r.1,.int .u64 r.2]=B):=by
  show splice (splice _ _ _) _ _=B;rw[e,q]
 clear e q;go_enter func107,ntmps107;go_wp2_with fail
 go_region
 go_wp2;go_ret;exact⟨rfl,by rw[g.z]⟩
def VY(g n cap:Nat)(a:qs)(v':rU)(w h:rT)(m:n<=cap)(e:cap<=9223372036854775807)
  (DG:∀e,(Builtin.append_ #[46,46] e #[.slice a n cap,.slice g 1 1]).run prog w=.ok v' h) :
  rH 107 #[.slice a n cap,[n],.slice g 1 1] w λe w'=>e=.returned v'/\w'=h:=by
 by_cases q:n=cap
 .subst q;cases a;all_goals
   go_enter func107,ntmps107;go_wp2_with (at_builtin;refine zm rfl _ _ _ _ rfl _ _ _ rfl rfl DG ?_);go_ret;exact rM
 have e:n<cap:=I;cases a;all_goals
  go_enter func107,ntmps107;go_wp2_with (at_builtin;refine zm rfl _ _ _ _ rfl _ _ _ rfl rfl DG ?_);go_ret;exact rM
def Ll(e a:qt)(i n:Nat)(r:qt):List rU:=splice (splice e (i*2) r) ((i+1)*2) ((a.drop (i*2)).take ((n-i)*2))
def cA(g y h i n cap q:Nat)(a z:qt)(r:Nat×Nat)(w m:rT)(hi:i<n)(u:n<=cap)(A:cap<n+1)(e:cap<=9223372036854775807)
  (e:a.length=cap*2) (C:∀v∈(a.drop<|i*2).take ((n-i)*2),v.oneCell'=true)
  (DG:∀u,(Builtin.append_ #[46,3] u #[.slice g i cap,.int .i64 ((n:Int)+1-i)]).run prog w=.ok (.slice h (n+1) q) m)
  (L:m.heap[g]?=some (.cells a.toArray 110 (0,0))) (D:m.heap[y]?=some (.cells [.int .u64 r.1,.int .u64 r.2].toArray 110 (0,0)))
  (G:m.heap[h]?=some (.cells z.toArray 110 (0,0))) (E:z.length=q*2) (e:n+1<=q) (A:q<=9223372036854775807) (_hne:y≠h) (B:g≠h) :
  rH 107 #[.slice g n cap,[i],.slice y 1 1] w λe w'=>e=.returned (.slice h (n+1) q) /\
   w'=(m.setRow h (Ll z a i n [.int .u64 r.1,.int .u64 r.2]).toArray).drew:=by
 have e:(i:Int)<n:=I;have e:((i:Int)==n)=false:=ol;have e:i<cap:=I;have e:i+1<q:=I;obtain⟨A,e⟩:=nm<|splice z (i*2) [Value.int .u64 r.1,Value.int .u64 r.2];have K:A.length=q*2:=by rw[<-e,length_splice _ _ _ ol];exact E
 have E:∀u,(Builtin.copy_ #[46,46] u #[.slice (h,i*2) (n+1-i) (q-i),.slice y 1 1]).run prog m =
   .ok (goInt (1:Nat)) (m.setRow h A.toArray):=λu=>by
  rw[ME (P:=prog) m 46 46 u 110 2 underlying46 J3 h (i*2) (n+1-i) (q-i) y 0 1 1 1 z _ _ _ _ G
   D I I I nl I (by simp[Value.oneCell'])]
  simp only[CR,Bt,B0,Nat.one_mul,e]
 obtain⟨D,y⟩:=nm<|splice A ((i+1)*2)<|(a.drop<|i*2).take<|(n-i)*2;have E:∀u,(Builtin.copy_ #[46,46] u #[.slice (h,(i+1)*2) (n-i) (q-(i+1)),.slice (g,i*2) (n-i) (cap-i)]).run prog (m.setRow h A.toArray).drew =
   .ok (goInt (n-i:Nat)) (m.setRow h D.toArray).drew:=λu=>by
  rw[ME (P:=prog) (m.setRow h A.toArray).drew 46 46 u 110 2 underlying46 J3 h ((i+1)*2) (n-i) (q-(i+1)) g (i*2) (n-i) (cap-i) (n-i) A a _ _ _ (setRow_heap m h _ _ _ _ G)
   ((setRow_other m h g _ B).trans L) I I I I I C]
  rw[y];congr 1;exact Ax World.drew<|setRow_setRow m h _ _
 have g:AA (Ll z a i n [.int .u64 r.1,.int .u64 r.2]=D):=by
  show splice (splice _ _ _) _ _=D;rw[e,y]
 clear e y;go_enter func107,ntmps107;go_wp2_with (at_builtin;refine zm rfl _ _ _ _ rfl _ _ _ rfl rfl DG ?_)
 go_region
 go_wp2;go_ret;exact⟨rfl,by rw[g.z]⟩
def OQ{α : Type}(A B cs:List α)(o:Nat)(a:o=A.length):splice (A++B) o cs=A++(cs++B.drop cs.length):=by
 subst a;simp[splice,<-List.drop_drop]
def QM{α : Type}(a X:List α)(n:Nat)(e:a.take n=X):∃Y,a=X++Y:=⟨a.drop n,by rw[<-e,BZ]⟩
def du(A X Y:qt)(a b:rU)(e:2<=Y.length):splice (splice (A++X++Y) (A.length+2) X) A.length [a,b]=A++[a,b]++X++Y.drop 2:=by
 have h:splice (A++X++Y) (A.length+2) X=A++((X++Y).take 2++(X++Y.drop 2)):=by
  have e:(A++X++Y)=(A++(X++Y).take 2)++(X++Y).drop 2:=by simp[BC,BZ]
  have g:((X++Y).take 2).length=2:=ol;rw[e,OQ _ _ _ _<|by simp[g],CK,Nat.add_comm,BC];congr 1;congr 1;congr 1;rw[CY];simp
 rw[h,OQ _ _ _ _ rfl];have g:((X++Y).take 2).length=2:=ol;have:List.drop [a,b].length (List.take 2 (X++Y)++(X++List.drop 2 Y))=X++Y.drop 2:=by
  have e:[a,b].length=((X++Y).take 2).length:=by rw[g];rfl
  rw[e,List.drop_left]
 rw[this];simp
def iX(a:qt)(i n cap:Nat)(rs:zE)(r:Nat×Nat)(hi:i<=n)(m:n+1<=cap)(e:a.length=cap*2)(g:rs.length=n)(h:a.take (n*2)=zw rs):(Li a i n [.int .u64 r.1,.int .u64 r.2]).take ((n+1)*2)=zw (rs.take i++r::rs.drop i):=by
 obtain⟨Y,rfl⟩:=QM _ _ _ h;have g:(zw<|rs.take i).length=i*2:=by rw[zX];simp;omega
 have h:(zw<|rs.drop i).length=(n-i)*2:=by rw[zX];simp;omega
 have a:zw rs=zw (rs.take i)++zw (rs.drop i):=by rw[<-JK,BZ]
 have m:2<=Y.length:=by
  simp only[AF,zX]at e;omega
 have e:((zw rs++Y).drop<|i*2).take ((n-i)*2)=zw (rs.drop i):=by
  rw[a,<-g,BC,List.drop_left,<-h,BI]
 unfold Li;rw[e,a,(I:(i+1)*2=(zw<|rs.take i).length+2),(I:i*2=(zw<|rs.take i).length),du _ _ _ _ _ m,JK,zw];have a:(zw (rs.take i)++[Value.int .u64 r.1,Value.int .u64 r.2]++zw (rs.drop i)).length=(n+1)*2:=by simp[g,h];omega
 rw[<-a,BI];simp
def jq(e a:qt)(i n cap h:Nat)(rs:zE)(r:Nat×Nat)(hi:i<=n)(D:n+1<=h)(_hcap:n<=cap)(q:a.length=cap*2)(m:e.length=h*2)(y:e.take (i*2)=a.take (i*2))(z:rs.length=n)(A:a.take (n*2)=zw rs):(Ll e a i n [.int .u64 r.1,.int .u64 r.2]).take ((n+1)*2)=zw (rs.take i++r::rs.drop i):=by
 obtain⟨Y,rfl⟩:=QM _ _ _ A;have g:(zw<|rs.take i).length=i*2:=by rw[zX];simp;omega
 have u:(zw<|rs.drop i).length=(n-i)*2:=by rw[zX];simp;omega
 have a:zw rs=zw (rs.take i)++zw (rs.drop i):=by rw[<-JK,BZ]
 have B:((zw rs++Y).drop<|i*2).take ((n-i)*2)=zw (rs.drop i):=by
  rw[a,<-g,BC,List.drop_left,<-u,BI]
 have C:(zw rs++Y).take (i*2)=zw (rs.take i):=by rw[a,<-g,BC,BI]
 obtain⟨Z,rfl⟩:=QM _ _ _<|y.trans C;have a:Z.length=h*2-i*2:=by simp[g]at m;omega
 unfold Ll;rw[B,OQ _ _ _ _ g.symm];have e:zw (rs.take i)++([Value.int .u64 r.1,Value.int .u64 r.2]++Z.drop 2)=(zw (rs.take i)++[Value.int .u64 r.1,Value.int .u64 r.2])++Z.drop 2:=nl;have a:[Value.int .u64 r.1,Value.int .u64 r.2].length=2:=rfl;rw[a,e,OQ _ _ _ _<|by simp[g];omega,<-List.append_assoc,JK,zw];have a:(zw (rs.take i)++[Value.int .u64 r.1,Value.int .u64 r.2]++zw (rs.drop i)).length=(n+1)*2:=by simp[g,u];omega
 rw[<-a,BI];simp
def jh(a:qt)(i n cap:Nat)(r:Nat×Nat)(hi:i<=n)(g:n+1<=cap)(e:a.length=cap*2):(Li a i n [.int .u64 r.1,.int .u64 r.2]).length=cap*2:=by
 unfold Li;have g:(splice a ((i+1)*2)<|(a.drop<|i*2).take<|(n-i)*2).length=cap*2:=by
  rw[length_splice _ _ _ ol];exact e
 rw[length_splice _ _ _ ol];exact g
def js(g a:qt)(i n e cap:Nat)(r:Nat×Nat)(hi:i<=n)(u:n+1<=e)(m:n<=cap)(q:a.length=cap*2)(h:g.length=e*2):(Ll g a i n [.int .u64 r.1,.int .u64 r.2]).length=e*2:=by
 unfold Ll;have a:(splice g (i*2) [Value.int .u64 r.1,Value.int .u64 r.2]).length=e*2:=by
  rw[length_splice _ _ _ ol];exact h
 rw[length_splice _ _ _ ol];exact a
theorem Qa(rs:zE):∀v∈zw rs,v.oneCell'=true:=by
 induction rs with
 | nil=>intro v h;cases h
 | cons r rs ih =>
  intro v h;simp only[zw,Be]at h;rcases h with rfl|rfl|h
  .rfl
  .rfl
  exact ih v h
def Pr{cs:qt}{fz:Nat×Nat}(a:w.heap[g]?=some (.cells cs.toArray t fz)):∀j u,cs[j]?=some u->w ((⟨g,0,none⟩:Addr).add j)=some u:=by
 intro j u h;rw[EU];simpa [World.cell?,a]using h
def Pq(h:w.ownsRow base e sz v n xs)(B:0<n):∃g a m,v=.slice (some ⟨g,0,none⟩) n a/\w.heap[g]?=some (.cells (m:qt).toArray e (0,0))/\n<=a/\a<=maxLen/\m.length=a*sz/\m.take (n*sz)=xs:=by
 rcases h.2 with⟨_,e⟩|⟨g,a,m,rfl,_,q,u,y,z,A⟩
 .omega
 exact⟨g,a,m.toList,rfl,qp q,u,y,qp z,A⟩
def gV(v:rU)(rs:zE)(i:Nat)(r:Nat×Nat)(A:Nat)(w:rT)(hi:i<=rs.length)(ae:rs.length<=1099511627776)(q:w.ownsRow 0 110 2 v rs.length (zw rs))
  (B:w.heap[A]?=some (.cells [.int .u64 r.1,.int .u64 r.2].toArray 110 (0,0))) (aa:v.ownBlock≠some A) :
  rH 107 #[v,[i],.slice A 1 1] w λe w'=>∃L,e=.returned L/\w'.ownsRow 0 110 2 L (rs.length+1) (zw<|rs.take i++r::rs.drop i)/\w.grownBy w' v.ownBlock/\Dh w v L:=by
 obtain⟨i0,u,M,D,N⟩:=info_parts Pt;by_cases ab:i=rs.length
 .obtain⟨a,h,rfl,O,h2,E⟩:=zi q;obtain⟨L,w1,DG,ho,ac,ad⟩:=zY (P:=prog) w 46 110 i0 _ 2 16 underlying46 u M D N rfl lc _ _ _ q ⟨A,0,none⟩ 1 1 [.int .u64 r.1,.int .u64 r.2] rfl (Pr B) (by simp[Value.oneCell']) pi I;subst ab;unfold maxLen at h2;refine(VY A _ h a L w w1 O I DG).mono ?_;rintro e w' ⟨rfl,rfl⟩;refine⟨L,rfl,?_,ac,ad⟩;simpa [JK,zw]using ho
 obtain⟨g,h,m,rfl,R,O,h2,E,X⟩:=Pq q I;have a:A≠g:=λe=>aa<|by simp[Value.ownBlock,e]
 unfold maxLen at h2;have C:∀v∈(m.drop<|i*2).take ((rs.length-i)*2),v.oneCell'=true:=by
  intro v q;refine Qa rs v ?_;rw[<-X];have e:(m.drop<|i*2).take ((rs.length-i)*2)=(m.take<|rs.length*2).drop (i*2):=by
   rw[Ci];congr 1;omega
  rw[e]at q;exact Cb q
 by_cases n:rs.length+1<=h
 .refine(cC g A i rs.length h m r w I n I R E C B a).mono ?_;rintro e w' ⟨rfl,rfl⟩;refine⟨_,rfl,⟨by simp[zX];omega,.inr ⟨g,h,_,rfl,AK _,setRow_heap w g _ _ _ _ R,n,pi,?_,?_⟩⟩,⟨rfl,rfl,rfl,nl,λk _ G=>setRow_other w g k _<|λe=>G<|by simp[Value.ownBlock,e]⟩,λk G=>.inl G⟩
  .simpa using jh m i rs.length h r hi n E
  simpa using iX m i rs.length h rs r hi n E rfl X
 have DG:=λa=>j3 (P:=prog) w 46 3 a 110 .i64 i0 _ underlying46 underlying3 u M ⟨g,0,none⟩ i h (rs.length+1-i) (zw<|rs.take i) (by rw[zX,D];simp;omega)
  (λj u hj=>Pr R j u (by
   rw[<-Oo,<-X,BY,B2]at hj;split at hj
   .exact hj
   cases hj)) I I (by rw[N];omega) (by rw[D];omega)
 rw[(I:i+(rs.length+1-i)=rs.length+1),(I:((rs.length+1-i:Nat):Int)=(rs.length:Int)+1-i)]at DG;have y:=grownCap_ge w (rs.length+1) h 110;have Y:grownCap w (rs.length+1) h 110<=maxLen:=grownCap_le_maxLen w _ h _ pi;unfold maxLen at Y;generalize grownCap w (rs.length+1) h 110=nc at DG y Y;have q:=(AJ.1 R).1;have n:=(AJ.1 B).1;obtain⟨K,a⟩:∃K:qt,(zw<|rs.take i).toArray++Builtin.zeroCells (Value.agg #[Value.int .u64 0,Value.int .u64 0]).cells (rs.length+1-i)++Builtin.zeroCells (Value.agg #[Value.int .u64 0,Value.int .u64 0]).cells (nc-(rs.length+1))=K.toArray/\K.length=nc*2/\K.take (i*2)=m.take (i*2):=by
  refine⟨zw (rs.take i)++(Builtin.zeroCells (Value.agg #[Value.int .u64 0,Value.int .u64 0]).cells<|rs.length+1-i).toList++(Builtin.zeroCells (Value.agg #[Value.int .u64 0,Value.int .u64 0]).cells<|nc-(rs.length+1)).toList,nl,?_,?_⟩
  .simp[size_zeroCells,zX,Value.cells];omega
  have u:(zw<|rs.take i).length=i*2:=by rw[zX];simp;omega
  rw[BC,<-u,BI,u,<-Oo,<-X,BY];congr 1;omega
 obtain⟨a,z,Z⟩:=a;rw[a]at DG;refine(cA g A w.heap.size i rs.length h nc m K r w _ I O I I E C DG ((Below.heap_alloc w.drew _ g q).trans R) ((Below.heap_alloc w.drew _ A n).trans B) (heap_alloc_new w.drew _) z y I I I).mono ?_;rintro e w' ⟨rfl,rfl⟩;refine⟨_,rfl,⟨by simp[zX];omega,.inr ⟨w.heap.size,nc,_,rfl,AK _,setRow_heap _ _ _ _ _ _<|heap_alloc_new w.drew _,y,pi,?_,?_⟩⟩,⟨rfl,rfl,rfl,nl,λk G _=>?_⟩,λk G=>by simp[Value.ownBlock]at G;omega⟩
 .simpa using js K m i rs.length nc h r hi y O E z
 .simpa using jq K m i rs.length h nc rs r hi y O E z Z rfl X
 exact(setRow_other _ _ _ _ I).trans (Below.heap_alloc w.drew _ k G)
def Mf(a:qt)(n:Nat):List rU:=splice (splice a 0 ((a.drop 2).take ((n-1)*2))) ((n-1)*2) [.int .u64 0,.int .u64 0]
def Y9(g n cap:Nat)(a:qt)(w:rT)(m:2<=n)(h:n<=cap)(e:cap<=9223372036854775807)
  (y:w.heap[g]?=some (.cells a.toArray 110 (0,0))) (m:a.length=cap*2) (q:∀v∈(a.drop 2).take ((n-1)*2),v.oneCell'=true) :
  rH 79 #[.slice g n cap,.int .i64 0,.int .i64 1] w λe w'=>e=.returned (.slice g (n-1) cap) /\
   w'=(w.setRow g (Mf a n).toArray).drew:=by
 obtain⟨A,e,h,z,u⟩:=info_parts Pt;have u:((a.drop 2).take<|(n-1)*2).length=(n-1)*2:=ol;have DG:∀h,(Builtin.append_ #[46,46] h #[.slice g 0 cap,.slice (g,2) (n-1) (cap-1)]).run prog w.drew =
   .ok (.slice g (n-1) cap) (w.setRow g (splice a 0<|(a.drop 2).take<|(n-1)*2).toArray).drew:=λh=>by
  have:=run_append_room (P:=prog) w.drew 46 h 110 A underlying46 e g 0 cap a.toArray y ⟨g,2,none⟩ (n-1) (cap-1) _ (by rw[u,z]) (T8 y 2<|(n-1)*2) q I (by rw[u];simp;omega);rw[this];simp[splice];rfl
 obtain⟨q,e⟩:=nm<|splice a 0<|(a.drop 2).take<|(n-1)*2;have z:q.length=cap*2:=by rw[<-e,length_splice _ _ _ (by rw[u];omega)];exact m
 rw[e]at DG;obtain⟨z,m⟩:=nm<|splice q ((n-1)*2) [Value.int .u64 0,Value.int .u64 0];have A:∀h,(Builtin.clear_ #[46] h #[.slice (g,(n-1)*2) (n-(n-1)) (cap-(n-1))]).run prog (w.setRow g q.toArray).drew=.ok (.tuple #[]) (w.setRow g z.toArray).drew:=λh=>by
  rw[(I:n-(n-1)=1),MF (P:=prog) (w.setRow g q.toArray).drew 46 h 110 (.agg #[.int .u64 0,.int .u64 0]) 2 underlying46 Ps rfl (by simp[Value.cells,Value.oneCell']) g ((n-1)*2) 1 _ q _ (setRow_heap w g _ _ _ _ y) I];rw[(kw:(Builtin.zeroCells (Value.agg #[Value.int .u64 0,Value.int .u64 0]).cells 1).toList=[Value.int .u64 0,Value.int .u64 0]),m];congr 1;exact Ax World.drew<|setRow_setRow w g _ _
 have h:AA (Mf a n=z):=by
  show splice (splice _ _ _) _ _=z;rw[e,m]
 have a:1<cap:=I;have a:(1:Int)<=n:=I;have a:n-1<cap:=I;clear e m u;go_enter func79,ntmps79;go_wp2_with fail;have a:¬cap=1:=I;go_region_law (refine zO rfl (.tmp 22) (.tmp 25) 46 46 rfl (.slice g 0 cap) (.slice (U g 2) (n-1)<|cap-1) (.slice g (n-1) cap) (by simp[Act.eval,Act.put]) (by simp[Act.eval,Act.put]) DG ?_);go_wp2;go_ret;exact⟨rfl,by rw[h.z]⟩
def VX(a:qs)(u i n cap:Nat)(R:Ending->rT->Prop)(w:rT)(hi:i<=n)(y:n<=cap)(m:cap<=9223372036854775807)
  (g:rH 107 #[.slice a n cap,[i],.slice u 1 1] w λe w'=>∃h,e=.returned h/\R (.returned h) w') :
  rH 78 #[.slice a n cap,[i],[i],.slice u 1 1] w R:=by
 by_cases z:i=cap
 .obtain rfl:n=i:=I;subst z;cases a;all_goals
   go_enter func78,ntmps78;go_wp2_with (go_at_call 107;refine g.mono ?_;rintro e w' ⟨h,rfl,q⟩);exact q
 have m:i<cap:=I;cases a;all_goals
  go_enter func78,ntmps78;go_wp2_with (go_at_call 107;refine g.mono ?_;rintro e w' ⟨h,rfl,q⟩);exact q
def Lh(a:qt)(i n:Nat)(r:qt):List rU:=splice (splice a (i*2) r) ((i+1)*2) (Builtin.zeroCells #[.int .u64 0,.int .u64 0] (n-(i+1))).toList
def VW(g C i n cap:Nat)(a:qt)(r:Nat×Nat)(w:rT)(hi:i<n)(q:n<=cap)(_hcap2:cap<=9223372036854775807)
  (K:w.heap[g]?=some (.cells a.toArray 110 (0,0))) (z:a.length=cap*2) (D:w.heap[C]?=some (.cells [.int .u64 r.1,.int .u64 r.2].toArray 110 (0,0))) :
  rH 78 #[.slice g n cap,[i],[n],.slice C 1 1] w λe w'=>e=.returned (.slice g (i+1) cap) /\
   w'=w.setRow g (Lh a i n [.int .u64 r.1,.int .u64 r.2]).toArray:=by
 obtain⟨M,A,u,q,N⟩:=info_parts Pt;have DG:∀u,(Builtin.append_ #[46,46] u #[.slice g i cap,.slice C 1 1]).run prog w =
   .ok (.slice g (i+1) cap) (w.setRow g (splice a (i*2) [Value.int .u64 r.1,Value.int .u64 r.2]).toArray):=λu=>by
  have:=run_append_room (P:=prog) w 46 u 110 M underlying46 A g i cap a.toArray K ⟨C,0,none⟩ 1 1 [Value.int .u64 r.1,Value.int .u64 r.2] (by rw[q];rfl) (Pr D) (by simp[Value.oneCell']) I (by rw[q];simp;omega);rw[this,q];simp[splice]
 obtain⟨y,h⟩:=nm<|splice a (i*2) [Value.int .u64 r.1,Value.int .u64 r.2];have q:y.length=cap*2:=by rw[<-h,length_splice _ _ _ ol];exact z
 rw[h]at DG;obtain⟨B,m⟩:=nm<|splice y ((i+1)*2) (Builtin.zeroCells #[Value.int .u64 0,Value.int .u64 0] (n-(i+1))).toList;have E:∀u,(Builtin.clear_ #[46] u #[.slice (g,(i+1)*2) (n-(i+1)) (cap-(i+1))]).run prog (w.setRow g y.toArray)=.ok (.tuple #[]) (w.setRow g B.toArray):=λu=>by
  rw[MF (P:=prog) (w.setRow g y.toArray) 46 u 110 (.agg #[.int .u64 0,.int .u64 0]) 2 underlying46 Ps rfl (by simp[Value.cells,Value.oneCell']) g ((i+1)*2) (n-(i+1)) _ y _ (setRow_heap w g _ _ _ _ K) I];rw[show(Value.agg #[Value.int .u64 0,Value.int .u64 0]).cells=#[Value.int .u64 0,Value.int .u64 0]from rfl,m];congr 1;exact setRow_setRow w g _ _
 have L:AA (Lh a i n [.int .u64 r.1,.int .u64 r.2]=B):=by
  show splice (splice _ _ _) _ _=B;rw[h,m]
 have G:AA (i+1=n->y=B):=by
  intro e;rw[<-m];subst e;simp[splice,Builtin.zeroCells]
 have a:(i:Int)<n:=I;have a:((i:Int)==n)=false:=ol;have a:i<cap:=I;clear h m;by_cases a:i+1=n
 .have e:decide ((i:Int)+1<n)=false:=ol;have e:=G.z a;have g:AA (y=B):=e;clear e E;have e:¬((i:Int)+1<n):=I;go_enter func78,ntmps78;have h:=zb a;clear a;go_wp2_with (at_builtin;refine zm rfl _ _ _ _ rfl _ _ _ rfl rfl DG ?_);go_ret;exact⟨rfl,by rw[L.z,g.z]⟩
 have e:(i:Int)+1<n:=I;have e:i+1<cap:=I;clear a;go_enter func78,ntmps78;go_wp2_with (at_builtin;refine zm rfl _ _ _ _ rfl _ _ _ rfl rfl DG ?_);go_ret;exact⟨rfl,by rw[L.z]⟩
def Me(a:qt)(i j n:Nat)(r:qt):List rU :=
 splice (splice (splice a (i*2) r) ((i+1)*2)<|((splice a (i*2) r).drop<|j*2).take<|(n-j)*2) ((i+1+(n-j))*2) (Builtin.zeroCells #[.int .u64 0,.int .u64 0] (n-(i+1+(n-j)))).toList
def Ot{α : Type}(L:List α)(o k n:Nat)(h:n=o+k):(L.take n).drop o=(L.drop o).take k:=by
 subst h;rw[Ci];congr 1;omega
def VV(g y i j n cap:Nat)(h:qt)(r:Nat×Nat)(w:rT)(hi:i<j)(m:j<n)(e:n<=cap)(a:cap<=9223372036854775807)
  (D:w.heap[g]?=some (.cells h.toArray 110 (0,0))) (a:h.length=cap*2) (C:∀v∈h.take (n*2),v.oneCell'=true) (z:w.heap[y]?=some (.cells [.int .u64 r.1,.int .u64 r.2].toArray 110 (0,0))) (_hne:y≠g) :
  rH 78 #[.slice g n cap,[i],[j],.slice y 1 1] w λe w'=>e=.returned (.slice g (i+1+(n-j)) cap) /\
   ∃k,w'=(w.setRow g (Me h i j n [.int .u64 r.1,.int .u64 r.2]).toArray).drewN k:=by
 obtain⟨q,u⟩:=nm<|splice h (i*2) [Value.int .u64 r.1,Value.int .u64 r.2];have A:q.length=cap*2:=by rw[<-u,length_splice _ _ _ ol];exact a
 have B:∀m a,(Builtin.copy_ #[46,46] m #[.slice (g,i*2) (i+1+(n-j)-i) (cap-i),.slice y 1 1]).run prog (w.drewN a)=.ok (goInt (1:Nat)) ((w.setRow g q.toArray).drewN a):=λm a=>by
  rw[ME (P:=prog) (w.drewN a) 46 46 m 110 2 underlying46 J3 g (i*2) (i+1+(n-j)-i) (cap-i) y 0 1 1 1 h _ _ _ _ D z I I I nl I (by simp[Value.oneCell'])];simp only[CR,Bt,B0,Nat.one_mul,u];rfl
 obtain⟨y,z⟩:=nm<|splice q ((i+1)*2)<|(q.drop<|j*2).take<|(n-j)*2;have B:y.length=cap*2:=by rw[<-z,length_splice _ _ _ ol];exact A
 have A:∀v∈(q.drop<|j*2).take ((n-j)*2),v.oneCell'=true:=by
  intro v B;have e:q.drop (j*2)=h.drop (j*2):=by
   rw[<-u];simp only[splice];rw[CY,BX ol,BV,CY,BX ol,BV,CK];congr 1;simp;omega
  rw[e,<-Ot h (j*2) ((n-j)*2) (n*2) I]at B;exact C v<|Cb B
 have B:∀m a,(Builtin.copy_ #[46,46] m #[.slice (g,(i+1)*2) (n-j) (cap-(i+1)),.slice (g,j*2) (n-j) (cap-j)]).run prog ((w.setRow g q.toArray).drewN a) =
   .ok (goInt (n-j:Nat)) ((w.setRow g y.toArray).drewN a):=λm a=>by
  have B:=setRow_heap w g _ q.toArray _ _ D;rw[ME (P:=prog) ((w.setRow g q.toArray).drewN a) 46 46 m 110 2 underlying46 J3 g ((i+1)*2) (n-j) (cap-(i+1)) g (j*2) (n-j) (cap-j) (n-j) q q _ _ _ B B I I I I I A];rw[z];congr 1;exact Ax (λx=>World.drewN x a)<|setRow_setRow w g _ _
 obtain⟨B,q⟩:=nm<|splice y ((i+1+(n-j))*2) (Builtin.zeroCells #[Value.int .u64 0,Value.int .u64 0] (n-(i+1+(n-j)))).toList;have E:∀m a,(Builtin.clear_ #[46] m #[.slice (g,(i+1+(n-j))*2) (n-(i+1+(n-j))) (cap-(i+1+(n-j)))]).run prog ((w.setRow g y.toArray).drewN a)=.ok (.tuple #[]) ((w.setRow g B.toArray).drewN a):=λm a=>by
  rw[MF (P:=prog) ((w.setRow g y.toArray).drewN a) 46 m 110 (.agg #[.int .u64 0,.int .u64 0]) 2 underlying46 Ps rfl (by simp[Value.cells,Value.oneCell']) g ((i+1+(n-j))*2) (n-(i+1+(n-j))) _ y _ (setRow_heap w g _ _ _ _ D) I];rw[show(Value.agg #[Value.int .u64 0,Value.int .u64 0]).cells=#[Value.int .u64 0,Value.int .u64 0]from rfl,q];congr 1;exact Ax (λx=>World.drewN x a)<|setRow_setRow w g _ _
 have G:AA (Me h i j n [.int .u64 r.1,.int .u64 r.2]=B):=by
  show splice (splice (splice _ _ _) _ _) _ _=B;rw[u,z,q]
 have D:AA (i+1+(n-j)=n->y=B):=by
  intro e;rw[<-q,e];simp[splice,Builtin.zeroCells]
 clear u z q A C;have e:(i:Int)<j:=I;have e:((i:Int)==j)=false:=ol;have e:((j:Int)==n)=false:=ol;have e:(j:Int)<n:=I;have e:i<cap:=I;have e:i+1<cap:=I;have e:j<cap:=I;have e:¬cap=i+1:=I;have e:¬cap=j:=I;by_cases e:i+1+(n-j)=cap
 .have u:=zb e;have h:n-(i+1+(n-j))=0:=I;have z:AA (y=B):=D.z I;have q:=zb h;have q:∀m o c a,(Builtin.clear_ #[46] m #[.slice (some ⟨g,o,none⟩) (n-(i+1+(n-j))) c]).run prog ((w.setRow g y.toArray).drewN a)=.ok (.tuple #[]) ((w.setRow g y.toArray).drewN a):=λm o c a=>by
   rw[h];simp[Builtin.clear_,run_underlying underlying46]
  clear e h E;go_enter func78,ntmps78;go_wp2;go_quiet (fail);go_wp2_with fail
  go_region
  go_wp2_with fail;all_goals
   go_ret;refine⟨?_,_,by rw[G.z,z.z]⟩
   first|rfl|(rw[<-u.z];rfl)
 have h:i+1+(n-j)<cap:=I;clear e;go_enter func78,ntmps78;go_wp2;go_quiet (fail);go_wp2_with fail
 go_region
 go_wp2;go_ret;exact⟨rfl,_,by rw[G.z]⟩
def Qi{α : Type}(L:List α)(o:Nat)(cs:List α)(h:o<=L.length):(splice L o cs).take o=L.take o:=by
 simp only[splice];rw[BG ol,BY];congr 1;omega
def jB{α : Type}(L:List α)(o:Nat)(cs:List α)(k:Nat)(h:o+cs.length<=L.length)(a:o+cs.length<=k):(splice L o cs).drop k=L.drop k:=by
 simp only[splice];rw[CY,BX ol,BV,CY,BX ol,BV,CK];congr 1;simp;omega
def Oq{α : Type}(L:List α)(o:Nat)(cs:List α)(h:o+cs.length<=L.length):(splice L o cs).take (o+cs.length)=L.take o++cs:=by
 simp only[splice];rw[<-List.append_assoc];have:(L.take o++cs).length=o+cs.length:=ol;rw[<-this,BI]
def jA(a:qt)(i n cap:Nat)(rs:zE)(r:Nat×Nat)(hi:i<n)(m:n<=cap)(e:a.length=cap*2)(g:rs.length=n)(h:a.take (n*2)=zw rs):(Lh a i n [.int .u64 r.1,.int .u64 r.2]).take ((i+1)*2)=zw (rs.take i++[r]):=by
 have g:(splice a (i*2) [Value.int .u64 r.1,Value.int .u64 r.2]).length=cap*2:=by rw[length_splice _ _ _ ol];exact e
 unfold Lh;rw[Qi _ _ _ I];have e:(i+1)*2=i*2 + [Value.int .u64 r.1,Value.int .u64 r.2].length:=ol;rw[e,Oq _ _ _ ol,JK,<-Oo,<-h,BY,BU I];rfl
def jg(a:qt)(i n cap:Nat)(r:Nat×Nat)(hi:i<n)(g:n<=cap)(e:a.length=cap*2):(Lh a i n [.int .u64 r.1,.int .u64 r.2]).length=cap*2:=by
 have g:(splice a (i*2) [Value.int .u64 r.1,Value.int .u64 r.2]).length=cap*2:=by rw[length_splice _ _ _ ol];exact e
 unfold Lh;rw[length_splice _ _ _ (by simp[size_zeroCells];omega)];exact g
def jp(a:qt)(i j n cap:Nat)(rs:zE)(r:Nat×Nat)(hi:i<j)(m:j<n)(q:n<=cap)(e:a.length=cap*2)(h:rs.length=n)(g:a.take (n*2)=zw rs):(Me a i j n [.int .u64 r.1,.int .u64 r.2]).take ((i+1+(n-j))*2)=zw (rs.take i++r::rs.drop j)/\(Me a i j n [.int .u64 r.1,.int .u64 r.2]).length=cap*2:=by
 have h:(splice a (i*2) [Value.int .u64 r.1,Value.int .u64 r.2]).length=cap*2:=by rw[length_splice _ _ _ ol];exact e
 have e:((splice a (i*2) [Value.int .u64 r.1,Value.int .u64 r.2]).drop<|j*2).take ((n-j)*2)=zw (rs.drop j):=by
  rw[jB _ _ _ _ ol ol,<-Ot a (j*2) ((n-j)*2) (n*2) I,g,Us]
 have m:(zw<|rs.drop j).length=(n-j)*2:=by rw[zX];simp;omega
 have m:(splice (splice a (i*2) [Value.int .u64 r.1,Value.int .u64 r.2]) ((i+1)*2)<|zw<|rs.drop j).length=cap*2:=by rw[length_splice _ _ _ I];exact h
 unfold Me;rw[e];constructor
 .rw[Qi _ _ _ I,(I:(i+1+(n-j))*2=(i+1)*2+(zw<|rs.drop j).length),Oq _ _ _ I];have e:(i+1)*2=i*2 + [Value.int .u64 r.1,Value.int .u64 r.2].length:=ol;rw[e,Oq _ _ _ ol,JK,zw,<-Oo,<-g,BY,BU I];simp
 rw[length_splice _ _ _ (by simp[size_zeroCells];omega)];exact m
def i9(v:rU)(rs:zE)(i j:Nat)(r:Nat×Nat)(u:Nat)(w:rT)(Y:i<=j)(Z:j<=rs.length)(C:rs.length<=1099511627776)(n:w.ownsRow 0 110 2 v rs.length (zw rs))
  (y:w.heap[u]?=some (.cells [.int .u64 r.1,.int .u64 r.2].toArray 110 (0,0))) (D:v.ownBlock≠some u) :
  rH 78 #[v,[i],[j],.slice u 1 1] w λe w'=>∃B,e=.returned B/\w'.ownsRow 0 110 2 B (rs.take i++r::rs.drop j).length (zw<|rs.take i++r::rs.drop j)/\w.grownBy w' v.ownBlock/\Dh w v B:=by
 by_cases L:i=j
 .subst L;have E:(rs.take i++r::rs.drop i).length=rs.length+1:=ol;rw[E];obtain⟨a,m,rfl,z,M,_⟩:=zi n;unfold maxLen at M;refine VX a u i _ m _ w I z I ?_;refine(gV _ rs i r u w Z C n y D).mono ?_;rintro e w' ⟨B,rfl,h⟩;exact⟨B,rfl,B,rfl,h⟩
 obtain⟨g,m,q,rfl,K,z,M,G,N⟩:=Pq n I;unfold maxLen at M;have O:u≠g:=λe=>D<|by simp[Value.ownBlock,e]
 by_cases R:j=rs.length
 .have E:(rs.take i++r::rs.drop j).length=i+1:=ol;rw[E];have a:rs.drop j=[]:=ol;rw[a];subst R;refine(VW g u i rs.length m q r w I z I K G y).mono ?_;rintro e w' ⟨rfl,rfl⟩;refine⟨_,rfl,⟨by simp[zX];omega,.inr ⟨g,m,_,rfl,AK _,setRow_heap w g _ _ _ _ K,I,pi,?_,?_⟩⟩,⟨rfl,rfl,rfl,nl,λk _ A=>setRow_other w g k _<|λe=>A<|by simp[Value.ownBlock,e]⟩,λk A=>.inl A⟩
  .simpa using jg q i rs.length m r I z G
  simpa using jA q i rs.length m rs r I z G rfl N
 have E:(rs.take i++r::rs.drop j).length=i+1+(rs.length-j):=ol;rw[E];have X:=jp q i j rs.length m rs r I I z G rfl N;refine(VV g u i j rs.length m q r w I I z I K G (by rw[N];exact Qa rs) y O).mono ?_;rintro e w' ⟨rfl,k,rfl⟩;refine⟨_,rfl,⟨by simp[zX];omega,.inr ⟨g,m,_,rfl,AK _,setRow_heap w g _ _ _ _ K,I,pi,?_,?_⟩⟩,⟨rfl,rfl,rfl,nl,λk _ A=>setRow_other w g k _<|λe=>A<|by simp[Value.ownBlock,e]⟩,λk A=>.inl A⟩
 .simpa using X.2
 simpa using X.1
def jo(a:qt)(n cap:Nat)(rs:zE)(q:2<=n)(g:n<=cap)(e:a.length=cap*2)(h:rs.length=n)(m:a.take (n*2)=zw rs):(Mf a n).take ((n-1)*2)=zw (rs.drop 1)/\(Mf a n).length=cap*2:=by
 have q:(a.drop 2).take ((n-1)*2)=zw (rs.drop 1):=by
  rw[<-Ot a 2 ((n-1)*2) (n*2) I,m];exact Us rs 1
 have g:(zw<|rs.drop 1).length=(n-1)*2:=by rw[zX];simp;omega
 have h:(splice a 0<|zw<|rs.drop 1).length=cap*2:=by rw[length_splice _ _ _ I];exact e
 unfold Mf;rw[q];constructor
 .rw[Qi _ _ _ I];have:=Oq a 0 (zw<|rs.drop 1) I;rw[g,An,B0,BV]at this;exact this
 rw[length_splice _ _ _ (by rw[h,show [Value.int IntKind.u64 0,Value.int IntKind.u64 0].length=2 from rfl];omega)];exact h
def gU(v:rU)(rs:zE)(w:rT)(q:2<=rs.length)(m:w.ownsRow 0 110 2 v rs.length (zw rs)):rH 79 #[v,.int .i64 0,.int .i64 1] w λe w'=>∃n,e=.returned n/\w'.ownsRow 0 110 2 n (rs.drop 1).length (zw (rs.drop 1))/\w.grownBy w' v.ownBlock/\Dh w v n:=by
 obtain⟨g,h,a,rfl,u,y,C,z,A⟩:=Pq m I;unfold maxLen at C;have B:=jo a rs.length h rs q y z rfl A;have m:∀v∈(a.drop 2).take ((rs.length-1)*2),v.oneCell'=true:=by
  intro v n;rw[<-Ot a 2 ((rs.length-1)*2) (rs.length*2) I,A]at n;exact Qa rs v<|Cb n
 refine(Y9 g rs.length h a w q y I u z m).mono ?_;rintro e w' ⟨rfl,rfl⟩;have a:(rs.drop 1).length=rs.length-1:=nl;rw[a];refine⟨_,rfl,⟨by rw[zX,a],.inr ⟨g,h,_,rfl,AK _,setRow_heap w g _ _ _ _ u,I,pi,?_,?_⟩⟩,⟨rfl,rfl,rfl,nl,λk _ a=>setRow_other w g k _<|λe=>a<|by simp[Value.ownBlock,e]⟩,λk a=>.inl a⟩
 .simpa using B.2
 simpa using B.1
def Dk(rs:zE)(lo i:Nat):Bool:=decide (lo<=DB rs i+1)
def Dl(rs:zE)(hi i:Nat):Bool:=decide (hi+1<DE rs i)
def i8:Nw 76:=λa w=>OR func76 kw rfl a w
def i7:Nw 77:=λa w=>OR func77 kw rfl a w
def Y8(rs:zE)(i b o a e lo:Nat)(v:rU)(w:rT)
  (q:w a=some (.pointer (b,o))) (u:w e=some (.int .u64 lo)) (g:lo<18446744073709551616)
  (g:w (b,o)=some v) (h:w.ownsRow 0 110 2 v rs.length (zw rs)) (hi:i<rs.length) :
  rH 76 #[[i],(a,0),(e,0)] w λe w'=>e=.returned (.bool<|Dk rs lo i)/\∃k,w'=w.drewN k:=by
 obtain⟨a,e,rfl,g,n,m⟩:=zi h;obtain⟨g,rfl⟩:=m I;have a:=(Hp h i hi).2;have a:(i:Int)<rs.length:=I;have a:0<=(i:Int):=I;unfold maxLen at n;clear m;by_cases a:lo<=DB rs i
 .have hd:decide ((lo:Int)<=DB rs i)=true:=ol;have a:Dk rs lo i=true:=by simp[Dk];omega
  go_enter func76,ntmps76;go_wp2;go_quiet (fail);go_wp2;go_ret;exact⟨by rw[a];rfl,_,rfl⟩
 have hd:decide ((lo:Int)<=DB rs i)=false:=ol;have hb:0<=(lo:Int)-DB rs i:=I;have a:(lo:Int)-DB rs i<18446744073709551616:=I;have a:AA (Dk rs lo i=decide ((lo:Int)-DB rs i=1)):=by
  show _=_;simp only[Dk];congr 1;apply propext;omega
 go_enter func76,ntmps76;go_wp2;go_quiet (fail);go_wp2;go_ret;exact⟨by rw[a.z];rfl,_,rfl⟩
def Y7(rs:zE)(i b o a e h:Nat)(v:rU)(w:rT)
  (g:w a=some (.pointer (b,o))) (u:w e=some (.int .u64 h)) (hb:∀i,i<rs.length->DE rs i<18446744073709551616)
  (g:w (b,o)=some v) (m:w.ownsRow 0 110 2 v rs.length (zw rs)) (hi:i<rs.length) :
  rH 77 #[.int .i64 i,(a,0),(e,0)] w λe w'=>e=.returned (.bool<|Dl rs h i)/\∃k,w'=w.drewN k:=by
 obtain⟨a,e,rfl,g,q,n⟩:=zi m;obtain⟨g,rfl⟩:=n I;have a:=(Hp m i hi).1;have a:=hb i hi;clear hb;have a:(i:Int)<rs.length:=I;have a:0<=(i:Int):=I;unfold maxLen at q;clear n;by_cases a:h<DE rs i
 .have hd:decide ((h:Int)<DE rs i)=true:=ol;have hb:0<=(DE rs i:Int)-h:=I;have a:(DE rs i:Int)-h<18446744073709551616:=I;have a:AA (Dl rs h i=decide (1<(DE rs i:Int)-h)):=by
   show _=_;simp only[Dl];congr 1;apply propext;omega
  go_enter func77,ntmps77;go_wp2;go_quiet (fail);go_wp2;go_ret;exact⟨by rw[a.z];rfl,_,rfl⟩
 have hd:decide ((h:Int)<DE rs i)=false:=ol;have a:AA (Dl rs h i=false):=by
  show _=_;simp only[Dl,BW];omega
 go_enter func77,ntmps77;go_wp2;go_quiet (fail);go_wp2;go_ret;exact⟨by rw[a.z];rfl,_,rfl⟩
def WF(rs:zE):Prop:=(∀i,i<rs.length->DE rs i<=DB rs i/\DB rs i<18446744073709551616)/\∀i j,i<j->j<rs.length->DB rs i+1<DE rs j
variable{hi lo m1 m2:Nat}
def Ho(h:WF rs)(a:lo<=hi)(e:zU rs.length (Dk rs lo) m1)(g:zU rs.length (Dl rs hi) m2):m1<=m2:=by
 obtain⟨a,b1,c1⟩:=e;obtain⟨a,b2,c2⟩:=g;by_cases a:m2<m1
 .have a:=b1 I;have e:=c2 I;simp only[Dk,BW]at a;simp only[Dl,AW]at e;have e:=h.1 m2 I;by_cases e:m2=m1-1
  .rw[<-e]at a;omega
  have:=h.2 m2 (m1-1) I I;have a:=h.1 (m1-1) I;omega
 omega
def M9(h:w (b,o)=some v):(w.setCell (b,o) v).heap[b]?=w.heap[b]?:=by
 unfold World.cell? at h;simp only[World.setCell,B4];split at h
 .rename_i c e fz hb;simp only at hb;rw[hb];simp only[Option.isSome_none,BT,BE]at h;have:c.setIfInBounds o v=c:=by
   apply CP;intro j;rw[BN];split
   .rename_i a;subst a;split
    .exact h.symm
    rename_i a;simp[CF (Bl a)]at h
   rfl
  simp[this]
 cases h
theorem jf(w:rT)(b o:Nat)(x y z:rU):(((w.setCell (b,o) x).setCell (b,o+1) y).setCell (b,o) z).heap[b]?=((w.setCell (b,o) z).setCell (b,o+1) y).heap[b]?:=by
 simp only[World.setCell,B4,Aq];cases w.heap[b]? with
 | none=>rfl
 | some ob =>
  cases ob with
  | cells c e fz =>
   simp only[BP,Option.isSome_none,BT,BE];congr 2;apply CP;intro j;simp only[BN,Co];by_cases a:o=j
   .subst a;simp
   by_cases g:o+1=j
   .subst g;simp
   simp[a,g]
  | _=>rfl
structure Ff(w W:rT)(b o S L H:Nat)(v:rU)(rs:zE)(fl most lo hi:Nat):Prop where
 cs:W S=some (.pointer (b,o))
 cl:W L=some (.int .u64 lo)
 ch:W H=some (.int .u64 hi)
 fz:W.frozen? ⟨L,0,none⟩=false
 set:Ed W b o v rs fl most
 mod:C9 DA w W
 ns:w.heap.size<=S/\w.heap.size<=L/\w.heap.size<=H
 ne:S≠L/\H≠L
variable{H:Nat}{W:rT}
def Ff.drewN{S L:Nat}(h:Ff w W b o S L H v rs fl most lo hi)(k:Nat):Ff w (W.drewN k) b o S L H v rs fl most lo hi :=
 ⟨h.cs,h.cl,h.ch,h.fz,h.set.mod ((C9.refl DA W).drewN k) rP<|λ_ _ x=>x,h.mod.drewN k,h.ns,h.ne⟩
def Ff.alloc{S L:Nat}(h:Ff w W b o S L H v rs fl most lo hi)(x:Obj):Ff w (W.alloc x) b o S L H v rs fl most lo hi:=by
 have a:=(C9.refl DA W).alloc x;exact⟨a.cell rP h.cs,a.cell rP h.cl,a.cell rP h.ch,by rw[World.frozen?_of_block (w:=W) (a.block L (zo h.cl) rP)];exact h.fz,h.set.mod a rP<|λ_ _ x=>x,h.mod.alloc x,h.ns,h.ne⟩
def Ff.start(w:rT)(b o:Nat)(v:rU)(rs:zE)(n a lo hi e g m:Nat)(h:Ed w b o v rs n a):Ff w (((w.alloc (.cells #[(b,o)] e)).alloc (.cells #[lo] g)).alloc (.cells #[hi] m)) b o w.heap.size (w.heap.size+1) (w.heap.size+1+1) v rs n a lo hi:=by
 have a:C9 DA w (((w.alloc<|.cells #[(b,o)] e).alloc<|.cells #[lo] g).alloc<|.cells #[hi] m):=((rS.alloc _).alloc _).alloc _;have q:(((w.alloc<|.cells #[(b,o)] e).alloc<|.cells #[lo] g).alloc<|.cells #[hi] m).heap[w.heap.size]?=some (.cells #[(b,o)] e (0,0)):=by
  rw[Below.heap_alloc _ _ _ ol,Below.heap_alloc _ _ _ nl];exact heap_alloc_new w _
 have n:(((w.alloc<|.cells #[(b,o)] e).alloc<|.cells #[lo] g).alloc<|.cells #[hi] m).heap[w.heap.size+1]?=some (.cells #[lo] g (0,0)):=by
  rw[Below.heap_alloc _ _ _ nl];have:=heap_alloc_new (w.alloc<|.cells #[(b,o)] e)<|.cells #[lo] g;simpa using this
 have u:(((w.alloc<|.cells #[(b,o)] e).alloc<|.cells #[lo] g).alloc<|.cells #[hi] m).heap[w.heap.size+2]?=some (.cells #[hi] m (0,0)):=by
  have:=heap_alloc_new ((w.alloc<|.cells #[(b,o)] e).alloc<|.cells #[lo] g)<|.cells #[hi] m;simpa using this
 exact⟨za q rfl,za n rfl,za u rfl,zd n,h.mod a rP<|λ_ _ x=>x,a,⟨I,I,I⟩,⟨I,I⟩⟩
def Ff.raise{S L:Nat}(h:Ff w W b o S L H v rs fl most lo hi)(hb:b<w.heap.size)(m:∀g,v.ownBlock=some g->g<w.heap.size)(a:Nat):Ff w (W.setCell L (.int .u64 a)) b o S L H v rs fl most a hi:=by
 have e:C9 (λk=>k=L) W (W.setCell L<|.int .u64 a):=(C9.refl (λk=>k=L) W).setCell (p:=L) rO _;obtain⟨n1,n2,n3⟩:=h.ns;exact⟨e.cell h.ne.1 h.cs,by rw[World.cell?_setCell_same _ _ _ h.cl],e.cell h.ne.2 h.ch,by rw[World.frozen?_setCell];exact h.fz,h.set.mod e (by show ¬b=L;omega) (λg a=>by show ¬g=L;have:=m g a;omega),
  h.mod.setCell (.inr n2) _,h.ns,h.ne⟩
def Ff.qX{R:Nat}(h:Ff w W b o w.heap.size (w.heap.size+1) (w.heap.size+1+1) v rs fl most lo hi)(a:w.heap.size+1+1<R)(hb:b<R)(e:∀g,v.ownBlock=some g->g<R)(x y:rU):Ff w ((W.setCell R x).setCell (R,1) y).drew b o w.heap.size (w.heap.size+1) (w.heap.size+1+1) v rs fl most lo hi:=by
 have a:=(((C9.refl (λk=>k=R) W).setCell (p:=R) rO x).setCell (p:=U R 1) rO y).drew;have n1:¬w.heap.size=R:=I;have n2:¬w.heap.size+1=R:=I;have n3:¬w.heap.size+1+1=R:=I;have m:¬b=R:=I;exact⟨a.cell n1 h.cs,a.cell n2 h.cl,a.cell n3 h.ch,by rw[World.frozen?_of_block (w:=W) (a.block (w.heap.size+1) (zo h.cl) n2)];exact h.fz,h.set.mod a m (λg a=>by show ¬g=R;have:=e g a;omega),
  ((h.mod.setCell (p:=R) (.inr<|by show _<=R;omega) x).setCell (p:=U R 1) (.inr<|by show _<=R;omega) y).drew,h.ns,h.ne⟩
def NH{R:Nat}{g a:rU}(h:W.heap[R]?=some (.cells #[g,a] t (0,0)))(x y:Int)(x' e:Nat)(m:x=(x':Int))(n:y=(e:Int)):(((W.setCell R (.int .u64 x)).setCell (R,1) (.int .u64 y)).drew).heap[R]?=some (.cells #[x',e] t (0,0)):=by
 subst m n;have m:(W.setCell R<|.int .u64 x').heap[R]?=some (.cells #[x',a] t (0,0)):=by
  rw[setCell_eq_setRow W R 0 #[g,a] t (0,0) _ h];exact setRow_heap W R _ _ _ _ h
 show((W.setCell R<|.int .u64 x').setCell (U R 1)<|.int .u64 e).heap[R]?=_;rw[setCell_eq_setRow _ R 1 #[.int .u64 x',a] t (0,0) _ m];exact setRow_heap _ R _ _ _ _ m
def VU(rs:zE)(n m b o lo hi:Nat)(v:rU)(w:rT)(h:Ed w b o v rs n m)
  (u:∀g,v.ownBlock=some g->g<w.heap.size) (q:hi<max lo n) :
  rH 38 #[(b,o),lo,hi] w λe w'=>e=.returned (.tuple #[])/\C9 DA w w':=by
 have g:=zo h.cf;have a:=Ff.start w b o v rs n m lo hi 101 34 34 h;obtain⟨W0,e⟩:=nm<|(((w.alloc<|.cells #[(b,o)] 101).alloc<|.cells #[lo] 34).alloc<|.cells #[hi] 34);rw[e]at a;have h:=zb e;clear e;obtain⟨m,y⟩:=nm<|max lo n;have e:=(a.raise g u m).drewN 1;have u:AA ((if lo<n then(n:Int)else lo)=(m:Int)):=by
  show _=_;split<;>omega
 rw[y]at q;obtain⟨W1,g⟩:=nm<|(W0.setCell (U (w.heap.size+1) 0)<|.int .u64 m).drew;have n:=zb g;rw[show(W0.setCell (U (w.heap.size+1) 0)<|.int .u64 m).drewN 1=W1 from g]at e;clear g y;have c1:=a.cs;have c2:=a.cl;have g:=a.set.cf;have q:=a.fz;go_enter func38,ntmps38;go_wp2_with fail;rw[h.z]
 go_region
 rw[u.z,n.z];clear c1 c2 g q;have c2:=e.cl;have g:=e.ch;have a:(hi:Int)<m:=I;go_wp2_with fail;refine bodyPost_ret (results_none rfl _ _ _) rfl ?_;exact⟨rfl,e.mod⟩
def Dg(rs:zE)(m hi m1 m2:Nat):Nat×Nat:=if m1<m2 then(min m (DE rs m1),max hi (DB rs (m2-1)))else(m,hi)
def Dd(rs:zE)(m hi m1 m2:Nat):zE:=rs.take m1++Dg rs m hi m1 m2::rs.drop m2
def Vu(rs:zE)(g h b o lo hi:Nat)(v:rU)(w:rT)(e:Ending)(w':rT):Prop :=
 ∃m n u a q,zU rs.length (Dk rs<|max lo g) m/\zU rs.length (Dl rs hi) n /\
  (a,q)=(if h<(Dd rs (max lo g) hi m n).length then((Dd rs (max lo g) hi m n).drop 1,DB (Dd rs (max lo g) hi m n) 0+1)else(Dd rs (max lo g) hi m n,g)) /\
  e=.returned (.tuple #[])/\w'.ownsRow 0 110 2 u a.length (zw a)/\w'.heap[b]?=((w.setCell (b,o) u).setCell (b,o+1)<|.int .u64 q).heap[b]? /\
  C9 (λk=>k=b\/v.ownBlock=some k) w w'/\Dh w v u
def LG(rs:zE)(fl z b o lo hi:Nat)(v:rU)(w:rT)(h:Ed w b o v rs fl z)(aC:WF rs)(aZ:lo<18446744073709551616)(a0:hi<18446744073709551616)(a1:fl<18446744073709551616)
  (hv:∀g,v.ownBlock=some g->g<w.heap.size) (aj:v.ownBlock≠some b) (aD:max lo fl<=hi)
  (Z:1<=z) (aV:z<=9223372036854775807) (ak:∀y u,zU rs.length (Dk rs<|max lo fl) y->zU rs.length (Dl rs hi) u->WF (Dd rs (max lo fl) hi y u)) :
  rH 38 #[(b,o),lo,hi] w λe w'=>Vu rs fl z b o lo hi v w e w':=by
 have aE:=zo h.cf;have aF:=h.len;have aa:=Ff.start w b o v rs fl z lo hi 101 34 34 h;obtain⟨W0,aw⟩:=nm<|(((w.alloc<|.cells #[(b,o)] 101).alloc<|.cells #[lo] 34).alloc<|.cells #[hi] 34);rw[aw]at aa;have aG:=zb aw;clear aw;obtain⟨m,hm⟩:=nm<|max lo fl;have aW:m<18446744073709551616:=I;have A:=(aa.raise aE hv m).drewN 1;have aH:AA ((if lo<fl then(fl:Int)else lo)=(m:Int)):=by
  show _=_;split<;>omega
 have HM:=zb hm;rw[hm]at aD ak;obtain⟨W1,ax⟩:=nm<|(W0.setCell (U (w.heap.size+1) 0)<|.int .u64 m).drew;have aI:=zb ax;rw[show(W0.setCell (U (w.heap.size+1) 0)<|.int .u64 m).drewN 1=W1 from ax]at A;clear ax hm;have c1:=aa.cs;have c2:=aa.cl;have c3:=aa.set.cf;have c4:=aa.fz;have aJ:∀k0,rH 75 #[[rs.length],.func (.func 76) #[] #[.pointer w,.pointer (w.heap.size+1,0)]] (W1.drewN k0) λe w'=>∃y,zU rs.length (Dk rs m) y/\e=.returned (.int .i64 y)/\∃k,w'=W1.drewN k:=λk0 =>
  (PV rs.length 76 #[.pointer w,.pointer (U (w.heap.size+1) 0)] (Dk rs m) (W1.drewN k0) I i8 (λi k ay =>
   (Y8 rs i b o w.heap.size (w.heap.size+1) m v ((W1.drewN k0).drewN k) A.cs A.cl aW A.set.cl A.set.own ay).mono λe w' ⟨he,k',hw⟩=>⟨he,k+k',by rw[hw,World.drewN_drewN]⟩)).mono
   λe w' ⟨y,h1,he,k',hw⟩=>⟨y,h1,he,k0+k',by rw[hw,World.drewN_drewN]⟩
 have aK:∀k0,rH 75 #[[rs.length],.func (.func 77) #[] #[.pointer w,.pointer (w.heap.size+1+1,0)]] (W1.drewN k0) λe w'=>∃u,zU rs.length (Dl rs hi) u/\e=.returned (.int .i64 u)/\Ff w w' b o w.heap.size (w.heap.size+1) (w.heap.size+1+1) v rs fl z m hi:=λk0 =>
  (PV rs.length 77 #[.pointer w,.pointer (U (w.heap.size+1+1) 0)] (Dl rs hi) (W1.drewN k0) I i7 (λi k ay =>
   (Y7 rs i b o w.heap.size (w.heap.size+1+1) hi v ((W1.drewN k0).drewN k) A.cs A.ch (λi hi=>qm<|aC.1 i hi) A.set.cl A.set.own ay).mono λe w' ⟨he,k',hw⟩=>⟨he,k+k',by rw[hw,World.drewN_drewN]⟩)).mono
   λe w' ⟨y,h1,he,k',hw⟩=>⟨y,h1,he,by rw[hw];exact(A.drewN k0).drewN k'⟩
 obtain⟨a,L,B,n1,n2,n3⟩:=zi h.own;have aL:=zb aJ;have aM:=zb aK;clear aJ aK;go_enter func38,ntmps38;go_wp2_with fail;rw[aG.z]
 go_region
 rw[aH.z,aI.z];clear c1 c2 c3 c4;have c1:=A.cs;have c2:=A.cl;have c3:=A.ch;have c5:=A.set.cl;rw[B]at c5;have h:¬(hi:Int)<m:=I;have aN:=trivial;go_upto_if 37 with(first|(go_at_call 75;have _t:=aN;refine(aL.z 0).mono ?_;rintro e w' ⟨y,an,rfl,k1,rfl⟩;clear aN)|(go_at_call 75;refine(aM.z _).mono ?_;rintro e W2 ⟨u,ah,rfl,ab⟩;have d1:=ab.cs;have d2:=ab.cl;have d3:=ab.ch;have d5:=ab.set.cl;rw[B]at d5;clear c1 c2 c3 c5));obtain⟨R,hR⟩:=nm W2.heap.size;obtain⟨W3,h⟩:=nm<|W2.alloc<|.cells #[m,hi] 110;have D:=h ▸ ab.alloc _;have M:W3.heap[R]?=some (.cells #[m,hi] 110 (0,0)):=by rw[<-h,<-hR];exact heap_alloc_new W2 _
 have aX:w.heap.size+1+1<R:=by rw[<-hR];exact zo ab.ch
 have aY:b<R:=I;have a2:w.heap.size<R:=I;rw[hR,h];clear hR h d1 d2 d3 d5 ab A aa aL aM aG aI aH
 go_cut [6,7] (λf t wx=>f=.int .i64 y/\t=.int .i64 u/\Ff w wx b o w.heap.size (w.heap.size+1) (w.heap.size+1+1) v rs fl z m hi /\
  wx.heap[R]?=some (.cells #[.int .u64 ((Dg rs m hi y u).1:Int),.int .u64 ((Dg rs m hi y u).2:Int)] 110 (0,0)))
 case first =>
  have d1:=D.cs;have d2:=D.cl;have d3:=D.ch;have d5:=D.set.cl;rw[B]at d5;have e1:=za (o:=0) M rfl;have e2:=za (o:=1) M rfl;have e3:=zd (o:=0) M;have e4:=zd (o:=1) M;by_cases aO:y<u
  .have ap:=ah.1;obtain⟨g,rfl⟩:=n3 I;have h:g<R:=by
    have:=hv g (by rw[B];rfl);omega
   have r1:=(Hp (B ▸ D.set.own) y I).1;have r2:=(Hp (B ▸ D.set.own) (u-1) I).2;have h:(y:Int)<u:=I;have h:(y:Int)<rs.length:=I;have h:(u:Int)-1<rs.length:=I;have h:0<=(u:Int)-1:=I;have h:IntKind.i64.wrap ((u:Int)-1)=(u:Int)-1:=IntWalk.i64_in _ I;have h:((u:Int)-1).toNat=u-1:=I;have h:(1:Int)<=u:=I;have q1:¬w.heap.size=R:=I;have q2:¬w.heap.size+1=R:=I;have q3:¬w.heap.size+1+1=R:=I;have q4:¬b=R:=I;have q5:¬g=R:=I;have Hr:AA (Dg rs m hi y u=(min m<|DE rs y,max hi<|DB rs<|u-1)):=by
    show _=_;rw[Dg,AL aO]
   have aP:AA ((if DE rs y<m then(DE rs y:Int)else(m:Int))=((min m (DE rs y):Nat):Int)):=by
    show _=_;split<;>omega
   have aQ:AA ((if hi<DB rs (u-1)then(DB rs (u-1):Int)else(hi:Int))=((max hi (DB rs<|u-1):Nat):Int)):=by
    show _=_;split<;>omega
   go_wp2_with fail
   go_region_held3 (λw'=>w' w=some (.pointer (b,o))/\w' (U (w.heap.size+1) 0)=some (.int .u64 m)/\w' (U (w.heap.size+1+1) 0)=some (.int .u64 hi)/\w' (b,o)=some (.slice g rs.length L)/\w' (g,y*2)=some (.int .u64 (DE rs y:Int))/\w' (g,(u-1)*2+1)=some (.int .u64 (DB rs (u-1):Int))) (first|exact⟨d1,d2,d3,d5,r1,r2⟩|exact⟨LY d1 q1,LY d2 q2,LY d3 q3,LY d5 q4,LY r1 q5,LY r2 q5⟩|exact⟨LX d1 q1,LX d2 q2,LX d3 q3,LX d5 q4,LX r1 q5,LX r2 q5⟩) ((fail))
   all_goals
    rw[aP.z,aQ.z];generalize hmn:min m (DE rs y)=mn at *;generalize hmx:max hi (DB rs<|u-1)=mx at *;have C:=D.qX aX aY (by rw[B];intro k hk;simp[Value.ownBlock]at hk;omega) (.int .u64 mn)<|.int .u64 mx;have ac:(((W3.setCell R<|.int .u64 mn).setCell (R,1)<|.int .u64 mx).drew).heap[R]?=some (.cells #[.int .u64 ((Dg rs m hi y u).1:Int),.int .u64 ((Dg rs m hi y u).2:Int)] 110 (0,0)):=by
     rw[Hr.z];exact NH M mn mx mn mx rfl rfl
    clear d1 d2 d3 d5 e1 e2 e3 e4 r1 r2 M D hmn hmx aP aQ;generalize ((W3.setCell R<|.int .u64 mn).setCell (U R 1)<|.int .u64 mx).drew=W4 at *;go_wp2;go_meet;exact⟨rfl,rfl,C,ac⟩
  have Hr:AA (Dg rs m hi y u=(m,hi)):=by
   show _=_;rw[Dg,AH aO]
  go_wp2;go_meet;exact⟨rfl,rfl,D,by rw[Hr.z];exact M⟩
 case rest =>
  obtain⟨rfl,rfl,C,ac⟩:=hcut;clear M D n3;have ap:=ah.1;have D:=Ho aC aD an ah;obtain⟨rl,h⟩:=nm<|(Dg rs m hi y u).1;obtain⟨rh,A⟩:=nm<|(Dg rs m hi y u).2;rw[h,A]at ac;have Hr:AA (Dg rs m hi y u=(rl,rh)):=by
   show _=_;rw[<-h,<-A]
  clear h A;have d1:=C.cs;have d5:=C.set.cl;rw[B]at d5;have e1:=za (o:=0) ac rfl;have e2:=za (o:=1) ac rfl;have h:=zo C.cs;have l2:b<wc.heap.size:=I;have h:=(AJ.1 ac).1;have q1:¬w.heap.size=wc.heap.size:=I;have q2:¬b=wc.heap.size:=I;have q3:¬R=wc.heap.size:=I;have q4:¬w.heap.size=b:=I;have q5:¬R=b:=I;have ae:=C.set.own;rw[B]at ae;have aR:(Value.slice a rs.length L).ownBlock≠some wc.heap.size:=by
   intro hx;have:=ae.lt _ hx;omega
  have p1:some w.heap.size≠(Value.slice a rs.length L).ownBlock:=by
   intro hx;have:=hv _<|B ▸ hx.symm;omega
  have p2:some b≠(Value.slice a rs.length L).ownBlock:=λhx=>aj<|B ▸ hx.symm
  have p3:some R≠(Value.slice a rs.length L).ownBlock:=by
   intro hx;have:=hv _<|B ▸ hx.symm;omega
  have N:C9 DA wc (wc.alloc<|.cells #[rl,rh] 110).drew:=((C9.refl DA wc).alloc _).drew;have ai:=And.intro (N.cell rP d1)<|And.intro (N.cell rP d5)<|And.intro (N.cell rP e1)<|N.cell rP e2;have aq:∀w4,World.grownBy (wc.alloc<|.cells #[rl,rh] 110).drew w4 (Value.slice a rs.length L).ownBlock->w4.frozen? ⟨b,o,none⟩=false:=by
   intro w4 E;rw[World.frozen?_of_block (w:=(wc.alloc<|.cells #[rl,rh] 110).drew) (E.block b (Au l2 N.size) p2)];exact(C.set.mod N rP<|λ_ _ x=>x).fz o
  go_upto_region 8 with fail;refine zr 12 (λw'=>w' w=some (.pointer (b,o))/\w' (b,o)=some (.slice a rs.length L)/\w' R=some (.int .u64 rl)/\w' (U R 1)=some (.int .u64 rh)) ⟨d1,d5,e1,e2⟩ ?_;refine GI 0 ?_;iterate 8
   refine GV rfl ?_;try simp only[PS]
  refine zD 8 rfl (λK O=>?_);go_simp;refine O.z _ _ ai ?_;clear O K;try simp only[PS]
  refine zD 9 rfl (λK O=>?_);go_simp;refine(i9 (.slice a rs.length L) rs y u (rl,rh) wc.heap.size _ D ap aF ?_ ?_ aR).mono ?_
  .exact(((C9.refl DA wc).alloc _).drew).owns ae (λ_ _ x=>x)
  .exact heap_alloc_new wc _
  rintro e w4 ⟨v',rfl,ho,E,ao⟩;have f1:=E.cell ai.1 p1;have f2:=E.cell ai.2.1 p2;have f3:=E.cell ai.2.2.1 p3;have f4:=E.cell ai.2.2.2 p3;have f5:=aq _ E;refine O.z _ _ ⟨f1,f2,f3,f4⟩ ?_;clear O K;try simp only[PS]
  refine GI 10 ?_;iterate 2
   refine GV rfl ?_;try simp only[PS]
  obtain⟨n,a⟩:=nm<|rs.take y++(rl,rh)::rs.drop u;rw[a]at ho;have aA:AA (Dd rs m hi y u=n):=by
   show _=_;rw[Dd,Hr.z,a]
  have aS:WF n:=by rw[<-aA.z];exact ak y u an ah
  have h:n.length<=rs.length+1:=by
   rw[<-a];simp;omega
  clear a;have af:(v':rU).ownBlock≠some b:=by
   intro hx;rcases ao b hx with h1|h1
   .exact p2 h1.symm
   simp at h1;omega
  obtain⟨a',q,rfl,k1,a,k3⟩:=zi ho;have a:C9 (λk=>v.ownBlock=some k) wc w4:=(N.mono rQ).grown E (λk hk=>.inl (by rw[B,hk]));have al:Dh w v (.slice a' n.length q):=λk hk=>by
   rcases ao k hk with h1|h1
   .exact .inl (by rw[B];exact h1)
   refine .inr ?_;have:=C.mod.size;simp at h1;omega
  have aT:∀k,(Value.slice a' n.length q).ownBlock=some k->v.ownBlock=some k\/wc.heap.size<=k:=λk hk=>by
   rcases ao k hk with h1|h1
   .exact .inl (by rw[B];exact h1)
   exact .inr<|by simp at h1;omega
  obtain⟨W5,h⟩:=nm<|w4.setCell (b,o)<|.slice a' n.length q;have g1:W5 w=some (.pointer (b,o)):=by rw[<-h];exact On f1 q4
  have g2:W5 (b,o)=some (.slice a' n.length q):=by rw[<-h,World.cell?_setCell_same _ _ _ f2]
  have g3:W5 (b,o+1)=some (.int .u64 fl):=by
   rw[<-h,World.cell?_setCell_other _ _ _ _ nl];exact a.cell aj C.set.cf
  have g4:W5 (b,o+2)=some (.int .i64 z):=by
   rw[<-h,World.cell?_setCell_other _ _ _ _ nl];exact a.cell aj C.set.cm
  have g5:∀j,W5.frozen? ⟨b,j,none⟩=false:=by
   intro j;rw[<-h,World.frozen?_setCell,World.frozen?_of_block (w:=wc) (a.block b l2 aj)];exact C.set.fz j
  have ag:W5.ownsRow 0 110 2 (.slice a' n.length q) n.length (zw n):=by
   rw[<-h];exact((C9.refl (λk=>k=b) w4).setCell (p:=(b,o)) rO _).owns ho (λg m x=>af<|m.trans<|Ax some x)
  have am:C9 (λk=>k=b\/v.ownBlock=some k) w W5:=by
   rw[<-h];exact((C.mod.mono rQ).then (S':=λk=>v.ownBlock=some k) a<|λi hi=>.inl<|.inr hi).setCell (p:=(b,o)) (.inl rO) _
  have ad:W5.heap[b]?=(w.setCell (b,o)<|.slice a' n.length q).heap[b]?:=by
   rw[<-h];exact My ((a.block b l2 aj).trans<|C.mod.block b aE rP) _ _
  refine Dt rfl (λK O=>?_);go_simp;refine O.z _ _ ?_;clear O K;try simp only[PS]
  refine zt ?_;try rw[h]
  clear h a f1 f2 f3 f4 f5 aq ai N d1 d5 e1 e2 ac C E ao ae aR p1 p2 p3;have a:(n.length:Int)<=1099511627777:=I;by_cases Z:z<n.length
  .have hd:(z:Int)<n.length:=I;have k0:2<=n.length:=I;obtain⟨g,rfl⟩:=k3 I;have r1:W5 (g,1)=some (.int .u64 (DB n 0:Int)):=by simpa using(Hp ag 0 I).2
   have a:DB n 0+1<18446744073709551616:=by
    have h1:=aS.2 0 1 I I;have h2:=aS.1 1 I;omega
   have a:(0:Int)<n.length:=I;have a:0<n.length:=I;have a:=wu ((DB n 0:Int)+1) I;go_wp2;go_quiet (fail);go_wp2_with fail;refine zr 11 (λw'=>w' w=some (.pointer (b,o))/\w' (b,o)=some (.slice g n.length q)/\w' (U g 1)=some (.int .u64 (DB n 0:Int))) ⟨g1,g2,r1⟩ ?_;refine GI 0 ?_;iterate 11
    refine GV rfl ?_;try simp only[PS]
   have A:=g5<|o+1;refine Dt rfl (λK O=>?_);go_simp;refine O.z _ _ ?_;clear O K;try simp only[PS]
   refine zt ?_;obtain⟨W6,a⟩:=nm<|(W5.drewN<|nq+1).setCell (b,o+1)<|.int .u64<|(DB n 0:Int)+1;have h:C9 (λk=>k=b) W5 W6:=by
    rw[<-a];exact((C9.refl (λk=>k=b) W5).drewN<|nq+1).setCell (p:=(b,o+1)) rO _
   have s1:=h.cell q4 g1;have s2:W6 (b,o)=some (.slice g n.length q):=by
    rw[<-a,World.cell?_setCell_other _ _ _ _ nl];exact g2
   have s3:W6.frozen? ⟨b,o,none⟩=false:=by
    rw[<-a,World.frozen?_setCell];exact g5 o
   have m:=h.owns ag<|λk hk x=>af<|hk.trans<|Ax some x;have ar:=am.then h<|λi hi=>.inl<|.inl hi;have aB:W6.heap[b]?=((w.setCell (b,o)<|.slice g n.length q).setCell (b,o+1)<|.int .u64<|(DB n 0:Int)+1).heap[b]?:=by
    rw[<-a];exact My (w':=W5.drewN<|nq+1) ad _ _
   rw[a];clear a g1 g2 g3 g4 A r1 ad am ag;go_wp2_with fail;refine zr 8 (λw'=>w' w=some (.pointer (b,o))/\w' (b,o)=some (.slice g n.length q)) ⟨s1,s2⟩ ?_;refine GI 0 ?_;iterate 5
    refine GV rfl ?_;try simp only[PS]
   refine zD 5 rfl (λK O=>?_);go_simp;refine(gU (.slice g n.length q) n _ k0 ?_).mono ?_
   .exact((C9.refl DA W6).drew).owns m (λ_ _ x=>x)
   rintro e w7 ⟨a,rfl,aU,X,au⟩;have p2:some b≠(Value.slice g n.length q).ownBlock:=λhx=>af hx.symm
   have p1:some w.heap.size≠(Value.slice g n.length q).ownBlock:=by
    intro hx;rcases aT _ hx.symm with h1|h1
    .have:=hv _ h1;omega
    omega
   have f1:=X.cell (w:=W6.drew) s1 p1;have f2:=X.cell (w:=W6.drew) s2 p2;have av:=zo s2;have f5:w7.frozen? ⟨b,o,none⟩=false:=by
    rw[World.frozen?_of_block (w:=W6.drew) (X.block b av p2)];exact s3
   refine O.z _ _ ⟨f1,f2⟩ ?_;clear O K;try simp only[PS]
   refine GI 6 ?_;iterate 2
    refine GV rfl ?_;try simp only[PS]
   obtain⟨a7,Y,rfl,a,e,g⟩:=zi aU;refine Dt rfl (λK O=>?_);go_simp;refine O.z _ _ ?_;clear O K;try simp only[PS]
   refine zt ?_;have a:(Value.slice a7 (n.drop 1).length Y).ownBlock≠some b:=by
    intro hx;rcases au b hx with h1|h1
    .exact af h1
    have h2:W6.heap.size<=b:=h1;omega
   have e:=ar.drew.grown X<|λk hk=>(al k hk).imp .inr id;go_wp2_with fail;refine bodyPost_ret (results_none rfl _ _ _) rfl ?_;refine⟨y,u,.slice a7 (n.drop 1).length Y,n.drop 1,DB n 0+1,by rw[HM.z];exact an,ah,?_,rfl,?_,?_,?_,?_⟩
   .rw[HM.z,aA.z,AL Z]
   .have:=((C9.refl (λk=>k=b) w7).setCell (p:=(b,o)) rO<|.slice a7 (n.drop 1).length Y).owns aU<|λk hk x=>a<|hk.trans<|Ax some x;simpa using this
   .have h1:w7.heap[b]?=W6.heap[b]?:=X.block b av p2;have:=(My (h1.trans aB) o<|.slice a7 (n.drop 1).length Y).trans<|jf _ _ _ _ _ _;simpa using this
   .have:=e.setCell (p:=(b,o)) (.inl rO)<|.slice a7 (n.drop 1).length Y;simpa using this
   intro k hk;rcases au k hk with h1|h1
   .exact al k h1
   have h2:W6.heap.size<=k:=h1;exact .inr<|AR ar.size h2
  have hd:¬(z:Int)<n.length:=I;go_wp2;go_quiet (fail);go_wp2_with fail;refine bodyPost_ret (results_none rfl _ _ _) rfl ?_;refine⟨y,u,.slice a' n.length q,n,fl,by rw[HM.z];exact an,ah,?_,rfl,ag,?_,am.drewN _,al⟩
  .rw[HM.z,aA.z,AH Z]
  exact(M9 g3).symm.trans (My ad _ _)
section
variable {P:Program}
def KZ(w:rT)(t e:Nat)(i:TypeInfo)(z:rU)(size bytes:Nat)(Z:P.underlying t=some (.slice e))(hi:P.info? e=some i)(hz:i.zero=some z)
  (D:i.size=size) (Y:i.bytes=bytes) (aa:z.cells.size=size) (u:0<size)
  (v:rU) (n:Nat) (xs:qt) (q:w.ownsRow 0 e size v n xs)
  (a:Addr) (m c:Nat) (h:qt) (N:h.length=m*size) (A:∀j u,h[j]?=some u->w (a.add j)=some u) (h1:∀u∈h,u.oneCell'=true)
  (R:n+m<=maxLen) (B:(n+m)*bytes<=140737488355328) :
  ∃u w',(∀M,(Builtin.append_ #[t,t] M #[v,.slice (some a) m c]).run P w=.ok u w')/\w'.ownsRow 0 e size u (n+m) (xs++h)/\w.grownBy w' v.ownBlock/\Dh w v u/\w'.ownsRow 0 e size v n xs:=by
 subst D;subst Y;have u:n+m<=9223372036854775807:=by simp only[maxLen]at R;omega
 have C:(xs++h).length=(n+m)*i.size:=by rw[AF,q.1,N,Cy]
 have grown:∀(u:Nat),u<n+m->∀(row:Option Nat),
   (w.drew.alloc<|.cells (xs.toArray++h.toArray++Builtin.zeroCells z.cells (grownCap w (n+m) u e-(n+m))) e).ownsRow 0 e i.size
    (.slice w (n+m)<|grownCap w (n+m) u e) (n+m) (xs++h) /\
   w.grownBy (w.drew.alloc<|.cells (xs.toArray++h.toArray++Builtin.zeroCells z.cells (grownCap w (n+m) u e-(n+m))) e) row:=by
  intro u D row;have D:=grownCap_ge w (n+m) u e;have K:=grownCap_le_maxLen w (n+m) u e R;refine⟨⟨C,.inr ⟨w.heap.size,_,_,rfl,AK _,heap_alloc_new w.drew _,D,K,?_,?_⟩⟩,⟨rfl,rfl,rfl,nl,λk O _=>Below.heap_alloc w.drew _ k O⟩⟩
  .simp only[Cm,BS,size_zeroCells,aa,q.1,N,<-Nat.add_mul];congr 1;omega
  simp only[Cg,BC];rw[<-List.append_assoc,<-C];exact BI
 have E:∀c n v,Dh w v (.slice w n c):=λc n v k O=>by
  simp[Value.ownBlock]at O;omega
 rcases q.2 with⟨rfl,rfl⟩|⟨g,y,L,rfl,X,hg,ab,K,ac,G⟩
 .have hx:=Aj<|qp q.1;subst hx;by_cases hm:m=0
  .subst hm;have hn:=Aj<|qp N;subst hn;refine⟨.slice none 0 0,w,λM=>?_,World.ownsRow_nil w 0 e i.size,⟨rfl,rfl,rfl,AI _,λ_ _ _=>rfl⟩,Dh.refl _ _,World.ownsRow_nil w 0 e i.size⟩;simp[Builtin.append_,run_underlying Z,sizeOf,typeInfo,hi,Builtin.lenOf,Builtin.firstCells,loadCells,loadCellsFrom]
  have R:=λM=>run_append_nil (P:=P) w t M e i z Z hi hz a m c h N A I I (by have hb:=B;simp only[An]at hb;omega)
  have D:=grown 0 I<|Value.ownBlock rV;simp only[An,BV,Array.empty_append]at D ⊢;exact⟨_,_,R,D.1,D.2,E _ _ _,World.ownsRow_nil _ 0 e i.size⟩
 by_cases u:n+m<=y
 .have Y:n*i.size+h.length<=L.size:=by rw[N,ac,<-Nat.add_mul];exact B7 _ u
  have R:=λM=>run_append_room (P:=P) w t M e i Z hi g n y L hg a m c h N A h1 u Y
  refine⟨_,_,R,⟨C,.inr ⟨g,y,_,rfl,X,setRow_heap w g L _ e _ hg,u,K,?_,?_⟩⟩,⟨rfl,rfl,rfl,nl,λk _ O=>setRow_other w g k _<|λe=>O<|by simp[Value.ownBlock,e]⟩,λk O=>.inl O,⟨q.1,.inr ⟨g,y,_,rfl,X,setRow_heap w g L _ e _ hg,ab,K,?_,?_⟩⟩⟩
  .simp only[BS,AF,AU,Af,Bw];omega
  .rw[G,<-C];exact BI
  .simp only[BS,AF,AU,Af,Bw];omega
  rw[G,<-q.1,BC];exact BI
 have u:=q.cells (g:=g) rfl;have R:=λM=>run_append_grow (P:=P) w t M e i z Z hi hz ⟨g,0,none⟩ n y xs q.1 u a m c h N A I I<|growslice_fits I B
 have D:=grown y I<|Value.ownBlock<|.slice g n y;have a:=grown y I none;exact⟨_,_,R,D.1,D.2,E _ _ _,q.kept a.2<|by simp[Value.ownBlock]⟩
def j7(w:rT)(t u e:Nat)(i:TypeInfo)(R:P.underlying t=some (.slice e))(X:P.underlying u=some .string)(hi:P.info? e=some i)(hz:i.zero=some (.int .u8 0))
  (m:i.size=1) (M:i.bytes=1) (v:rU) (n:Nat) (xs:qt) (a:w.ownsRow 0 e 1 v n xs) (s:ByteArray) (B:n+s.size<=maxLen) (q:n+s.size<=140737488355328) :
  ∃q w',(∀E,(Builtin.append_ #[t,u] E #[v,.string s]).run P w=.ok q w')/\w'.ownsRow 0 e 1 q (n+s.size) (xs++Lib.strCells s)/\w.grownBy w' v.ownBlock/\Dh w v q/\w'.ownsRow 0 e 1 v n xs:=by
 have q:n+s.size<=9223372036854775807:=by simp only[maxLen]at B;omega
 have C:xs.length=n:=qp a.1;have y:(xs++Lib.strCells s).length=(n+s.size)*1:=by rw[AF,C,Lib.strCells_length,Cx]
 have grown:∀(q:Nat),q<n+s.size->∀(row:Option Nat),
   (w.drew.alloc<|.cells (xs.toArray++(Lib.strCells s).toArray++Builtin.zeroCells (Value.int .u8 0).cells (grownCap w (n+s.size) q e-(n+s.size))) e).ownsRow 0 e 1
    (.slice w (n+s.size)<|grownCap w (n+s.size) q e) (n+s.size) (xs++Lib.strCells s) /\
   w.grownBy (w.drew.alloc<|.cells (xs.toArray++(Lib.strCells s).toArray++Builtin.zeroCells (Value.int .u8 0).cells (grownCap w (n+s.size) q e-(n+s.size))) e) row:=by
  intro q L row;have L:=grownCap_ge w (n+s.size) q e;have D:=grownCap_le_maxLen w (n+s.size) q e B;refine⟨⟨y,.inr ⟨w.heap.size,_,_,rfl,AK _,heap_alloc_new w.drew _,L,D,?_,?_⟩⟩,⟨rfl,rfl,rfl,nl,λk G _=>Below.heap_alloc w.drew _ k G⟩⟩
  .have q:(Value.int IntKind.u8 0).cells.size=1:=rfl;simp only[Cm,BS,size_zeroCells,q,C,Lib.strCells_length];omega
  simp only[Cg,BC];rw[<-List.append_assoc,<-y];exact BI
 have z:∀c n v,Dh w v (.slice w n c):=λc n v k G=>by
  simp[Value.ownBlock]at G;omega
 rcases a.2 with⟨rfl,rfl⟩|⟨g,h,A,rfl,N,Y,Z,D,O,K⟩
 .have hx:=Aj C;subst hx;by_cases q:s.size=0
  .have B:=Aj (by rw[Lib.strCells_length];exact q);refine⟨.slice none 0 0,w,λE=>?_,by rw[q,B];exact World.ownsRow_nil w 0 e 1,⟨rfl,rfl,rfl,AI _,λ_ _ _=>rfl⟩,Dh.refl _ _,World.ownsRow_nil w 0 e 1⟩;have B:=Lib.run_firstCells_string (P:=P) w 1 s;rw[q]at B;simp[Builtin.append_,run_underlying R,run_underlying X,sizeOf,typeInfo,hi,m,Builtin.lenOf,q,B]
  have L:=λE=>run_append_nil_string (P:=P) w t u E e i (.int .u8 0) R X hi hz s I I<|by rw[M];omega
  have q:=grown 0 I<|Value.ownBlock rV;simp only[An,BV,Array.empty_append]at q ⊢;have B:(s.data.map λb=>Value.int .u8 b.toNat)=(Lib.strCells s).toArray:=by
   apply Array.ext';simp[Lib.strCells]
  rw[B]at L;exact⟨_,_,L,q.1,q.2,z _ _ _,World.ownsRow_nil _ 0 e 1⟩
 by_cases B:n+s.size<=h
 .have aa:A.size=h:=qp O;have O:A.toList.take n=xs:=qp K;have L:=λE=>Lib.run_append_room_string (P:=P) w t u E e i R X hi m g n h A Y s B I
  refine⟨_,_,L,⟨y,.inr ⟨g,h,_,rfl,N,setRow_heap w g A _ e _ Y,B,D,?_,?_⟩⟩,⟨rfl,rfl,rfl,nl,λk _ G=>setRow_other w g k _<|λe=>G<|by simp[Value.ownBlock,e]⟩,λk G=>.inl G,⟨a.1,.inr ⟨g,h,_,rfl,N,setRow_heap w g A _ e _ Y,Z,D,?_,?_⟩⟩⟩
  .simp only[BS,AF,AU,Af,Bw,Lib.strCells_length];omega
  .rw[O,<-y];exact BI
  .simp only[BS,AF,AU,Af,Bw,Lib.strCells_length];omega
  rw[O,<-a.1,BC];exact BI
 have y:=a.cells (g:=g) rfl;have L:=λE=>Lib.run_append_grow_string (P:=P) w t u E e i (.int .u8 0) R X hi hz ⟨g,0,none⟩ n h xs (by rw[m];simpa using C) y s I I<|by rw[M];exact growslice_fits I I
 have q:=grown h I<|Value.ownBlock<|.slice g n h;have e:=grown h I none;exact⟨_,_,L,q.1,q.2,z _ _ _,a.kept e.2<|by simp[Value.ownBlock]⟩
end
def zS(l:qq):List rU:=l.map λc=>.int .u8 (c.toNat:Int)
def Ij(l:qq):(zS l).length=l.length:=by simp[zS]
def Mx(a b:qq):zS (a++b)=zS a++zS b:=by simp[zS]
def QY(l:qq):∀u∈zS l,u.oneCell'=true:=by
 intro u a;simp only[zS,Ct]at a;obtain⟨_,_,rfl⟩:=a;rfl
def OB(w:rT)(v:rU)(l:qq):Prop:=w.ownsRow 0 5 1 v l.length (zS l)
def OB.nil(w:rT):OB w rV []:=World.ownsRow_nil w 0 _ 1
structure DX(w:rT)(v:rU)(l new:qq)(v':rU)(w':rT):Prop where
 own:OB w' v' (l++new)
 lH:OB w' v l
 grown:w.grownBy w' v.ownBlock
 at_:Dh w v v'
variable{m:Nat}{v':rU}
def gT{A:qt}(h:w.ownsRow 0 e sz v n xs)(M:w.ownsRow 0 e sz v' m (xs++A))(hb:v'.ownBlock=v.ownBlock)(k:w'.ownsRow 0 e sz v' m (xs++A)):w'.ownsRow 0 e sz v n xs:=by
 rcases h.2 with⟨rfl,rfl⟩|⟨g,B,N,rfl,O,R,C,D,E,G⟩
 .have:=Aj<|qp h.1;subst this;exact World.ownsRow_nil w' 0 e sz
 rcases M.2 with⟨rfl,_⟩|⟨X,g,G,rfl,_,u,M,N,y,e⟩
 .simp[Value.ownBlock]at hb
 simp[Value.ownBlock]at hb;subst hb;rw[R]at u;cases u;rcases k.2 with⟨K,_⟩|⟨G,e,q,K,_,L,g,u,z,a⟩
 .cases K
 cases K;refine⟨h.1,.inr ⟨X,B,q,rfl,AK _,L,C,D,by rw[z,<-y,E],?_⟩⟩;have e:=h.1;have g:(q.toList.take<|m*sz).take (n*sz)=(xs++A).take (n*sz):=by rw[a]
 rw[BY,<-e,BI]at g;have a:=k.1;simp only[AF]at a
 rwa [BU I,e]at g
variable{l:qq}
def DX.refl(h:OB w v l):DX w v l [] v w :=
 ⟨qp h,h,⟨rfl,rfl,rfl,AI _,λ_ _ _=>rfl⟩,Dh.refl _ _⟩
variable{w1:rT}
theorem DX.trans{n:rT}{q u:rU}{a b:qq}(h:DX w v l a q w1)(k:DX w1 q (l++a) b u n):DX w v l (a++b) u n:=by
 have a:w.grownBy n v.ownBlock:=⟨k.grown.os.trans h.grown.os,k.grown.tape.trans h.grown.tape,k.grown.output.trans h.grown.output,AR h.grown.size k.grown.size,λi m n =>
  (k.grown.block i (Au m h.grown.size) (λe=>by
   rcases h.at_ i e.symm with x|x
   .exact n x.symm
   omega)).trans (h.grown.block i m n)⟩
 refine⟨by rw[<-List.append_assoc];exact k.own,?_,a,λi m=>?_⟩
 .by_cases hb:q.ownBlock=v.ownBlock
  .have a:=h.own;have n:=k.lH;unfold OB at a n ⊢;rw[Mx]at a n;exact gT h.lH a hb n
  refine h.lH.kept k.grown ?_;cases hv:v.ownBlock with
  | none=>simp
  | some g=>simpa [hv]using λe=>hb<|e.symm.trans hv.symm
 rcases k.at_ i m with x|x
 .exact h.at_ i x
 exact .inr<|AR h.grown.size x
def zV(n:Nat):qq :=
 if n<64 then [UInt8.ofNat n]
 else if n<16384 then [UInt8.ofNat (n / 256+64),UInt8.ofNat n]
 else if n<1073741824 then [UInt8.ofNat (n / 16777216+128),UInt8.ofNat<|n / 65536,UInt8.ofNat<|n / 256,UInt8.ofNat n]
 else [UInt8.ofNat (n / 72057594037927936+192),UInt8.ofNat<|n / 281474976710656,UInt8.ofNat<|n / 1099511627776,UInt8.ofNat<|n / 4294967296,UInt8.ofNat<|n / 16777216,UInt8.ofNat<|n / 65536,UInt8.ofNat<|n / 256,UInt8.ofNat n]
def Ny:(prog.info? 5).map (λi=>(i.zero,i.size,i.bytes))=some (some (.int .u8 0),1,1):=kw
def J8(w:rT)(v:rU)(l new:qq)(cs:Array rU)(m:Nat)(h:OB w v l)(g:cs.toList=zS new)(z:new.length=m)(a:l.length+m<=140737488355328):∃n w',(∀a,(Builtin.append_ #[44,44] a #[v,.slice w m m]).run prog (w.alloc (.cells cs 5))=.ok n w')/\DX w v l new n w':=by
 obtain⟨i,A,B,q,y⟩:=info_parts Ny;have e:(w.alloc<|.cells cs 5).ownsRow 0 5 1 v l.length (zS l):=World.ownsRow.alloc h _;have a:∀(j:Nat) u,(zS new)[j]?=some u->(w.alloc<|.cells cs 5) ((⟨w.heap.size,0,none⟩:Addr).add j)=some u:=by
  intro j u h;rw[EU];refine za (heap_alloc_new w _) ?_;rw[An,<-Array.getElem?_toList,g];exact h
 obtain⟨n,w',h,u,g,C,D⟩:=KZ (P:=prog) (w.alloc<|.cells cs 5) 44 5 i (.int .u8 0) 1 1 underlying44 A B q y rfl lc v l.length (zS l) e
  ⟨w.heap.size,0,none⟩ m m (zS new) (by rw[Ij,z,Cx]) a (QY new) pi I
 refine⟨n,w',h,⟨?_,D,?_,?_⟩⟩
 .unfold OB;rw[AF,z,Mx];exact u
 .exact⟨g.os,g.tape,g.output,AR nl g.size,λk a e=>(g.block k ol e).trans<|Below.heap_alloc w _ k a⟩
 intro k a;rcases C k a with x|x
 .exact .inl x
 exact .inr<|by simp at x;omega
def PA:∀a:Fin 64,bits BinOp.or IntKind.u8 ((a.val:Nat):Int) 64=((a.val+64:Nat):Int)/\bits BinOp.or IntKind.u8 ((a.val:Nat):Int) 128=((a.val+128:Nat):Int)/\bits BinOp.or IntKind.u8 ((a.val:Nat):Int) 192=((a.val+192:Nat):Int):=pp
def Mj(n:Nat):Value.int .u8 ((UInt8.ofNat n).toNat:Int)=.int .u8 ((n:Int) % 256):=by
 rw[BH];congr 1
def Y6(v:rU)(l:qq)(n:Nat)(w:rT)(h:OB w v l)(a:l.length<=70368744177664)(g:n<64):rH 84 #[v,n] w λe w'=>∃a,e=.returned a/\DX w v l (zV n) a w':=by
 have e:(n:Int)<64:=I;obtain⟨a,w',m,DG⟩:=J8 w v l (zV n) #[.int .u8 (n:Int)] 1 h (by simp[zV,g,zS];omega) (by simp[zV,g]) I;obtain⟨a,e,rfl,_⟩:=zi h;have H:=zb DG;clear DG;go_enter func84,ntmps84;go_wp2_with (at_builtin;refine zm rfl _ _ _ _ rfl _ _ _ rfl rfl m ?_);go_ret;exact⟨_,rfl,H.z⟩
def Y5(v:rU)(l:qq)(n:Nat)(w:rT)(h:OB w v l)(e:l.length<=70368744177664)(g:64<=n)(a:n<16384):rH 84 #[v,n] w λe w'=>∃g,e=.returned g/\DX w v l (zV n) g w':=by
 have m:¬(n:Int)<64:=I;have m:(n:Int)<16384:=I;have m:(#[.int .u8 (bits BinOp.or IntKind.u8 ((n:Int) / 256) 64),.int .u8 ((n:Int) % 256)]:Array rU).toList=zS (zV n):=by
  have o:=PA ⟨n / 256,I⟩;have e:((n / 256:Nat):Int)=(n:Int) / 256:=I;simp only[e]at o;simp only[o.1];unfold zV;simp only[(I:¬n<64),a,Aq,BE,zS,BO,B8,Mj];simp;omega
 obtain⟨g,w',q,DG⟩:=J8 w v l (zV n) (#[.int .u8 (bits BinOp.or IntKind.u8 ((n:Int) / 256) 64),.int .u8 ((n:Int) % 256)]:Array rU) 2 h m (by rw[<-Ij,<-m];rfl) I;clear m;obtain⟨a,e,rfl,_⟩:=zi h;have H:=zb DG;clear DG;go_enter func84,ntmps84;go_wp2_with (at_builtin;refine zm rfl _ _ _ _ rfl _ _ _ rfl rfl q ?_);go_ret;exact⟨_,rfl,H.z⟩
def Y4(v:rU)(l:qq)(n:Nat)(w:rT)(h:OB w v l)(e:l.length<=70368744177664)(g:16384<=n)(a:n<1073741824):rH 84 #[v,n] w λe w'=>∃g,e=.returned g/\DX w v l (zV n) g w':=by
 have m:¬(n:Int)<64:=I;have m:¬(n:Int)<16384:=I;have m:(n:Int)<1073741824:=I;have m:(#[.int .u8 (bits BinOp.or IntKind.u8 ((n:Int) / 16777216) 128),.int .u8<|(n:Int) / 65536 % 256,.int .u8<|(n:Int) / 256 % 256,.int .u8 ((n:Int) % 256)]:Array rU).toList=zS (zV n):=by
  have o:=PA ⟨n / 16777216,I⟩;have e:((n / 16777216:Nat):Int)=(n:Int) / 16777216:=I;simp only[e]at o;simp only[o.2.1];unfold zV;simp only[(I:¬n<64),(I:¬n<16384),a,Aq,BE,zS,BO,B8,Mj];simp;omega
 obtain⟨g,w',q,DG⟩:=J8 w v l (zV n) (#[.int .u8 (bits BinOp.or IntKind.u8 ((n:Int) / 16777216) 128),.int .u8<|(n:Int) / 65536 % 256,.int .u8<|(n:Int) / 256 % 256,.int .u8 ((n:Int) % 256)]:Array rU) 4 h m (by rw[<-Ij,<-m];rfl) I;clear m;obtain⟨a,e,rfl,_⟩:=zi h;have H:=zb DG;clear DG;go_enter func84,ntmps84;go_wp2_with (at_builtin;refine zm rfl _ _ _ _ rfl _ _ _ rfl rfl q ?_);go_ret;exact⟨_,rfl,H.z⟩
def Xv(v:rU)(l:qq)(n:Nat)(w:rT)(h:OB w v l)(e:l.length<=70368744177664)(g:1073741824<=n)(a:n<4611686018427387904):rH 84 #[v,n] w λe w'=>∃a,e=.returned a/\DX w v l (zV n) a w':=by
 have g:¬(n:Int)<64:=I;have g:¬(n:Int)<16384:=I;have g:¬(n:Int)<1073741824:=I;have g:(#[.int .u8 (bits BinOp.or IntKind.u8 ((n:Int) / 72057594037927936) 192),.int .u8<|(n:Int) / 281474976710656 % 256,.int .u8<|(n:Int) / 1099511627776 % 256,.int .u8<|(n:Int) / 4294967296 % 256,.int .u8<|(n:Int) / 16777216 % 256,.int .u8<|(n:Int) / 65536 % 256,.int .u8<|(n:Int) / 256 % 256,.int .u8 ((n:Int) % 256)]:Array rU).toList=zS (zV n):=by
  have o:=PA ⟨n / 72057594037927936,I⟩;have e:((n / 72057594037927936:Nat):Int)=(n:Int) / 72057594037927936:=I;simp only[e]at o;simp only[o.2.2];unfold zV;simp only[(I:¬n<64),(I:¬n<16384),(I:¬n<1073741824),BE,zS,BO,B8,Mj];simp;omega
 obtain⟨a,w',m,DG⟩:=J8 w v l (zV n) (#[.int .u8 (bits BinOp.or IntKind.u8 ((n:Int) / 72057594037927936) 192),.int .u8<|(n:Int) / 281474976710656 % 256,.int .u8<|(n:Int) / 1099511627776 % 256,.int .u8<|(n:Int) / 4294967296 % 256,.int .u8<|(n:Int) / 16777216 % 256,.int .u8<|(n:Int) / 65536 % 256,.int .u8<|(n:Int) / 256 % 256,.int .u8 ((n:Int) % 256)]:Array rU) 8 h g (by rw[<-Ij,<-g];rfl) I;clear g;obtain⟨a,e,rfl,_⟩:=zi h;have H:=zb DG;clear DG;go_enter func84,ntmps84;go_wp2_with (at_builtin;refine zm rfl _ _ _ _ rfl _ _ _ rfl rfl m ?_);go_ret;exact⟨_,rfl,H.z⟩
def II(v:rU)(l:qq)(n:Nat)(w:rT)(h:OB w v l)(a:l.length<=70368744177664)(m:n<4611686018427387904):rH 84 #[v,n] w λe w'=>∃g,e=.returned g/\DX w v l (zV n) g w':=by
 by_cases e:n<64
 .exact Y6 v l n w h a e
 by_cases e:n<16384
 .exact Y5 v l n w h a I e
 by_cases e:n<1073741824
 .exact Y4 v l n w h a I e
 exact Xv v l n w h a I m
def Ig(n:Int):IntKind.u32.wrap n=n % 4294967296:=by simp[IntKind.wrap,IntKind.bits,IntKind.signed]
def J7(a b:Nat)(e:a<4294967296)(hb:b<4294967296):bits .xor .u32 (a:Int) (b:Int)=((a ^^^ b:Nat):Int):=by
 have e:a ^^^ b<2 ^ 32:=CO I I;have e:(BitVec.ofInt 32 (a:Int)).toNat=a:=by
  rw[Bj,Bm];exact Bx I
 have g:(BitVec.ofInt 32 (b:Int)).toNat=b:=by
  rw[Bj,Bm];exact Bx I
 show IntKind.u32.wrap ((BitVec.ofInt 32 (a:Int) ^^^ BitVec.ofInt 32 (b:Int)).toNat:Int)=_;rw[BitVec.toNat_xor,e,g,Ig];omega
def Rq(a b:Nat)(e:a<4294967296)(hb:b<4294967296):bits .and .u32 (a:Int) (b:Int)=((a &&& b:Nat):Int):=by
 have e:a &&& b<2 ^ 32:=Nat.and_lt_two_pow _ I;have e:(BitVec.ofInt 32 (a:Int)).toNat=a:=by
  rw[Bj,Bm];exact Bx I
 have g:(BitVec.ofInt 32 (b:Int)).toNat=b:=by
  rw[Bj,Bm];exact Bx I
 show IntKind.u32.wrap ((BitVec.ofInt 32 (a:Int) &&& BitVec.ofInt 32 (b:Int)).toNat:Int)=_;rw[BitVec.toNat_and,e,g,Ig];omega
def Tf(a:Nat)(e:a<4294967296):bits .and .u32 (a:Int) 15=((a % 16:Nat):Int):=by
 have:=Rq a 15 e I;rw[show a &&& 15=a % 16 from Nat.and_two_pow_sub_one_eq_mod a 4]at this;exact this
def LA:List Nat:=[0,498536548,997073096,651767980,1994146192,1802195444,1303535960,1342533948,3988292384,4027552580,3604390888,3412177804,2607071920,2262029012,2685067896,3183342108]
def ct(i:Nat):Nat:=LA.getD i 0
def O9(i:Nat):ct i<4294967296:=by
 unfold ct;by_cases h:i<16
 .have:∀j:Fin 16,LA.getD j.val 0<4294967296:=lc;exact this ⟨i,h⟩
 rw[AQ,BJ (by simp[LA];omega)];decide
def Kq(c:Nat):Nat:=(c / 16) ^^^ ct (c % 16)
def H8(c:Nat)(x:UInt8):Nat:=Kq (Kq (c ^^^ x.toNat))
def Dy(l:qq):Nat:=l.foldl H8 4294967295
def Dz(l:qq):Nat:=4294967295 ^^^ Dy l
def PU(c:Nat)(h:c<4294967296):Kq c<4294967296:=CO (n:=32) I (O9 _)
def Pm(c:Nat)(x:UInt8)(h:c<4294967296):c ^^^ x.toNat<4294967296:=CO (n:=32) h (qm x.toNat_lt)
def Vt(c:Nat)(x:UInt8)(h:c<4294967296):H8 c x<4294967296:=PU _ (PU _ (Pm c x h))
def Te(l:qq)(x:UInt8):Dy (l++[x])=H8 (Dy l) x:=by simp[Dy]
theorem jO(l:qq):∀c,c<4294967296->l.foldl H8 c<4294967296:=by
 induction l with
 | nil=>intro c h;exact h
 | cons x l ih=>intro c h;exact ih _<|Vt c x h
def Mi(l:qq):Dy l<4294967296:=jO l _ I
def BR(w:rT)(v:rU)(l:qq):Prop :=
 ∃a e,v=.slice a l.length e/\l.length<=e/\e<=maxLen/\∀i c,l[i]?=some c->∃g o,a=some ⟨g,o,none⟩/\w ⟨g,o+i,none⟩=some (.int .u8 (c.toNat:Int))
def OB.br(h:OB w v l):BR w v l:=by
 obtain⟨a,e,rfl,n,q,u⟩:=zi h;refine⟨a,e,rfl,n,q,λi c m=>?_⟩;have a:=(AO.1 m).1;obtain⟨g,rfl⟩:=u I;refine⟨g,0,rfl,?_⟩;have:=h.cells (g:=g) rfl i (.int .u8 (c.toNat:Int)) (by simp[zS,m])
 rwa [EU]at this
def Fb(w:rT):Prop:=∀i,i<16->w ⟨1,i,none⟩=some (.int .u32 (ct i:Int))
def Fb.mod(h:Fb w)(m:C9 S w w')(e:¬S 1):Fb w':=λi g=>m.cell (a:=⟨1,i,none⟩) e (h i g)
def Fb.lt(h:Fb w):1<w.heap.size:=zo (h 0 I)
def Om(l:qq)(k:Nat)(c:UInt8)(h:l[k]?=some c):l.take (k+1)=l.take k++[c]:=by
 rw[Ai,h];rfl
def Pl(v:rU)(l:qq)(w:rT)(h:BR w v l)(n:Fb w):rH 123 #[v] w λe w'=>e=.returned (.int .u32 (Dz l:Int))/\w=w':=by
 obtain⟨a,e,rfl,u,g,A⟩:=h;unfold maxLen at g;go_enter func123,ntmps123;go_wp2_with fail
 go_loop [3,8] (λc i=>∃k:Nat,k<=l.length/\i=.int .i64 k/\c=.int .u32 (Dy (l.take k):Int)) (λ_ i=>l.length-(intOf i).toNat)
 case atStart=>exact⟨0,AK _,rfl,rfl⟩
 case round =>
  obtain⟨k,a,rfl,rfl⟩:=hrel;by_cases a:k<l.length
  .obtain⟨c,q⟩:∃c,l[k]?=some c:=⟨l[k],AG a⟩;obtain⟨g,o,rfl,m⟩:=A k c q;have B:=zb<|Ax Dy<|Om l k c q;obtain⟨x,g⟩:=nm<|Dy<|l.take k;have a:=Mi<|l.take k;rw[g]at a;have u:AA (Dy (l.take<|k+1)=H8 x c):=by
    show _=_;rw[B.z,Te,g]
   rw[g];have e:=c.toNat_lt;obtain⟨d,hd⟩:=nm c.toNat;rw[hd]at m e;have m:=J7 x d a I;have h:=Pm x c a;rw[hd]at h;obtain⟨y,e⟩:=nm<|x ^^^ d;rw[e]at m h;have a:=Tf y h;have a:=n (y % 16) I;have m:=J7 (y / 16) (ct<|y % 16) I<|O9 _;have C:=PU y h;obtain⟨z,a⟩:=nm<|Kq y;rw[show(y / 16 ^^^ ct (y % 16))=z from a]at m;rw[a]at C;have h:=Tf z C;have h:=n (z % 16) I;have C:=J7 (z / 16) (ct<|z % 16) I<|O9 _;have h:AA (H8 x c=(z / 16 ^^^ ct (z % 16))):=by
    show Kq (Kq<|x ^^^ c.toNat)=_;rw[hd,e,a];rfl
   rw[(I:((y / 16:Nat):Int)=(y:Int) / 16)]at m;rw[(I:((z / 16:Nat):Int)=(z:Int) / 16)]at C;clear B g hd e a A n q;go_wp2_with fail
   go_round
   case rel=>exact⟨k+1,I,by go_num,by rw[u.z,h.z]⟩
   simp[intOf];omega
  have a:l.take k=l:=AS I;rw[a];have e:AA (bits .xor .u32 IntKind.u32.max (Dy l:Int)=(Dz l:Int)):=J7 4294967295 (Dy l) I<|Mi l;clear a;go_wp2;go_ret;exact⟨by rw[e.z];rfl,rfl⟩
def Lf(l:qq):Dz l<4294967296:=CO (n:=32) I (Mi l)
def EP(s:Nat):qq:=[UInt8.ofNat (s / 16777216),UInt8.ofNat (s / 65536),UInt8.ofNat (s / 256),UInt8.ofNat s]
def Sw(v:rU)(l:qq)(w:rT)(h:OB w v l)(a:l.length<=70368744177664)(n:Fb w):rH 87 #[v] w λe w'=>∃a,e=.returned a/\DX w v l (EP (Dz l)) a w':=by
 have g:=Pl v l w h.br n;have q:=Lf l;obtain⟨s,m⟩:=nm<|Dz l;rw[m]at g q;rw[m];obtain⟨a,w',u,DG⟩:=J8 w v l (EP s) #[.int .u8 ((s:Int) / 16777216),.int .u8<|(s:Int) / 65536 % 256,.int .u8<|(s:Int) / 256 % 256,.int .u8 ((s:Int) % 256)] 4 h (by
  simp only[EP,zS,BO,B8,Mj];simp;omega) rfl I
 obtain⟨a,q,rfl,_⟩:=zi h;have H:=zb DG;clear DG m n;go_enter func87,ntmps87;go_wp2_with (first|(go_at_call 123;refine g.mono ?_;rintro e w' ⟨rfl,rfl⟩)|(at_builtin;refine zm rfl _ _ _ _ rfl _ _ _ rfl rfl u ?_));go_ret;exact⟨_,rfl,H.z⟩
def Rp(w:rT)(v:rU)(l:qq)(s:ByteArray)(h:OB w v l)(a:l.length+s.size<=140737488355328):∃a w',(∀e,(Builtin.append_ #[44,9] e #[v,.string s]).run prog w=.ok a w')/\DX w v l s.data.toList a w':=by
 obtain⟨i,m,n,e,g⟩:=info_parts Ny;obtain⟨a,w',q,u,y,z,A⟩:=j7 (P:=prog) w 44 9 5 i underlying44 underlying9 m n e g v l.length (zS l) h s pi I;refine⟨a,w',q,⟨?_,A,y,z⟩⟩;unfold OB;rw[AF,Mx];exact u
def zy(l:qq):ByteArray:=⟨l.toArray⟩
def zM(l:qq):(zy l).size=l.length:=by simp[zy,ByteArray.size]
def KY(l:qq):(zy l).data.toList=l:=by simp[zy]
def zK(n:Nat):(zV n).length<=8:=by
 unfold zV;split
 .simp
 split
 .simp
 split<;>simp
def Xu(v:rU)(l s:qq)(w:rT)(h:OB w v l)(m:l.length<=70368744177664)(a:s.length<=35184372088832):rH 179 #[v,.string (zy s)] w λe w'=>∃a,e=.returned a/\DX w v l (zV s.length++s) a w':=by
 have n:=II v l s.length w h m I;have a:=zM s;have a:(zy s).size<=9223372036854775807:=I;obtain⟨a,m,rfl,_⟩:=zi h;go_enter func179,ntmps179;have a:(zV s.length).length<=8:=zK _;go_wp2_with (first|(go_at_call 84;refine n.mono ?_;rintro e q ⟨u,rfl,g⟩;obtain⟨h,m,e,a⟩:=Rp q u _ (zy s) g.own (by rw[AF];omega);rw[KY]at a;have H:=zb<|g.trans a;clear g a)|(at_builtin;refine zm rfl _ _ _ _ rfl _ _ _ rfl rfl e ?_));go_ret;exact⟨_,rfl,H.z⟩
structure DF where
 kind:Int
 stream:Int
 off:Nat
 rel:Nat
 lF:Nat
 fin:Bool
 id:Nat
 dl:Nat
 data:qq
 kC:zE
def ze(f:DF)(a:rU):Array rU :=
 #[.int .i64 f.kind,.int .i64 f.stream,.int .u64 f.off,.int .u64 f.rel,.int .u64 f.lF,.bool f.fin,.int .u64 f.id,.int .u64 f.dl,.string<|zy f.data,a]
def zp(w:rT)(b:Nat)(f:DF)(a:rU):Prop:=w.heap[b]?=some (.cells (ze f a) 48 (0,0))
variable{f:DF}{i:Nat}{rv:rU}
def zp.cell(h:zp w b f rv)(a:(ze f rv)[i]?=some v):w (b,i)=some v:=za h a
def zp.mod(h:zp w b f rv)(m:C9 S w w')(a:¬S b):zp w' b f rv:=m.obj a h
variable{new:qq}
def DX.mod(h:DX w v l new v' w'):C9 (λk=>v.ownBlock=some k) w w':=(C9.refl _ w).grown h.grown (λk a=>.inl a)
def OB.apart(h:OB w v l)(a:zp w b f rv):¬v.ownBlock=some b:=by
 intro hb;rcases h.2 with⟨rfl,_⟩|⟨g,e,h,rfl,_,m,_⟩
 .cases hb
 simp[Value.ownBlock]at hb;subst hb;unfold zp at a;rw[m]at a;simp at a
def zp.app(a:zp w b f rv)(h:OB w v l)(e:DX w v l new v' w'):zp w' b f rv :=
 a.mod e.mod (h.apart a)
def J2(w:rT)(v:rU)(l:qq)(t:UInt8)(z:Int)(h:OB w v l)(e:z=(t.toNat:Int))(a:l.length<=70368744177664):∃a w',(∀g,(Builtin.append_ #[44,44] g #[v,.slice w 1 1]).run prog (w.alloc (.cells #[.int .u8 z] 5))=.ok a w')/\DX w v l [t] a w' :=
 J8 w v l [t] #[.int .u8 z] 1 h (by simp[zS,e]) rfl I
def zp.cells(h:zp w b f rv):w b=some (.int .i64 f.kind)/\w (b,1)=some (.int .i64 f.stream)/\w (b,2)=some (.int .u64 f.off)/\w (b,3)=some (.int .u64 f.rel)/\w (b,4)=some (.int .u64 f.lF) /\
  w (b,5)=some (.bool f.fin)/\w (b,6)=some (.int .u64 f.id)/\w (b,7)=some (.int .u64 f.dl)/\w (b,8)=some (.string<|zy f.data)/\w (b,9)=some rv :=
 ⟨h.cell rfl,h.cell rfl,h.cell rfl,h.cell rfl,h.cell rfl,h.cell rfl,h.cell rfl,h.cell rfl,h.cell rfl,h.cell rfl⟩
def DX.drew(h:DX w.drew v l new v' w'):DX w v l new v' w' :=
 ⟨h.own,h.lH,⟨h.grown.os,h.grown.tape,h.grown.output,h.grown.size,h.grown.block⟩,h.at_⟩
def gS(v:rU)(l:qq)(z:Int)(w:rT)(h:OB w v l)(g:l.length<=70368744177664)(m:0<=z)(a:z<4611686018427387904):rH 84 #[v,z] w λe w'=>∃a,e=.returned a/\DX w v l (zV z.toNat) a w':=by
 have:=II v l z.toNat w h g I
 rwa [Int.toNat_of_nonneg m]at this
structure DF.Bounds(f:DF):Prop where
 s0:0<=f.stream
 s8:f.stream<8
 bo:f.off<4611686018427387904
 br:f.rel<4611686018427387904
 bl:f.lF<4611686018427387904
 bi:f.id<4611686018427387904
 bd:f.dl<4611686018427387904
 bt:f.data.length<=35184372088832
def GF(w:rT)(tb a:Nat)(t:UInt8):Prop:=w tb=some (.int .u8 (t.toNat:Int))/\w a=some (.func (.func 184) #[] #[])
def GF.mod{tb e:Nat}{t:UInt8}(h:GF w tb e t)(m:C9 S w w')(g:¬S tb)(n:¬S e):GF w' tb e t:=⟨m.cell (a:=tb) g h.1,m.cell (a:=e) n h.2⟩
def GF.app{tb e:Nat}{t:UInt8}(h:GF w tb e t)(g:¬v.ownBlock=some tb)(m:¬v.ownBlock=some e)(a:DX w v l new v' w'):GF w' tb e t:=h.mod a.mod g m
def QL(b:Nat)(w:rT):rH 184 #[(b,0)] w λe w'=>e=.returned (.pointer (b,4))/\w=w':=by
 go_enter func184,ntmps184;go_wp2;go_ret;exact rM
def Gv(w:rT)(v:rU)(l new:qq)(e:Ending)(w':rT):Prop:=∃a,e=.returned a/\DX w v l new a w'
structure E7(w W:rT)(b:Nat)(f:DF)(rv v:rU)(l x:qq)(v':rU)(n:Nat):Prop where
 fr:zp W b f rv
 ap:DX w v l x v' W
 le:(l++x).length<=n
def E7.lit(e:zp w b f rv)(h:OB w v l)(a:l.length<=35184372088832)(t:UInt8)(z:Int)(g:z=(t.toNat:Int)):∃a w',(∀m,(Builtin.append_ #[44,44] m #[v,.slice w 1 1]).run prog (w.alloc (.cells #[.int .u8 z] 5))=.ok a w')/\E7 w w' b f rv v l [t] a 35184372088833:=by
 obtain⟨a,m,n,A⟩:=J2 w v l t z h g I;exact⟨a,m,n,e.app h A,A,ol⟩
variable{W':rT}
def E7.next{e:rU}{x y:qq}(h:E7 w W b f rv v l x v' n)(a:DX W v' (l++x) y e W'):E7 w W' b f rv v l (x++y) e (n+y.length) :=
 ⟨h.fr.app h.ap.own a,h.ap.trans a,by have:=h.le;simp at this ⊢;omega⟩
def E7.num{x:qq}(h:E7 w W b f rv v l x v' n)(z:Int)(m:0<=z)(q:z<4611686018427387904)(u:n<=70368744177664):rH 84 #[v',z] W λe W'=>∃g,e=.returned g/\E7 w W' b f rv v l (x++zV z.toNat) g (n+8):=by
 refine(gS v' (l++x) z W h.ap.own (AR h.le u) m q).mono ?_;rintro e W' ⟨g,rfl,a⟩;have:=h.next a;exact⟨g,rfl,this.fr,this.ap,AR this.le<|qm<|zK z.toNat⟩
def E7.text{x:qq}(h:E7 w W b f rv v l x v' n)(m:f.data.length<=35184372088832)(q:n<=70368744177664):rH 179 #[v',.string (zy f.data)] W λe W'=>∃g,e=.returned g/\E7 w W' b f rv v l (x++(zV f.data.length++f.data)) g (n+(zV f.data.length++f.data).length):=by
 refine(Xu v' (l++x) f.data W h.ap.own (AR h.le q) m).mono ?_;rintro e W' ⟨g,rfl,a⟩;exact⟨g,rfl,h.next a⟩
def IG(f:DF):qq:=[17]++zV f.stream.toNat++zV f.lF
def Kb(v:rU)(l:qq)(b:Nat)(f:DF)(G:rU)(w:rT)(n:zp w b f G)(h:OB w v l)(L:l.length<=35184372088832)(hb:f.Bounds):rH 185 #[v,(b,0)] w (Gv w v l (IG f)):=by
 obtain⟨s0,q,M,br,N,O,bd,R⟩:=hb;have q:IntKind.u64.wrap f.stream=f.stream:=by rw[IntKind.wrap_u64];omega
 obtain⟨M,N,q,H⟩:=E7.lit (w:=w.drew) n h L 17 17 rfl;go_enter func185,ntmps185;go_wp2_with fail;refine zr 15 (λw'=>zp w' b f G) (n) ?_;refine GI 0 ?_;refine GV rfl ?_;try simp only[PS]
 refine GI 3 ?_;iterate 5
  refine GV rfl ?_;try simp only[PS]
 refine GI 9 ?_;iterate 4
  refine GV rfl ?_;try simp only[PS]
 refine zD 1 rfl (λK g=>?_);go_simp;refine g.z _ _ (zp.mod (w:=w.drew) (S:=DA) n (rS.alloc _) rP) ?_;clear g K;try simp only[PS]
 refine zD 2 rfl (λK g=>?_);refine zO rfl _ _ _ _ rfl _ _ _ rfl rfl q ?_;refine g.z _ _ H.fr ?_;clear g K;try simp only[PS]
 refine zD 8 rfl (λK g=>?_);go_simp;refine(H.num _ I I I).mono ?_;rintro e h ⟨n,rfl,H⟩;refine g.z _ _ H.fr ?_;clear g K;try simp only[PS]
 refine zD 13 rfl (λK g=>?_);go_simp;refine(H.num _ I I I).mono ?_;rintro e e ⟨h,rfl,H⟩;refine g.z _ _ H.fr ?_;clear g K;try simp only[PS]
 refine GI 14 ?_;refine GV rfl ?_;try simp only[PS]
 refine zt ?_;go_wp2;go_ret;exact⟨_,rfl,H.ap.drew⟩
def IF(f:DF):qq:=[36]++zV f.stream.toNat++zV f.off++zV f.rel
def Kd(v:rU)(l:qq)(b:Nat)(f:DF)(G:rU)(w:rT)(D:zp w b f G)(h:OB w v l)(L:l.length<=35184372088832)(hb:f.Bounds):rH 174 #[v,(b,0)] w (Gv w v l (IF f)):=by
 obtain⟨s0,E,M,br,N,O,bd,R⟩:=hb;have E:IntKind.u64.wrap f.stream=f.stream:=by rw[IntKind.wrap_u64];omega
 obtain⟨M,N,E,H⟩:=E7.lit (w:=w.drew) D h L 36 36 rfl;go_enter func174,ntmps174;go_wp2_with fail;refine zr 20 (λw'=>zp w' b f G) (D) ?_;refine GI 0 ?_;refine GV rfl ?_;try simp only[PS]
 refine GI 3 ?_;iterate 5
  refine GV rfl ?_;try simp only[PS]
 refine GI 9 ?_;iterate 4
  refine GV rfl ?_;try simp only[PS]
 refine GI 14 ?_;iterate 4
  refine GV rfl ?_;try simp only[PS]
 refine zD 1 rfl (λK g=>?_);go_simp;refine g.z _ _ (zp.mod (w:=w.drew) (S:=DA) D (rS.alloc _) rP) ?_;clear g K;try simp only[PS]
 refine zD 2 rfl (λK g=>?_);refine zO rfl _ _ _ _ rfl _ _ _ rfl rfl E ?_;refine g.z _ _ H.fr ?_;clear g K;try simp only[PS]
 refine zD 8 rfl (λK g=>?_);go_simp;refine(H.num _ I I I).mono ?_;rintro e h ⟨D,rfl,H⟩;refine g.z _ _ H.fr ?_;clear g K;try simp only[PS]
 refine zD 13 rfl (λK g=>?_);go_simp;refine(H.num _ I I I).mono ?_;rintro e h ⟨D,rfl,H⟩;refine g.z _ _ H.fr ?_;clear g K;try simp only[PS]
 refine zD 18 rfl (λK g=>?_);go_simp;refine(H.num _ I I I).mono ?_;rintro e e ⟨h,rfl,H⟩;refine g.z _ _ H.fr ?_;clear g K;try simp only[PS]
 refine GI 19 ?_;refine GV rfl ?_;try simp only[PS]
 refine zt ?_;go_wp2;go_ret;exact⟨_,rfl,H.ap.drew⟩
def IE(f:DF):qq:=[48]++zV f.id++zV f.dl++(zV f.data.length++f.data)
def Ka(v:rU)(l:qq)(b:Nat)(f:DF)(G:rU)(w:rT)(D:zp w b f G)(h:OB w v l)(L:l.length<=35184372088832)(hb:f.Bounds):rH 187 #[v,(b,0)] w (Gv w v l (IE f)):=by
 obtain⟨s0,E,N,br,O,R,bd,M⟩:=hb;have E:IntKind.u64.wrap f.stream=f.stream:=by rw[IntKind.wrap_u64];omega
 obtain⟨N,O,E,H⟩:=E7.lit (w:=w.drew) D h L 48 48 rfl;go_enter func187,ntmps187;go_wp2_with fail;refine zr 19 (λw'=>zp w' b f G) (D) ?_;refine GI 0 ?_;refine GV rfl ?_;try simp only[PS]
 refine GI 3 ?_;iterate 4
  refine GV rfl ?_;try simp only[PS]
 refine GI 8 ?_;iterate 4
  refine GV rfl ?_;try simp only[PS]
 refine GI 13 ?_;iterate 4
  refine GV rfl ?_;try simp only[PS]
 refine zD 1 rfl (λK g=>?_);go_simp;refine g.z _ _ (zp.mod (w:=w.drew) (S:=DA) D (rS.alloc _) rP) ?_;clear g K;try simp only[PS]
 refine zD 2 rfl (λK g=>?_);refine zO rfl _ _ _ _ rfl _ _ _ rfl rfl E ?_;refine g.z _ _ H.fr ?_;clear g K;try simp only[PS]
 refine zD 7 rfl (λK g=>?_);go_simp;refine(H.num _ I I I).mono ?_;rintro e h ⟨D,rfl,H⟩;refine g.z _ _ H.fr ?_;clear g K;try simp only[PS]
 refine zD 12 rfl (λK g=>?_);go_simp;refine(H.num _ I I I).mono ?_;rintro e h ⟨D,rfl,H⟩;refine g.z _ _ H.fr ?_;clear g K;try simp only[PS]
 refine zD 17 rfl (λK g=>?_);go_simp;refine(H.text M I).mono ?_;rintro e e ⟨h,rfl,H⟩;refine g.z _ _ H.fr ?_;clear g K;try simp only[PS]
 refine GI 18 ?_;refine GV rfl ?_;try simp only[PS]
 refine zt ?_;go_wp2;go_ret;exact⟨_,rfl,H.ap.drew⟩
def ID(f:DF):qq:=[8]++zV f.stream.toNat++zV f.off++(zV f.data.length++f.data)
def IK(f:DF):qq:=[9]++zV f.stream.toNat++zV f.off++(zV f.data.length++f.data)
def Kc(v:rU)(l:qq)(b:Nat)(f:DF)(G:rU)(w:rT)(n:zp w b f G)(h:OB w v l)(L:l.length<=35184372088832)(hb:f.Bounds):rH 178 #[v,(b,0)] w (Gv w v l (if f.fin then IK f else ID f)):=by
 obtain⟨s0,q,O,br,R,X,bd,M⟩:=hb;have q:IntKind.u64.wrap f.stream=f.stream:=by rw[IntKind.wrap_u64];omega
 have N:w (b,5)=some (.bool f.fin):=n.cell rfl;cases hfin:f.fin<;>rw[hfin]at N;obtain⟨N,O,q,H⟩:=E7.lit (w:=w.drew) n h L 8 8 rfl;rotate_left;obtain⟨N,O,q,H⟩:=E7.lit (w:=w.drew) n h L 9 9 rfl;all_goals
  go_enter func178,ntmps178;go_wp2_with fail;refine zr 21 (λw'=>zp w' b f G) (n) ?_;refine GI 0 ?_;iterate 2
   refine GV rfl ?_;try simp only[PS]
  refine GI 4 ?_;iterate 5
   refine GV rfl ?_;try simp only[PS]
  refine GI 10 ?_;iterate 4
   refine GV rfl ?_;try simp only[PS]
  refine GI 15 ?_;iterate 4
   refine GV rfl ?_;try simp only[PS]
  refine zD 2 rfl (λK g=>?_);go_simp;refine g.z _ _ (zp.mod (w:=w.drew) (S:=DA) n (rS.alloc _) rP) ?_;clear g K;try simp only[PS]
  refine zD 3 rfl (λK g=>?_);refine zO rfl _ _ _ _ rfl _ _ _ rfl rfl q ?_;refine g.z _ _ H.fr ?_;clear g K;try simp only[PS]
  refine zD 9 rfl (λK g=>?_);go_simp;refine(H.num _ I I I).mono ?_;rintro e h ⟨n,rfl,H⟩;refine g.z _ _ H.fr ?_;clear g K;try simp only[PS]
  refine zD 14 rfl (λK g=>?_);go_simp;refine(H.num _ I I I).mono ?_;rintro e h ⟨n,rfl,H⟩;refine g.z _ _ H.fr ?_;clear g K;try simp only[PS]
  refine zD 19 rfl (λK g=>?_);go_simp;refine(H.text M I).mono ?_;rintro e e ⟨h,rfl,H⟩;refine g.z _ _ H.fr ?_;clear g K;try simp only[PS]
  refine GI 20 ?_;refine GV rfl ?_;try simp only[PS]
  refine zt ?_;go_wp2;go_ret;exact⟨_,rfl,H.ap.drew⟩
def Fy(t:UInt8)(f:DF):qq:=[t]++zV f.lF
def Td(v:rU)(l:qq)(b tb n:Nat)(t:UInt8)(f:DF)(y:rU)(w:rT)(z:zp w b f y)(g:GF w tb n t)(q:¬v.ownBlock=some tb)(u:¬v.ownBlock=some n)(h:OB w v l)(C:l.length<=35184372088832)(hb:f.Bounds):rH 191 #[v,(b,0),(tb,0),(n,0)] w (Gv w v l (Fy t f)):=by
 obtain⟨s0,C,bo,br,bl,bi,bd,bt⟩:=hb;obtain⟨v1,A,C,B⟩:=J2 w.drew v l t (t.toNat:Int) h rfl I;have Z:zp A b f y/\GF A tb n t:=⟨zp.app (w:=w.drew) z h B,GF.app (w:=w.drew) g q u B⟩;have L1:(l++[t]).length<=35184372088832+1:=ol;go_enter func191,ntmps191;go_wp2_with fail;refine zr 11 (λw'=>zp w' b f y/\GF w' tb n t) (⟨z,g⟩) ?_;refine GI 0 ?_;iterate 2
  refine GV rfl ?_;try simp only[PS]
 refine GI 4 ?_;iterate 2
  refine GV rfl ?_;try simp only[PS]
 refine zD 2 rfl (λK m=>?_);go_simp;refine m.z _ _ ?_ ?_
 .exact⟨zp.mod (w:=w.drew) (S:=DA) z (rS.alloc _) rP,GF.mod (w:=w.drew) (S:=DA) g (rS.alloc _) rP rP⟩
 clear m K;try simp only[PS]
 refine zD 3 rfl (λK m=>?_);refine zO rfl _ _ _ _ rfl _ _ _ rfl rfl C ?_;refine m.z _ _ Z ?_;clear m K;try simp only[PS]
 refine zD 6 rfl (λK m=>?_);go_simp;refine(QL b A).mono ?_;rintro e w' ⟨rfl,rfl⟩;refine m.z _ _ Z ?_;clear m K;try simp only[PS]
 refine GI 7 ?_;iterate 2
  refine GV rfl ?_;try simp only[PS]
 refine zD 9 rfl (λK m=>?_);go_simp;refine(II v1 (l++[t]) f.lF A B.own I bl).mono ?_;rintro e w2 ⟨e,rfl,ap⟩;have e:=B.trans ap;have A:zp w2 b f y/\GF w2 tb n t:=⟨zp.app (w:=w.drew) z h e,GF.app (w:=w.drew) g q u e⟩;refine m.z _ _ A ?_;clear ap;clear m K;try simp only[PS]
 refine GI 10 ?_;refine GV rfl ?_;try simp only[PS]
 refine zt ?_;go_wp2;go_ret;exact⟨_,rfl,e.drew⟩
def Kf(v:rU)(l:qq)(b:Nat)(w:rT)(h:OB w v l)(a:l.length<=35184372088832):rH 168 #[v,(b,0)] w (Gv w v l [1]):=by
 obtain⟨a,m,e,g⟩:=J2 w v l 1 1 h rfl I;obtain⟨a,m,rfl,_⟩:=zi h;have H:=zb g;clear g;go_enter func168,ntmps168;go_wp2_with (at_builtin;refine zm rfl _ _ _ _ rfl _ _ _ rfl rfl e ?_);go_ret;exact⟨_,rfl,H.z⟩
structure DO where
 rs:zE
 fl:Nat
 most:Nat
structure WS where
 b:qq
 kH:DO
 kG:DO
 high:Nat
 finished:Bool
 ending:Bool
 cut:Bool
 kD:Nat
 final:Nat
 kQ:Bool
 kF:Nat
structure RS where
 b:qq
 kG:DO
 high:Nat
 fin:Nat
 ended:Bool
 cut:Bool
 kD:Nat
 read:Nat
 state:Nat
 kE:Nat
 ky:Bool
structure DI where
 n:Nat
 at_:Nat
 fs:List DF
structure CS where
 kj:Nat
 kT:Nat
 total:Nat
 now:Nat
 closed:Nat
 said:Bool
 next:Nat
 kN:DO
 answer:Bool
 ws:Nat->WS
 rs:Nat->RS
 kF:Nat
 kE:Nat
 ky:Bool
 kB:List DI
 kO:Nat
 waits:List DF
 lN:Nat
 lW:Bool
 seen:List (Nat×Nat)
 most:Nat
 kG:List (Nat×qq)
instance:CoeFun CS (λ_=>Nat->WS):=⟨CS.ws⟩
structure CV where
 g:Nat
 gv:rU
 wb:Nat->rU
 ws:Nat->rU
 wc:Nat->rU
 rb:Nat->rU
 rc:Nat->rU
 ft:rU
 lh:List rU
 wt:rU
 sn:Nat
 cm:rU
instance:CoeFun CV (λ_=>Nat->rU):=⟨CV.ws⟩
def zh{α : Type}(f:Nat -> α)(k:Nat)(x : α):Nat -> α := λj=>if j=k then x else f j
def zf{α : Type}(f:Nat -> α)(k:Nat)(x : α):zh f k x k=x:=by simp[zh]
def zl{α : Type}(f:Nat -> α)(x : α)(h:j≠k):zh f k x j=f j:=by simp[zh,h]
def Fx{α : Type}(f:Nat -> α)(k:Nat):zh f k (f k)=f:=by
 funext j;by_cases h:j=k
 .rw[h,zf]
 rw[zl _ _ h]
def Fl(x:WS)(a e g:rU):List rU :=
 [a,e,.int .u64 x.kH.fl,.int .i64 x.kH.most,g,.int .u64 x.kG.fl,.int .i64 x.kG.most,.int .u64 x.high,.bool x.finished,.bool x.ending,.bool x.cut,.int .u64 x.kD,.int .u64 x.final,.bool x.kQ,.int .u64 x.kF]
def GH(x:RS)(a e:rU):List rU :=
 [a,e,.int .u64 x.kG.fl,.int .i64 x.kG.most,.int .u64 x.high,.int .u64 x.fin,.bool x.ended,.bool x.cut,.int .u64 x.kD,.int .u64 x.read,.int .i64 x.state,.int .u64 x.kE,.bool x.ky]
def Fi(c:CS)(V:CV):List rU :=
 [.int .i64 c.kj,.int .i64 c.kT,.int .i64 c.total,.int .u64 c.now,.int .i64 c.closed,.bool c.said,.int .u64 c.next,.pointer V.g,.bool c.answer]
def Hj(c:CS)(V:CV):List rU :=
 [.int .u64 c.kF,.int .u64 c.kE,.bool c.ky,V.ft,.int .u64 c.kO,V.wt,.int .u64 c.lN,.bool c.lW,.map<|some V.sn,.int .u64 c.most,V.cm]
def Hg(a:Nat->WS)(b s c:Nat->rU):List rU:=(List.range 8).flatMap λk=>Fl (a k) (b k) (s k) (c k)
def H9(rs:Nat->RS)(b c:Nat->rU):List rU:=(List.range 8).flatMap λk=>GH (rs k) (b k) (c k)
def zA(c:CS)(V:CV):List rU:=Fi c V++(Hg c.ws V.wb V.ws V.wc++(H9 c.rs V.rb V.rc++Hj c V))
section
variable {α : Type}
theorem Od(f:Nat->List α)(n:Nat)(a:∀k,(f k).length=n)(m:Nat):((List.range m).flatMap f).length=n*m:=by
 induction m with
 | zero=>simp
 | succ m ih=>rw[BK,Bv,AF,ih];simp[a,Nat.mul_succ]
theorem Sv(f:Nat->List α)(n:Nat)(e:∀k,(f k).length=n)(m:Nat)(g:k<m)(h:j<n):((List.range m).flatMap f)[n*k+j]?=(f k)[j]?:=by
 induction m with
 | zero=>omega
 | succ m ih =>
  rw[BK,Bv];have a:=Od f n e m;by_cases h:k<m
  .have:n*k+j<n*m:=by
    have:n*(k+1)<=n*m:=Bs n h;rw[Nat.mul_succ]at this;omega
   rw[Ag I];exact ih h
  have:k=m:=I;subst this;rw[Ac I,a,CB];simp
theorem Su(f g:Nat->List α)(n:Nat)(h:∀k,(f k).length=n)(m:Nat)(v : α)(y:k<m)(z:j<n)(u:∀i,i<m->g i=if i=k then(f k).set j v else f i):((List.range m).flatMap f).set (n*k+j) v=(List.range m).flatMap g:=by
 induction m with
 | zero=>omega
 | succ m ih =>
  rw[BK,Bv,Bv];have a:=Od f n h m;by_cases h:k<m
  .have:n*k+j<n*m:=by
    have:n*(k+1)<=n*m:=Bs n h;rw[Nat.mul_succ]at this;omega
   rw[CZ _ _ I,ih h (λi h=>u i I)];have:=u m I;rw[AH I]at this;simp[this]
  have:k=m:=I;subst this;rw[Bk _ _ I,a,CB];have e:(List.range k).flatMap f=(List.range k).flatMap g:=by
   have:∀q,q<=k->(List.range q).flatMap f=(List.range q).flatMap g:=by
    intro q a
    induction q with
    | zero=>rfl
    | succ q ih2 =>
     rw[BK,Bv,Bv,ih2 I];have:=u q I;rw[AH I]at this;simp[this]
   exact this k<|AI k
  have:=u k I;rw[AL rfl]at this;rw[e];simp[this]
end
def Hn(a:Nat->WS)(b s c:Nat->rU):(Hg a b s c).length=120:=Od _ 15 (λ_=>rfl) 8
def KR(rs:Nat->RS)(b c:Nat->rU):(H9 rs b c).length=104:=Od _ 13 (λ_=>rfl) 8
def Vs(c:CS)(V:CV)(h:(Fi c V)[j]?=some v):(zA c V)[j]?=some v:=by
 unfold zA;rw[Ag (AO.1 h).1];exact h
def Le(c:CS)(V:CV)(a:k<8)(h:(Fl (c k) (V.wb k) (V k) (V.wc k))[j]?=some v):(zA c V)[9+15*k+j]?=some v:=by
 have e:j<15:=(AO.1 h).1;unfold zA;have g:(Fi c V).length=9:=rfl;rw[Ac I,g,(I:9+15*k+j-9=15*k+j),Ag (by rw[Hn];omega)];unfold Hg;rw[Sv _ 15 (λ_=>rfl) 8 a e];exact h
def LC(c:CS)(V:CV)(a:k<8)(h:(GH (c.rs k) (V.rb k) (V.rc k))[j]?=some v):(zA c V)[129+13*k+j]?=some v:=by
 have e:j<13:=(AO.1 h).1;unfold zA;have g:(Fi c V).length=9:=rfl;rw[Ac I,g,Ac<|by rw[Hn];omega,Hn,(I:129+13*k+j-9-120=13*k+j),Ag (by rw[KR];omega)];unfold H9;rw[Sv _ 13 (λ_=>rfl) 8 a e];exact h
def LB(c:CS)(V:CV)(h:(Hj c V)[j]?=some v):(zA c V)[233+j]?=some v:=by
 unfold zA;have a:(Fi c V).length=9:=rfl;rw[Ac I,a,Ac<|by rw[Hn];omega,Hn,Ac<|by rw[KR];omega,KR,(I:233+j-9-120-104=j)];exact h
def IN(c c':CS)(V V':CV)(v:rU)(a:j<9)(h:Fi c' V'=(Fi c V).set j v)(e:Hg c'.ws V'.wb V'.ws V'.wc=Hg c.ws V.wb V.ws V.wc)(g:H9 c'.rs V'.rb V'.rc=H9 c.rs V.rb V.rc)(m:Hj c' V'=Hj c V):(zA c V).set j v=zA c' V':=by
 unfold zA;rw[CZ _ _ (show j<(Fi c V).length from a),h,e,g,m]
def Gn(c c':CS)(V V':CV)(v:rU)(a:k<8)(e:j<15)(g:∀i,i<8->Fl (c' i) (V'.wb i) (V' i) (V'.wc i)=if i=k then(Fl (c k) (V.wb k) (V k) (V.wc k)).set j v else Fl (c i) (V.wb i) (V i) (V.wc i))
  (h:Fi c' V'=Fi c V) (m:H9 c'.rs V'.rb V'.rc=H9 c.rs V.rb V.rc) (n:Hj c' V'=Hj c V):(zA c V).set (9+15*k+j) v=zA c' V':=by
 unfold zA;have q:(Fi c V).length=9:=rfl;rw[Bk _ _ I,q,(I:9+15*k+j-9=15*k+j),CZ _ _ (by rw[Hn];omega)];unfold Hg;rw[Su _ _ 15 (λ_=>rfl) 8 v a e g,h,m,n]
def KX(c c':CS)(V V':CV)(v:rU)(a:k<8)(e:j<13)(g:∀i,i<8->GH (c'.rs i) (V'.rb i) (V'.rc i)=if i=k then(GH (c.rs k) (V.rb k) (V.rc k)).set j v else GH (c.rs i) (V.rb i) (V.rc i))
  (h:Fi c' V'=Fi c V) (m:Hg c'.ws V'.wb V'.ws V'.wc=Hg c.ws V.wb V.ws V.wc) (n:Hj c' V'=Hj c V):(zA c V).set (129+13*k+j) v=zA c' V':=by
 unfold zA;have q:(Fi c V).length=9:=rfl;rw[Bk _ _ I,q,Bk _ _<|by rw[Hn];omega,Hn,(I:129+13*k+j-9-120=13*k+j),CZ _ _ (by rw[KR];omega)];unfold H9;rw[Su _ _ 13 (λ_=>rfl) 8 v a e g,h,m,n]
def Fv(c c':CS)(V V':CV)(v:rU)(h:Fi c' V'=Fi c V)(a:Hg c'.ws V'.wb V'.ws V'.wc=Hg c.ws V.wb V.ws V.wc)(e:H9 c'.rs V'.rb V'.rc=H9 c.rs V.rb V.rc)(g:Hj c' V'=(Hj c V).set j v):(zA c V).set (233+j) v=zA c' V':=by
 unfold zA;have m:(Fi c V).length=9:=rfl;rw[Bk _ _ I,m,Bk _ _<|by rw[Hn];omega,Hn,Bk _ _<|by rw[KR];omega,KR,(I:233+j-9-120-104=j),h,a,e,g]
def RR(w:rT)(v:rU)(rs:zE):Prop :=
 ∃a e,v=.slice a rs.length e/\rs.length<=e/\e<=maxLen/\∀i,i<rs.length->∃g o,a=some ⟨g,o,none⟩/\w ⟨g,o+i*2,none⟩=some (.int .u64 (DE rs i:Int))/\w ⟨g,o+i*2+1,none⟩=some (.int .u64 (DB rs i:Int))/\DE rs i<18446744073709551616/\DB rs i<18446744073709551616
def DN(S:Nat->Prop)(v:rU):Prop:=∀g o n c,v=.slice (some ⟨g,o,none⟩) n c->¬S g
def RR.mod(h:RR w v rs)(m:C9 S w w')(n:DN S v):RR w' v rs:=by
 obtain⟨a,e,rfl,q,u,y⟩:=h;refine⟨a,e,rfl,q,u,λi z=>?_⟩;obtain⟨g,o,rfl,c1,c2,A⟩:=y i z;exact⟨g,o,rfl,m.cell (a:=⟨g,_,none⟩) (n g o _ _ rfl) c1,m.cell (a:=⟨g,_,none⟩) (n g o _ _ rfl) c2,A⟩
def DN.no(v:rU):DN DA v:=λ_ _ _ _ _ x=>x
def G8(rs:zE)(i:Nat):Bool :=
 decide (DE rs i<=DB rs i)&&decide (DB rs i<=4611686018427387903)&&(decide (i=0)||(decide (2<=DE rs (i-1))&&decide (DB rs i+2<=DE rs (i-1))))
def G7(rs:zE)(k:Nat):Bool:=(List.range k).all (G8 rs)
def Tc(rs:zE)(k:Nat):G7 rs (k+1)=(G7 rs k&&G8 rs k):=by simp[G7,BK]
def EQ(rs:zE):Bool:=G7 rs rs.length&&decide (0<rs.length)
def UQ(a:k<rs.length)(h:G8 rs k=false):EQ rs=false:=by
 unfold EQ;have:G7 rs rs.length=false:=by
  cases hq:G7 rs rs.length
  .rfl
  unfold G7 at hq;rw[By]at hq;have:=hq k<|CJ.2 a;rw[h]at this;cases this
 rw[this];rfl
def EX(w:rT)(x:Bool)(e:Ending)(w':rT):Prop:=e=.returned (.bool x)/\C9 DA w w'
def Um(b:Nat)(f:DF)(a:rU)(w:rT)(B:zp w b f a)(D:RR w a f.kC)(hb:f.kC.length<=1099511627776):rH 173 #[(b,0)] w (EX w (EQ f.kC)):=by
 have L:=B.cells.2.2.2.2.2.2.2.2.2;obtain⟨a,q,rfl,K,u,z⟩:=id D;unfold maxLen at u;clear z;go_enter func173,ntmps173;go_wp2_with fail
 go_loopw [10] (λi wr=>∃k:Nat,k<=f.kC.length/\i=.int .i64 k/\G7 f.kC k=true/\C9 DA w wr) (λi _=>f.kC.length-(intOf i).toNat)
 case atStart=>exact⟨0,AK _,rfl,rfl,C9.refl _ _⟩
 case round =>
  obtain⟨k,a,rfl,h,e⟩:=hrel;have m:=zb h;clear h;by_cases n:k<f.kC.length
  .obtain⟨h,a,A,_,_,z⟩:=D.mod e<|DN.no _;cases A;obtain⟨g,o,rfl,G,M,b1,b2⟩:=z k n;have y:0<k->wr (g,o+(k-1)*2)=some (.int .u64 (DE f.kC (k-1):Int))/\DE f.kC (k-1)<18446744073709551616:=λa=>by
    obtain⟨a,g,C,y,_,E,_⟩:=z (k-1) I;cases C;exact⟨y,E⟩
   have A:=(B.mod e rP).cells.2.2.2.2.2.2.2.2.2;have a:=zo A;have a:=zo G;have K:=zb<|Tc f.kC k;have C:=zb<|λh=>UQ (rs:=f.kC) n h;have g:AA (G8 f.kC k=(decide (DE f.kC k<=DB f.kC k)&&decide (DB f.kC k<=4611686018427387903)&&(decide (k=0)||(decide (2<=DE f.kC (k-1))&&decide (DB f.kC k+2<=DE f.kC (k-1)))))):=rfl;obtain⟨E,h⟩:=nm<|DE f.kC k;obtain⟨a,n⟩:=nm<|DB f.kC k;obtain⟨q,u⟩:=nm<|DE f.kC<|k-1;rw[h,n,u]at g;rw[h]at G b1;rw[n]at M b2;rw[u]at y;clear h n u z D;clear B L;by_cases n:a<E
   .have h:decide (a<E)=true:=qp n;go_wp2;go_quiet (fail);go_wp2;go_ret;exact⟨by rw[C.z (by rw[g.z];simp;omega)];rfl,(e.alloc _).drewN _⟩
   have h:decide (a<E)=false:=qp n;by_cases n:(4611686018427387903:Int)<a
   .have h:decide ((4611686018427387903:Int)<a)=true:=qp n;go_wp2;go_quiet (fail);go_wp2;go_ret;exact⟨by rw[C.z (by rw[g.z];simp;omega)];rfl,(e.alloc _).drewN _⟩
   have h:decide ((4611686018427387903:Int)<a)=false:=qp n;by_cases u:0<k
   .have h:decide (0<k)=true:=qp u;obtain⟨n,z⟩:=y I;have n:IntKind.i64.wrap ((k:Int)-1)=(k:Int)-1:=IntWalk.i64_in _ I;have n:((k:Int)-1).toNat=k-1:=I;have n:0<=(k:Int)-1:=I;have n:(k:Int)-1<f.kC.length:=I;clear y;by_cases z:(q:Int)<2
    .have n:decide ((q:Int)<2)=true:=qp z;go_wp2;go_quiet (fail);go_wp2;go_ret;exact⟨by rw[C.z (by rw[g.z];simp;omega)];rfl,(e.alloc _).drewN _⟩
    have n:decide ((q:Int)<2)=false:=qp z;have n:=wu ((q:Int)-2) I;by_cases z:(q:Int)-2<a
    .have n:decide ((q:Int)-2<a)=true:=qp z;go_wp2;go_quiet (fail);go_wp2;go_ret;exact⟨by rw[C.z (by rw[g.z];simp;omega)];rfl,(e.alloc _).drewN _⟩
    have n:decide ((q:Int)-2<a)=false:=qp z;go_wp2;go_quiet (fail);go_wp2;go_roundw
    case rel=>exact⟨k+1,I,by go_num,by rw[K.z,m.z,g.z];simp;omega,(e.alloc _).drewN _⟩
    simp[intOf];omega
   have h:decide (0<k)=false:=qp u;clear y;go_wp2;go_quiet (fail);go_wp2;go_roundw
   case rel=>exact⟨k+1,I,by go_num,by rw[K.z,m.z,g.z];simp;omega,(e.alloc _).drewN _⟩
   simp[intOf];omega
  have a:k=f.kC.length:=I;have g:AA (EQ f.kC=decide (0<f.kC.length)):=by
   show _=_;unfold EQ;have:=m.z;rw[a]at this;rw[this];simp
  have A:=(B.mod e rP).cells.2.2.2.2.2.2.2.2.2;clear a;go_wp2;go_ret;exact⟨by rw[g.z];rfl,e⟩
def Ms(w:rT)(l:qq)(e:l.length<=4611686018427387904):∃a w',(convert 9 44 (.string (zy l))).run prog w=.ok (.slice w l.length a) w'/\BR w' (.slice w l.length a) l/\C9 DA w w'/\w'.heap.size=w.heap.size+1:=by
 have h:=Lib.run_convert_string_bytes (P:=prog) w 9 44 5 (zy l) (u:=.string) underlying9 underlying44 underlying5;have a:=grownCap_ge w (zy l).size 0 5;have e:grownCap w (zy l).size 0 5<=maxLen:=grownCap_le_maxLen w _ 0 _ (by rw[zM];unfold maxLen;omega);rw[zM]at h a e;refine⟨_,_,h,⟨_,_,rfl,a,e,λi c a=>⟨_,_,rfl,?_⟩⟩,⟨?_,?_,?_,?_,?_⟩,Lib.bytesWorld_size _ _ _⟩
 .have e:=(AO.1 a).1;have:=Lib.bytesWorld_cell w 5 (zy l) i (by rw[zM];exact e);rw[An,this];simp only[zy,List.getD,a,Option.getD_some]
 .simp[Lib.bytesWorld,World.freeze,World.alloc,World.drew,-World.alloc_eq,-World.drew_eq]
 .simp[Lib.bytesWorld,World.freeze,World.alloc,World.drew,-World.alloc_eq,-World.drew_eq]
 .simp[Lib.bytesWorld,World.freeze,World.alloc,World.drew,-World.alloc_eq,-World.drew_eq]
 .rw[Lib.bytesWorld_size];omega
 intro k a _;exact Lib.bytesWorld_at_old w _ _ k a
end
end Go.Proofs.YtddfdpbaiedcjabGreatDoor
