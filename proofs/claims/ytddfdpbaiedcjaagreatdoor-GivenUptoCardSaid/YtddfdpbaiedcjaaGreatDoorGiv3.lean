/- A part of Given's proof. Conditions: none. Part 3 of 15. -/
import Derived.Test.YtddfdpbaiedcjaaGreatDoorGiv2
import Derived.Lib.Overlaps
import Derived.Deep.RegionHeld3
import Derived.Deep.DeepCutAuto
set_option maxRecDepth 100000
set_option maxHeartbeats 16000000
set_option linter.all false
namespace Go.Proofs.YtddfdpbaiedcjaaGreatDoor
section
open Go.RowKit Go.Proofs.Tryz
def Qg:(prog.info? 214).map (λi=>(i.zero,i.size,i.bytes))=some (some (.agg #[.int .u64 0,.int .u64 0]),2,16):=kw
def Kt:(prog.info? 214).map (·.size)=some 2:=kw
def Qf(w:rq):(zeroValue 214).run prog w=.ok (.agg #[.int .u64 0,.int .u64 0]) w:=kw
def it(w:rq)(g h o p q lb s:Nat)(c a:rF)(t:w.heap[g]?=some (.cells c.toArray 214 (0,0)))(d:w.heap[h]?=some (.cells a.toArray 214 (0,0)))
  (l:h≠g) (f:c.length≠0) :
  (callFunc 202 #[.slice h p q,.slice (g,o) lb s]).run prog w=.ok (.value<|.bool false) w:=by
 rw[run_callFunc_extern func202 kw kw kw (e:=Extern.SlicesOverlaps.overlaps #[63,63] #[4]) kw,
  Lib.run_overlaps_apart w 63 4 214 underlying63 2 (λw=>Vy Kt w) ⟨h,0,none⟩ ⟨g,o,none⟩ p q lb s l 214 214 a.length c.length
   (by simp[World.shape?,d]) (by simp[World.shape?,t]) f (by simp[World.frozen?,d]) (by simp[World.frozen?,d])]
 rfl
def ML(a:rF)(i n:Nat)(r:rF):List rt:=splice (splice a ((i+1)*2) ((a.drop (i*2)).take ((n-i)*2))) (i*2) r
def cP(g d i n cap:Nat)(a:rF)(r:Nat×Nat)(w:rq)(hi:i<n)(e:n+1<=cap)(c:cap<=9223372036854775807)
  (p:w.heap[g]?=some (.cells a.toArray 214 (0,0))) (f:a.length=cap*2) (c:∀v∈(a.drop<|i*2).take ((n-i)*2),v.oneCell'=true) (h:w.heap[d]?=some (.cells [.int .u64 r.1,.int .u64 r.2].toArray 214 (0,0))) (l:d≠g) :
  rT 201 #[.slice g n cap,[i],.slice d 1 1] w λe w'=>e=.returned (.slice g (n+1) cap) /\
   w'=(w.setRow g (ML a i n [.int .u64 r.1,.int .u64 r.2]).toArray).drew:=by
 have e:(i:Int)<n:=I;have e:decide ((i:Int)=n)=false:=ls;have e:((i:Int)==n)=false:=ls;have e:i+1<cap:=I;have e:=it w g d ((i+1)*2) 1 1 (n-i) (cap-(i+1)) a _ p h l I;have q:∀e,(Builtin.copy_ #[63,63] e #[.slice (g,(i+1)*2) (n-i) (cap-(i+1)),.slice (g,i*2) (n+1-i) (cap-i)]).run prog w.drew =
   .ok (goInt (n-i:Nat)) (w.setRow g (splice a ((i+1)*2)<|(a.drop<|i*2).take<|(n-i)*2).toArray).drew:=λe =>
  Me (P:=prog) w.drew 63 63 e 214 2 underlying63 Kt g ((i+1)*2) (n-i) (cap-(i+1)) g (i*2) (n+1-i) (cap-i) (n-i) a a _ _ _ p p
   I I I I I c
 obtain⟨o,c⟩:=nm<|splice a ((i+1)*2)<|(a.drop<|i*2).take<|(n-i)*2;rw[c]at q;have q:o.length=cap*2:=by rw[<-c,length_splice _ _ _ ls];exact f
 obtain⟨q,f⟩:=nm<|splice o (i*2) [Value.int .u64 r.1,Value.int .u64 r.2];have s:∀e,(Builtin.copy_ #[63,63] e #[.slice (g,i*2) (n+1-i) (cap-i),.slice d 1 1]).run prog (w.setRow g o.toArray).drew =
   .ok (goInt (1:Nat)) (w.setRow g q.toArray).drew:=λe=>by
  rw[Me (P:=prog) (w.setRow g o.toArray).drew 63 63 e 214 2 underlying63 Kt g (i*2) (n+1-i) (cap-i) d 0 1 1 1 o _ _ _ _ (setRow_heap w g _ _ _ _ p)
   ((setRow_other w g d _ l).trans h) I I I lm I (by simp[Value.oneCell'])]
  simp only[B6,Cb,CU,Nat.one_mul,f];congr 1;exact A8 World.drew<|setRow_setRow w g _ _
 have d:AA (ML a i n [.int .u64 r.1,.int .u64 r.2]=q):=by
  show splice (splice _ _ _) _ _=q;rw[c,f]
 clear c f;go_enter func201,ntmps201;go_wp2_with fail
 go_region
 go_wp2_with fail;go_ret;exact⟨rfl,by rw[d.z]⟩
def Xy(d n cap:Nat)(a:rE)(v':rt)(w f:rq)(e:n<=cap)(c:cap<=9223372036854775807)
  (DY:∀c,(Builtin.append_ #[63,63] c #[.slice a n cap,.slice d 1 1]).run prog w=.ok v' f) :
  rT 201 #[.slice a n cap,[n],.slice d 1 1] w λe w'=>e=.returned v'/\w'=f:=by
 by_cases h:n=cap
 .subst h;cases a;all_goals
   go_enter func201,ntmps201;go_wp2_with (at_builtin;refine zo rfl _ _ _ _ rfl _ _ _ rfl rfl DY ?_);go_ret;exact rZ
 have c:n<cap:=I;cases a;all_goals
  go_enter func201,ntmps201;go_wp2_with (at_builtin;refine zo rfl _ _ _ _ rfl _ _ _ rfl rfl DY ?_);go_ret;exact rZ
def MO(c a:rF)(i n:Nat)(r:rF):List rt:=splice (splice c (i*2) r) ((i+1)*2) ((a.drop (i*2)).take ((n-i)*2))
def cO(g l h i n cap d:Nat)(a o:rF)(r:Nat×Nat)(w c:rq)(hi:i<n)(f:n<=cap)(p:cap<n+1)(e:cap<=9223372036854775807)
  (e:a.length=cap*2) (s:∀v∈(a.drop<|i*2).take ((n-i)*2),v.oneCell'=true)
  (DY:∀f,(Builtin.append_ #[63,3] f #[.slice g i cap,.int .i64 ((n:Int)+1-i)]).run prog w=.ok (.slice h (n+1) d) c)
  (A:c.heap[g]?=some (.cells a.toArray 214 (0,0))) (t:c.heap[l]?=some (.cells [.int .u64 r.1,.int .u64 r.2].toArray 214 (0,0)))
  (v:c.heap[h]?=some (.cells o.toArray 214 (0,0))) (u:o.length=d*2) (e:n+1<=d) (p:d<=9223372036854775807) (_hne:l≠h) (q:g≠h) :
  rT 201 #[.slice g n cap,[i],.slice l 1 1] w λe w'=>e=.returned (.slice h (n+1) d) /\
   w'=(c.setRow h (MO o a i n [.int .u64 r.1,.int .u64 r.2]).toArray).drew:=by
 have e:(i:Int)<n:=I;have e:((i:Int)==n)=false:=ls;have e:i<cap:=I;have e:i+1<d:=I;obtain⟨p,e⟩:=nm<|splice o (i*2) [Value.int .u64 r.1,Value.int .u64 r.2];have z:p.length=d*2:=by rw[<-e,length_splice _ _ _ ls];exact u
 have u:∀f,(Builtin.copy_ #[63,63] f #[.slice (h,i*2) (n+1-i) (d-i),.slice l 1 1]).run prog c =
   .ok (goInt (1:Nat)) (c.setRow h p.toArray):=λf=>by
  rw[Me (P:=prog) c 63 63 f 214 2 underlying63 Kt h (i*2) (n+1-i) (d-i) l 0 1 1 1 o _ _ _ _ v
   t I I I lm I (by simp[Value.oneCell'])]
  simp only[B6,Cb,CU,Nat.one_mul,e]
 obtain⟨t,l⟩:=nm<|splice p ((i+1)*2)<|(a.drop<|i*2).take<|(n-i)*2;have u:∀f,(Builtin.copy_ #[63,63] f #[.slice (h,(i+1)*2) (n-i) (d-(i+1)),.slice (g,i*2) (n-i) (cap-i)]).run prog (c.setRow h p.toArray).drew =
   .ok (goInt (n-i:Nat)) (c.setRow h t.toArray).drew:=λf=>by
  rw[Me (P:=prog) (c.setRow h p.toArray).drew 63 63 f 214 2 underlying63 Kt h ((i+1)*2) (n-i) (d-(i+1)) g (i*2) (n-i) (cap-i) (n-i) p a _ _ _ (setRow_heap c h _ _ _ _ v)
   ((setRow_other c h g _ q).trans A) I I I I I s]
  rw[l];congr 1;exact A8 World.drew<|setRow_setRow c h _ _
 have c:AA (MO o a i n [.int .u64 r.1,.int .u64 r.2]=t):=by
  show splice (splice _ _ _) _ _=t;rw[e,l]
 clear e l;go_enter func201,ntmps201;go_wp2_with (at_builtin;refine zo rfl _ _ _ _ rfl _ _ _ rfl rfl DY ?_)
 go_region
 go_wp2_with fail;go_ret;exact⟨rfl,by rw[c.z]⟩
def O7{α : Type}(A B cs:List α)(o:Nat)(a:o=A.length):splice (A++B) o cs=A++(cs++B.drop cs.length):=by
 subst a;simp[splice,<-List.drop_drop]
def Q9{α : Type}(a X:List α)(n:Nat)(c:a.take n=X):∃Y,a=X++Y:=⟨a.drop n,by rw[<-c,Bx]⟩
def eY(A X Y:rF)(a b:rt)(c:2<=Y.length):splice (splice (A++X++Y) (A.length+2) X) A.length [a,b]=A++[a,b]++X++Y.drop 2:=by
 have d:splice (A++X++Y) (A.length+2) X=A++((X++Y).take 2++(X++Y.drop 2)):=by
  have e:(A++X++Y)=(A++(X++Y).take 2)++(X++Y).drop 2:=by simp[Ap,Bx]
  have c:((X++Y).take 2).length=2:=ls;rw[e,O7 _ _ _ _<|by simp[c],CX,Nat.add_comm,Ap];congr 1;congr 1;congr 1;rw[Co];simp
 rw[d,O7 _ _ _ _ rfl];have c:((X++Y).take 2).length=2:=ls;have:List.drop [a,b].length (List.take 2 (X++Y)++(X++List.drop 2 Y))=X++Y.drop 2:=by
  have d:[a,b].length=((X++Y).take 2).length:=by rw[c];rfl
  rw[d,List.drop_left]
 rw[this];simp
def ir(a:rF)(i n cap:Nat)(rs:zE)(r:Nat×Nat)(hi:i<=n)(f:n+1<=cap)(c:a.length=cap*2)(d:rs.length=n)(e:a.take (n*2)=zr rs):(ML a i n [.int .u64 r.1,.int .u64 r.2]).take ((n+1)*2)=zr (rs.take i++r::rs.drop i):=by
 obtain⟨Y,rfl⟩:=Q9 _ _ _ e;have d:(zr<|rs.take i).length=i*2:=by rw[zS];simp;omega
 have e:(zr<|rs.drop i).length=(n-i)*2:=by rw[zS];simp;omega
 have a:zr rs=zr (rs.take i)++zr (rs.drop i):=by rw[<-Jt,Bx]
 have f:2<=Y.length:=by
  simp only[AG,zS]at c;omega
 have c:((zr rs++Y).drop<|i*2).take ((n-i)*2)=zr (rs.drop i):=by
  rw[a,<-d,Ap,List.drop_left,<-e,BQ]
 unfold ML;rw[c,a,(I:(i+1)*2=(zr<|rs.take i).length+2),(I:i*2=(zr<|rs.take i).length),eY _ _ _ _ _ f,Jt,zr];have a:(zr (rs.take i)++[Value.int .u64 r.1,Value.int .u64 r.2]++zr (rs.drop i)).length=(n+1)*2:=by simp[d,e];omega
 rw[<-a,BQ];simp
def j3(d a:rF)(i n cap e:Nat)(rs:zE)(r:Nat×Nat)(hi:i<=n)(u:n+1<=e)(_hcap:n<=cap)(h:a.length=cap*2)(f:d.length=e*2)(o:d.take (i*2)=a.take (i*2))(p:rs.length=n)(q:a.take (n*2)=zr rs):(MO d a i n [.int .u64 r.1,.int .u64 r.2]).take ((n+1)*2)=zr (rs.take i++r::rs.drop i):=by
 obtain⟨Y,rfl⟩:=Q9 _ _ _ q;have c:(zr<|rs.take i).length=i*2:=by rw[zS];simp;omega
 have l:(zr<|rs.drop i).length=(n-i)*2:=by rw[zS];simp;omega
 have a:zr rs=zr (rs.take i)++zr (rs.drop i):=by rw[<-Jt,Bx]
 have s:((zr rs++Y).drop<|i*2).take ((n-i)*2)=zr (rs.drop i):=by
  rw[a,<-c,Ap,List.drop_left,<-l,BQ]
 have t:(zr rs++Y).take (i*2)=zr (rs.take i):=by rw[a,<-c,Ap,BQ]
 obtain⟨Z,rfl⟩:=Q9 _ _ _<|o.trans t;have a:Z.length=e*2-i*2:=by simp[c]at f;omega
 unfold MO;rw[s,O7 _ _ _ _ c.symm];have e:zr (rs.take i)++([Value.int .u64 r.1,Value.int .u64 r.2]++Z.drop 2)=(zr (rs.take i)++[Value.int .u64 r.1,Value.int .u64 r.2])++Z.drop 2:=lm;have a:[Value.int .u64 r.1,Value.int .u64 r.2].length=2:=rfl;rw[a,e,O7 _ _ _ _<|by simp[c];omega,<-List.append_assoc,Jt,zr];have a:(zr (rs.take i)++[Value.int .u64 r.1,Value.int .u64 r.2]++zr (rs.drop i)).length=(n+1)*2:=by simp[c,l];omega
 rw[<-a,BQ];simp
def kE(a:rF)(i n cap:Nat)(r:Nat×Nat)(hi:i<=n)(d:n+1<=cap)(c:a.length=cap*2):(ML a i n [.int .u64 r.1,.int .u64 r.2]).length=cap*2:=by
 unfold ML;have d:(splice a ((i+1)*2)<|(a.drop<|i*2).take<|(n-i)*2).length=cap*2:=by
  rw[length_splice _ _ _ ls];exact c
 rw[length_splice _ _ _ ls];exact d
def kP(d a:rF)(i n c cap:Nat)(r:Nat×Nat)(hi:i<=n)(l:n+1<=c)(f:n<=cap)(h:a.length=cap*2)(e:d.length=c*2):(MO d a i n [.int .u64 r.1,.int .u64 r.2]).length=c*2:=by
 unfold MO;have a:(splice d (i*2) [Value.int .u64 r.1,Value.int .u64 r.2]).length=c*2:=by
  rw[length_splice _ _ _ ls];exact e
 rw[length_splice _ _ _ ls];exact a
theorem RH(rs:zE):∀v∈zr rs,v.oneCell'=true:=by
 induction rs with
 | nil=>intro v h;cases h
 | cons r rs ih =>
  intro v h;simp only[zr,Ay]at h;rcases h with rfl|rfl|h
  .rfl
  .rfl
  exact ih v h
variable{fz:Nat×Nat}{g t:Nat}{w:rq}
def Qe{cs:rF}(a:w.heap[g]?=some (.cells cs.toArray t fz)):∀j u,cs[j]?=some u->w ((⟨g,0,none⟩:Addr).add j)=some u:=by
 intro j u h;rw[zX];simpa [World.cell?,a]using h
variable{base e sz:Nat}{v:rt}{xs:rF}
def Qd{n:Nat}(h:w.ownsRow base e sz v n xs)(q:0<n):∃g a c,v=.slice (some ⟨g,0,none⟩) n a/\w.heap[g]?=some (.cells (c:rF).toArray e (0,0))/\n<=a/\a<=maxLen/\c.length=a*sz/\c.take (n*sz)=xs:=by
 rcases h.2 with⟨_,e⟩|⟨g,a,c,rfl,_,d,f,l,o,p⟩
 .omega
 exact⟨g,a,c.toList,rfl,rB d,f,l,rB o,p⟩
def gz(v:rt)(rs:zE)(i:Nat)(r:Nat×Nat)(p:Nat)(w:rq)(hi:i<=rs.length)(ae:rs.length<=1099511627776)(h:w.ownsRow 0 214 2 v rs.length (zr rs))
  (q:w.heap[p]?=some (.cells [.int .u64 r.1,.int .u64 r.2].toArray 214 (0,0))) (aa:v.ownBlock≠some p) :
  rT 201 #[v,[i],.slice p 1 1] w λe w'=>∃u,e=.returned u/\w'.ownsRow 0 214 2 u (rs.length+1) (zr<|rs.take i++r::rs.drop i)/\w.grownBy w' v.ownBlock/\D4 w v u:=by
 obtain⟨i0,s,K,z,N⟩:=info_parts Qg;by_cases ab:i=rs.length
 .obtain⟨a,c,rfl,O,h2,A⟩:=zk h;obtain⟨u,w1,DY,ho,ac,ad⟩:=zN (P:=prog) w 63 214 i0 _ 2 16 underlying63 s K z N rfl lc _ _ _ h ⟨p,0,none⟩ 1 1 [.int .u64 r.1,.int .u64 r.2] rfl (Qe q) (by simp[Value.oneCell']) lw I;subst ab;unfold maxLen at h2;refine(Xy p _ c a u w w1 O I DY).mono ?_;rintro e w' ⟨rfl,rfl⟩;refine⟨u,rfl,?_,ac,ad⟩;simpa [Jt,zr]using ho
 obtain⟨g,c,d,rfl,T,O,h2,A,X⟩:=Qd h I;have a:p≠g:=λe=>aa<|by simp[Value.ownBlock,e]
 unfold maxLen at h2;have t:∀v∈(d.drop<|i*2).take ((rs.length-i)*2),v.oneCell'=true:=by
  intro v h;refine RH rs v ?_;rw[<-X];have e:(d.drop<|i*2).take ((rs.length-i)*2)=(d.take<|rs.length*2).drop (i*2):=by
   rw[C4];congr 1;omega
  rw[e]at h;exact Bo h
 by_cases f:rs.length+1<=c
 .refine(cP g p i rs.length c d r w I f I T A t q a).mono ?_;rintro e w' ⟨rfl,rfl⟩;refine⟨_,rfl,⟨by simp[zS];omega,.inr ⟨g,c,_,rfl,AN _,setRow_heap w g _ _ _ _ T,f,lw,?_,?_⟩⟩,⟨rfl,rfl,rfl,lm,λk _ B=>setRow_other w g k _<|λe=>B<|by simp[Value.ownBlock,e]⟩,λk B=>.inl B⟩
  .simpa using kE d i rs.length c r hi f A
  simpa using ir d i rs.length c rs r hi f A rfl X
 have DY:=λa=>kW (P:=prog) w 63 3 a 214 .i64 i0 _ underlying63 underlying3 s K ⟨g,0,none⟩ i c (rs.length+1-i) (zr<|rs.take i) (by rw[zS,z];simp;omega)
  (λj u hj=>Qe T j u (by
   rw[<-Pb,<-X,Be,CD]at hj;split at hj
   .exact hj
   cases hj)) I I (by rw[N];omega) (by rw[z];omega)
 rw[(I:i+(rs.length+1-i)=rs.length+1),(I:((rs.length+1-i:Nat):Int)=(rs.length:Int)+1-i)]at DY;have l:=grownCap_ge w (rs.length+1) c 214;have Y:grownCap w (rs.length+1) c 214<=maxLen:=grownCap_le_maxLen w _ c _ lw;unfold maxLen at Y;generalize grownCap w (rs.length+1) c 214=nc at DY l Y;have h:=(AI.1 T).1;have f:=(AI.1 q).1;obtain⟨E,a⟩:∃E:rF,(zr<|rs.take i).toArray++Builtin.zeroCells (Value.agg #[Value.int .u64 0,Value.int .u64 0]).cells (rs.length+1-i)++Builtin.zeroCells (Value.agg #[Value.int .u64 0,Value.int .u64 0]).cells (nc-(rs.length+1))=E.toArray/\E.length=nc*2/\E.take (i*2)=d.take (i*2):=by
  refine⟨zr (rs.take i)++(Builtin.zeroCells (Value.agg #[Value.int .u64 0,Value.int .u64 0]).cells<|rs.length+1-i).toList++(Builtin.zeroCells (Value.agg #[Value.int .u64 0,Value.int .u64 0]).cells<|nc-(rs.length+1)).toList,lm,?_,?_⟩
  .simp[size_zeroCells,zS,Value.cells];omega
  have s:(zr<|rs.take i).length=i*2:=by rw[zS];simp;omega
  rw[Ap,<-s,BQ,s,<-Pb,<-X,Be];congr 1;omega
 obtain⟨a,o,Z⟩:=a;rw[a]at DY;refine(cO g p w.heap.size i rs.length c nc d E r w _ I O I I A t DY ((Below.heap_alloc w.drew _ g h).trans T) ((Below.heap_alloc w.drew _ p f).trans q) (heap_alloc_new w.drew _) o l I I I).mono ?_;rintro e w' ⟨rfl,rfl⟩;refine⟨_,rfl,⟨by simp[zS];omega,.inr ⟨w.heap.size,nc,_,rfl,AN _,setRow_heap _ _ _ _ _ _<|heap_alloc_new w.drew _,l,lw,?_,?_⟩⟩,⟨rfl,rfl,rfl,lm,λk B _=>?_⟩,λk B=>by simp[Value.ownBlock]at B;omega⟩
 .simpa using kP E d i rs.length nc c r hi l O A o
 .simpa using j3 E d i rs.length c nc rs r hi l O A o Z rfl X
 exact(setRow_other _ _ _ _ I).trans (Below.heap_alloc w.drew _ k B)
def Mv(a:rF)(n:Nat):List rt:=splice (splice a 0 ((a.drop 2).take ((n-1)*2))) ((n-1)*2) [.int .u64 0,.int .u64 0]
def cN(g n cap:Nat)(a:rF)(w:rq)(e:2<=n)(d:n<=cap)(c:cap<=9223372036854775807)
  (o:w.heap[g]?=some (.cells a.toArray 214 (0,0))) (f:a.length=cap*2) (h:∀v∈(a.drop 2).take ((n-1)*2),v.oneCell'=true) :
  rT 157 #[.slice g n cap,.int .i64 0,.int .i64 1] w λe w'=>e=.returned (.slice g (n-1) cap) /\
   w'=(w.setRow g (Mv a n).toArray).drew:=by
 obtain⟨p,c,d,e,l⟩:=info_parts Qg;have l:((a.drop 2).take<|(n-1)*2).length=(n-1)*2:=ls;have DY:∀d,(Builtin.append_ #[63,63] d #[.slice g 0 cap,.slice (g,2) (n-1) (cap-1)]).run prog w.drew =
   .ok (.slice g (n-1) cap) (w.setRow g (splice a 0<|(a.drop 2).take<|(n-1)*2).toArray).drew:=λd=>by
  have:=run_append_room (P:=prog) w.drew 63 d 214 p underlying63 c g 0 cap a.toArray o ⟨g,2,none⟩ (n-1) (cap-1) _ (by rw[l,e]) (Uw o 2<|(n-1)*2) h I (by rw[l];simp;omega);rw[this];simp[splice];rfl
 obtain⟨h,c⟩:=nm<|splice a 0<|(a.drop 2).take<|(n-1)*2;have e:h.length=cap*2:=by rw[<-c,length_splice _ _ _ (by rw[l];omega)];exact f
 rw[c]at DY;obtain⟨f,e⟩:=nm<|splice h ((n-1)*2) [Value.int .u64 0,Value.int .u64 0];have p:∀d,(Builtin.clear_ #[63] d #[.slice (g,(n-1)*2) (n-(n-1)) (cap-(n-1))]).run prog (w.setRow g h.toArray).drew=.ok (.tuple #[]) (w.setRow g f.toArray).drew:=λd=>by
  rw[(I:n-(n-1)=1),Mf (P:=prog) (w.setRow g h.toArray).drew 63 d 214 (.agg #[.int .u64 0,.int .u64 0]) 2 underlying63 Qf rfl (by simp[Value.cells,Value.oneCell']) g ((n-1)*2) 1 _ h _ (setRow_heap w g _ _ _ _ o) I];rw[(kw:(Builtin.zeroCells (Value.agg #[Value.int .u64 0,Value.int .u64 0]).cells 1).toList=[Value.int .u64 0,Value.int .u64 0]),e];congr 1;exact A8 World.drew<|setRow_setRow w g _ _
 have d:AA (Mv a n=f):=by
  show splice (splice _ _ _) _ _=f;rw[c,e]
 have a:1<cap:=I;have a:(1:Int)<=n:=I;have a:n-1<cap:=I;clear c e l;go_enter func157,ntmps157;go_wp2_with fail;have a:¬cap=1:=I;go_region_law (refine zL rfl (.tmp 22) (.tmp 25) 63 63 rfl (.slice g 0 cap) (.slice (U g 2) (n-1)<|cap-1) (.slice g (n-1) cap) (by simp[Act.eval,Act.put]) (by simp[Act.eval,Act.put]) DY ?_);go_wp2_with fail;go_ret;exact⟨rfl,by rw[d.z]⟩
def Xx(a:rE)(l i n cap:Nat)(R:Ending->rq->Prop)(w:rq)(hi:i<=n)(o:n<=cap)(f:cap<=9223372036854775807)
  (c:rT 201 #[.slice a n cap,[i],.slice l 1 1] w λe w'=>∃d,e=.returned d/\R (.returned d) w') :
  rT 156 #[.slice a n cap,[i],[i],.slice l 1 1] w R:=by
 by_cases p:i=cap
 .obtain rfl:n=i:=I;subst p;cases a;all_goals
   go_enter func156,ntmps156;go_wp2_with (go_at_call 201;refine c.mono ?_;rintro e w' ⟨d,rfl,h⟩);exact h
 have f:i<cap:=I;cases a;all_goals
  go_enter func156,ntmps156;go_wp2_with (go_at_call 201;refine c.mono ?_;rintro e w' ⟨d,rfl,h⟩);exact h
def MK(a:rF)(i n:Nat)(r:rF):List rt:=splice (splice a (i*2) r) ((i+1)*2) (Builtin.zeroCells #[.int .u64 0,.int .u64 0] (n-(i+1))).toList
def Xw(g s i n cap:Nat)(a:rF)(r:Nat×Nat)(w:rq)(hi:i<n)(f:n<=cap)(_hcap2:cap<=9223372036854775807)
  (z:w.heap[g]?=some (.cells a.toArray 214 (0,0))) (o:a.length=cap*2) (t:w.heap[s]?=some (.cells [.int .u64 r.1,.int .u64 r.2].toArray 214 (0,0))) :
  rT 156 #[.slice g n cap,[i],[n],.slice s 1 1] w λe w'=>e=.returned (.slice g (i+1) cap) /\
   w'=w.setRow g (MK a i n [.int .u64 r.1,.int .u64 r.2]).toArray:=by
 obtain⟨B,p,h,f,E⟩:=info_parts Qg;have DY:∀h,(Builtin.append_ #[63,63] h #[.slice g i cap,.slice s 1 1]).run prog w =
   .ok (.slice g (i+1) cap) (w.setRow g (splice a (i*2) [Value.int .u64 r.1,Value.int .u64 r.2]).toArray):=λh=>by
  have:=run_append_room (P:=prog) w 63 h 214 B underlying63 p g i cap a.toArray z ⟨s,0,none⟩ 1 1 [Value.int .u64 r.1,Value.int .u64 r.2] (by rw[f];rfl) (Qe t) (by simp[Value.oneCell']) I (by rw[f];simp;omega);rw[this,f];simp[splice]
 obtain⟨l,c⟩:=nm<|splice a (i*2) [Value.int .u64 r.1,Value.int .u64 r.2];have f:l.length=cap*2:=by rw[<-c,length_splice _ _ _ ls];exact o
 rw[c]at DY;obtain⟨q,d⟩:=nm<|splice l ((i+1)*2) (Builtin.zeroCells #[Value.int .u64 0,Value.int .u64 0] (n-(i+1))).toList;have u:∀h,(Builtin.clear_ #[63] h #[.slice (g,(i+1)*2) (n-(i+1)) (cap-(i+1))]).run prog (w.setRow g l.toArray)=.ok (.tuple #[]) (w.setRow g q.toArray):=λh=>by
  rw[Mf (P:=prog) (w.setRow g l.toArray) 63 h 214 (.agg #[.int .u64 0,.int .u64 0]) 2 underlying63 Qf rfl (by simp[Value.cells,Value.oneCell']) g ((i+1)*2) (n-(i+1)) _ l _ (setRow_heap w g _ _ _ _ z) I];rw[show(Value.agg #[Value.int .u64 0,Value.int .u64 0]).cells=#[Value.int .u64 0,Value.int .u64 0]from rfl,d];congr 1;exact setRow_setRow w g _ _
 have A:AA (MK a i n [.int .u64 r.1,.int .u64 r.2]=q):=by
  show splice (splice _ _ _) _ _=q;rw[c,d]
 have v:AA (i+1=n->l=q):=by
  intro e;rw[<-d];subst e;simp[splice,Builtin.zeroCells]
 have a:(i:Int)<n:=I;have a:((i:Int)==n)=false:=ls;have a:i<cap:=I;clear c d;by_cases a:i+1=n
 .have c:decide ((i:Int)+1<n)=false:=ls;have c:=v.z a;have d:AA (l=q):=c;clear c u;have c:¬((i:Int)+1<n):=I;go_enter func156,ntmps156;have e:=zb a;clear a;go_wp2_with (at_builtin;refine zo rfl _ _ _ _ rfl _ _ _ rfl rfl DY ?_);go_ret;exact⟨rfl,by rw[A.z,d.z]⟩
 have c:(i:Int)+1<n:=I;have c:i+1<cap:=I;clear a;go_enter func156,ntmps156;go_wp2_with (at_builtin;refine zo rfl _ _ _ _ rfl _ _ _ rfl rfl DY ?_);go_ret;exact⟨rfl,by rw[A.z]⟩
def Mu(a:rF)(i j n:Nat)(r:rF):List rt :=
 splice (splice (splice a (i*2) r) ((i+1)*2)<|((splice a (i*2) r).drop<|j*2).take<|(n-j)*2) ((i+1+(n-j))*2) (Builtin.zeroCells #[.int .u64 0,.int .u64 0] (n-(i+1+(n-j)))).toList
def Pd{α : Type}(L:List α)(o k n:Nat)(h:n=o+k):(L.take n).drop o=(L.drop o).take k:=by
 subst h;rw[C4];congr 1;omega
def Xv(g l i j n cap:Nat)(c:rF)(r:Nat×Nat)(w:rq)(hi:i<j)(e:j<n)(d:n<=cap)(a:cap<=9223372036854775807)
  (t:w.heap[g]?=some (.cells c.toArray 214 (0,0))) (a:c.length=cap*2) (s:∀v∈c.take (n*2),v.oneCell'=true) (o:w.heap[l]?=some (.cells [.int .u64 r.1,.int .u64 r.2].toArray 214 (0,0))) (_hne:l≠g) :
  rT 156 #[.slice g n cap,[i],[j],.slice l 1 1] w λe w'=>e=.returned (.slice g (i+1+(n-j)) cap) /\
   ∃k,w'=(w.setRow g (Mu c i j n [.int .u64 r.1,.int .u64 r.2]).toArray).drewN k:=by
 obtain⟨d,h⟩:=nm<|splice c (i*2) [Value.int .u64 r.1,Value.int .u64 r.2];have p:d.length=cap*2:=by rw[<-h,length_splice _ _ _ ls];exact a
 have q:∀f a,(Builtin.copy_ #[63,63] f #[.slice (g,i*2) (i+1+(n-j)-i) (cap-i),.slice l 1 1]).run prog (w.drewN a)=.ok (goInt (1:Nat)) ((w.setRow g d.toArray).drewN a):=λf a=>by
  rw[Me (P:=prog) (w.drewN a) 63 63 f 214 2 underlying63 Kt g (i*2) (i+1+(n-j)-i) (cap-i) l 0 1 1 1 c _ _ _ _ t o I I I lm I (by simp[Value.oneCell'])];simp only[B6,Cb,CU,Nat.one_mul,h];rfl
 obtain⟨l,o⟩:=nm<|splice d ((i+1)*2)<|(d.drop<|j*2).take<|(n-j)*2;have q:l.length=cap*2:=by rw[<-o,length_splice _ _ _ ls];exact p
 have p:∀v∈(d.drop<|j*2).take ((n-j)*2),v.oneCell'=true:=by
  intro v q;have e:d.drop (j*2)=c.drop (j*2):=by
   rw[<-h];simp only[splice];rw[Co,B9 ls,Aq,Co,B9 ls,Aq,CX];congr 1;simp;omega
  rw[e,<-Pd c (j*2) ((n-j)*2) (n*2) I]at q;exact s v<|Bo q
 have q:∀f a,(Builtin.copy_ #[63,63] f #[.slice (g,(i+1)*2) (n-j) (cap-(i+1)),.slice (g,j*2) (n-j) (cap-j)]).run prog ((w.setRow g d.toArray).drewN a) =
   .ok (goInt (n-j:Nat)) ((w.setRow g l.toArray).drewN a):=λf a=>by
  have q:=setRow_heap w g _ d.toArray _ _ t;rw[Me (P:=prog) ((w.setRow g d.toArray).drewN a) 63 63 f 214 2 underlying63 Kt g ((i+1)*2) (n-j) (cap-(i+1)) g (j*2) (n-j) (cap-j) (n-j) d d _ _ _ q q I I I I I p];rw[o];congr 1;exact A8 (λx=>World.drewN x a)<|setRow_setRow w g _ _
 obtain⟨q,d⟩:=nm<|splice l ((i+1+(n-j))*2) (Builtin.zeroCells #[Value.int .u64 0,Value.int .u64 0] (n-(i+1+(n-j)))).toList;have u:∀f a,(Builtin.clear_ #[63] f #[.slice (g,(i+1+(n-j))*2) (n-(i+1+(n-j))) (cap-(i+1+(n-j)))]).run prog ((w.setRow g l.toArray).drewN a)=.ok (.tuple #[]) ((w.setRow g q.toArray).drewN a):=λf a=>by
  rw[Mf (P:=prog) ((w.setRow g l.toArray).drewN a) 63 f 214 (.agg #[.int .u64 0,.int .u64 0]) 2 underlying63 Qf rfl (by simp[Value.cells,Value.oneCell']) g ((i+1+(n-j))*2) (n-(i+1+(n-j))) _ l _ (setRow_heap w g _ _ _ _ t) I];rw[show(Value.agg #[Value.int .u64 0,Value.int .u64 0]).cells=#[Value.int .u64 0,Value.int .u64 0]from rfl,d];congr 1;exact A8 (λx=>World.drewN x a)<|setRow_setRow w g _ _
 have t:AA (Mu c i j n [.int .u64 r.1,.int .u64 r.2]=q):=by
  show splice (splice (splice _ _ _) _ _) _ _=q;rw[h,o,d]
 have c:AA (i+1+(n-j)=n->l=q):=by
  intro e;rw[<-d,e];simp[splice,Builtin.zeroCells]
 clear h o d p s;have d:(i:Int)<j:=I;have d:((i:Int)==j)=false:=ls;have d:((j:Int)==n)=false:=ls;have d:(j:Int)<n:=I;have d:i<cap:=I;have d:i+1<cap:=I;have d:j<cap:=I;have d:¬cap=i+1:=I;have d:¬cap=j:=I;by_cases d:i+1+(n-j)=cap
 .have p:=zb d;have e:n-(i+1+(n-j))=0:=I;have s:AA (l=q):=c.z I;have c:=zb e;have h:∀f o c a,(Builtin.clear_ #[63] f #[.slice (some ⟨g,o,none⟩) (n-(i+1+(n-j))) c]).run prog ((w.setRow g l.toArray).drewN a)=.ok (.tuple #[]) ((w.setRow g l.toArray).drewN a):=λf o c a=>by
   rw[e];simp[Builtin.clear_,run_underlying underlying63]
  clear d e u;go_enter func156,ntmps156;go_wp2_with fail;go_quiet (fail);go_wp2_with fail
  go_region
  go_wp2_with fail;all_goals
   go_ret;refine⟨?_,_,by rw[t.z,s.z]⟩
   first|rfl|(rw[<-p.z];rfl)
 have e:i+1+(n-j)<cap:=I;clear d;go_enter func156,ntmps156;go_wp2_with fail;go_quiet (fail);go_wp2_with fail
 go_region
 go_wp2_with fail;go_ret;exact⟨rfl,_,by rw[t.z]⟩
def Rk{α : Type}(L:List α)(o:Nat)(cs:List α)(h:o<=L.length):(splice L o cs).take o=L.take o:=by
 simp only[splice];rw[BF ls,Be];congr 1;omega
def iq{α : Type}(L:List α)(o:Nat)(cs:List α)(k:Nat)(h:o+cs.length<=L.length)(a:o+cs.length<=k):(splice L o cs).drop k=L.drop k:=by
 simp only[splice];rw[Co,B9 ls,Aq,Co,B9 ls,Aq,CX];congr 1;simp;omega
def Pf{α : Type}(L:List α)(o:Nat)(cs:List α)(h:o+cs.length<=L.length):(splice L o cs).take (o+cs.length)=L.take o++cs:=by
 simp only[splice];rw[<-List.append_assoc];have:(L.take o++cs).length=o+cs.length:=ls;rw[<-this,BQ]
def ip(a:rF)(i n cap:Nat)(rs:zE)(r:Nat×Nat)(hi:i<n)(e:n<=cap)(c:a.length=cap*2)(d:rs.length=n)(f:a.take (n*2)=zr rs):(MK a i n [.int .u64 r.1,.int .u64 r.2]).take ((i+1)*2)=zr (rs.take i++[r]):=by
 have d:(splice a (i*2) [Value.int .u64 r.1,Value.int .u64 r.2]).length=cap*2:=by rw[length_splice _ _ _ ls];exact c
 unfold MK;rw[Rk _ _ _ I];have e:(i+1)*2=i*2 + [Value.int .u64 r.1,Value.int .u64 r.2].length:=ls;rw[e,Pf _ _ _ ls,Jt,<-Pb,<-f,Be,BY I];rfl
def kD(a:rF)(i n cap:Nat)(r:Nat×Nat)(hi:i<n)(d:n<=cap)(c:a.length=cap*2):(MK a i n [.int .u64 r.1,.int .u64 r.2]).length=cap*2:=by
 have d:(splice a (i*2) [Value.int .u64 r.1,Value.int .u64 r.2]).length=cap*2:=by rw[length_splice _ _ _ ls];exact c
 unfold MK;rw[length_splice _ _ _ (by simp[size_zeroCells];omega)];exact d
def jz(a:rF)(i j n cap:Nat)(rs:zE)(r:Nat×Nat)(hi:i<j)(f:j<n)(h:n<=cap)(c:a.length=cap*2)(e:rs.length=n)(d:a.take (n*2)=zr rs):(Mu a i j n [.int .u64 r.1,.int .u64 r.2]).take ((i+1+(n-j))*2)=zr (rs.take i++r::rs.drop j)/\(Mu a i j n [.int .u64 r.1,.int .u64 r.2]).length=cap*2:=by
 have e:(splice a (i*2) [Value.int .u64 r.1,Value.int .u64 r.2]).length=cap*2:=by rw[length_splice _ _ _ ls];exact c
 have c:((splice a (i*2) [Value.int .u64 r.1,Value.int .u64 r.2]).drop<|j*2).take ((n-j)*2)=zr (rs.drop j):=by
  rw[iq _ _ _ _ ls ls,<-Pd a (j*2) ((n-j)*2) (n*2) I,d,V4]
 have f:(zr<|rs.drop j).length=(n-j)*2:=by rw[zS];simp;omega
 have f:(splice (splice a (i*2) [Value.int .u64 r.1,Value.int .u64 r.2]) ((i+1)*2)<|zr<|rs.drop j).length=cap*2:=by rw[length_splice _ _ _ I];exact e
 unfold Mu;rw[c];constructor
 .rw[Rk _ _ _ I,(I:(i+1+(n-j))*2=(i+1)*2+(zr<|rs.drop j).length),Pf _ _ _ I];have e:(i+1)*2=i*2 + [Value.int .u64 r.1,Value.int .u64 r.2].length:=ls;rw[e,Pf _ _ _ ls,Jt,zr,<-Pb,<-d,Be,BY I];simp
 rw[length_splice _ _ _ (by simp[size_zeroCells];omega)];exact f
def io(v:rt)(rs:zE)(i j:Nat)(r:Nat×Nat)(l:Nat)(w:rq)(Y:i<=j)(Z:j<=rs.length)(t:rs.length<=1099511627776)(d:w.ownsRow 0 214 2 v rs.length (zr rs))
  (o:w.heap[l]?=some (.cells [.int .u64 r.1,.int .u64 r.2].toArray 214 (0,0))) (u:v.ownBlock≠some l) :
  rT 156 #[v,[i],[j],.slice l 1 1] w λe w'=>∃s,e=.returned s/\w'.ownsRow 0 214 2 s (rs.take i++r::rs.drop j).length (zr<|rs.take i++r::rs.drop j)/\w.grownBy w' v.ownBlock/\D4 w v s:=by
 by_cases E:i=j
 .subst E;have z:(rs.take i++r::rs.drop i).length=rs.length+1:=ls;rw[z];obtain⟨a,c,rfl,p,K,_⟩:=zk d;unfold maxLen at K;refine Xx a l i _ c _ w I p I ?_;refine(gz _ rs i r l w Z t d o u).mono ?_;rintro e w' ⟨s,rfl,h⟩;exact⟨s,rfl,s,rfl,h⟩
 obtain⟨g,c,f,rfl,B,p,K,A,N⟩:=Qd d I;unfold maxLen at K;have O:l≠g:=λe=>u<|by simp[Value.ownBlock,e]
 by_cases T:j=rs.length
 .have z:(rs.take i++r::rs.drop j).length=i+1:=ls;rw[z];have a:rs.drop j=[]:=ls;rw[a];subst T;refine(Xw g l i rs.length c f r w I p I B A o).mono ?_;rintro e w' ⟨rfl,rfl⟩;refine⟨_,rfl,⟨by simp[zS];omega,.inr ⟨g,c,_,rfl,AN _,setRow_heap w g _ _ _ _ B,I,lw,?_,?_⟩⟩,⟨rfl,rfl,rfl,lm,λk _ q=>setRow_other w g k _<|λe=>q<|by simp[Value.ownBlock,e]⟩,λk q=>.inl q⟩
  .simpa using kD f i rs.length c r I p A
  simpa using ip f i rs.length c rs r I p A rfl N
 have z:(rs.take i++r::rs.drop j).length=i+1+(rs.length-j):=ls;rw[z];have X:=jz f i j rs.length c rs r I I p A rfl N;refine(Xv g l i j rs.length c f r w I I p I B A (by rw[N];exact RH rs) o O).mono ?_;rintro e w' ⟨rfl,k,rfl⟩;refine⟨_,rfl,⟨by simp[zS];omega,.inr ⟨g,c,_,rfl,AN _,setRow_heap w g _ _ _ _ B,I,lw,?_,?_⟩⟩,⟨rfl,rfl,rfl,lm,λk _ q=>setRow_other w g k _<|λe=>q<|by simp[Value.ownBlock,e]⟩,λk q=>.inl q⟩
 .simpa using X.2
 simpa using X.1
def jy(a:rF)(n cap:Nat)(rs:zE)(h:2<=n)(d:n<=cap)(c:a.length=cap*2)(e:rs.length=n)(f:a.take (n*2)=zr rs):(Mv a n).take ((n-1)*2)=zr (rs.drop 1)/\(Mv a n).length=cap*2:=by
 have h:(a.drop 2).take ((n-1)*2)=zr (rs.drop 1):=by
  rw[<-Pd a 2 ((n-1)*2) (n*2) I,f];exact V4 rs 1
 have d:(zr<|rs.drop 1).length=(n-1)*2:=by rw[zS];simp;omega
 have e:(splice a 0<|zr<|rs.drop 1).length=cap*2:=by rw[length_splice _ _ _ I];exact c
 unfold Mv;rw[h];constructor
 .rw[Rk _ _ _ I];have:=Pf a 0 (zr<|rs.drop 1) I;rw[d,Aw,CU,Aq]at this;exact this
 rw[length_splice _ _ _ (by rw[e,show [Value.int IntKind.u64 0,Value.int IntKind.u64 0].length=2 from rfl];omega)];exact e
def gy(v:rt)(rs:zE)(w:rq)(h:2<=rs.length)(d:w.ownsRow 0 214 2 v rs.length (zr rs)):rT 157 #[v,.int .i64 0,.int .i64 1] w λe w'=>∃f,e=.returned f/\w'.ownsRow 0 214 2 f (rs.drop 1).length (zr (rs.drop 1))/\w.grownBy w' v.ownBlock/\D4 w v f:=by
 obtain⟨g,c,a,rfl,l,o,t,p,q⟩:=Qd d I;unfold maxLen at t;have s:=jy a rs.length c rs h o p rfl q;have d:∀v∈(a.drop 2).take ((rs.length-1)*2),v.oneCell'=true:=by
  intro v f;rw[<-Pd a 2 ((rs.length-1)*2) (rs.length*2) I,q]at f;exact RH rs v<|Bo f
 refine(cN g rs.length c a w h o I l p d).mono ?_;rintro e w' ⟨rfl,rfl⟩;have a:(rs.drop 1).length=rs.length-1:=lm;rw[a];refine⟨_,rfl,⟨by rw[zS,a],.inr ⟨g,c,_,rfl,AN _,setRow_heap w g _ _ _ _ l,I,lw,?_,?_⟩⟩,⟨rfl,rfl,rfl,lm,λk _ a=>setRow_other w g k _<|λe=>a<|by simp[Value.ownBlock,e]⟩,λk a=>.inl a⟩
 .simpa using s.2
 simpa using s.1
def Dv(rs:zE)(lo i:Nat):Bool:=decide (lo<=DP rs i+1)
def D8(rs:zE)(hi i:Nat):Bool:=decide (hi+1<DU rs i)
def im:OU 154:=λa w=>O8 func154 kw rfl a w
def il:OU 155:=λa w=>O8 func155 kw rfl a w
def cM(rs:zE)(i b o a d lo:Nat)(v:rt)(w:rq)
  (l:w a=some (.pointer (b,o))) (p:w d=some (.int .u64 lo)) (e:lo<18446744073709551616)
  (e:w (b,o)=some v) (c:w.ownsRow 0 214 2 v rs.length (zr rs)) (hi:i<rs.length) :
  rT 154 #[[i],(a,0),(d,0)] w λe w'=>e=.returned (.bool<|Dv rs lo i)/\∃k,w'=w.drewN k:=by
 obtain⟨a,d,rfl,e,h,f⟩:=zk c;obtain⟨g,rfl⟩:=f I;have a:=(Il c i hi).2;have a:(i:Int)<rs.length:=I;have a:0<=(i:Int):=I;unfold maxLen at h;clear f;by_cases a:lo<=DP rs i
 .have hd:decide ((lo:Int)<=DP rs i)=true:=ls;have a:Dv rs lo i=true:=by simp[Dv];omega
  go_enter func154,ntmps154;go_wp2_with fail;go_quiet (fail);go_wp2_with fail;go_ret;exact⟨by rw[a];rfl,_,rfl⟩
 have hd:decide ((lo:Int)<=DP rs i)=false:=ls;have hb:0<=(lo:Int)-DP rs i:=I;have a:(lo:Int)-DP rs i<18446744073709551616:=I;have a:AA (Dv rs lo i=decide ((lo:Int)-DP rs i=1)):=by
  show _=_;simp only[Dv];congr 1;apply propext;omega
 go_enter func154,ntmps154;go_wp2_with fail;go_quiet (fail);go_wp2_with fail;go_ret;exact⟨by rw[a.z];rfl,_,rfl⟩
def cL(rs:zE)(i b o a e c:Nat)(v:rt)(w:rq)
  (l:w a=some (.pointer (b,o))) (p:w e=some (.int .u64 c)) (hb:∀i,i<rs.length->DU rs i<18446744073709551616)
  (l:w (b,o)=some v) (d:w.ownsRow 0 214 2 v rs.length (zr rs)) (hi:i<rs.length) :
  rT 155 #[.int .i64 i,(a,0),(e,0)] w λe w'=>e=.returned (.bool<|D8 rs c i)/\∃k,w'=w.drewN k:=by
 obtain⟨a,e,rfl,l,h,f⟩:=zk d;obtain⟨g,rfl⟩:=f I;have a:=(Il d i hi).1;have a:=hb i hi;clear hb;have a:(i:Int)<rs.length:=I;have a:0<=(i:Int):=I;unfold maxLen at h;clear f;by_cases a:c<DU rs i
 .have hd:decide ((c:Int)<DU rs i)=true:=ls;have hb:0<=(DU rs i:Int)-c:=I;have a:(DU rs i:Int)-c<18446744073709551616:=I;have a:AA (D8 rs c i=decide (1<(DU rs i:Int)-c)):=by
   show _=_;simp only[D8];congr 1;apply propext;omega
  go_enter func155,ntmps155;go_wp2_with fail;go_quiet (fail);go_wp2_with fail;go_ret;exact⟨by rw[a.z];rfl,_,rfl⟩
 have hd:decide ((c:Int)<DU rs i)=false:=ls;have a:AA (D8 rs c i=false):=by
  show _=_;simp only[D8,Aj];omega
 go_enter func155,ntmps155;go_wp2_with fail;go_quiet (fail);go_wp2_with fail;go_ret;exact⟨by rw[a.z];rfl,_,rfl⟩
def WF(rs:zE):Prop:=(∀i,i<rs.length->DU rs i<=DP rs i/\DP rs i<18446744073709551616)/\∀i j,i<j->j<rs.length->DP rs i+1<DU rs j
variable{hi lo m1:Nat}{rs:zE}
def Jm{a:Nat}(h:WF rs)(c:lo<=hi)(d:E3 rs.length (Dv rs lo) m1)(e:E3 rs.length (D8 rs hi) a):m1<=a:=by
 obtain⟨c,f,c1⟩:=d;obtain⟨c,d,c2⟩:=e;by_cases c:a<m1
 .have c:=f I;have d:=c2 I;simp only[Dv,Aj]at c;simp only[D8,Ah]at d;have d:=h.1 a I;by_cases d:a=m1-1
  .rw[<-d]at c;omega
  have:=h.2 a (m1-1) I I;have a:=h.1 (m1-1) I;omega
 omega
variable{b o:Nat}
def NY(h:w (b,o)=some v):(w.setCell (b,o) v).heap[b]?=w.heap[b]?:=by
 unfold World.cell? at h;simp only[World.setCell,CF];split at h
 .rename_i c e fz hb;simp only at hb;rw[hb];simp only[Option.isSome_none,BT,BZ]at h;have:c.setIfInBounds o v=c:=by
   apply Cf;intro j;rw[BV];split
   .rename_i a;subst a;split
    .exact h.symm
    rename_i a;simp[CR (DB a)]at h
   rfl
  simp[this]
 cases h
theorem kC(w:rq)(b o:Nat)(x y z:rt):(((w.setCell (b,o) x).setCell (b,o+1) y).setCell (b,o) z).heap[b]?=((w.setCell (b,o) z).setCell (b,o+1) y).heap[b]?:=by
 simp only[World.setCell,CF,A9];cases w.heap[b]? with
 | none=>rfl
 | some ob =>
  cases ob with
  | cells c e fz =>
   simp only[A5,Option.isSome_none,BT,BZ];congr 2;apply Cf;intro j;simp only[BV,C9];by_cases a:o=j
   .subst a;simp
   by_cases d:o+1=j
   .subst d;simp
   simp[a,d]
  | _=>rfl
structure Fr(w W:rq)(b o S L H:Nat)(v:rt)(rs:zE)(fl most lo hi:Nat):Prop where
 cs:W S=some (.pointer (b,o))
 cl:W L=some (.int .u64 lo)
 ch:W H=some (.int .u64 hi)
 fz:W.frozen? ⟨L,0,none⟩=false
 set:Eh W b o v rs fl most
 mod:DO DQ w W
 ns:w.heap.size<=S/\w.heap.size<=L/\w.heap.size<=H
 ne:S≠L/\H≠L
variable{H:Nat}{W:rq}
def Fr.drewN{S L:Nat}{fl a:Nat}(h:Fr w W b o S L H v rs fl a lo hi)(k:Nat):Fr w (W.drewN k) b o S L H v rs fl a lo hi :=
 ⟨h.cs,h.cl,h.ch,h.fz,h.set.mod ((DO.refl DQ W).drewN k) rk<|λ_ _ x=>x,h.mod.drewN k,h.ns,h.ne⟩
def Fr.alloc{S L:Nat}{fl a:Nat}(h:Fr w W b o S L H v rs fl a lo hi)(x:Obj):Fr w (W.alloc x) b o S L H v rs fl a lo hi:=by
 have a:=(DO.refl DQ W).alloc x;exact⟨a.cell rk h.cs,a.cell rk h.cl,a.cell rk h.ch,by rw[World.frozen?_of_block (w:=W) (a.block L (zm h.cl) rk)];exact h.fz,h.set.mod a rk<|λ_ _ x=>x,h.mod.alloc x,h.ns,h.ne⟩
def Fr.start(w:rq)(b o:Nat)(v:rt)(rs:zE)(fl a lo hi c d e:Nat)(h:Eh w b o v rs fl a):Fr w (((w.alloc (.cells #[(b,o)] c)).alloc (.cells #[lo] d)).alloc (.cells #[hi] e)) b o w.heap.size (w.heap.size+1) (w.heap.size+1+1) v rs fl a lo hi:=by
 have a:DO DQ w (((w.alloc<|.cells #[(b,o)] c).alloc<|.cells #[lo] d).alloc<|.cells #[hi] e):=((rp.alloc _).alloc _).alloc _;have l:(((w.alloc<|.cells #[(b,o)] c).alloc<|.cells #[lo] d).alloc<|.cells #[hi] e).heap[w.heap.size]?=some (.cells #[(b,o)] c (0,0)):=by
  rw[Below.heap_alloc _ _ _ ls,Below.heap_alloc _ _ _ lm];exact heap_alloc_new w _
 have f:(((w.alloc<|.cells #[(b,o)] c).alloc<|.cells #[lo] d).alloc<|.cells #[hi] e).heap[w.heap.size+1]?=some (.cells #[lo] d (0,0)):=by
  rw[Below.heap_alloc _ _ _ lm];have:=heap_alloc_new (w.alloc<|.cells #[(b,o)] c)<|.cells #[lo] d;simpa using this
 have p:(((w.alloc<|.cells #[(b,o)] c).alloc<|.cells #[lo] d).alloc<|.cells #[hi] e).heap[w.heap.size+2]?=some (.cells #[hi] e (0,0)):=by
  have:=heap_alloc_new ((w.alloc<|.cells #[(b,o)] c).alloc<|.cells #[lo] d)<|.cells #[hi] e;simpa using this
 exact⟨za l rfl,za f rfl,za p rfl,zg f,h.mod a rk<|λ_ _ x=>x,a,⟨I,I,I⟩,⟨I,I⟩⟩
def Fr.raise{S L:Nat}{fl a:Nat}(h:Fr w W b o S L H v rs fl a lo hi)(hb:b<w.heap.size)(d:∀g,v.ownBlock=some g->g<w.heap.size)(c:Nat):Fr w (W.setCell L (.int .u64 c)) b o S L H v rs fl a c hi:=by
 have a:DO (λk=>k=L) W (W.setCell L<|.int .u64 c):=(DO.refl (λk=>k=L) W).setCell (p:=L) rj _;obtain⟨e,c,f⟩:=h.ns;exact⟨a.cell h.ne.1 h.cs,by rw[World.cell?_setCell_same _ _ _ h.cl],a.cell h.ne.2 h.ch,by rw[World.frozen?_setCell];exact h.fz,h.set.mod a (by show ¬b=L;omega) (λg a=>by show ¬g=L;have:=d g a;omega),
  h.mod.setCell (.inr c) _,h.ns,h.ne⟩
def Fr.qk{fl a R:Nat}(h:Fr w W b o w.heap.size (w.heap.size+1) (w.heap.size+1+1) v rs fl a lo hi)(c:w.heap.size+1+1<R)(hb:b<R)(d:∀g,v.ownBlock=some g->g<R)(x y:rt):Fr w ((W.setCell R x).setCell (R,1) y).drew b o w.heap.size (w.heap.size+1) (w.heap.size+1+1) v rs fl a lo hi:=by
 have a:=(((DO.refl (λk=>k=R) W).setCell (p:=R) rj x).setCell (p:=U R 1) rj y).drew;have e:¬w.heap.size=R:=I;have c:¬w.heap.size+1=R:=I;have f:¬w.heap.size+1+1=R:=I;have l:¬b=R:=I;exact⟨a.cell e h.cs,a.cell c h.cl,a.cell f h.ch,by rw[World.frozen?_of_block (w:=W) (a.block (w.heap.size+1) (zm h.cl) c)];exact h.fz,h.set.mod a l (λg a=>by show ¬g=R;have:=d g a;omega),
  ((h.mod.setCell (p:=R) (.inr<|by show _<=R;omega) x).setCell (p:=U R 1) (.inr<|by show _<=R;omega) y).drew,h.ns,h.ne⟩
def Nc{R:Nat}{e c:rt}(h:W.heap[R]?=some (.cells #[e,c] t (0,0)))(x y:Int)(a d:Nat)(f:x=(a:Int))(l:y=(d:Int)):(((W.setCell R (.int .u64 x)).setCell (R,1) (.int .u64 y)).drew).heap[R]?=some (.cells #[a,d] t (0,0)):=by
 subst f l;have f:(W.setCell R<|.int .u64 a).heap[R]?=some (.cells #[a,c] t (0,0)):=by
  rw[setCell_eq_setRow W R 0 #[e,c] t (0,0) _ h];exact setRow_heap W R _ _ _ _ h
 show((W.setCell R<|.int .u64 a).setCell (U R 1)<|.int .u64 d).heap[R]?=_;rw[setCell_eq_setRow _ R 1 #[.int .u64 a,c] t (0,0) _ f];exact setRow_heap _ R _ _ _ _ f
def Xu(rs:zE)(fl c b o lo hi:Nat)(v:rt)(w:rq)(h:Eh w b o v rs fl c)
  (p:∀g,v.ownBlock=some g->g<w.heap.size) (d:hi<max lo fl) :
  rT 88 #[(b,o),lo,hi] w λe w'=>e=.returned (.tuple #[])/\DO DQ w w':=by
 have e:=zm h.cf;have a:=Fr.start w b o v rs fl c lo hi 114 43 43 h;obtain⟨l,c⟩:=nm<|(((w.alloc<|.cells #[(b,o)] 114).alloc<|.cells #[lo] 43).alloc<|.cells #[hi] 43);rw[c]at a;have f:=zb c;clear c;obtain⟨m,o⟩:=nm<|max lo fl;have c:=(a.raise e p m).drewN 1;have e:AA ((if lo<fl then(fl:Int)else lo)=(m:Int)):=by
  show _=_;split<;>omega
 rw[o]at d;obtain⟨W1,d⟩:=nm<|(l.setCell (U (w.heap.size+1) 0)<|.int .u64 m).drew;have h:=zb d;rw[show(l.setCell (U (w.heap.size+1) 0)<|.int .u64 m).drewN 1=W1 from d]at c;clear d o;have c1:=a.cs;have c2:=a.cl;have c3:=a.set.cf;have c4:=a.fz;go_enter func88,ntmps88;go_wp2_with fail;rw[f.z]
 go_region
 rw[e.z,h.z];clear c1 c2 c3 c4;have c2:=c.cl;have c3:=c.ch;have a:(hi:Int)<m:=I;go_wp2_with fail;refine bodyPost_ret (results_none rfl _ _ _) rfl ?_;exact⟨rfl,c.mod⟩
def EG(rs:zE)(m hi m1 a:Nat):Nat×Nat:=if m1<a then(min m (DU rs m1),max hi (DP rs (a-1)))else(m,hi)
def EB(rs:zE)(m hi m1 a:Nat):zE:=rs.take m1++EG rs m hi m1 a::rs.drop a
def Xt(rs:zE)(fl c b o lo hi:Nat)(v:rt)(w:rq)(e:Ending)(w':rq):Prop :=
 ∃d f l a h,E3 rs.length (Dv rs<|max lo fl) d/\E3 rs.length (D8 rs hi) f /\
  (a,h)=(if c<(EB rs (max lo fl) hi d f).length then((EB rs (max lo fl) hi d f).drop 1,DP (EB rs (max lo fl) hi d f) 0+1)else(EB rs (max lo fl) hi d f,fl)) /\
  e=.returned (.tuple #[])/\w'.ownsRow 0 214 2 l a.length (zr a)/\w'.heap[b]?=((w.setCell (b,o) l).setCell (b,o+1)<|.int .u64 h).heap[b]? /\
  DO (λk=>k=b\/v.ownBlock=some k) w w'/\D4 w v l
def Ll(rs:zE)(fl s b o lo hi:Nat)(v:rt)(w:rq)(h:Eh w b o v rs fl s)(aB:WF rs)(aY:lo<18446744073709551616)(aZ:hi<18446744073709551616)(a0:fl<18446744073709551616)
  (hv:∀g,v.ownBlock=some g->g<w.heap.size) (aj:v.ownBlock≠some b) (aC:max lo fl<=hi)
  (aa:1<=s) (aU:s<=9223372036854775807) (ak:∀q l,E3 rs.length (Dv rs<|max lo fl) q->E3 rs.length (D8 rs hi) l->WF (EB rs (max lo fl) hi q l)) :
  rT 88 #[(b,o),lo,hi] w λe w'=>Xt rs fl s b o lo hi v w e w':=by
 have aD:=zm h.cf;have aE:=h.len;have t:=Fr.start w b o v rs fl s lo hi 114 43 43 h;obtain⟨W0,aw⟩:=nm<|(((w.alloc<|.cells #[(b,o)] 114).alloc<|.cells #[lo] 43).alloc<|.cells #[hi] 43);rw[aw]at t;have aF:=zb aw;clear aw;obtain⟨m,hm⟩:=nm<|max lo fl;have aV:m<18446744073709551616:=I;have f:=(t.raise aD hv m).drewN 1;have aG:AA ((if lo<fl then(fl:Int)else lo)=(m:Int)):=by
  show _=_;split<;>omega
 have HM:=zb hm;rw[hm]at aC ak;obtain⟨W1,ax⟩:=nm<|(W0.setCell (U (w.heap.size+1) 0)<|.int .u64 m).drew;have aH:=zb ax;rw[show(W0.setCell (U (w.heap.size+1) 0)<|.int .u64 m).drewN 1=W1 from ax]at f;clear ax hm;have c1:=t.cs;have c2:=t.cl;have c3:=t.set.cf;have c4:=t.fz;have aI:∀k0,rT 152 #[[rs.length],.func (.func 154) #[] #[.pointer w,.pointer (w.heap.size+1,0)]] (W1.drewN k0) λe w'=>∃q,E3 rs.length (Dv rs m) q/\e=.returned (.int .i64 q)/\∃k,w'=W1.drewN k:=λk0 =>
  (QA rs.length 154 #[.pointer w,.pointer (U (w.heap.size+1) 0)] (Dv rs m) (W1.drewN k0) I im (λi k ay =>
   (cM rs i b o w.heap.size (w.heap.size+1) m v ((W1.drewN k0).drewN k) f.cs f.cl aV f.set.cl f.set.own ay).mono λe w' ⟨he,k',hw⟩=>⟨he,k+k',by rw[hw,World.drewN_drewN]⟩)).mono
   λe w' ⟨q,h1,he,k',hw⟩=>⟨q,h1,he,k0+k',by rw[hw,World.drewN_drewN]⟩
 have aJ:∀k0,rT 152 #[[rs.length],.func (.func 155) #[] #[.pointer w,.pointer (w.heap.size+1+1,0)]] (W1.drewN k0) λe w'=>∃l,E3 rs.length (D8 rs hi) l/\e=.returned (.int .i64 l)/\Fr w w' b o w.heap.size (w.heap.size+1) (w.heap.size+1+1) v rs fl s m hi:=λk0 =>
  (QA rs.length 155 #[.pointer w,.pointer (U (w.heap.size+1+1) 0)] (D8 rs hi) (W1.drewN k0) I il (λi k ay =>
   (cL rs i b o w.heap.size (w.heap.size+1+1) hi v ((W1.drewN k0).drewN k) f.cs f.ch (λi hi=>pp<|aB.1 i hi) f.set.cl f.set.own ay).mono λe w' ⟨he,k',hw⟩=>⟨he,k+k',by rw[hw,World.drewN_drewN]⟩)).mono
   λe w' ⟨q,h1,he,k',hw⟩=>⟨q,h1,he,by rw[hw];exact(f.drewN k0).drewN k'⟩
 obtain⟨a,N,u,n1,n2,n3⟩:=zk h.own;have aK:=zb aI;have aL:=zb aJ;clear aI aJ;go_enter func88,ntmps88;go_wp2_with fail;rw[aF.z]
 go_region
 rw[aG.z,aH.z];clear c1 c2 c3 c4;have c1:=f.cs;have c2:=f.cl;have c3:=f.ch;have c5:=f.set.cl;rw[u]at c5;have h:¬(hi:Int)<m:=I;have aM:=trivial;go_upto_if 37 with(first|(go_at_call 152;have _t:=aM;refine(aK.z 0).mono ?_;rintro e w' ⟨q,an,rfl,k1,rfl⟩;clear aM)|(go_at_call 152;refine(aL.z _).mono ?_;rintro e W2 ⟨l,ah,rfl,ab⟩;have d1:=ab.cs;have d2:=ab.cl;have d3:=ab.ch;have d5:=ab.set.cl;rw[u]at d5;clear c1 c2 c3 c5));obtain⟨R,hR⟩:=nm W2.heap.size;obtain⟨W3,h⟩:=nm<|W2.alloc<|.cells #[m,hi] 214;have A:=h ▸ ab.alloc _;have O:W3.heap[R]?=some (.cells #[m,hi] 214 (0,0)):=by rw[<-h,<-hR];exact heap_alloc_new W2 _
 have aW:w.heap.size+1+1<R:=by rw[<-hR];exact zm ab.ch
 have aX:b<R:=I;have a1:w.heap.size<R:=I;rw[hR,h];clear hR h d1 d2 d3 d5 ab f t aK aL aF aH aG
 go_cut [6,7] (λf t wx=>f=.int .i64 q/\t=.int .i64 l/\Fr w wx b o w.heap.size (w.heap.size+1) (w.heap.size+1+1) v rs fl s m hi /\
  wx.heap[R]?=some (.cells #[.int .u64 ((EG rs m hi q l).1:Int),.int .u64 ((EG rs m hi q l).2:Int)] 214 (0,0)))
 case first =>
  have d1:=A.cs;have d2:=A.cl;have d3:=A.ch;have d5:=A.set.cl;rw[u]at d5;have e1:=za (o:=0) O rfl;have e2:=za (o:=1) O rfl;have e3:=zg (o:=0) O;have e4:=zg (o:=1) O;by_cases aN:q<l
  .have ap:=ah.1;obtain⟨g,rfl⟩:=n3 I;have f:g<R:=by
    have:=hv g (by rw[u];rfl);omega
   have r1:=(Il (u ▸ A.set.own) q I).1;have r2:=(Il (u ▸ A.set.own) (l-1) I).2;have f:(q:Int)<l:=I;have f:(q:Int)<rs.length:=I;have f:(l:Int)-1<rs.length:=I;have f:0<=(l:Int)-1:=I;have f:IntKind.i64.wrap ((l:Int)-1)=(l:Int)-1:=IntWalk.i64_in _ I;have f:((l:Int)-1).toNat=l-1:=I;have f:(1:Int)<=l:=I;have q1:¬w.heap.size=R:=I;have q2:¬w.heap.size+1=R:=I;have q3:¬w.heap.size+1+1=R:=I;have q4:¬b=R:=I;have q5:¬g=R:=I;have Hr:AA (EG rs m hi q l=(min m<|DU rs q,max hi<|DP rs<|l-1)):=by
    show _=_;rw[EG,AM aN]
   have aO:AA ((if DU rs q<m then(DU rs q:Int)else(m:Int))=((min m (DU rs q):Nat):Int)):=by
    show _=_;split<;>omega
   have aP:AA ((if hi<DP rs (l-1)then(DP rs (l-1):Int)else(hi:Int))=((max hi (DP rs<|l-1):Nat):Int)):=by
    show _=_;split<;>omega
   go_wp2_with fail
   go_region_held3 (λw'=>w' w=some (.pointer (b,o))/\w' (U (w.heap.size+1) 0)=some (.int .u64 m)/\w' (U (w.heap.size+1+1) 0)=some (.int .u64 hi)/\w' (b,o)=some (.slice g rs.length N)/\w' (g,q*2)=some (.int .u64 (DU rs q:Int))/\w' (g,(l-1)*2+1)=some (.int .u64 (DP rs (l-1):Int))) (first|exact⟨d1,d2,d3,d5,r1,r2⟩|exact⟨MC d1 q1,MC d2 q2,MC d3 q3,MC d5 q4,MC r1 q5,MC r2 q5⟩|exact⟨MB d1 q1,MB d2 q2,MB d3 q3,MB d5 q4,MB r1 q5,MB r2 q5⟩) ((fail))
   all_goals
    rw[aO.z,aP.z];generalize hmn:min m (DU rs q)=mn at *;generalize hmx:max hi (DP rs<|l-1)=mx at *;have z:=A.qk aW aX (by rw[u];intro k hk;simp[Value.ownBlock]at hk;omega) (.int .u64 mn)<|.int .u64 mx;have ac:(((W3.setCell R<|.int .u64 mn).setCell (R,1)<|.int .u64 mx).drew).heap[R]?=some (.cells #[.int .u64 ((EG rs m hi q l).1:Int),.int .u64 ((EG rs m hi q l).2:Int)] 214 (0,0)):=by
     rw[Hr.z];exact Nc O mn mx mn mx rfl rfl
    clear d1 d2 d3 d5 e1 e2 e3 e4 r1 r2 O A hmn hmx aO aP;generalize ((W3.setCell R<|.int .u64 mn).setCell (U R 1)<|.int .u64 mx).drew=W4 at *;go_wp2_with fail;go_meet;exact⟨rfl,rfl,z,ac⟩
  have Hr:AA (EG rs m hi q l=(m,hi)):=by
   show _=_;rw[EG,AH aN]
  go_wp2_with fail;go_meet;exact⟨rfl,rfl,A,by rw[Hr.z];exact O⟩
 case rest =>
  obtain⟨rfl,rfl,z,ac⟩:=hcut;clear O A n3;have ap:=ah.1;have t:=Jm aB aC an ah;obtain⟨rl,f⟩:=nm<|(EG rs m hi q l).1;obtain⟨rh,h⟩:=nm<|(EG rs m hi q l).2;rw[f,h]at ac;have Hr:AA (EG rs m hi q l=(rl,rh)):=by
   show _=_;rw[<-f,<-h]
  clear f h;have d1:=z.cs;have d5:=z.set.cl;rw[u]at d5;have e1:=za (o:=0) ac rfl;have e2:=za (o:=1) ac rfl;have f:=zm z.cs;have l2:b<wc.heap.size:=I;have f:=(AI.1 ac).1;have q1:¬w.heap.size=wc.heap.size:=I;have q2:¬b=wc.heap.size:=I;have q3:¬R=wc.heap.size:=I;have q4:¬w.heap.size=b:=I;have q5:¬R=b:=I;have ae:=z.set.own;rw[u]at ae;have aQ:(Value.slice a rs.length N).ownBlock≠some wc.heap.size:=by
   intro hx;have:=ae.lt _ hx;omega
  have p1:some w.heap.size≠(Value.slice a rs.length N).ownBlock:=by
   intro hx;have:=hv _<|u ▸ hx.symm;omega
  have p2:some b≠(Value.slice a rs.length N).ownBlock:=λhx=>aj<|u ▸ hx.symm
  have p3:some R≠(Value.slice a rs.length N).ownBlock:=by
   intro hx;have:=hv _<|u ▸ hx.symm;omega
  have T:DO DQ wc (wc.alloc<|.cells #[rl,rh] 214).drew:=((DO.refl DQ wc).alloc _).drew;have ai:=And.intro (T.cell rk d1)<|And.intro (T.cell rk d5)<|And.intro (T.cell rk e1)<|T.cell rk e2;have aq:∀w4,World.grownBy (wc.alloc<|.cells #[rl,rh] 214).drew w4 (Value.slice a rs.length N).ownBlock->w4.frozen? ⟨b,o,none⟩=false:=by
   intro w4 B;rw[World.frozen?_of_block (w:=(wc.alloc<|.cells #[rl,rh] 214).drew) (B.block b (A7 l2 T.size) p2)];exact(z.set.mod T rk<|λ_ _ x=>x).fz o
  go_upto_region 8 with fail;refine zn 12 (λw'=>w' w=some (.pointer (b,o))/\w' (b,o)=some (.slice a rs.length N)/\w' R=some (.int .u64 rl)/\w' (U R 1)=some (.int .u64 rh)) ⟨d1,d5,e1,e2⟩ ?_;refine GI 0 ?_;iterate 8
   refine GV rfl ?_;try simp only[PS]
  refine zz 8 rfl (λK X=>?_);go_simp;refine X.z _ _ ai ?_;clear X K;try simp only[PS]
  refine zz 9 rfl (λK X=>?_);go_simp;refine(io (.slice a rs.length N) rs q l (rl,rh) wc.heap.size _ t ap aE ?_ ?_ aQ).mono ?_
  .exact(((DO.refl DQ wc).alloc _).drew).owns ae (λ_ _ x=>x)
  .exact heap_alloc_new wc _
  rintro e w4 ⟨v',rfl,ho,B,ao⟩;have f1:=B.cell ai.1 p1;have f2:=B.cell ai.2.1 p2;have f3:=B.cell ai.2.2.1 p3;have f4:=B.cell ai.2.2.2 p3;have f5:=aq _ B;refine X.z _ _ ⟨f1,f2,f3,f4⟩ ?_;clear X K;try simp only[PS]
  refine GI 10 ?_;iterate 2
   refine GV rfl ?_;try simp only[PS]
  obtain⟨c,a⟩:=nm<|rs.take q++(rl,rh)::rs.drop l;rw[a]at ho;have az:AA (EB rs m hi q l=c):=by
   show _=_;rw[EB,Hr.z,a]
  have aR:WF c:=by rw[<-az.z];exact ak q l an ah
  have f:c.length<=rs.length+1:=by
   rw[<-a];simp;omega
  clear a;have af:(v':rt).ownBlock≠some b:=by
   intro hx;rcases ao b hx with h1|h1
   .exact p2 h1.symm
   simp at h1;omega
  obtain⟨a',d,rfl,k1,a,k3⟩:=zk ho;have a:DO (λk=>v.ownBlock=some k) wc w4:=(T.mono rm).grown B (λk hk=>.inl (by rw[u,hk]));have al:D4 w v (.slice a' c.length d):=λk hk=>by
   rcases ao k hk with h1|h1
   .exact .inl (by rw[u];exact h1)
   refine .inr ?_;have:=z.mod.size;simp at h1;omega
  have aS:∀k,(Value.slice a' c.length d).ownBlock=some k->v.ownBlock=some k\/wc.heap.size<=k:=λk hk=>by
   rcases ao k hk with h1|h1
   .exact .inl (by rw[u];exact h1)
   exact .inr<|by simp at h1;omega
  obtain⟨W5,f⟩:=nm<|w4.setCell (b,o)<|.slice a' c.length d;have g1:W5 w=some (.pointer (b,o)):=by rw[<-f];exact Pa f1 q4
  have g2:W5 (b,o)=some (.slice a' c.length d):=by rw[<-f,World.cell?_setCell_same _ _ _ f2]
  have g3:W5 (b,o+1)=some (.int .u64 fl):=by
   rw[<-f,World.cell?_setCell_other _ _ _ _ lm];exact a.cell aj z.set.cf
  have g4:W5 (b,o+2)=some (.int .i64 s):=by
   rw[<-f,World.cell?_setCell_other _ _ _ _ lm];exact a.cell aj z.set.cm
  have g5:∀j,W5.frozen? ⟨b,j,none⟩=false:=by
   intro j;rw[<-f,World.frozen?_setCell,World.frozen?_of_block (w:=wc) (a.block b l2 aj)];exact z.set.fz j
  have ag:W5.ownsRow 0 214 2 (.slice a' c.length d) c.length (zr c):=by
   rw[<-f];exact((DO.refl (λk=>k=b) w4).setCell (p:=(b,o)) rj _).owns ho (λg h x=>af<|h.trans<|A8 some x)
  have am:DO (λk=>k=b\/v.ownBlock=some k) w W5:=by
   rw[<-f];exact((z.mod.mono rm).then (S':=λk=>v.ownBlock=some k) a<|λi hi=>.inl<|.inr hi).setCell (p:=(b,o)) (.inl rj) _
  have ad:W5.heap[b]?=(w.setCell (b,o)<|.slice a' c.length d).heap[b]?:=by
   rw[<-f];exact NX ((a.block b l2 aj).trans<|z.mod.block b aD rk) _ _
  refine zY rfl (λK X=>?_);go_simp;refine X.z _ _ ?_;clear X K;try simp only[PS]
  refine zq ?_;try rw[f]
  clear f a f1 f2 f3 f4 f5 aq ai T d1 d5 e1 e2 ac z B ao ae aQ p1 p2 p3;have a:(c.length:Int)<=1099511627777:=I;by_cases aa:s<c.length
  .have hd:(s:Int)<c.length:=I;have k0:2<=c.length:=I;obtain⟨g,rfl⟩:=k3 I;have r1:W5 (g,1)=some (.int .u64 (DP c 0:Int)):=by simpa using(Il ag 0 I).2
   have a:DP c 0+1<18446744073709551616:=by
    have h1:=aR.2 0 1 I I;have h2:=aR.1 1 I;omega
   have a:(0:Int)<c.length:=I;have a:0<c.length:=I;have a:=wu ((DP c 0:Int)+1) I;go_wp2_with fail;go_quiet (fail);go_wp2_with fail;refine zn 11 (λw'=>w' w=some (.pointer (b,o))/\w' (b,o)=some (.slice g c.length d)/\w' (U g 1)=some (.int .u64 (DP c 0:Int))) ⟨g1,g2,r1⟩ ?_;refine GI 0 ?_;iterate 11
    refine GV rfl ?_;try simp only[PS]
   have t:=g5<|o+1;refine zY rfl (λK X=>?_);go_simp;refine X.z _ _ ?_;clear X K;try simp only[PS]
   refine zq ?_;obtain⟨W6,a⟩:=nm<|(W5.drewN<|nq+1).setCell (b,o+1)<|.int .u64<|(DP c 0:Int)+1;have f:DO (λk=>k=b) W5 W6:=by
    rw[<-a];exact((DO.refl (λk=>k=b) W5).drewN<|nq+1).setCell (p:=(b,o+1)) rj _
   have s1:=f.cell q4 g1;have s2:W6 (b,o)=some (.slice g c.length d):=by
    rw[<-a,World.cell?_setCell_other _ _ _ _ lm];exact g2
   have s3:W6.frozen? ⟨b,o,none⟩=false:=by
    rw[<-a,World.frozen?_setCell];exact g5 o
   have h:=f.owns ag<|λk hk x=>af<|hk.trans<|A8 some x;have ar:=am.then f<|λi hi=>.inl<|.inl hi;have aA:W6.heap[b]?=((w.setCell (b,o)<|.slice g c.length d).setCell (b,o+1)<|.int .u64<|(DP c 0:Int)+1).heap[b]?:=by
    rw[<-a];exact NX (w':=W5.drewN<|nq+1) ad _ _
   rw[a];clear a g1 g2 g3 g4 t r1 ad am ag;go_wp2_with fail;refine zn 8 (λw'=>w' w=some (.pointer (b,o))/\w' (b,o)=some (.slice g c.length d)) ⟨s1,s2⟩ ?_;refine GI 0 ?_;iterate 5
    refine GV rfl ?_;try simp only[PS]
   refine zz 5 rfl (λK X=>?_);go_simp;refine(gy (.slice g c.length d) c _ k0 ?_).mono ?_
   .exact((DO.refl DQ W6).drew).owns h (λ_ _ x=>x)
   rintro e w7 ⟨a,rfl,aT,Y,au⟩;have p2:some b≠(Value.slice g c.length d).ownBlock:=λhx=>af hx.symm
   have p1:some w.heap.size≠(Value.slice g c.length d).ownBlock:=by
    intro hx;rcases aS _ hx.symm with h1|h1
    .have:=hv _ h1;omega
    omega
   have f1:=Y.cell (w:=W6.drew) s1 p1;have f2:=Y.cell (w:=W6.drew) s2 p2;have av:=zm s2;have f5:w7.frozen? ⟨b,o,none⟩=false:=by
    rw[World.frozen?_of_block (w:=W6.drew) (Y.block b av p2)];exact s3
   refine X.z _ _ ⟨f1,f2⟩ ?_;clear X K;try simp only[PS]
   refine GI 6 ?_;iterate 2
    refine GV rfl ?_;try simp only[PS]
   obtain⟨a7,Z,rfl,a,e,f⟩:=zk aT;refine zY rfl (λK X=>?_);go_simp;refine X.z _ _ ?_;clear X K;try simp only[PS]
   refine zq ?_;have a:(Value.slice a7 (c.drop 1).length Z).ownBlock≠some b:=by
    intro hx;rcases au b hx with h1|h1
    .exact af h1
    have h2:W6.heap.size<=b:=h1;omega
   have e:=ar.drew.grown Y<|λk hk=>(al k hk).imp .inr id;go_wp2_with fail;refine bodyPost_ret (results_none rfl _ _ _) rfl ?_;refine⟨q,l,.slice a7 (c.drop 1).length Z,c.drop 1,DP c 0+1,by rw[HM.z];exact an,ah,?_,rfl,?_,?_,?_,?_⟩
   .rw[HM.z,az.z,AM aa]
   .have:=((DO.refl (λk=>k=b) w7).setCell (p:=(b,o)) rj<|.slice a7 (c.drop 1).length Z).owns aT<|λk hk x=>a<|hk.trans<|A8 some x;simpa using this
   .have h1:w7.heap[b]?=W6.heap[b]?:=Y.block b av p2;have:=(NX (h1.trans aA) o<|.slice a7 (c.drop 1).length Z).trans<|kC _ _ _ _ _ _;simpa using this
   .have:=e.setCell (p:=(b,o)) (.inl rj)<|.slice a7 (c.drop 1).length Z;simpa using this
   intro k hk;rcases au k hk with h1|h1
   .exact al k h1
   have h2:W6.heap.size<=k:=h1;exact .inr<|AK ar.size h2
  have hd:¬(s:Int)<c.length:=I;go_wp2_with fail;go_quiet (fail);go_wp2_with fail;refine bodyPost_ret (results_none rfl _ _ _) rfl ?_;refine⟨q,l,.slice a' c.length d,c,fl,by rw[HM.z];exact an,ah,?_,rfl,ag,?_,am.drewN _,al⟩
  .rw[HM.z,az.z,AH aa]
  exact(NY g3).symm.trans (NX ad _ _)
structure Df where
 rs:zE
 fl:Nat
 most:Nat
structure WS where
 b:rC
 lJ:Df
 lC:Df
 high:Nat
 finished:Bool
 ending:Bool
 cut:Bool
 lG:Nat
 final:Nat
 lN:Bool
 lA:Nat
structure RS where
 b:rC
 lC:Df
 high:Nat
 fin:Nat
 ended:Bool
 cut:Bool
 lG:Nat
 read:Nat
 state:Nat
 kz:Nat
 lU:Bool
structure DW where
 n:Nat
 at_:Nat
 fs:List DV
structure CS where
 lZ:Nat
 lD:Nat
 total:Nat
 now:Nat
 closed:Nat
 said:Bool
 next:Nat
 lQ:Df
 answer:Bool
 ws:Nat->WS
 rs:Nat->RS
 lA:Nat
 kz:Nat
 lU:Bool
 kx:List DW
 lI:Nat
 waits:List DV
 l8:Nat
 mI:Bool
 seen:List (Nat×Nat)
 most:Nat
 lC:List (Nat×rC)
instance:CoeFun CS (λ_=>Nat->WS):=⟨CS.ws⟩
structure CV where
 g:Nat
 gv:rt
 wb:Nat->rt
 ws:Nat->rt
 wc:Nat->rt
 rb:Nat->rt
 rc:Nat->rt
 ft:rt
 mr:List rt
 wt:rt
 sn:Nat
 cm:rt
instance:CoeFun CV (λ_=>Nat->rt):=⟨CV.ws⟩
def ze{α : Type}(f:Nat -> α)(k:Nat)(x : α):Nat -> α := λj=>if j=k then x else f j
def zf{α : Type}(f:Nat -> α)(k:Nat)(x : α):ze f k x k=x:=by simp[ze]
variable{j k:Nat}
def zd{α : Type}(f:Nat -> α)(x : α)(h:j≠k):ze f k x j=f j:=by simp[ze,h]
def Fd{α : Type}(f:Nat -> α)(k:Nat):ze f k (f k)=f:=by
 funext j;by_cases h:j=k
 .rw[h,zf]
 rw[zd _ _ h]
def Ft(x:WS)(a c d:rt):List rt :=
 [a,c,.int .u64 x.lJ.fl,.int .i64 x.lJ.most,d,.int .u64 x.lC.fl,.int .i64 x.lC.most,.int .u64 x.high,.bool x.finished,.bool x.ending,.bool x.cut,.int .u64 x.lG,.int .u64 x.final,.bool x.lN,.int .u64 x.lA]
def Gi(x:RS)(a c:rt):List rt :=
 [a,c,.int .u64 x.lC.fl,.int .i64 x.lC.most,.int .u64 x.high,.int .u64 x.fin,.bool x.ended,.bool x.cut,.int .u64 x.lG,.int .u64 x.read,.int .i64 x.state,.int .u64 x.kz,.bool x.lU]
def Fu(c:CS)(V:CV):List rt :=
 [.int .i64 c.lZ,.int .i64 c.lD,.int .i64 c.total,.int .u64 c.now,.int .i64 c.closed,.bool c.said,.int .u64 c.next,.pointer V.g,.bool c.answer]
def II(c:CS)(V:CV):List rt :=
 [.int .u64 c.lA,.int .u64 c.kz,.bool c.lU,V.ft,.int .u64 c.lI,V.wt,.int .u64 c.l8,.bool c.mI,.map<|some V.sn,.int .u64 c.most,V.cm]
def IG(ws:Nat->WS)(b s c:Nat->rt):List rt:=(List.range 8).flatMap λk=>Ft (ws k) (b k) (s k) (c k)
def IX(rs:Nat->RS)(b c:Nat->rt):List rt:=(List.range 8).flatMap λk=>Gi (rs k) (b k) (c k)
def zx(c:CS)(V:CV):List rt:=Fu c V++(IG c.ws V.wb V.ws V.wc++(IX c.rs V.rb V.rc++II c V))
section
variable {α : Type}
theorem PZ(f:Nat->List α)(n:Nat)(a:∀k,(f k).length=n)(m:Nat):((List.range m).flatMap f).length=n*m:=by
 induction m with
 | zero=>simp
 | succ m ih=>rw[Bp,CM,AG,ih];simp[a,Nat.mul_succ]
theorem Tw(f:Nat->List α)(n:Nat)(c:∀k,(f k).length=n)(m:Nat)(d:k<m)(e:j<n):((List.range m).flatMap f)[n*k+j]?=(f k)[j]?:=by
 induction m with
 | zero=>omega
 | succ m ih =>
  rw[Bp,CM];have a:=PZ f n c m;by_cases h:k<m
  .have:n*k+j<n*m:=by
    have:n*(k+1)<=n*m:=Cx n h;rw[Nat.mul_succ]at this;omega
   rw[Al I];exact ih h
  have:k=m:=I;subst this;rw[Aa I,a,Cg];simp
theorem Tv(f g:Nat->List α)(n:Nat)(d:∀k,(f k).length=n)(m:Nat)(v : α)(h:k<m)(l:j<n)(c:∀i,i<m->g i=if i=k then(f k).set j v else f i):((List.range m).flatMap f).set (n*k+j) v=(List.range m).flatMap g:=by
 induction m with
 | zero=>omega
 | succ m ih =>
  rw[Bp,CM,CM];have a:=PZ f n d m;by_cases h:k<m
  .have:n*k+j<n*m:=by
    have:n*(k+1)<=n*m:=Cx n h;rw[Nat.mul_succ]at this;omega
   rw[CW _ _ I,ih h (λi d=>c i I)];have:=c m I;rw[AH I]at this;simp[this]
  have:k=m:=I;subst this;rw[Bi _ _ I,a,Cg];have e:(List.range k).flatMap f=(List.range k).flatMap g:=by
   have:∀q,q<=k->(List.range q).flatMap f=(List.range q).flatMap g:=by
    intro q a
    induction q with
    | zero=>rfl
    | succ q ih2 =>
     rw[Bp,CM,CM,ih2 I];have:=c q I;rw[AH I]at this;simp[this]
   exact this k<|AF k
  have:=c k I;rw[AM rfl]at this;rw[e];simp[this]
end
def IL(ws:Nat->WS)(b s c:Nat->rt):(IG ws b s c).length=120:=PZ _ 15 (λ_=>rfl) 8
def Kv(rs:Nat->RS)(b c:Nat->rt):(IX rs b c).length=104:=PZ _ 13 (λ_=>rfl) 8
def Wu(c:CS)(V:CV)(h:(Fu c V)[j]?=some v):(zx c V)[j]?=some v:=by
 unfold zx;rw[Al (AO.1 h).1];exact h
def MJ(c:CS)(V:CV)(a:k<8)(h:(Ft (c k) (V.wb k) (V k) (V.wc k))[j]?=some v):(zx c V)[9+15*k+j]?=some v:=by
 have d:j<15:=(AO.1 h).1;unfold zx;have e:(Fu c V).length=9:=rfl;rw[Aa I,e,(I:9+15*k+j-9=15*k+j),Al (by rw[IL];omega)];unfold IG;rw[Tw _ 15 (λ_=>rfl) 8 a d];exact h
def Lf(c:CS)(V:CV)(a:k<8)(h:(Gi (c.rs k) (V.rb k) (V.rc k))[j]?=some v):(zx c V)[129+13*k+j]?=some v:=by
 have d:j<13:=(AO.1 h).1;unfold zx;have e:(Fu c V).length=9:=rfl;rw[Aa I,e,Aa<|by rw[IL];omega,IL,(I:129+13*k+j-9-120=13*k+j),Al (by rw[Kv];omega)];unfold IX;rw[Tw _ 13 (λ_=>rfl) 8 a d];exact h
def Le(c:CS)(V:CV)(h:(II c V)[j]?=some v):(zx c V)[233+j]?=some v:=by
 unfold zx;have a:(Fu c V).length=9:=rfl;rw[Aa I,a,Aa<|by rw[IL];omega,IL,Aa<|by rw[Kv];omega,Kv,(I:233+j-9-120-104=j)];exact h
def Ku(c c':CS)(V a:CV)(v:rt)(d:j<9)(h:Fu c' a=(Fu c V).set j v)(e:IG c'.ws a.wb a.ws a.wc=IG c.ws V.wb V.ws V.wc)(f:IX c'.rs a.rb a.rc=IX c.rs V.rb V.rc)(l:II c' a=II c V):(zx c V).set j v=zx c' a:=by
 unfold zx;rw[CW _ _ (show j<(Fu c V).length from d),h,e,f,l]
def Hl(c c':CS)(V a:CV)(v:rt)(d:k<8)(e:j<15)(f:∀i,i<8->Ft (c' i) (a.wb i) (a i) (a.wc i)=if i=k then(Ft (c k) (V.wb k) (V k) (V.wc k)).set j v else Ft (c i) (V.wb i) (V i) (V.wc i))
  (h:Fu c' a=Fu c V) (l:IX c'.rs a.rb a.rc=IX c.rs V.rb V.rc) (o:II c' a=II c V):(zx c V).set (9+15*k+j) v=zx c' a:=by
 unfold zx;have a:(Fu c V).length=9:=rfl;rw[Bi _ _ I,a,(I:9+15*k+j-9=15*k+j),CW _ _ (by rw[IL];omega)];unfold IG;rw[Tv _ _ 15 (λ_=>rfl) 8 v d e f,h,l,o]
def Kx(c c':CS)(V a:CV)(v:rt)(d:k<8)(e:j<13)(f:∀i,i<8->Gi (c'.rs i) (a.rb i) (a.rc i)=if i=k then(Gi (c.rs k) (V.rb k) (V.rc k)).set j v else Gi (c.rs i) (V.rb i) (V.rc i))
  (h:Fu c' a=Fu c V) (l:IG c'.ws a.wb a.ws a.wc=IG c.ws V.wb V.ws V.wc) (o:II c' a=II c V):(zx c V).set (129+13*k+j) v=zx c' a:=by
 unfold zx;have a:(Fu c V).length=9:=rfl;rw[Bi _ _ I,a,Bi _ _<|by rw[IL];omega,IL,(I:129+13*k+j-9-120=13*k+j),CW _ _ (by rw[Kv];omega)];unfold IX;rw[Tv _ _ 13 (λ_=>rfl) 8 v d e f,h,l,o]
def GA(c c':CS)(V a:CV)(v:rt)(h:Fu c' a=Fu c V)(d:IG c'.ws a.wb a.ws a.wc=IG c.ws V.wb V.ws V.wc)(e:IX c'.rs a.rb a.rc=IX c.rs V.rb V.rc)(f:II c' a=(II c V).set j v):(zx c V).set (233+j) v=zx c' a:=by
 unfold zx;have a:(Fu c V).length=9:=rfl;rw[Bi _ _ I,a,Bi _ _<|by rw[IL];omega,IL,Bi _ _<|by rw[Kv];omega,Kv,(I:233+j-9-120-104=j),h,d,e,f]
def EK(w:rq)(e a:Nat)(v:rt)(n:Nat)(xs:rF):Prop :=
 xs.length=n*a/\(v=.slice none 0 0/\n=0\/∃g o c d,v=.slice (some ⟨g,o*a,none⟩) n c/\w.heap[g]?=some (.cells d e (0,0))/\n<=c/\c<=maxLen/\(o+c)*a<=d.size/\(d.toList.drop<|o*a).take (n*a)=xs)
def Value.mu:rt->Option Nat
 | .slice (some a) _ _=>some a.block
 | _=>none
variable{S:Nat->Prop}{w':rq}
def EK.mod{a n:Nat}(h:EK w e a v n xs)(m:DO S w w')(f:∀g,Value.mu v=some g->¬S g):EK w' e a v n xs:=by
 refine⟨h.1,?_⟩;rcases h.2 with h|⟨g,o,c,d,rfl,l,p⟩
 .exact .inl h
 exact .inr ⟨g,o,c,d,rfl,m.obj (f g rfl) l,p⟩
def EK.nil(w:rq)(e a:Nat):EK w e a ru 0 []:=⟨lm,.inl ⟨rfl,rfl⟩⟩
def Gu(tag:rD)(t:Nat×Nat)(w:rq)(v:rt)(a:List DV):Prop :=
 ∃l:List (DV×rt),l.map (·.1)=a/\IF w v l/\(∀g,Value.mu v=some g->tag g=t)/\∀fr∈l,∀g,Value.mu fr.2=some g->tag g=t
def Gr(h:∀g,Value.mu v=some g->¬S g):Dj S v:=λg o n c e=>h g (by rw[e];rfl)
variable{fs:List DV}{tag ky:rD}
def Gu.mod{t:Nat×Nat}(h:Gu tag t w v fs)(m:DO S w w')(e:∀g,S g->tag g≠t)(f:∀g,tag g=t->ky g=t):Gu ky t w' v fs:=by
 obtain⟨l,a,c,o,p⟩:=h;exact⟨l,a,c.mod m (Gr λg a x=>e g x<|o g a)<|λd c=>Gr λg a x=>e g x<|p d c g a,λg a=>f g<|o g a,λd c g a=>f g<|p d c g a⟩
def Fs(w:rq)(b:Nat)(l:List (Nat×Nat)):Prop :=
 ∃D,w.ownsMap (H:=Unit) prog 43 (plainElem prog 43) b l.length D/\Maps.size D=l.length/\∀x:Nat,x<18446744073709551616->Maps.has D (.int .u64 x)=l.any (λp=>p.1==x)
def Fs.mod{l:List (Nat×Nat)}(h:Fs w b l)(m:DO S w w')(c:¬S b):Fs w' b l:=by
 obtain⟨D,⟨d,a,e,f⟩,l⟩:=h;exact⟨D,⟨d,a,m.obj c e,f⟩,l⟩
def zB(l:List (DW×rt)):List rt:=l.flatMap λp=>[.int .u64 p.1.n,.int .u64 p.1.at_,p.2]
def E1(l:List (Nat×rC)):List rt:=l.flatMap λp=>[.int .u64 p.1,.string (zu p.2)]
def zs(l:List DV):List rt:=l.flatMap λf=>(zj f ru).toList
structure zi(tag:rD)(i b:Nat)(c:CS)(V:CV)(W:rq):Prop where
 obj:W.heap[b]?=some (.cells (zx c V).toArray 127 (0,0))
 tb:tag b=(i,1)
 lQ:Eh W V.g 0 V.gv c.lQ.rs c.lQ.fl c.lQ.most
 tg:tag V.g=(i,2)
 oN:∀g,V.gv.ownBlock=some g->tag g=(i,3)
 wb:∀k,k<8->OB W (V.wb k) (c k).b
 ws:∀k,k<8->W.ownsRow 0 214 2 (V k) (c k).lJ.rs.length (zr (c k).lJ.rs)
 wc:∀k,k<8->W.ownsRow 0 214 2 (V.wc k) (c k).lC.rs.length (zr (c k).lC.rs)
 rb:∀k,k<8->OB W (V.rb k) (c.rs k).b
 rc:∀k,k<8->W.ownsRow 0 214 2 (V.rc k) (c.rs k).lC.rs.length (zr (c.rs k).lC.rs)
 oC:∀k,k<8->∀g,(V.wb k).ownBlock=some g->tag g=(i,10+k)
 ng:∀k,k<8->∀g,(V k).ownBlock=some g->tag g=(i,20+k)
 oB:∀k,k<8->∀g,(V.wc k).ownBlock=some g->tag g=(i,30+k)
 oM:∀k,k<8->∀g,(V.rb k).ownBlock=some g->tag g=(i,40+k)
 oK:∀k,k<8->∀g,(V.rc k).ownBlock=some g->tag g=(i,50+k)
 ft:W.ownsRow 0 173 3 V.ft c.kx.length (zB<|c.kx.zip V.mr)
 fl:V.mr.length=c.kx.length
 fs:∀p∈c.kx.zip V.mr,Gu tag (i,5) W p.2 p.1.fs
 nj:∀g,V.ft.ownBlock=some g->tag g=(i,4)
 wt:EK W 65 10 V.wt c.waits.length (zs c.waits)
 ni:∀g,Value.mu V.wt=some g->tag g=(i,6)
 sn:Fs W V.sn c.seen
 oJ:tag V.sn=(i,7)
 cm:W.ownsRow 0 154 2 V.cm c.lC.length (E1 c.lC)
 oE:∀g,V.cm.ownBlock=some g->tag g=(i,8)
variable{V:CV}{W':rq}{c:CS}{i:Nat}
def zi.mod(h:zi tag i b c V W)(m:DO S W W')(d:∀g,S g->(tag g).1≠i)(f:∀g,(tag g).1=i->ky g=tag g):zi ky i b c V W':=by
 have q:∀{g:Nat} {t:Nat×Nat},tag g=t->t.1=i->¬S g:=λa c x=>d _ x<|by rw[a,c]
 have e:∀{g:Nat} {t:Nat×Nat},tag g=t->t.1=i->ky g=t:=λa c=>(f _<|by rw[a,c]).trans a
 exact
  {obj:=m.obj (q h.tb rfl) h.obj
   tb:=e h.tb rfl
   lQ:=h.lQ.mod m (q h.tg rfl)<|λg a=>q (h.oN g a) rfl
   tg:=e h.tg rfl
   oN:=λg a=>e (h.oN g a) rfl
   wb:=λk c=>m.owns (h.wb k c)<|λg a=>q (h.oC k c g a) rfl
   ws:=λk c=>m.owns (h.ws k c)<|λg a=>q (h.ng k c g a) rfl
   wc:=λk c=>m.owns (h.wc k c)<|λg a=>q (h.oB k c g a) rfl
   rb:=λk c=>m.owns (h.rb k c)<|λg a=>q (h.oM k c g a) rfl
   rc:=λk c=>m.owns (h.rc k c)<|λg a=>q (h.oK k c g a) rfl
   oC:=λk c g a=>e (h.oC k c g a) rfl
   ng:=λk c g a=>e (h.ng k c g a) rfl
   oB:=λk c g a=>e (h.oB k c g a) rfl
   oM:=λk c g a=>e (h.oM k c g a) rfl
   oK:=λk c g a=>e (h.oK k c g a) rfl
   ft:=m.owns h.ft<|λg a=>q (h.nj g a) rfl
   fl:=h.fl
   fs:=λp c=>(h.fs p c).mod m (λg a x=>q x rfl a)<|λg a=>e a rfl
   nj:=λg a=>e (h.nj g a) rfl
   wt:=h.wt.mod m<|λg a=>q (h.ni g a) rfl
   ni:=λg a=>e (h.ni g a) rfl
   sn:=h.sn.mod m<|q h.oJ rfl
   oJ:=e h.oJ rfl
   cm:=m.owns h.cm<|λg a=>q (h.oE g a) rfl
   oE:=λg a=>e (h.oE g a) rfl }
def zi.lK(h:zi tag i b c V W)(m:DO DQ W W'):zi tag i b c V W':=h.mod m rm (λ_ _=>rfl)
def Dm(tag:rD)(W:rq):Prop:=∀g,W.heap.size<=g->tag g=(0,0)
def Dm.mod(h:Dm tag W)(m:DO S W W'):Dm tag W':=λg a=>h g (AK m.size a)
structure Di(i:Nat)(tag ky:rD)(W W':rq):Prop where
 mL:∀g,g<W.heap.size->ky g=tag g
 new:∀g,W.heap.size<=g->(ky g).1=i\/ky g=(0,0)
 z:Dm ky W'
def Di.same(h:Dm tag W)(m:DO S W W'):Di i tag tag W W':=⟨λ_ _=>rfl,λg a=>.inr (h g a),h.mod m⟩
variable{W'':rq}
def Di.trans{a:rD}(h:Di i tag ky W W')(k:Di i ky a W' W'')(c:W.heap.size<=W'.heap.size):Di i tag a W W'':=by
 refine⟨λg a=>(k.mL g I).trans<|h.mL g a,λg a=>?_,k.z⟩;by_cases q:g<W'.heap.size
 .rw[k.mL g q];exact h.new g a
 exact k.new g I
def zQ(tag:rD)(W W':rq)(t:Nat×Nat):Nat->Nat×Nat:=λg=>if g<W.heap.size then tag g else if g<W'.heap.size then t else(0,0)
def zD{t:Nat×Nat}(h:g<W.heap.size):zQ tag W W' t g=tag g:=by simp[zQ,h]
def GM{t:Nat×Nat}(h:W.heap.size<=g)(a:g<W'.heap.size):zQ tag W W' t g=t:=by
 simp only[zQ,(I:¬g<W.heap.size),AH,Av,AM a]
def JA{r:Nat}(a:W.heap.size<=W'.heap.size):Di i tag (zQ tag W W' (i,r)) W W':=by
 refine⟨λg a=>zD a,λg a=>?_,λg a=>?_⟩
 .by_cases q:g<W'.heap.size
  .exact .inl (by rw[GM a q])
  exact .inr<|by simp only[zQ,(I:¬g<W.heap.size),q,AH,Av]
 simp only[zQ,(I:¬g<W.heap.size),(I:¬g<W'.heap.size),AH,Av]
def EZ(h:Dm tag W){r:Nat}(a:tag g=(i,r))(hi:0<i):g<W.heap.size:=by
 by_cases q:g<W.heap.size
 .exact q
 have:=h g I;rw[a]at this;simp at this;omega
def zi.hd(h:zi tag i b c V W)(a:(Fu c V)[j]?=some v):W (b,j)=some v :=
 za h.obj (by rw[Ba];exact Wu c V a)
def zi.tl(h:zi tag i b c V W)(a:(II c V)[j]?=some v):W (b,233+j)=some v :=
 za h.obj (by rw[Ba];exact Le c V a)
end
section
open Go.RowKit Go.Proofs.Tryz
variable{V:CV}{W:rq}{b i j k:Nat}{c:CS}{tag:rD}{v:rt}
def zi.w(h:zi tag i b c V W)(a:k<8)(d:(Ft (c k) (V.wb k) (V k) (V.wc k))[j]?=some v):W (b,9+15*k+j)=some v :=
 za h.obj (by rw[Ba];exact MJ c V a d)
def zi.r(h:zi tag i b c V W)(a:k<8)(d:(Gi (c.rs k) (V.rb k) (V.rc k))[j]?=some v):W (b,129+13*k+j)=some v :=
 za h.obj (by rw[Ba];exact Lf c V a d)
def zi.fz(h:zi tag i b c V W)(j:Nat):W.frozen? ⟨b,j,none⟩=false:=by simp[World.frozen?,h.obj]
def De(rs:zE)(n:Nat):Prop:=∃i,i<rs.length/\DU rs i<=n/\n<=DP rs i
def WO(a b:zE)(i:Nat)(h:i<a.length):DU (a++b) i=DU a i/\DP (a++b) i=DP a i:=by
 simp[DU,DP,Al h]
def Pe(a b:zE)(i:Nat)(h:a.length<=i):DU (a++b) i=DU b (i-a.length)/\DP (a++b) i=DP b (i-a.length):=by
 simp[DU,DP,Aa h]
def NG(rs:zE)(k i:Nat)(h:i<k):DU (rs.take k) i=DU rs i/\DP (rs.take k) i=DP rs i:=by
 simp[DU,DP,Am,h]
def IH(rs:zE)(k i:Nat):DU (rs.drop k) i=DU rs (k+i)/\DP (rs.drop k) i=DP rs (k+i):=by
 simp[DU,DP,Am,BA]
def j8(r:Nat×Nat)(rs:zE):DU (r::rs) 0=r.1/\DP (r::rs) 0=r.2:=⟨rfl,rfl⟩
def Vs(r:Nat×Nat)(rs:zE)(i:Nat):DU (r::rs) (i+1)=DU rs i/\DP (r::rs) (i+1)=DP rs i:=⟨rfl,rfl⟩
def PR(rs:zE)(m hi m1 a:Nat)(c:m1<=a)(d:a<=rs.length):(EB rs m hi m1 a).length=m1+1+(rs.length-a):=by
 simp[EB];omega
def MV(rs:zE)(m hi m1 a i:Nat)(d:m1<=a)(e:a<=rs.length)(c:i<m1):DU (EB rs m hi m1 a) i=DU rs i/\DP (EB rs m hi m1 a) i=DP rs i:=by
 unfold EB;have a:i<(rs.take m1).length:=ls;rw[(WO _ _ i a).1,(WO _ _ i a).2];exact NG rs m1 i c
def Q8(rs:zE)(m hi m1 a:Nat)(c:m1<=a)(d:a<=rs.length):DU (EB rs m hi m1 a) m1=(EG rs m hi m1 a).1/\DP (EB rs m hi m1 a) m1=(EG rs m hi m1 a).2:=by
 unfold EB;have a:(rs.take m1).length=m1:=ls;rw[(Pe _ _ m1 I).1,(Pe _ _ m1 I).2,a,Ch];exact j8 _ _
def Jg(rs:zE)(m hi m1 a i:Nat)(d:m1<=a)(e:a<=rs.length)(c:m1<i):DU (EB rs m hi m1 a) i=DU rs (a+(i-m1-1))/\DP (EB rs m hi m1 a) i=DP rs (a+(i-m1-1)):=by
 unfold EB;have c:(rs.take m1).length=m1:=ls;rw[(Pe _ _ i I).1,(Pe _ _ i I).2,c];obtain⟨j,c⟩:∃j,i-m1=j+1:=⟨i-m1-1,I⟩;rw[c,(Vs _ _ j).1,(Vs _ _ j).2];exact IH rs a j
variable{m m1:Nat}{rs:zE}
def gm(a:WF rs)(c:E3 rs.length (Dv rs m) m1):∀i,i<m1->DP rs i+1<m:=by
 intro i d;obtain⟨e,d,_⟩:=c;have e:=d I;simp only[Dv,Aj]at e;by_cases c:i=m1-1
 .rw[c];omega
 have:=a.2 i (m1-1) I I;have c:=a.1 (m1-1) I;omega
variable{hi:Nat}
def YF{a:Nat}(c:WF rs)(d:E3 rs.length (D8 rs hi) a):∀i,a<=i->i<rs.length->hi+1<DU rs i:=by
 intro i e hi;obtain⟨_,_,c2⟩:=d;have e:=c2 I;simp only[D8,Ah]at e;by_cases d:i=a
 .rw[d];exact e
 have:=c.2 a i I hi;have d:=c.1 a I;omega
def gk{a:Nat}(c:WF rs)(d:hi<18446744073709551616)(h:E3 rs.length (Dv rs m) m1)(e:E3 rs.length (D8 rs hi) a):(EG rs m hi m1 a).1<=m/\hi<=(EG rs m hi m1 a).2/\(EG rs m hi m1 a).2<18446744073709551616/\(∀i,i<m1->DP rs i+1<(EG rs m hi m1 a).1)/\(∀i,a<=i->i<rs.length->(EG rs m hi m1 a).2+1<DU rs i):=by
 have f:=gm c h;have h:=YF c e;have l:=e.1;unfold EG;split
 .rename_i e;have e:=c.1 (a-1) I;refine⟨Bu _ _,BO _ _,by show max _ _<_;omega,λi hi=>?_,λi l e=>?_⟩
  .have:=f i hi;have o:=c.2 i m1 hi I;show _<min _ _;omega
  have:=h i l e;have o:=c.2 (a-1) i I e;show max _ _+1<_;omega
 exact⟨AF _,AF _,d,f,h⟩
def Qn{d:Nat}(h:WF rs)(p:m<=hi)(q:hi<18446744073709551616)(t:E3 rs.length (Dv rs m) m1)(s:E3 rs.length (D8 rs hi) d):WF (EB rs m hi m1 d):=by
 have a:=Jm h p t s;have c:=s.1;have p:=PR rs m hi m1 d a c;obtain⟨p,z,A,u,v⟩:=gk h q t s;have o:=Q8 rs m hi m1 d a c;refine⟨λi p=>?_,λi j l p=>?_⟩
 .rcases CJ i m1 with f|f|f
  .have e:=MV rs m hi m1 d i a c f;rw[e.1,e.2];exact h.1 i I
  .subst f;rw[o.1,o.2];omega
  have e:=Jg rs m hi m1 d i a c f;rw[e.1,e.2];exact h.1 _ I
 rcases CJ i m1 with f|f|f
 .have e:=MV rs m hi m1 d i a c f;rw[e.2];rcases CJ j m1 with hd|hd|hd
  .rw[(MV rs m hi m1 d j a c hd).1];exact h.2 i j l I
  .subst hd;rw[o.1];exact u i f
  rw[(Jg rs m hi m1 d j a c hd).1];exact h.2 i _ I I
 .subst f;rw[o.2,(Jg rs m hi i d j a c l).1];exact v _ I I
 rw[(Jg rs m hi m1 d i a c f).2,(Jg rs m hi m1 d j a c I).1];exact h.2 _ _ I I
def Km(a:WF rs)(h:i<=j)(c:j<rs.length):DU rs i<=DU rs j/\DP rs i<=DP rs j:=by
 by_cases d:i=j
 .subst d;exact⟨AF _,AF _⟩
 have:=a.2 i j I c;have d:=a.1 i I;have d:=a.1 j c;omega
def Tm{d:Nat}(s:WF rs)(o:m<=hi)(u:E3 rs.length (Dv rs m) m1)(t:E3 rs.length (D8 rs hi) d)(n:Nat):De (EB rs m hi m1 d) n↔De rs n\/(m<=n/\n<=hi):=by
 have f:=Jm s o u t;have h:=t.1;have o:=PR rs m hi m1 d f h;have p:=Q8 rs m hi m1 d f h;constructor
 .rintro⟨i,q,c,a⟩;rcases CJ i m1 with l|l|l
  .have e:=MV rs m hi m1 d i f h l;rw[e.1]at c;rw[e.2]at a;exact .inl ⟨i,I,c,a⟩
  .subst l;rw[p.1]at c;rw[p.2]at a;by_cases o:m<=n/\n<=hi
   .exact .inr o
   refine .inl ?_;unfold EG at c a;split at c
   .rename_i o;rw[AM o]at a;simp only at c a;have c1:=u.2.2 I;simp only[Dv,Ah]at c1;have u:=t.2.1 I;simp only[D8,Aj]at u;by_cases t:n<m
    .exact⟨i,I,I,I⟩
    exact⟨d-1,I,I,I⟩
   rename_i o;rw[AH o]at a;simp only at c a;omega
  have e:=Jg rs m hi m1 d i f h l;rw[e.1]at c;rw[e.2]at a;exact .inl ⟨_,I,c,a⟩
 rintro(⟨i,q,c,a⟩|⟨o,hb⟩)
 .by_cases l:i<m1
  .have e:=MV rs m hi m1 d i f h l;exact⟨i,I,by rw[e.1];exact c,by rw[e.2];exact a⟩
  by_cases hd:d<=i
  .have e:=Jg rs m hi m1 d (m1+1+(i-d)) f h I;have f:d+(m1+1+(i-d)-m1-1)=i:=I;rw[f]at e;exact⟨m1+1+(i-d),I,by rw[e.1];exact c,by rw[e.2];exact a⟩
  have a:=(Km s (i:=m1) (j:=i) I q).1;have a:=(Km s (i:=i) (j:=d-1) I I).2;refine⟨m1,I,?_,?_⟩
  .rw[p.1,EG,AM I];show min _ _<=_;omega
  rw[p.2,EG,AM I];show _<=max _ _;omega
 refine⟨m1,I,?_,?_⟩
 .rw[p.1,EG];split
  .show min _ _<=_;omega
  exact o
 rw[p.2,EG];split
 .show _<=max _ _;omega
 exact hb
def Wf{n:Nat}(d:WF rs)(h:E3 rs.length (KX rs n) m):(m<rs.length/\DU rs m<=n)↔De rs n:=by
 obtain⟨a,b,c⟩:=h;constructor
 .rintro⟨a,e⟩;have:=c a;simp only[KX,Ah]at this;exact⟨m,a,e,this⟩
 rintro⟨i,a,c,e⟩;by_cases c:i<m
 .have e:=b I;simp only[KX,Aj]at e;have:=(Km d (i:=i) (j:=m-1) I I).2;omega
 have:=(Km d (i:=m) (j:=i) I a).1;exact⟨I,I⟩
def Gh(h:i<rs.length):rs[i]?=some (DU rs i,DP rs i):=by
 simp[DU,DP,Am,AJ h]
def Dd:zE->Nat->Nat->Nat×Nat
 | [],lo,hi=>(lo,hi)
 | r::l,lo,hi=>if r.2<lo then Dd l lo hi else if lo<r.1 then(lo,min hi r.1)else Dd l (r.2+1) hi
def TF(h:k<rs.length):rs.drop k=(DU rs k,DP rs k)::rs.drop (k+1):=by
 rw[CH h];congr 1;have:=Gh h;rw[AJ h]at this;exact Bt this
theorem QR(rs:zE)(fl d b o lo hi:Nat)(v:rt)(w:rq)(h:Eh w b o v rs fl d)(l:lo<=9223372036854775808)(hb:∀k,k<rs.length->DP rs k<9223372036854775808):rT 91 #[(b,o),lo,hi] w λe w'=>e=.returned (.tuple #[.int .u64 ((Dd rs lo hi).1:Int),.int .u64 ((Dd rs lo hi).2:Int)])/\DO DQ w w':=by
 obtain⟨a,d,rfl,e,q,p⟩:=zk h.own;have s:=h.cl;have t:=zb h;have u:=zb p;have HB:=zb hb;unfold maxLen at q;clear h p hb;obtain⟨G,d⟩:=nm<|Dd rs lo hi;rw[d];have e:=zb d;clear d;go_enter func91,ntmps91;go_wp2_with fail
 go_loopw [1,15] (λh d wr=>∃k L:Nat,k<=rs.length/\h=.int .u64 L/\d=.int .i64 k/\DO DQ w wr/\L<=9223372036854775808/\AA (Dd (rs.drop k) L hi=G)) (λ_ d _=>rs.length-(intOf d).toNat)
 case atStart=>exact⟨0,lo,AN _,rfl,rfl,DO.refl _ _,l,e⟩
 case round =>
  obtain⟨k,L,d,rfl,rfl,m,z,f⟩:=hrel;have M:=zb m;by_cases c:k<rs.length
  .obtain⟨g,rfl⟩:=u.z I;obtain⟨d,e⟩:=Il t.z.own k c;have d:=m.cell (a:=⟨g,_,none⟩) id d;have e:=m.cell (a:=⟨g,_,none⟩) id e;have h:=HB.z k c;have a:AA (Dd (rs.drop k) L hi=if DP rs k<L then Dd (rs.drop<|k+1) L hi else if L<DU rs k then(L,min hi<|DU rs k)else Dd (rs.drop<|k+1) (DP rs k+1) hi):=by
    show _=_;rw[TF c];rfl
   obtain⟨p,c⟩:=nm<|DU rs k;obtain⟨q,l⟩:=nm<|DP rs k;rw[c]at d a;rw[l]at e a h;clear m c l s;by_cases c1:q<L
   .have d:(q:Int)<L:=I;have c:AA (Dd (rs.drop<|k+1) L hi=G):=by
     have:=a.z;rw[AM c1,f.z]at this;exact this.symm
    clear c1 a;go_wp2_with fail;go_roundw
    case rel=>exact⟨k+1,L,I,rfl,by go_num,M.z.alloc _,z,c⟩
    simp[intOf];omega
   have d:¬(q:Int)<L:=I;by_cases c2:L<p
   .have d:(L:Int)<p:=I;have c:AA (G=(L,min hi p)):=by
     have:=a.z;rw[AH c1,AM c2,f.z]at this;exact this
    clear c1 c2 a;by_cases c3:p<=hi
    .have e:(p:Int)<=hi:=I;have h:AA (min hi p=p):=zb I;clear c3;go_wp2_with fail;go_quiet (fail);go_wp2_with fail;all_goals first
      | (exfalso;omega)
      | (go_ret2;exact⟨by rw[c.z];(first|(rw[(I:min hi p=p)];rfl)|(rw[(I:min hi p=hi)];rfl)),(M.z.alloc _).drewN _⟩)
    have e:¬(p:Int)<=hi:=I;have h:AA (min hi p=hi):=zb I;clear c3;go_wp2_with fail;go_quiet (fail);go_wp2_with fail;all_goals first
     | (exfalso;omega)
     | (go_ret2;exact⟨by rw[c.z];(first|(rw[(I:min hi p=p)];rfl)|(rw[(I:min hi p=hi)];rfl)),(M.z.alloc _).drewN _⟩)
   have d:¬(L:Int)<p:=I;have d:=wu ((q:Int)+1) I;have c:AA (Dd (rs.drop<|k+1) (q+1) hi=G):=by
    have:=a.z;rw[AH c1,AH c2,f.z]at this;exact this.symm
   clear c1 c2 a;go_wp2_with fail;go_roundw
   case rel=>exact⟨k+1,q+1,I,by go_num,by go_num,M.z.alloc _,I,c⟩
   simp[intOf];omega
  have a:k=rs.length:=I;have c:AA (G=(L,hi)):=by
   have:=f.z;rw[a,CB]at this;exact this.symm
  clear m a f;go_wp2_with fail;go_ret2;exact⟨by rw[c.z];rfl,M.z⟩
end
end Go.Proofs.YtddfdpbaiedcjaaGreatDoor
