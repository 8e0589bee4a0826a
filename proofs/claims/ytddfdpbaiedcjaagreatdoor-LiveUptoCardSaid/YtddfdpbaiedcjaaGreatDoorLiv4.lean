/- A part of Live's proof. Conditions: none. Part 4 of 15. -/
import Derived.Deep.RegionHeld3
import Derived.Deep.DeepCutAuto
import Derived.Lib.ConvBytes
import Derived.Test.YtddfdpbaiedcjaaGreatDoorLiv3
import Derived.JoinedCond
import Derived.SevenTiedAt
set_option maxRecDepth 100000
set_option maxHeartbeats 16000000
set_option linter.all false
namespace Go.Proofs.YtddfdpbaiedcjaaGreatDoor
section
open Go.RowKit Go.Proofs.Tryz
def PM{α : Type}(A B cs:List α)(o:Nat)(ho:o=A.length):splice (A++B) o cs=A++(cs++B.drop cs.length):=by
 subst ho;simp[splice,<-List.drop_drop]
def RJ{α : Type}(a X:List α)(n:Nat)(ht:a.take n=X):∃Y,a=X++Y:=⟨a.drop n,by rw[<-ht,Bx]⟩
def iR(A X Y:nJ)(a b:Value)(hY:2<=Y.length):splice (splice (A++X++Y) (A.length+2) X) A.length [a,b]=A++[a,b]++X++Y.drop 2:=by
 have h1:splice (A++X++Y) (A.length+2) X=A++((X++Y).take 2++(X++Y.drop 2)):=by
  have e:(A++X++Y)=(A++(X++Y).take 2)++(X++Y).drop 2:=by simp[Ap,Bx]
  have hl:((X++Y).take 2).length=2:=my;rw[e,PM _ _ _ _ (by simp[hl]),Cc,Nat.add_comm,Ap];congr 1;congr 1;congr 1;rw[Cs];simp
 rw[h1,PM _ _ _ _ rfl];have hl:((X++Y).take 2).length=2:=my;have:List.drop [a,b].length (List.take 2 (X++Y)++(X++List.drop 2 Y))=X++Y.drop 2:=by
  have e2:[a,b].length=((X++Y).take 2).length:=by rw[hl];rfl
  rw[e2,List.drop_left]
 rw[this];simp
def kF(a:nJ)(i n cap:Nat)(rs:zC)(r:Nat×Nat)(hi:i<=n)(hn:n+1<=cap)(b:a.length=cap*2)(hrs:rs.length=n)(ht:a.take (n*2)=zq rs):(MT a i n [.int .u64 r.1,.int .u64 r.2]).take ((n+1)*2)=zq (rs.take i++r::rs.drop i):=by
 obtain⟨Y,rfl⟩:=RJ _ _ _ ht;have d:(zq (rs.take i)).length=i*2:=by rw[zP];simp;omega
 have e:(zq (rs.drop i)).length=(n-i)*2:=by rw[zP];simp;omega
 have c:zq rs=zq (rs.take i)++zq (rs.drop i):=by rw[<-Jw,Bx]
 have hY:2<=Y.length:=by
  simp only[AG,zP]at b;omega
 have h1:((zq rs++Y).drop (i*2)).take ((n-i)*2)=zq (rs.drop i):=by
  rw[c,<-d,Ap,List.drop_left,<-e,BT]
 unfold MT;rw[h1,c,(I:(i+1)*2=(zq (rs.take i)).length+2),(I:i*2=(zq (rs.take i)).length),iR _ _ _ _ _ hY,Jw,zq];have hl:(zq (rs.take i)++[Value.int .u64 r.1,Value.int .u64 r.2]++zq (rs.drop i)).length=(n+1)*2:=by simp[d,e];omega
 rw[<-hl,BT];simp
def lc(d a:nJ)(i n cap f:Nat)(rs:zC)(r:Nat×Nat)(hi:i<=n)(hn:n+1<=f)(_hcap:n<=cap)(j:a.length=cap*2)(g:d.length=f*2)(h0:d.take (i*2)=a.take (i*2))(hrs:rs.length=n)(ht:a.take (n*2)=zq rs):(MV d a i n [.int .u64 r.1,.int .u64 r.2]).take ((n+1)*2)=zq (rs.take i++r::rs.drop i):=by
 obtain⟨Y,rfl⟩:=RJ _ _ _ ht;have b:(zq (rs.take i)).length=i*2:=by rw[zP];simp;omega
 have k:(zq (rs.drop i)).length=(n-i)*2:=by rw[zP];simp;omega
 have c:zq rs=zq (rs.take i)++zq (rs.drop i):=by rw[<-Jw,Bx]
 have h1:((zq rs++Y).drop (i*2)).take ((n-i)*2)=zq (rs.drop i):=by
  rw[c,<-b,Ap,List.drop_left,<-k,BT]
 have h2:(zq rs++Y).take (i*2)=zq (rs.take i):=by rw[c,<-b,Ap,BT]
 obtain⟨Z,rfl⟩:=RJ _ _ _ (h0.trans h2);have hZ:Z.length=f*2-i*2:=by simp[b]at g;omega
 unfold MV;rw[h1,PM _ _ _ _ b.symm];have e:zq (rs.take i)++([Value.int .u64 r.1,Value.int .u64 r.2]++Z.drop 2)=(zq (rs.take i)++[Value.int .u64 r.1,Value.int .u64 r.2])++Z.drop 2:=mv;have h:[Value.int .u64 r.1,Value.int .u64 r.2].length=2:=rfl;rw[h,e,PM _ _ _ _ (by simp[b];omega),<-List.append_assoc,Jw,zq];have hl:(zq (rs.take i)++[Value.int .u64 r.1,Value.int .u64 r.2]++zq (rs.drop i)).length=(n+1)*2:=by simp[b,k];omega
 rw[<-hl,BT];simp
def ly(a:nJ)(i n cap:Nat)(r:Nat×Nat)(hi:i<=n)(hn:n+1<=cap)(b:a.length=cap*2):(MT a i n [.int .u64 r.1,.int .u64 r.2]).length=cap*2:=by
 unfold MT;have h1:(splice a ((i+1)*2) ((a.drop (i*2)).take ((n-i)*2))).length=cap*2:=by
  rw[length_splice _ _ _ my];exact b
 rw[length_splice _ _ _ my];exact h1
def mT(c a:nJ)(i n b cap:Nat)(r:Nat×Nat)(hi:i<=n)(hn:n+1<=b)(e:n<=cap)(f:a.length=cap*2)(d:c.length=b*2):(MV c a i n [.int .u64 r.1,.int .u64 r.2]).length=b*2:=by
 unfold MV;have h1:(splice c (i*2) [Value.int .u64 r.1,Value.int .u64 r.2]).length=b*2:=by
  rw[length_splice _ _ _ my];exact d
 rw[length_splice _ _ _ my];exact h1
theorem Re(rs:zC):∀v∈zq rs,v.oneCell'=true:=by
 induction rs with
 | nil=>intro v h;cases h
 | cons r rs ih =>
  intro v h;simp only[zq,Av]at h;rcases h with rfl|rfl|h
  .rfl
  .rfl
  exact ih v h
variable{fz:Nat×Nat}{g t:Nat}{w:World}
def Qm{cs:nJ}(hg:w.heap[g]?=some (.cells cs.toArray t fz)):∀j u,cs[j]?=some u->w.cell? ((⟨g,0,none⟩:Addr).add j)=some u:=by
 intro j u h;rw[zZ];simpa [World.cell?,hg]using h
variable{base e sz:Nat}{v:Value}{xs:nJ}
def Ql{n:Nat}(h:w.ownsRow base e sz v n xs)(hn:0<n):∃g cap cur,v=.slice (some ⟨g,0,none⟩) n cap/\w.heap[g]?=some (.cells (cur:nJ).toArray e (0,0))/\n<=cap/\cap<=maxLen/\cur.length=cap*sz/\cur.take (n*sz)=xs:=by
 rcases h.2 with⟨_,h0⟩|⟨g,cap,cur,rfl,_,hg,h1,h2,h3,h4⟩
 .omega
 exact⟨g,cap,cur.toList,rfl,nF hg,h1,h2,nF h3,h4⟩
def ip(v:Value)(rs:zC)(i:Nat)(r:Nat×Nat)(g2:Nat)(w:World)(hi:i<=rs.length)(H:rs.length<=1099511627776)(d:w.ownsRow 0 214 2 v rs.length (zq rs))
  (l:w.heap[g2]?=some (.cells [.int .u64 r.1,.int .u64 r.2].toArray 214 (0,0))) (B:v.ownBlock≠some g2) :
  Calls prog 201 #[v,[i],.slice g2 1 1] w λe w'=>∃v',e=.returned v'/\w'.ownsRow 0 214 2 v' (rs.length+1) (zq (rs.take i++r::rs.drop i))/\w.grownBy w' v.ownBlock/\EA w v v':=by
 obtain⟨J,m,s,o,t⟩:=info_parts Qo;by_cases C:i=rs.length
 .obtain⟨a,cap,rfl,h1,h2,h3⟩:=zk d;obtain⟨v',w1,De,ho,D,E⟩:=zV (P:=prog) w 63 214 J _ 2 16 underlying63 m s o t rfl mu _ _ _ d ⟨g2,0,none⟩ 1 1 [.int .u64 r.1,.int .u64 r.2] rfl (Qm l) (by simp[Value.oneCell']) mz I;subst C;unfold maxLen at h2;refine(Xu g2 _ cap a v' w w1 h1 I De).mono ?_;rintro e w' ⟨rfl,rfl⟩;refine⟨v',rfl,?_,D,E⟩;simpa [Jw,zq]using ho
 obtain⟨g,cap,b,rfl,hg,h1,h2,h3,h4⟩:=Ql d I;have F:g2≠g:=λe=>B (by simp[Value.ownBlock,e])
 unfold maxLen at h2;have n:∀v∈(b.drop (i*2)).take ((rs.length-i)*2),v.oneCell'=true:=by
  intro v K;refine Re rs v ?_;rw[<-h4];have e:(b.drop (i*2)).take ((rs.length-i)*2)=(b.take (rs.length*2)).drop (i*2):=by
   rw[C9];congr 1;omega
  rw[e]at K;exact Bo K
 by_cases c:rs.length+1<=cap
 .refine(dt g g2 i rs.length cap b r w I c I hg h3 n l F).mono ?_;rintro e w' ⟨rfl,rfl⟩;refine⟨_,rfl,⟨by simp[zP];omega,.inr ⟨g,cap,_,rfl,AM _,setRow_heap w g _ _ _ _ hg,c,mz,?_,?_⟩⟩,⟨rfl,rfl,rfl,mv,λk _ hk=>setRow_other w g k _ (λe=>hk (by simp[Value.ownBlock,e]))⟩,λk hk=>.inl hk⟩
  .simpa using ly b i rs.length cap r hi c h3
  simpa using kF b i rs.length cap rs r hi c h3 rfl h4
 have De:=λty=>me (P:=prog) w 63 3 ty 214 .i64 J _ underlying63 underlying3 m s ⟨g,0,none⟩ i cap (rs.length+1-i) (zq (rs.take i)) (by rw[zP,o];simp;omega)
  (λj u A=>Qm hg j u (by
   rw[<-Pn,<-h4,Bf,CU]at A;split at A
   .exact A
   cases A)) I I (by rw[t];omega) (by rw[o];omega)
 rw[(I:i+(rs.length+1-i)=rs.length+1),(I:((rs.length+1-i:Nat):Int)=(rs.length:Int)+1-i)]at De;have f:=grownCap_ge w (rs.length+1) cap 214;have x:grownCap w (rs.length+1) cap 214<=maxLen:=grownCap_le_maxLen w _ cap _ mz;unfold maxLen at x;generalize grownCap w (rs.length+1) cap 214=nc at De f x;have G:=(AH.1 hg).1;have y:=(AH.1 l).1;obtain⟨p,q⟩:∃p:nJ,(zq (rs.take i)).toArray++Builtin.zeroCells (Value.agg #[Value.int .u64 0,Value.int .u64 0]).cells (rs.length+1-i)++Builtin.zeroCells (Value.agg #[Value.int .u64 0,Value.int .u64 0]).cells (nc-(rs.length+1))=p.toArray/\p.length=nc*2/\p.take (i*2)=b.take (i*2):=by
  refine⟨zq (rs.take i)++(Builtin.zeroCells (Value.agg #[Value.int .u64 0,Value.int .u64 0]).cells (rs.length+1-i)).toList++(Builtin.zeroCells (Value.agg #[Value.int .u64 0,Value.int .u64 0]).cells (nc-(rs.length+1))).toList,mv,?_,?_⟩
  .simp[size_zeroCells,zP,Value.cells];omega
  have L:(zq (rs.take i)).length=i*2:=by rw[zP];simp;omega
  rw[Ap,<-L,BT,L,<-Pn,<-h4,Bf];congr 1;omega
 obtain⟨q,h,z⟩:=q;rw[q]at De;refine(dq g g2 w.heap.size i rs.length cap nc b p r w _ I h1 I I h3 n De ((Below.heap_alloc w.drew _ g G).trans hg) ((Below.heap_alloc w.drew _ g2 y).trans l) (heap_alloc_new w.drew _) h f I I I).mono ?_;rintro e w' ⟨rfl,rfl⟩;refine⟨_,rfl,⟨by simp[zP];omega,.inr ⟨w.heap.size,nc,_,rfl,AM _,setRow_heap _ _ _ _ _ _ (heap_alloc_new w.drew _),f,mz,?_,?_⟩⟩,⟨rfl,rfl,rfl,mv,λk hk _=>?_⟩,λk hk=>by simp[Value.ownBlock]at hk;omega⟩
 .simpa using mT p b i rs.length nc cap r hi f h1 h3 h
 .simpa using lc p b i rs.length cap nc rs r hi f h1 h3 h z rfl h4
 exact(setRow_other _ _ _ _ I).trans (Below.heap_alloc w.drew _ k hk)
def M9(a:nJ)(n:Nat):List Value:=splice (splice a 0 ((a.drop 2).take ((n-1)*2))) ((n-1)*2) [.int .u64 0,.int .u64 0]
def dp(g n cap:Nat)(a:nJ)(w:World)(hn:2<=n)(m:n<=cap)(i:cap<=9223372036854775807)
  (hg:w.heap[g]?=some (.cells a.toArray 214 (0,0))) (d:a.length=cap*2) (j:∀v∈(a.drop 2).take ((n-1)*2),v.oneCell'=true) :
  Calls prog 157 #[.slice g n cap,.int .i64 0,.int .i64 1] w λe w'=>e=.returned (.slice g (n-1) cap) /\
   w'=(w.setRow g (M9 a n).toArray).drew:=by
 obtain⟨i0,f,hz0,k,hz2⟩:=info_parts Qo;have hl:((a.drop 2).take ((n-1)*2)).length=(n-1)*2:=my;have De:∀ty,(Builtin.append_ #[63,63] ty #[.slice g 0 cap,.slice (g,2) (n-1) (cap-1)]).run prog w.drew =
   .ok (.slice g (n-1) cap) (w.setRow g (splice a 0 ((a.drop 2).take ((n-1)*2))).toArray).drew:=λty=>by
  have:=run_append_room (P:=prog) w.drew 63 ty 214 i0 underlying63 f g 0 cap a.toArray hg ⟨g,2,none⟩ (n-1) (cap-1) _ (by rw[hl,k]) (U4 hg 2 ((n-1)*2)) j I (by rw[hl];simp;omega);rw[this];simp[splice];rfl
 obtain⟨h,b⟩:=nm (splice a 0 ((a.drop 2).take ((n-1)*2)));have o:h.length=cap*2:=by rw[<-b,length_splice _ _ _ (by rw[hl];omega)];exact d
 rw[b]at De;obtain⟨l,c⟩:=nm (splice h ((n-1)*2) [Value.int .u64 0,Value.int .u64 0]);have hcl:∀ty,(Builtin.clear_ #[63] ty #[.slice (g,(n-1)*2) (n-(n-1)) (cap-(n-1))]).run prog (w.setRow g h.toArray).drew=.ok (.tuple #[]) (w.setRow g l.toArray).drew:=λty=>by
  rw[(I:n-(n-1)=1),Mn (P:=prog) (w.setRow g h.toArray).drew 63 ty 214 (.agg #[.int .u64 0,.int .u64 0]) 2 underlying63 Qn rfl (by simp[Value.cells,Value.oneCell']) g ((n-1)*2) 1 _ h _ (setRow_heap w g _ _ _ _ hg) I];rw[(mr:(Builtin.zeroCells (Value.agg #[Value.int .u64 0,Value.int .u64 0]).cells 1).toList=[Value.int .u64 0,Value.int .u64 0]),c];congr 1;exact A8 World.drew (setRow_setRow w g _ _)
 have HC:AA (M9 a n=l):=by
  show splice (splice _ _ _) _ _=l;rw[b,c]
 have h1:1<cap:=I;have h2:(1:Int)<=n:=I;have h3:n-1<cap:=I;clear b c hl;go_enter func157,ntmps157;go_wp2_with fail;have h5:¬cap=1:=I;go_region_law (refine zS rfl (.tmp 22) (.tmp 25) 63 63 rfl (.slice g 0 cap) (.slice (U g 2) (n-1) (cap-1)) (.slice g (n-1) cap) (by simp[Act.eval,Act.put]) (by simp[Act.eval,Act.put]) De ?_);go_wp2_with fail;go_ret;exact⟨rfl,by rw[HC.z]⟩
def Xt(a:nI)(g2 i n cap:Nat)(R:Ending->World->Prop)(w:World)(hi:i<=n)(f:n<=cap)(c:cap<=9223372036854775807)
  (b:Calls prog 201 #[.slice a n cap,[i],.slice g2 1 1] w λe w'=>∃v',e=.returned v'/\R (.returned v') w') :
  Calls prog 156 #[.slice a n cap,[i],[i],.slice g2 1 1] w R:=by
 by_cases hc:i=cap
 .obtain rfl:n=i:=I;subst hc;cases a;all_goals
   go_enter func156,ntmps156;go_wp2_with (go_at_call 201;refine b.mono ?_;rintro e w' ⟨v',rfl,d⟩);exact d
 have h1:i<cap:=I;cases a;all_goals
  go_enter func156,ntmps156;go_wp2_with (go_at_call 201;refine b.mono ?_;rintro e w' ⟨v',rfl,d⟩);exact d
def MS(a:nJ)(i n:Nat)(r:nJ):List Value:=splice (splice a (i*2) r) ((i+1)*2) (Builtin.zeroCells #[.int .u64 0,.int .u64 0] (n-(i+1))).toList
def Xs(g g2 i n cap:Nat)(b:nJ)(r:Nat×Nat)(w:World)(hi:i<n)(q:n<=cap)(_hcap2:cap<=9223372036854775807)
  (hg:w.heap[g]?=some (.cells b.toArray 214 (0,0))) (j:b.length=cap*2) (m:w.heap[g2]?=some (.cells [.int .u64 r.1,.int .u64 r.2].toArray 214 (0,0))) :
  Calls prog 156 #[.slice g n cap,[i],[n],.slice g2 1 1] w λe w'=>e=.returned (.slice g (i+1) cap) /\
   w'=w.setRow g (MS b i n [.int .u64 r.1,.int .u64 r.2]).toArray:=by
 obtain⟨i0,k,hz0,f,hz2⟩:=info_parts Qo;have De:∀ty,(Builtin.append_ #[63,63] ty #[.slice g i cap,.slice g2 1 1]).run prog w =
   .ok (.slice g (i+1) cap) (w.setRow g (splice b (i*2) [Value.int .u64 r.1,Value.int .u64 r.2]).toArray):=λty=>by
  have:=run_append_room (P:=prog) w 63 ty 214 i0 underlying63 k g i cap b.toArray hg ⟨g2,0,none⟩ 1 1 [Value.int .u64 r.1,Value.int .u64 r.2] (by rw[f];rfl) (Qm m) (by simp[Value.oneCell']) I (by rw[f];simp;omega);rw[this,f];simp[splice]
 obtain⟨h,c⟩:=nm (splice b (i*2) [Value.int .u64 r.1,Value.int .u64 r.2]);have s:h.length=cap*2:=by rw[<-c,length_splice _ _ _ my];exact j
 rw[c]at De;obtain⟨l,d⟩:=nm (splice h ((i+1)*2) (Builtin.zeroCells #[Value.int .u64 0,Value.int .u64 0] (n-(i+1))).toList);have o:∀ty,(Builtin.clear_ #[63] ty #[.slice (g,(i+1)*2) (n-(i+1)) (cap-(i+1))]).run prog (w.setRow g h.toArray)=.ok (.tuple #[]) (w.setRow g l.toArray):=λty=>by
  rw[Mn (P:=prog) (w.setRow g h.toArray) 63 ty 214 (.agg #[.int .u64 0,.int .u64 0]) 2 underlying63 Qn rfl (by simp[Value.cells,Value.oneCell']) g ((i+1)*2) (n-(i+1)) _ h _ (setRow_heap w g _ _ _ _ hg) I];rw[show(Value.agg #[Value.int .u64 0,Value.int .u64 0]).cells=#[Value.int .u64 0,Value.int .u64 0]from rfl,d];congr 1;exact setRow_setRow w g _ _
 have t:AA (MS b i n [.int .u64 r.1,.int .u64 r.2]=l):=by
  show splice (splice _ _ _) _ _=l;rw[c,d]
 have p:AA (i+1=n->h=l):=by
  intro e;rw[<-d];subst e;simp[splice,Builtin.zeroCells]
 have h1:(i:Int)<n:=I;have h2:((i:Int)==n)=false:=my;have h3:i<cap:=I;clear c d;by_cases a:i+1=n
 .have h4:decide ((i:Int)+1<n)=false:=my;have u:=p.z a;have HE:AA (h=l):=u;clear u o;have h5:¬((i:Int)+1<n):=I;go_enter func156,ntmps156;have Hl:=zb a;clear a;go_wp2_with (at_builtin;refine zn rfl _ _ _ _ rfl _ _ _ rfl rfl De ?_);go_ret;exact⟨rfl,by rw[t.z,HE.z]⟩
 have h5:(i:Int)+1<n:=I;have h6:i+1<cap:=I;clear a;go_enter func156,ntmps156;go_wp2_with (at_builtin;refine zn rfl _ _ _ _ rfl _ _ _ rfl rfl De ?_);go_ret;exact⟨rfl,by rw[t.z]⟩
def M8(a:nJ)(i j n:Nat)(r:nJ):List Value :=
 splice (splice (splice a (i*2) r) ((i+1)*2) (((splice a (i*2) r).drop (j*2)).take ((n-j)*2))) ((i+1+(n-j))*2) (Builtin.zeroCells #[.int .u64 0,.int .u64 0] (n-(i+1+(n-j)))).toList
def Pq{α : Type}(L:List α)(o k n:Nat)(h:n=o+k):(L.take n).drop o=(L.drop o).take k:=by
 subst h;rw[C9];congr 1;omega
def Xr(g g2 i j n cap:Nat)(a:nJ)(r:Nat×Nat)(w:World)(hi:i<j)(hj:j<n)(E:n<=cap)(A:cap<=9223372036854775807)
  (hg:w.heap[g]?=some (.cells a.toArray 214 (0,0))) (t:a.length=cap*2) (u:∀v∈a.take (n*2),v.oneCell'=true) (B:w.heap[g2]?=some (.cells [.int .u64 r.1,.int .u64 r.2].toArray 214 (0,0))) (_hne:g2≠g) :
  Calls prog 156 #[.slice g n cap,[i],[j],.slice g2 1 1] w λe w'=>e=.returned (.slice g (i+1+(n-j)) cap) /\
   ∃k,w'=(w.setRow g (M8 a i j n [.int .u64 r.1,.int .u64 r.2]).toArray).drewN k:=by
 obtain⟨d,f⟩:=nm (splice a (i*2) [Value.int .u64 r.1,Value.int .u64 r.2]);have y:d.length=cap*2:=by rw[<-f,length_splice _ _ _ my];exact t
 have hc1:∀ty nq,(Builtin.copy_ #[63,63] ty #[.slice (g,i*2) (i+1+(n-j)-i) (cap-i),.slice g2 1 1]).run prog (w.drewN nq)=.ok (goInt (1:Nat)) ((w.setRow g d.toArray).drewN nq):=λty nq=>by
  rw[Mm (P:=prog) (w.drewN nq) 63 63 ty 214 2 underlying63 Kw g (i*2) (i+1+(n-j)-i) (cap-i) g2 0 1 1 1 a _ _ _ _ hg B I I I mv I (by simp[Value.oneCell'])];simp only[CH,Ch,Ca,Nat.one_mul,f];rfl
 obtain⟨h,l⟩:=nm (splice d ((i+1)*2) ((d.drop (j*2)).take ((n-j)*2)));have F:h.length=cap*2:=by rw[<-l,length_splice _ _ _ my];exact y
 have q:∀v∈(d.drop (j*2)).take ((n-j)*2),v.oneCell'=true:=by
  intro v G;have e:d.drop (j*2)=a.drop (j*2):=by
   rw[<-f];simp only[splice];rw[Cs,CC my,An,Cs,CC my,An,Cc];congr 1;simp;omega
  rw[e,<-Pq a (j*2) ((n-j)*2) (n*2) I]at G;exact u v (Bo G)
 have hc2:∀ty nq,(Builtin.copy_ #[63,63] ty #[.slice (g,(i+1)*2) (n-j) (cap-(i+1)),.slice (g,j*2) (n-j) (cap-j)]).run prog ((w.setRow g d.toArray).drewN nq) =
   .ok (goInt (n-j:Nat)) ((w.setRow g h.toArray).drewN nq):=λty nq=>by
  have s:=setRow_heap w g _ d.toArray _ _ hg;rw[Mm (P:=prog) ((w.setRow g d.toArray).drewN nq) 63 63 ty 214 2 underlying63 Kw g ((i+1)*2) (n-j) (cap-(i+1)) g (j*2) (n-j) (cap-j) (n-j) d d _ _ _ s s I I I I I q];rw[l];congr 1;exact A8 (λx=>World.drewN x nq) (setRow_setRow w g _ _)
 obtain⟨z,m⟩:=nm (splice h ((i+1+(n-j))*2) (Builtin.zeroCells #[Value.int .u64 0,Value.int .u64 0] (n-(i+1+(n-j)))).toList);have C:∀ty nq,(Builtin.clear_ #[63] ty #[.slice (g,(i+1+(n-j))*2) (n-(i+1+(n-j))) (cap-(i+1+(n-j)))]).run prog ((w.setRow g h.toArray).drewN nq)=.ok (.tuple #[]) ((w.setRow g z.toArray).drewN nq):=λty nq=>by
  rw[Mn (P:=prog) ((w.setRow g h.toArray).drewN nq) 63 ty 214 (.agg #[.int .u64 0,.int .u64 0]) 2 underlying63 Qn rfl (by simp[Value.cells,Value.oneCell']) g ((i+1+(n-j))*2) (n-(i+1+(n-j))) _ h _ (setRow_heap w g _ _ _ _ hg) I];rw[show(Value.agg #[Value.int .u64 0,Value.int .u64 0]).cells=#[Value.int .u64 0,Value.int .u64 0]from rfl,m];congr 1;exact A8 (λx=>World.drewN x nq) (setRow_setRow w g _ _)
 have H:AA (M8 a i j n [.int .u64 r.1,.int .u64 r.2]=z):=by
  show splice (splice (splice _ _ _) _ _) _ _=z;rw[f,l,m]
 have D:AA (i+1+(n-j)=n->h=z):=by
  intro e;rw[<-m,e];simp[splice,Builtin.zeroCells]
 clear f l m q u;have h1:(i:Int)<j:=I;have h2:((i:Int)==j)=false:=my;have h3:((j:Int)==n)=false:=my;have h4:(j:Int)<n:=I;have h5:i<cap:=I;have h6:i+1<cap:=I;have h7:j<cap:=I;have h8:¬cap=i+1:=I;have h9:¬cap=j:=I;by_cases b:i+1+(n-j)=cap
 .have HL:=zb b;have p:n-(i+1+(n-j))=0:=I;have HE:AA (h=z):=D.z I;have H10:=zb p;have J:∀ty o c nq,(Builtin.clear_ #[63] ty #[.slice (some ⟨g,o,none⟩) (n-(i+1+(n-j))) c]).run prog ((w.setRow g h.toArray).drewN nq)=.ok (.tuple #[]) ((w.setRow g h.toArray).drewN nq):=λty o c nq=>by
   rw[p];simp[Builtin.clear_,run_underlying underlying63]
  clear b p C;go_enter func156,ntmps156;go_wp2_with fail;go_quiet (fail);go_wp2_with fail
  go_region
  go_wp2_with fail;all_goals
   go_ret;refine⟨?_,_,by rw[H.z,HE.z]⟩
   first|rfl|(rw[<-HL.z];rfl)
 have p:i+1+(n-j)<cap:=I;clear b;go_enter func156,ntmps156;go_wp2_with fail;go_quiet (fail);go_wp2_with fail
 go_region
 go_wp2_with fail;go_ret;exact⟨rfl,_,by rw[H.z]⟩
def Ry{α : Type}(L:List α)(o:Nat)(cs:List α)(h:o<=L.length):(splice L o cs).take o=L.take o:=by
 simp only[splice];rw[BF my,Bf];congr 1;omega
def kE{α : Type}(L:List α)(o:Nat)(cs:List α)(k:Nat)(h:o+cs.length<=L.length)(hk:o+cs.length<=k):(splice L o cs).drop k=L.drop k:=by
 simp only[splice];rw[Cs,CC my,An,Cs,CC my,An,Cc];congr 1;simp;omega
def Pp{α : Type}(L:List α)(o:Nat)(cs:List α)(h:o+cs.length<=L.length):(splice L o cs).take (o+cs.length)=L.take o++cs:=by
 simp only[splice];rw[<-List.append_assoc];have:(L.take o++cs).length=o+cs.length:=my;rw[<-this,BT]
def kD(a:nJ)(i n cap:Nat)(rs:zC)(r:Nat×Nat)(hi:i<n)(hn:n<=cap)(b:a.length=cap*2)(hrs:rs.length=n)(ht:a.take (n*2)=zq rs):(MS a i n [.int .u64 r.1,.int .u64 r.2]).take ((i+1)*2)=zq (rs.take i++[r]):=by
 have h1:(splice a (i*2) [Value.int .u64 r.1,Value.int .u64 r.2]).length=cap*2:=by rw[length_splice _ _ _ my];exact b
 unfold MS;rw[Ry _ _ _ I];have e:(i+1)*2=i*2 + [Value.int .u64 r.1,Value.int .u64 r.2].length:=my;rw[e,Pp _ _ _ my,Jw,<-Pn,<-ht,Bf,BZ I];rfl
def lw(a:nJ)(i n cap:Nat)(r:Nat×Nat)(hi:i<n)(hn:n<=cap)(b:a.length=cap*2):(MS a i n [.int .u64 r.1,.int .u64 r.2]).length=cap*2:=by
 have h1:(splice a (i*2) [Value.int .u64 r.1,Value.int .u64 r.2]).length=cap*2:=by rw[length_splice _ _ _ my];exact b
 unfold MS;rw[length_splice _ _ _ (by simp[size_zeroCells];omega)];exact h1
def lZ(a:nJ)(i j n cap:Nat)(rs:zC)(r:Nat×Nat)(hi:i<j)(hj:j<n)(hn:n<=cap)(b:a.length=cap*2)(hrs:rs.length=n)(c:a.take (n*2)=zq rs):(M8 a i j n [.int .u64 r.1,.int .u64 r.2]).take ((i+1+(n-j))*2)=zq (rs.take i++r::rs.drop j)/\(M8 a i j n [.int .u64 r.1,.int .u64 r.2]).length=cap*2:=by
 have h1:(splice a (i*2) [Value.int .u64 r.1,Value.int .u64 r.2]).length=cap*2:=by rw[length_splice _ _ _ my];exact b
 have hX:((splice a (i*2) [Value.int .u64 r.1,Value.int .u64 r.2]).drop (j*2)).take ((n-j)*2)=zq (rs.drop j):=by
  rw[kE _ _ _ _ my my,<-Pq a (j*2) ((n-j)*2) (n*2) I,c,WR]
 have hXl:(zq (rs.drop j)).length=(n-j)*2:=by rw[zP];simp;omega
 have h2:(splice (splice a (i*2) [Value.int .u64 r.1,Value.int .u64 r.2]) ((i+1)*2) (zq (rs.drop j))).length=cap*2:=by rw[length_splice _ _ _ I];exact h1
 unfold M8;rw[hX];constructor
 .rw[Ry _ _ _ I,(I:(i+1+(n-j))*2=(i+1)*2+(zq (rs.drop j)).length),Pp _ _ _ I];have e:(i+1)*2=i*2 + [Value.int .u64 r.1,Value.int .u64 r.2].length:=my;rw[e,Pp _ _ _ my,Jw,zq,<-Pn,<-c,Bf,BZ I];simp
 rw[length_splice _ _ _ (by simp[size_zeroCells];omega)];exact h2
def kC(v:Value)(rs:zC)(i j:Nat)(r:Nat×Nat)(g2:Nat)(w:World)(hij:i<=j)(hj:j<=rs.length)(f:rs.length<=1099511627776)(b:w.ownsRow 0 214 2 v rs.length (zq rs))
  (d:w.heap[g2]?=some (.cells [.int .u64 r.1,.int .u64 r.2].toArray 214 (0,0))) (l:v.ownBlock≠some g2) :
  Calls prog 156 #[v,[i],[j],.slice g2 1 1] w λe w'=>∃v',e=.returned v'/\w'.ownsRow 0 214 2 v' (rs.take i++r::rs.drop j).length (zq (rs.take i++r::rs.drop j))/\w.grownBy w' v.ownBlock/\EA w v v':=by
 by_cases m:i=j
 .subst m;have hl:(rs.take i++r::rs.drop i).length=rs.length+1:=my;rw[hl];obtain⟨a,cap,rfl,h1,h2,_⟩:=zk b;unfold maxLen at h2;refine Xt a g2 i _ cap _ w I h1 I ?_;refine(ip _ rs i r g2 w hj f b d l).mono ?_;rintro e w' ⟨v',rfl,h⟩;exact⟨v',rfl,v',rfl,h⟩
 obtain⟨g,cap,c,rfl,hg,h1,h2,h3,h4⟩:=Ql b I;unfold maxLen at h2;have n:g2≠g:=λe=>l (by simp[Value.ownBlock,e])
 by_cases o:j=rs.length
 .have hl:(rs.take i++r::rs.drop j).length=i+1:=my;rw[hl];have e0:rs.drop j=[]:=my;rw[e0];subst o;refine(Xs g g2 i rs.length cap c r w I h1 I hg h3 d).mono ?_;rintro e w' ⟨rfl,rfl⟩;refine⟨_,rfl,⟨by simp[zP];omega,.inr ⟨g,cap,_,rfl,AM _,setRow_heap w g _ _ _ _ hg,I,mz,?_,?_⟩⟩,⟨rfl,rfl,rfl,mv,λk _ hk=>setRow_other w g k _ (λe=>hk (by simp[Value.ownBlock,e]))⟩,λk hk=>.inl hk⟩
  .simpa using lw c i rs.length cap r I h1 h3
  simpa using kD c i rs.length cap rs r I h1 h3 rfl h4
 have hl:(rs.take i++r::rs.drop j).length=i+1+(rs.length-j):=my;rw[hl];have hf:=lZ c i j rs.length cap rs r I I h1 h3 rfl h4;refine(Xr g g2 i j rs.length cap c r w I I h1 I hg h3 (by rw[h4];exact Re rs) d n).mono ?_;rintro e w' ⟨rfl,k,rfl⟩;refine⟨_,rfl,⟨by simp[zP];omega,.inr ⟨g,cap,_,rfl,AM _,setRow_heap w g _ _ _ _ hg,I,mz,?_,?_⟩⟩,⟨rfl,rfl,rfl,mv,λk _ hk=>setRow_other w g k _ (λe=>hk (by simp[Value.ownBlock,e]))⟩,λk hk=>.inl hk⟩
 .simpa using hf.2
 simpa using hf.1
def lX(a:nJ)(n cap:Nat)(rs:zC)(hn:2<=n)(d:n<=cap)(b:a.length=cap*2)(hrs:rs.length=n)(ht:a.take (n*2)=zq rs):(M9 a n).take ((n-1)*2)=zq (rs.drop 1)/\(M9 a n).length=cap*2:=by
 have hX:(a.drop 2).take ((n-1)*2)=zq (rs.drop 1):=by
  rw[<-Pq a 2 ((n-1)*2) (n*2) I,ht];exact WR rs 1
 have c:(zq (rs.drop 1)).length=(n-1)*2:=by rw[zP];simp;omega
 have h1:(splice a 0 (zq (rs.drop 1))).length=cap*2:=by rw[length_splice _ _ _ I];exact b
 unfold M9;rw[hX];constructor
 .rw[Ry _ _ _ I];have:=Pp a 0 (zq (rs.drop 1)) I;rw[c,A6,Ca,An]at this;exact this
 rw[length_splice _ _ _ (by rw[h1,show [Value.int IntKind.u64 0,Value.int IntKind.u64 0].length=2 from rfl];omega)];exact h1
def io(v:Value)(rs:zC)(w:World)(d:2<=rs.length)(b:w.ownsRow 0 214 2 v rs.length (zq rs)):Calls prog 157 #[v,.int .i64 0,.int .i64 1] w λe w'=>∃v',e=.returned v'/\w'.ownsRow 0 214 2 v' (rs.drop 1).length (zq (rs.drop 1))/\w.grownBy w' v.ownBlock/\EA w v v':=by
 obtain⟨g,cap,a,rfl,hg,h1,h2,h3,h4⟩:=Ql b I;unfold maxLen at h2;have hf:=lX a rs.length cap rs d h1 h3 rfl h4;have c:∀v∈(a.drop 2).take ((rs.length-1)*2),v.oneCell'=true:=by
  intro v f;rw[<-Pq a 2 ((rs.length-1)*2) (rs.length*2) I,h4]at f;exact Re rs v (Bo f)
 refine(dp g rs.length cap a w d h1 I hg h3 c).mono ?_;rintro e w' ⟨rfl,rfl⟩;have hl:(rs.drop 1).length=rs.length-1:=mv;rw[hl];refine⟨_,rfl,⟨by rw[zP,hl],.inr ⟨g,cap,_,rfl,AM _,setRow_heap w g _ _ _ _ hg,I,mz,?_,?_⟩⟩,⟨rfl,rfl,rfl,mv,λk _ hk=>setRow_other w g k _ (λe=>hk (by simp[Value.ownBlock,e]))⟩,λk hk=>.inl hk⟩
 .simpa using hf.2
 simpa using hf.1
def D0(rs:zC)(lo i:Nat):Bool:=decide (lo<=DX rs i+1)
def EF(rs:zC)(hi i:Nat):Bool:=decide (hi+1<DZ rs i)
def kB:Od 154:=λargs w=>Pb func154 mr rfl args w
def kA:Od 155:=λargs w=>Pb func155 mr rfl args w
def dk(rs:zC)(i b o d f lo:Nat)(v:Value)(w:World)
  (hs:w.cell? d=some (.pointer (b,o))) (hn:w.cell? f=some (.int .u64 lo)) (hlo:lo<18446744073709551616)
  (hl:w.cell? (b,o)=some v) (c:w.ownsRow 0 214 2 v rs.length (zq rs)) (hi:i<rs.length) :
  Calls prog 154 #[[i],(d,0),(f,0)] w λe w'=>e=.returned (.bool (D0 rs lo i))/\∃k,w'=w.drewN k:=by
 obtain⟨a,cap,rfl,h1,h2,h3⟩:=zk c;obtain⟨g,rfl⟩:=h3 I;have hr:=(Ir c i hi).2;have hi1:(i:Int)<rs.length:=I;have hi0:0<=(i:Int):=I;unfold maxLen at h2;clear h3;by_cases hc:lo<=DX rs i
 .have hd:decide ((lo:Int)<=DX rs i)=true:=my;have hf:D0 rs lo i=true:=by simp[D0];omega
  go_enter func154,ntmps154;go_wp2_with fail;go_quiet (fail);go_wp2_with fail;go_ret;exact⟨by rw[hf];rfl,_,rfl⟩
 have hd:decide ((lo:Int)<=DX rs i)=false:=my;have hb:0<=(lo:Int)-DX rs i:=I;have hb2:(lo:Int)-DX rs i<18446744073709551616:=I;have HF:AA (D0 rs lo i=decide ((lo:Int)-DX rs i=1)):=by
  show _=_;simp only[D0];congr 1;apply propext;omega
 go_enter func154,ntmps154;go_wp2_with fail;go_quiet (fail);go_wp2_with fail;go_ret;exact⟨by rw[HF.z];rfl,_,rfl⟩
def dj(rs:zC)(i b o h j c:Nat)(v:Value)(w:World)
  (hs:w.cell? h=some (.pointer (b,o))) (hn:w.cell? j=some (.int .u64 c)) (hb:∀i,i<rs.length->DZ rs i<18446744073709551616)
  (hl:w.cell? (b,o)=some v) (d:w.ownsRow 0 214 2 v rs.length (zq rs)) (hi:i<rs.length) :
  Calls prog 155 #[.int .i64 i,(h,0),(j,0)] w λe w'=>e=.returned (.bool (EF rs c i))/\∃k,w'=w.drewN k:=by
 obtain⟨a,cap,rfl,h1,h2,h3⟩:=zk d;obtain⟨g,rfl⟩:=h3 I;have hr:=(Ir d i hi).1;have hlt:=hb i hi;clear hb;have hi1:(i:Int)<rs.length:=I;have l:0<=(i:Int):=I;unfold maxLen at h2;clear h3;by_cases hc:c<DZ rs i
 .have hd:decide ((c:Int)<DZ rs i)=true:=my;have hb:0<=(DZ rs i:Int)-c:=I;have hb2:(DZ rs i:Int)-c<18446744073709551616:=I;have f:AA (EF rs c i=decide (1<(DZ rs i:Int)-c)):=by
   show _=_;simp only[EF];congr 1;apply propext;omega
  go_enter func155,ntmps155;go_wp2_with fail;go_quiet (fail);go_wp2_with fail;go_ret;exact⟨by rw[f.z];rfl,_,rfl⟩
 have hd:decide ((c:Int)<DZ rs i)=false:=my;have f:AA (EF rs c i=false):=by
  show _=_;simp only[EF,Ai];omega
 go_enter func155,ntmps155;go_wp2_with fail;go_quiet (fail);go_wp2_with fail;go_ret;exact⟨by rw[f.z];rfl,_,rfl⟩
def WF(rs:zC):Prop:=(∀i,i<rs.length->DZ rs i<=DX rs i/\DX rs i<18446744073709551616)/\∀i j,i<j->j<rs.length->DX rs i+1<DZ rs j
variable{hi lo m1:Nat}{rs:zC}
def Jo{a:Nat}(h:WF rs)(hlh:lo<=hi)(h1:FD rs.length (D0 rs lo) m1)(h2:FD rs.length (EF rs hi) a):m1<=a:=by
 obtain⟨a1,b1,c1⟩:=h1;obtain⟨a2,b2,c2⟩:=h2;by_cases hlt:a<m1
 .have b:=b1 I;have e2:=c2 I;simp only[D0,Ai]at b;simp only[EF,Ah]at e2;have hw:=h.1 a I;by_cases he:a=m1-1
  .rw[<-he]at b;omega
  have:=h.2 a (m1-1) I I;have hw2:=h.1 (m1-1) I;omega
 omega
variable{b o:Nat}
def Nk(h:w.cell? (b,o)=some v):(w.setCell (b,o) v).heap[b]?=w.heap[b]?:=by
 unfold World.cell? at h;simp only[World.setCell,CJ];split at h
 .rename_i c e fz hb;simp only at hb;rw[hb];simp only[Option.isSome_none,BX,Be]at h;have:c.setIfInBounds o v=c:=by
   apply Cj;intro j;rw[BW];split
   .rename_i hj;subst hj;split
    .exact h.symm
    rename_i hn;simp[CW (DC hn)]at h
   rfl
  simp[this]
 cases h
theorem lu(w:World)(b o:Nat)(x y z:Value):(((w.setCell (b,o) x).setCell (b,o+1) y).setCell (b,o) z).heap[b]?=((w.setCell (b,o) z).setCell (b,o+1) y).heap[b]?:=by
 simp only[World.setCell,CJ,BC];cases w.heap[b]? with
 | none=>rfl
 | some ob =>
  cases ob with
  | cells c e fz =>
   simp only[Az,Option.isSome_none,BX,Be];congr 2;apply Cj;intro j;simp only[BW,DB];by_cases h1:o=j
   .subst h1;simp
   by_cases h2:o+1=j
   .subst h2;simp
   simp[h1,h2]
  | _=>rfl
structure Fv(w W:World)(b o S L H:Nat)(v:Value)(rs:zC)(fl most lo hi:Nat):Prop where
 cs:W.cell? S=some (.pointer (b,o))
 cl:W.cell? L=some (.int .u64 lo)
 ch:W.cell? H=some (.int .u64 hi)
 fz:W.frozen? ⟨L,0,none⟩=false
 set:El W b o v rs fl most
 mod:DW DY w W
 ns:w.heap.size<=S/\w.heap.size<=L/\w.heap.size<=H
 ne:S≠L/\H≠L
variable{H:Nat}{W:World}
def Fv.drewN{S L:Nat}{fl most:Nat}(h:Fv w W b o S L H v rs fl most lo hi)(k:Nat):Fv w (W.drewN k) b o S L H v rs fl most lo hi :=
 ⟨h.cs,h.cl,h.ch,h.fz,h.set.mod ((DW.refl DY W).drewN k) (λx=>x) (λ_ _ x=>x),h.mod.drewN k,h.ns,h.ne⟩
def Fv.alloc{S L:Nat}{fl most:Nat}(h:Fv w W b o S L H v rs fl most lo hi)(x:Obj):Fv w (W.alloc x) b o S L H v rs fl most lo hi:=by
 have a:=(DW.refl DY W).alloc x;exact⟨a.cell (λx=>x) h.cs,a.cell (λx=>x) h.cl,a.cell (λx=>x) h.ch,by rw[World.frozen?_of_block (w:=W) (a.block L (zm h.cl) (λx=>x))];exact h.fz,h.set.mod a (λx=>x) (λ_ _ x=>x),h.mod.alloc x,h.ns,h.ne⟩
def Fv.start(w:World)(b o:Nat)(v:Value)(rs:zC)(fl most lo hi t1 a c:Nat)(h:El w b o v rs fl most):Fv w (((w.alloc (.cells #[(b,o)] t1)).alloc (.cells #[lo] a)).alloc (.cells #[hi] c)) b o w.heap.size (w.heap.size+1) (w.heap.size+1+1) v rs fl most lo hi:=by
 have d:DW DY w (((w.alloc (.cells #[(b,o)] t1)).alloc (.cells #[lo] a)).alloc (.cells #[hi] c)):=(((DW.refl _ _).alloc _).alloc _).alloc _;have e1:(((w.alloc (.cells #[(b,o)] t1)).alloc (.cells #[lo] a)).alloc (.cells #[hi] c)).heap[w.heap.size]?=some (.cells #[(b,o)] t1 (0,0)):=by
  rw[Below.heap_alloc _ _ _ my,Below.heap_alloc _ _ _ mv];exact heap_alloc_new w _
 have e:(((w.alloc (.cells #[(b,o)] t1)).alloc (.cells #[lo] a)).alloc (.cells #[hi] c)).heap[w.heap.size+1]?=some (.cells #[lo] a (0,0)):=by
  rw[Below.heap_alloc _ _ _ mv];have:=heap_alloc_new (w.alloc (.cells #[(b,o)] t1)) (.cells #[lo] a);simpa using this
 have e3:(((w.alloc (.cells #[(b,o)] t1)).alloc (.cells #[lo] a)).alloc (.cells #[hi] c)).heap[w.heap.size+2]?=some (.cells #[hi] c (0,0)):=by
  have:=heap_alloc_new ((w.alloc (.cells #[(b,o)] t1)).alloc (.cells #[lo] a)) (.cells #[hi] c);simpa using this
 exact⟨za e1 rfl,za e rfl,za e3 rfl,zg e,h.mod d (λx=>x) (λ_ _ x=>x),d,⟨I,I,I⟩,⟨I,I⟩⟩
def Fv.raise{S L:Nat}{fl most:Nat}(h:Fv w W b o S L H v rs fl most lo hi)(hb:b<w.heap.size)(hv:∀g,v.ownBlock=some g->g<w.heap.size)(a:Nat):Fv w (W.setCell L (.int .u64 a)) b o S L H v rs fl most a hi:=by
 have c:DW (λk=>k=L) W (W.setCell L (.int .u64 a)):=(DW.refl (λk=>k=L) W).setCell (p:=L) (.inl rfl) _;obtain⟨n1,n2,n3⟩:=h.ns;exact⟨c.cell h.ne.1 h.cs,by rw[World.cell?_setCell_same _ _ _ h.cl],c.cell h.ne.2 h.ch,by rw[World.frozen?_setCell];exact h.fz,h.set.mod c (by show ¬b=L;omega) (λg hg=>by show ¬g=L;have:=hv g hg;omega),
  h.mod.setCell (.inr n2) _,h.ns,h.ne⟩
def Fv.newR{fl most R:Nat}(h:Fv w W b o w.heap.size (w.heap.size+1) (w.heap.size+1+1) v rs fl most lo hi)(hR:w.heap.size+1+1<R)(hb:b<R)(hg:∀g,v.ownBlock=some g->g<R)(x y:Value):Fv w ((W.setCell R x).setCell (R,1) y).drew b o w.heap.size (w.heap.size+1) (w.heap.size+1+1) v rs fl most lo hi:=by
 have a:=(((DW.refl (λk=>k=R) W).setCell (p:=R) (.inl rfl) x).setCell (p:=U R 1) (.inl rfl) y).drew;have n1:¬w.heap.size=R:=I;have d:¬w.heap.size+1=R:=I;have n3:¬w.heap.size+1+1=R:=I;have n4:¬b=R:=I;exact⟨a.cell n1 h.cs,a.cell d h.cl,a.cell n3 h.ch,by rw[World.frozen?_of_block (w:=W) (a.block (w.heap.size+1) (zm h.cl) d)];exact h.fz,h.set.mod a n4 (λg c=>by show ¬g=R;have:=hg g c;omega),
  ((h.mod.setCell (p:=R) (.inr (by show _<=R;omega)) x).setCell (p:=U R 1) (.inr (by show _<=R;omega)) y).drew,h.ns,h.ne⟩
def No{R:Nat}{d b:Value}(h:W.heap[R]?=some (.cells #[d,b] t (0,0)))(x y:Int)(a c:Nat)(hx:x=(a:Int))(hy:y=(c:Int)):(((W.setCell R (.int .u64 x)).setCell (R,1) (.int .u64 y)).drew).heap[R]?=some (.cells #[a,c] t (0,0)):=by
 subst hx hy;have h1:(W.setCell R (.int .u64 a)).heap[R]?=some (.cells #[a,b] t (0,0)):=by
  rw[setCell_eq_setRow W R 0 #[d,b] t (0,0) _ h];exact setRow_heap W R _ _ _ _ h
 show((W.setCell R (.int .u64 a)).setCell (U R 1) (.int .u64 c)).heap[R]?=_;rw[setCell_eq_setRow _ R 1 #[.int .u64 a,b] t (0,0) _ h1];exact setRow_heap _ R _ _ _ _ h1
def Xq(rs:zC)(fl most b o lo hi:Nat)(v:Value)(w:World)(h:El w b o v rs fl most)
  (hv:∀g,v.ownBlock=some g->g<w.heap.size) (i:hi<max lo fl) :
  Calls prog 88 #[(b,o),lo,hi] w λe w'=>e=.returned (.tuple #[])/\DW DY w w':=by
 have j:=zm h.cf;have a:=Fv.start w b o v rs fl most lo hi 114 43 43 h;obtain⟨p,d⟩:=nm ((((w.alloc (.cells #[(b,o)] 114)).alloc (.cells #[lo] 43)).alloc (.cells #[hi] 43)));rw[d]at a;have k:=zb d;clear d;obtain⟨m,q⟩:=nm (max lo fl);have c:=(a.raise j hv m).drewN 1;have l:AA ((if lo<fl then(fl:Int)else lo)=(m:Int)):=by
  show _=_;split<;>omega
 rw[q]at i;obtain⟨W1,f⟩:=nm ((p.setCell (U (w.heap.size+1) 0) (.int .u64 m)).drew);have n:=zb f;rw[show(p.setCell (U (w.heap.size+1) 0) (.int .u64 m)).drewN 1=W1 from f]at c;clear f q;have c1:=a.cs;have c2:=a.cl;have c3:=a.set.cf;have c4:=a.fz;go_enter func88,ntmps88;go_wp2_with fail;rw[k.z]
 go_region
 rw[l.z,n.z];clear c1 c2 c3 c4;have c2:=c.cl;have c3:=c.ch;have hlt:(hi:Int)<m:=I;go_wp2_with fail;refine bodyPost_ret (results_none rfl _ _ _) rfl ?_;exact⟨rfl,c.mod⟩
def EM(rs:zC)(m hi m1 a:Nat):Nat×Nat:=if m1<a then(min m (DZ rs m1),max hi (DX rs (a-1)))else(m,hi)
def EI(rs:zC)(m hi m1 a:Nat):zC:=rs.take m1++EM rs m hi m1 a::rs.drop a
def Xp(rs:zC)(fl most b o lo hi:Nat)(v:Value)(w:World)(e:Ending)(w':World):Prop :=
 ∃m1 m2 v' rs' fl',FD rs.length (D0 rs (max lo fl)) m1/\FD rs.length (EF rs hi) m2 /\
  (rs',fl')=(if most<(EI rs (max lo fl) hi m1 m2).length then((EI rs (max lo fl) hi m1 m2).drop 1,DX (EI rs (max lo fl) hi m1 m2) 0+1)else(EI rs (max lo fl) hi m1 m2,fl)) /\
  e=.returned (.tuple #[])/\w'.ownsRow 0 214 2 v' rs'.length (zq rs')/\w'.heap[b]?=((w.setCell (b,o) v').setCell (b,o+1) (.int .u64 fl')).heap[b]? /\
  DW (λk=>k=b\/v.ownBlock=some k) w w'/\EA w v v'
def Lm(rs:zC)(fl most b o lo hi:Nat)(v:Value)(w:World)(h:El w b o v rs fl most)(au:WF rs)(hlo:lo<18446744073709551616)(hhi:hi<18446744073709551616)(hfl:fl<18446744073709551616)
  (hv:∀g,v.ownBlock=some g->g<w.heap.size) (X:v.ownBlock≠some b) (av:max lo fl<=hi)
  (F:1<=most) (aQ:most<=9223372036854775807) (Y:∀m1 m2,FD rs.length (D0 rs (max lo fl)) m1->FD rs.length (EF rs hi) m2->WF (EI rs (max lo fl) hi m1 m2)) :
  Calls prog 88 #[(b,o),lo,hi] w λe w'=>Xp rs fl most b o lo hi v w e w':=by
 have aw:=zm h.cf;have ax:=h.len;have G:=Fv.start w b o v rs fl most lo hi 114 43 43 h;obtain⟨W0,ak⟩:=nm ((((w.alloc (.cells #[(b,o)] 114)).alloc (.cells #[lo] 43)).alloc (.cells #[hi] 43)));rw[ak]at G;have ay:=zb ak;clear ak;obtain⟨m,hm⟩:=nm (max lo fl);have aR:m<18446744073709551616:=I;have l:=(G.raise aw hv m).drewN 1;have az:AA ((if lo<fl then(fl:Int)else lo)=(m:Int)):=by
  show _=_;split<;>omega
 have HM:=zb hm;rw[hm]at av Y;obtain⟨W1,al⟩:=nm ((W0.setCell (U (w.heap.size+1) 0) (.int .u64 m)).drew);have aA:=zb al;rw[show(W0.setCell (U (w.heap.size+1) 0) (.int .u64 m)).drewN 1=W1 from al]at l;clear al hm;have c1:=G.cs;have c2:=G.cl;have c3:=G.set.cf;have c4:=G.fz;have aB:∀k0,Calls prog 152 #[[rs.length],.func (.func 154) #[] #[.pointer w.heap.size,.pointer (w.heap.size+1,0)]] (W1.drewN k0) λe w'=>∃m1,FD rs.length (D0 rs m) m1/\e=.returned (.int .i64 m1)/\∃k,w'=W1.drewN k:=λk0 =>
  (QK rs.length 154 #[.pointer w.heap.size,.pointer (U (w.heap.size+1) 0)] (D0 rs m) (W1.drewN k0) I kB (λi k am =>
   (dk rs i b o w.heap.size (w.heap.size+1) m v ((W1.drewN k0).drewN k) l.cs l.cl aR l.set.cl l.set.own am).mono λe w' ⟨he,k',hw⟩=>⟨he,k+k',by rw[hw,World.drewN_drewN]⟩)).mono
   λe w' ⟨m1,h1,he,k',hw⟩=>⟨m1,h1,he,k0+k',by rw[hw,World.drewN_drewN]⟩
 have aC:∀k0,Calls prog 152 #[[rs.length],.func (.func 155) #[] #[.pointer w.heap.size,.pointer (w.heap.size+1+1,0)]] (W1.drewN k0) λe w'=>∃m2,FD rs.length (EF rs hi) m2/\e=.returned (.int .i64 m2)/\Fv w w' b o w.heap.size (w.heap.size+1) (w.heap.size+1+1) v rs fl most m hi:=λk0 =>
  (QK rs.length 155 #[.pointer w.heap.size,.pointer (U (w.heap.size+1+1) 0)] (EF rs hi) (W1.drewN k0) I kA (λi k am =>
   (dj rs i b o w.heap.size (w.heap.size+1+1) hi v ((W1.drewN k0).drewN k) l.cs l.ch (λi hi=>nC (au.1 i hi)) l.set.cl l.set.own am).mono λe w' ⟨he,k',hw⟩=>⟨he,k+k',by rw[hw,World.drewN_drewN]⟩)).mono
   λe w' ⟨m1,h1,he,k',hw⟩=>⟨m1,h1,he,by rw[hw];exact(l.drewN k0).drewN k'⟩
 obtain⟨a,cap,n,n1,n2,n3⟩:=zk h.own;have aD:=zb aB;have aE:=zb aC;clear aB aC;go_enter func88,ntmps88;go_wp2_with fail;rw[ay.z]
 go_region
 rw[az.z,aA.z];clear c1 c2 c3 c4;have c1:=l.cs;have c2:=l.cl;have c3:=l.ch;have c5:=l.set.cl;rw[n]at c5;have hle:¬(hi:Int)<m:=I;have aF:=trivial;go_upto_if 37 with(first|(go_at_call 152;have _t:=aF;refine(aD.z 0).mono ?_;rintro e w' ⟨m1,ab,rfl,k1,rfl⟩;clear aF)|(go_at_call 152;refine(aE.z _).mono ?_;rintro e W2 ⟨m2,Q,rfl,H⟩;have d1:=H.cs;have d2:=H.cl;have d3:=H.ch;have S:=H.set.cl;rw[n]at S;clear c1 c2 c3 c5));obtain⟨R,hR⟩:=nm W2.heap.size;obtain⟨W3,ac⟩:=nm (W2.alloc (.cells #[m,hi] 214));have s:=ac ▸ H.alloc _;have A:W3.heap[R]?=some (.cells #[m,hi] 214 (0,0)):=by rw[<-ac,<-hR];exact heap_alloc_new W2 _
 have aS:w.heap.size+1+1<R:=by rw[<-hR];exact zm H.ch
 have aT:b<R:=I;have hRs:w.heap.size<R:=I;rw[hR,ac];clear hR ac d1 d2 d3 S H l G aD aE ay aA az
 go_cut [6,7] (λf t wx=>f=.int .i64 m1/\t=.int .i64 m2/\Fv w wx b o w.heap.size (w.heap.size+1) (w.heap.size+1+1) v rs fl most m hi /\
  wx.heap[R]?=some (.cells #[.int .u64 ((EM rs m hi m1 m2).1:Int),.int .u64 ((EM rs m hi m1 m2).2:Int)] 214 (0,0)))
 case first =>
  have d1:=s.cs;have d2:=s.cl;have d3:=s.ch;have S:=s.set.cl;rw[n]at S;have e1:=za (o:=0) A rfl;have e2:=za (o:=1) A rfl;have e3:=zg (o:=0) A;have e4:=zg (o:=1) A;by_cases aG:m1<m2
  .have ae:=Q.1;obtain⟨g,rfl⟩:=n3 I;have hgR:g<R:=by
    have:=hv g (by rw[n];rfl);omega
   have r1:=(Ir (n ▸ s.set.own) m1 I).1;have r2:=(Ir (n ▸ s.set.own) (m2-1) I).2;have i0:(m1:Int)<m2:=I;have i1:(m1:Int)<rs.length:=I;have i2:(m2:Int)-1<rs.length:=I;have i3:0<=(m2:Int)-1:=I;have i4:IntKind.i64.wrap ((m2:Int)-1)=(m2:Int)-1:=IntWalk.i64_in _ I;have i5:((m2:Int)-1).toNat=m2-1:=I;have i6:(1:Int)<=m2:=I;have q1:¬w.heap.size=R:=I;have q2:¬w.heap.size+1=R:=I;have q3:¬w.heap.size+1+1=R:=I;have q4:¬b=R:=I;have q5:¬g=R:=I;have Hr:AA (EM rs m hi m1 m2=(min m (DZ rs m1),max hi (DX rs (m2-1)))):=by
    show _=_;rw[EM,AQ aG]
   have aH:AA ((if DZ rs m1<m then(DZ rs m1:Int)else(m:Int))=((min m (DZ rs m1):Nat):Int)):=by
    show _=_;split<;>omega
   have aI:AA ((if hi<DX rs (m2-1)then(DX rs (m2-1):Int)else(hi:Int))=((max hi (DX rs (m2-1)):Nat):Int)):=by
    show _=_;split<;>omega
   go_wp2_with fail
   go_region_held3 (λw'=>w'.cell? w.heap.size=some (.pointer (b,o))/\w'.cell? (U (w.heap.size+1) 0)=some (.int .u64 m)/\w'.cell? (U (w.heap.size+1+1) 0)=some (.int .u64 hi)/\w'.cell? (b,o)=some (.slice g rs.length cap)/\w'.cell? (g,m1*2)=some (.int .u64 (DZ rs m1:Int))/\w'.cell? (g,(m2-1)*2+1)=some (.int .u64 (DX rs (m2-1):Int))) (first|exact⟨d1,d2,d3,S,r1,r2⟩|exact⟨MJ d1 q1,MJ d2 q2,MJ d3 q3,MJ S q4,MJ r1 q5,MJ r2 q5⟩|exact⟨MI d1 q1,MI d2 q2,MI d3 q3,MI S q4,MI r1 q5,MI r2 q5⟩) ((fail))
   all_goals
    rw[aH.z,aI.z];generalize hmn:min m (DZ rs m1)=mn at *;generalize hmx:max hi (DX rs (m2-1))=mx at *;have q:=s.newR aS aT (by rw[n];intro k hk;simp[Value.ownBlock]at hk;omega) (.int .u64 mn) (.int .u64 mx);have J:(((W3.setCell R (.int .u64 mn)).setCell (R,1) (.int .u64 mx)).drew).heap[R]?=some (.cells #[.int .u64 ((EM rs m hi m1 m2).1:Int),.int .u64 ((EM rs m hi m1 m2).2:Int)] 214 (0,0)):=by
     rw[Hr.z];exact No A mn mx mn mx rfl rfl
    clear d1 d2 d3 S e1 e2 e3 e4 r1 r2 A s hmn hmx aH aI;generalize ((W3.setCell R (.int .u64 mn)).setCell (U R 1) (.int .u64 mx)).drew=W4 at *;go_wp2_with fail;go_meet;exact⟨rfl,rfl,q,J⟩
  have Hr:AA (EM rs m hi m1 m2=(m,hi)):=by
   show _=_;rw[EM,AI aG]
  go_wp2_with fail;go_meet;exact⟨rfl,rfl,s,by rw[Hr.z];exact A⟩
 case rest =>
  obtain⟨rfl,rfl,q,J⟩:=hcut;clear A s n3;have ae:=Q.1;have aU:=Jo au av ab Q;obtain⟨rl,an⟩:=nm ((EM rs m hi m1 m2).1);obtain⟨rh,ao⟩:=nm ((EM rs m hi m1 m2).2);rw[an,ao]at J;have Hr:AA (EM rs m hi m1 m2=(rl,rh)):=by
   show _=_;rw[<-an,<-ao]
  clear an ao;have d1:=q.cs;have S:=q.set.cl;rw[n]at S;have e1:=za (o:=0) J rfl;have e2:=za (o:=1) J rfl;have l1:=zm q.cs;have l2:b<wc.heap.size:=I;have l3:=(AH.1 J).1;have q1:¬w.heap.size=wc.heap.size:=I;have q2:¬b=wc.heap.size:=I;have q3:¬R=wc.heap.size:=I;have q4:¬w.heap.size=b:=I;have q5:¬R=b:=I;have M:=q.set.own;rw[n]at M;have aJ:(Value.slice a rs.length cap).ownBlock≠some wc.heap.size:=by
   intro hx;have:=M.lt _ hx;omega
  have p1:some w.heap.size≠(Value.slice a rs.length cap).ownBlock:=by
   intro hx;have:=hv _ (n ▸ hx.symm);omega
  have p2:some b≠(Value.slice a rs.length cap).ownBlock:=λhx=>X (n ▸ hx.symm)
  have p3:some R≠(Value.slice a rs.length cap).ownBlock:=by
   intro hx;have:=hv _ (n ▸ hx.symm);omega
  have B:DW DY wc (wc.alloc (.cells #[rl,rh] 214)).drew:=((DW.refl DY wc).alloc _).drew;have T:=And.intro (B.cell (λx=>x) d1) (And.intro (B.cell (λx=>x) S) (And.intro (B.cell (λx=>x) e1) (B.cell (λx=>x) e2)));have af:∀w4,World.grownBy (wc.alloc (.cells #[rl,rh] 214)).drew w4 (Value.slice a rs.length cap).ownBlock->w4.frozen? ⟨b,o,none⟩=false:=by
   intro w4 y;rw[World.frozen?_of_block (w:=(wc.alloc (.cells #[rl,rh] 214)).drew) (y.block b (A7 l2 B.size) p2)];exact(q.set.mod B (λx=>x) (λ_ _ x=>x)).fz o
  go_upto_region 8 with fail;refine zo 12 (λw'=>w'.cell? w.heap.size=some (.pointer (b,o))/\w'.cell? (b,o)=some (.slice a rs.length cap)/\w'.cell? R=some (.int .u64 rl)/\w'.cell? (U R 1)=some (.int .u64 rh)) ⟨d1,S,e1,e2⟩ ?_;refine GI 0 ?_;iterate 8
   refine GV rfl ?_;try simp only[PS]
  refine zE 8 rfl (λK C=>?_);go_simp;refine C.z _ _ T ?_;clear C K;try simp only[PS]
  refine zE 9 rfl (λK C=>?_);go_simp;refine(kC (.slice a rs.length cap) rs m1 m2 (rl,rh) wc.heap.size _ aU ae ax ?_ ?_ aJ).mono ?_
  .exact(((DW.refl DY wc).alloc _).drew).owns M (λ_ _ x=>x)
  .exact heap_alloc_new wc _
  rintro e w4 ⟨v',rfl,ho,y,ad⟩;have f1:=y.cell T.1 p1;have f2:=y.cell T.2.1 p2;have f3:=y.cell T.2.2.1 p3;have f4:=y.cell T.2.2.2 p3;have f5:=af _ y;refine C.z _ _ ⟨f1,f2,f3,f4⟩ ?_;clear C K;try simp only[PS]
  refine GI 10 ?_;iterate 2
   refine GV rfl ?_;try simp only[PS]
  obtain⟨c,N⟩:=nm (rs.take m1++(rl,rh)::rs.drop m2);rw[N]at ho;have ap:AA (EI rs m hi m1 m2=c):=by
   show _=_;rw[EI,Hr.z,N]
  have aK:WF c:=by rw[<-ap.z];exact Y m1 m2 ab Q
  have hl5:c.length<=rs.length+1:=by
   rw[<-N];simp;omega
  clear N;have O:(v':Value).ownBlock≠some b:=by
   intro hx;rcases ad b hx with h1|h1
   .exact p2 h1.symm
   simp at h1;omega
  obtain⟨a',d,rfl,k1,k2,k3⟩:=zk ho;have r:DW (λk=>v.ownBlock=some k) wc w4:=(B.mono (λ_ x=>x.elim)).grown y (λk hk=>.inl (by rw[n,hk]));have Z:EA w v (.slice a' c.length d):=λk hk=>by
   rcases ad k hk with h1|h1
   .exact .inl (by rw[n];exact h1)
   refine .inr ?_;have:=q.mod.size;simp at h1;omega
  have aL:∀k,(Value.slice a' c.length d).ownBlock=some k->v.ownBlock=some k\/wc.heap.size<=k:=λk hk=>by
   rcases ad k hk with h1|h1
   .exact .inl (by rw[n];exact h1)
   exact .inr (by simp at h1;omega)
  obtain⟨V,u⟩:=nm (w4.setCell (b,o) (.slice a' c.length d));have g1:V.cell? w.heap.size=some (.pointer (b,o)):=by rw[<-u];exact Pm f1 q4
  have g2:V.cell? (b,o)=some (.slice a' c.length d):=by rw[<-u,World.cell?_setCell_same _ _ _ f2]
  have g3:V.cell? (b,o+1)=some (.int .u64 fl):=by
   rw[<-u,World.cell?_setCell_other _ _ _ _ mv];exact r.cell X q.set.cf
  have g4:V.cell? (b,o+2)=some (.int .i64 most):=by
   rw[<-u,World.cell?_setCell_other _ _ _ _ mv];exact r.cell X q.set.cm
  have g5:∀j,V.frozen? ⟨b,j,none⟩=false:=by
   intro j;rw[<-u,World.frozen?_setCell,World.frozen?_of_block (w:=wc) (r.block b l2 X)];exact q.set.fz j
  have P:V.ownsRow 0 214 2 (.slice a' c.length d) c.length (zq c):=by
   rw[<-u];exact((DW.refl (λk=>k=b) w4).setCell (p:=(b,o)) (.inl rfl) _).owns ho (λg hg x=>O (hg.trans (A8 some x)))
  have aa:DW (λk=>k=b\/v.ownBlock=some k) w V:=by
   rw[<-u];exact((q.mod.mono (λ_ x=>x.elim)).then (S':=λk=>v.ownBlock=some k) r (λi hi=>.inl (.inr hi))).setCell (p:=(b,o)) (.inl (.inl rfl)) _
  have L:V.heap[b]?=(w.setCell (b,o) (.slice a' c.length d)).heap[b]?:=by
   rw[<-u];exact Ni ((r.block b l2 X).trans (q.mod.block b aw (λx=>x))) _ _
  refine EX rfl (λK C=>?_);go_simp;refine C.z _ _ ?_;clear C K;try simp only[PS]
  refine zr ?_;try rw[u]
  clear u r f1 f2 f3 f4 f5 af T B d1 S e1 e2 J q y ad M aJ p1 p2 p3;have hn5:(c.length:Int)<=1099511627777:=I;by_cases F:most<c.length
  .have hd:(most:Int)<c.length:=I;have k0:2<=c.length:=I;obtain⟨g,rfl⟩:=k3 I;have r1:V.cell? (g,1)=some (.int .u64 (DX c 0:Int)):=by simpa using(Ir P 0 I).2
   have hb1:DX c 0+1<18446744073709551616:=by
    have h1:=aK.2 0 1 I I;have h2:=aK.1 1 I;omega
   have hz:(0:Int)<c.length:=I;have hz':0<c.length:=I;have aW:=wu ((DX c 0:Int)+1) I;go_wp2_with fail;go_quiet (fail);go_wp2_with fail;refine zo 11 (λw'=>w'.cell? w.heap.size=some (.pointer (b,o))/\w'.cell? (b,o)=some (.slice g c.length d)/\w'.cell? (U g 1)=some (.int .u64 (DX c 0:Int))) ⟨g1,g2,r1⟩ ?_;refine GI 0 ?_;iterate 11
    refine GV rfl ?_;try simp only[PS]
   have aV:=g5 (o+1);refine EX rfl (λK C=>?_);go_simp;refine C.z _ _ ?_;clear C K;try simp only[PS]
   refine zr ?_;obtain⟨W6,W⟩:=nm ((V.drewN (nq+1)).setCell (b,o+1) (.int .u64 ((DX c 0:Int)+1)));have aq:DW (λk=>k=b) V W6:=by
    rw[<-W];exact((DW.refl (λk=>k=b) V).drewN (nq+1)).setCell (p:=(b,o+1)) (.inl rfl) _
   have s1:=aq.cell q4 g1;have s2:W6.cell? (b,o)=some (.slice g c.length d):=by
    rw[<-W,World.cell?_setCell_other _ _ _ _ mv];exact g2
   have s3:W6.frozen? ⟨b,o,none⟩=false:=by
    rw[<-W,World.frozen?_setCell];exact g5 o
   have aM:=aq.owns P (λk hk x=>O (hk.trans (A8 some x)));have ah:=aa.then aq (λi hi=>.inl (.inl hi));have ar:W6.heap[b]?=((w.setCell (b,o) (.slice g c.length d)).setCell (b,o+1) (.int .u64 ((DX c 0:Int)+1))).heap[b]?:=by
    rw[<-W];exact Ni (w':=V.drewN (nq+1)) L _ _
   rw[W];clear W g1 g2 g3 g4 aV r1 L aa P;go_wp2_with fail;refine zo 8 (λw'=>w'.cell? w.heap.size=some (.pointer (b,o))/\w'.cell? (b,o)=some (.slice g c.length d)) ⟨s1,s2⟩ ?_;refine GI 0 ?_;iterate 5
    refine GV rfl ?_;try simp only[PS]
   refine zE 5 rfl (λK C=>?_);go_simp;refine(io (.slice g c.length d) c _ k0 ?_).mono ?_
   .exact((DW.refl DY W6).drew).owns aM (λ_ _ x=>x)
   rintro e w7 ⟨v7,rfl,aN,D,ai⟩;have p2:some b≠(Value.slice g c.length d).ownBlock:=λhx=>O hx.symm
   have p1:some w.heap.size≠(Value.slice g c.length d).ownBlock:=by
    intro hx;rcases aL _ hx.symm with h1|h1
    .have:=hv _ h1;omega
    omega
   have f1:=D.cell (w:=W6.drew) s1 p1;have f2:=D.cell (w:=W6.drew) s2 p2;have aj:=zm s2;have f5:w7.frozen? ⟨b,o,none⟩=false:=by
    rw[World.frozen?_of_block (w:=W6.drew) (D.block b aj p2)];exact s3
   refine C.z _ _ ⟨f1,f2⟩ ?_;clear C K;try simp only[PS]
   refine GI 6 ?_;iterate 2
    refine GV rfl ?_;try simp only[PS]
   obtain⟨a7,E,rfl,k71,k72,k73⟩:=zk aN;refine EX rfl (λK C=>?_);go_simp;refine C.z _ _ ?_;clear C K;try simp only[PS]
   refine zr ?_;have aO:(Value.slice a7 (c.drop 1).length E).ownBlock≠some b:=by
    intro hx;rcases ai b hx with h1|h1
    .exact O h1
    have h2:W6.heap.size<=b:=h1;omega
   have aP:=ah.drew.grown D (λk hk=>(Z k hk).imp .inr id);go_wp2_with fail;refine bodyPost_ret (results_none rfl _ _ _) rfl ?_;refine⟨m1,m2,.slice a7 (c.drop 1).length E,c.drop 1,DX c 0+1,by rw[HM.z];exact ab,Q,?_,rfl,?_,?_,?_,?_⟩
   .rw[HM.z,ap.z,AQ F]
   .have:=((DW.refl (λk=>k=b) w7).setCell (p:=(b,o)) (.inl rfl) (.slice a7 (c.drop 1).length E)).owns aN (λk hk x=>aO (hk.trans (A8 some x)));simpa using this
   .have h1:w7.heap[b]?=W6.heap[b]?:=D.block b aj p2;have:=(Ni (h1.trans ar) o (.slice a7 (c.drop 1).length E)).trans (lu _ _ _ _ _ _);simpa using this
   .have:=aP.setCell (p:=(b,o)) (.inl (.inl rfl)) (.slice a7 (c.drop 1).length E);simpa using this
   intro k hk;rcases ai k hk with h1|h1
   .exact Z k h1
   have h2:W6.heap.size<=k:=h1;exact .inr (AJ ah.size h2)
  have hd:¬(most:Int)<c.length:=I;go_wp2_with fail;go_quiet (fail);go_wp2_with fail;refine bodyPost_ret (results_none rfl _ _ _) rfl ?_;refine⟨m1,m2,.slice a' c.length d,c,fl,by rw[HM.z];exact ab,Q,?_,rfl,P,?_,aa.drewN _,Z⟩
  .rw[HM.z,ap.z,AI F]
  exact(Nk g3).symm.trans (Ni L _ _)
structure Dl where
 rs:zC
 fl:Nat
 most:Nat
structure WS where
 b:nG
 sent:Dl
 came:Dl
 high:Nat
 finished:Bool
 ending:Bool
 cut:Bool
 keep:Nat
 final:Nat
 telling:Bool
 credit:Nat
structure RS where
 b:nG
 came:Dl
 high:Nat
 fin:Nat
 ended:Bool
 cut:Bool
 keep:Nat
 read:Nat
 state:Nat
 grant:Nat
 anew:Bool
structure Dc where
 n:Nat
 at_:Nat
 fs:List Da
structure CS where
 mtu:Nat
 window:Nat
 total:Nat
 now:Nat
 closed:Nat
 said:Bool
 next:Nat
 got:Dl
 answer:Bool
 ws:Nat->WS
 rs:Nat->RS
 credit:Nat
 grant:Nat
 anew:Bool
 flight:List Dc
 largest:Nat
 waits:List Da
 lastID:Nat
 anyID:Bool
 seen:List (Nat×Nat)
 most:Nat
 came:List (Nat×nG)
structure CV where
 g:Nat
 gv:Value
 wb:Nat->Value
 ws:Nat->Value
 wc:Nat->Value
 rb:Nat->Value
 rc:Nat->Value
 ft:Value
 fts:List Value
 wt:Value
 sn:Nat
 cm:Value
def zf{α : Type}(f:Nat -> α)(k:Nat)(x : α):Nat -> α := λj=>if j=k then x else f j
def ze{α : Type}(f:Nat -> α)(k:Nat)(x : α):zf f k x k=x:=by simp[zf]
variable{j k:Nat}
def zd{α : Type}(f:Nat -> α)(x : α)(h:j≠k):zf f k x j=f j:=by simp[zf,h]
def Fy{α : Type}(f:Nat -> α)(k:Nat):zf f k (f k)=f:=by
 funext j;by_cases h:j=k
 .rw[h,ze]
 rw[zd _ _ h]
def Fx(x:WS)(bv sv cv:Value):List Value :=
 [bv,sv,.int .u64 x.sent.fl,.int .i64 x.sent.most,cv,.int .u64 x.came.fl,.int .i64 x.came.most,.int .u64 x.high,.bool x.finished,.bool x.ending,.bool x.cut,.int .u64 x.keep,.int .u64 x.final,.bool x.telling,.int .u64 x.credit]
def Gp(x:RS)(bv cv:Value):List Value :=
 [bv,cv,.int .u64 x.came.fl,.int .i64 x.came.most,.int .u64 x.high,.int .u64 x.fin,.bool x.ended,.bool x.cut,.int .u64 x.keep,.int .u64 x.read,.int .i64 x.state,.int .u64 x.grant,.bool x.anew]
def Fz(c:CS)(V:CV):List Value :=
 [.int .i64 c.mtu,.int .i64 c.window,.int .i64 c.total,.int .u64 c.now,.int .i64 c.closed,.bool c.said,.int .u64 c.next,.pointer V.g,.bool c.answer]
def IQ(c:CS)(V:CV):List Value :=
 [.int .u64 c.credit,.int .u64 c.grant,.bool c.anew,V.ft,.int .u64 c.largest,V.wt,.int .u64 c.lastID,.bool c.anyID,.map (some V.sn),.int .u64 c.most,V.cm]
def IL(ws:Nat->WS)(b s c:Nat->Value):List Value:=(List.range 8).flatMap λk=>Fx (ws k) (b k) (s k) (c k)
def If(rs:Nat->RS)(b c:Nat->Value):List Value:=(List.range 8).flatMap λk=>Gp (rs k) (b k) (c k)
def zw(c:CS)(V:CV):List Value:=Fz c V++(IL c.ws V.wb V.ws V.wc++(If c.rs V.rb V.rc++IQ c V))
section
variable {α : Type}
theorem Pj(f:Nat->List α)(n:Nat)(hl:∀k,(f k).length=n)(m:Nat):((List.range m).flatMap f).length=n*m:=by
 induction m with
 | zero=>simp
 | succ m ih=>rw[Bp,CP,AG,ih];simp[hl,Nat.mul_succ]
theorem Tq(f:Nat->List α)(n:Nat)(hl:∀k,(f k).length=n)(m:Nat)(hk:k<m)(hj:j<n):((List.range m).flatMap f)[n*k+j]?=(f k)[j]?:=by
 induction m with
 | zero=>omega
 | succ m ih =>
  rw[Bp,CP];have a:=Pj f n hl m;by_cases h:k<m
  .have:n*k+j<n*m:=by
    have:n*(k+1)<=n*m:=C2 n h;rw[Nat.mul_succ]at this;omega
   rw[Ao I];exact ih h
  have:k=m:=I;subst this;rw[Ab I,a,Ck];simp
theorem Tp(f g:Nat->List α)(n:Nat)(hl:∀k,(f k).length=n)(m:Nat)(v : α)(hk:k<m)(hj:j<n)(hg:∀i,i<m->g i=if i=k then(f k).set j v else f i):((List.range m).flatMap f).set (n*k+j) v=(List.range m).flatMap g:=by
 induction m with
 | zero=>omega
 | succ m ih =>
  rw[Bp,CP,CP];have a:=Pj f n hl m;by_cases h:k<m
  .have:n*k+j<n*m:=by
    have:n*(k+1)<=n*m:=C2 n h;rw[Nat.mul_succ]at this;omega
   rw[Cb _ _ I,ih h (λi hi=>hg i I)];have:=hg m I;rw[AI I]at this;simp[this]
  have:k=m:=I;subst this;rw[Bj _ _ I,a,Ck];have e:(List.range k).flatMap f=(List.range k).flatMap g:=by
   have:∀q,q<=k->(List.range q).flatMap f=(List.range q).flatMap g:=by
    intro q hq
    induction q with
    | zero=>rfl
    | succ q ih2 =>
     rw[Bp,CP,CP,ih2 I];have:=hg q I;rw[AI I]at this;simp[this]
   exact this k (AF k)
  have:=hg k I;rw[AQ rfl]at this;rw[e];simp[this]
end
def IR(ws:Nat->WS)(b s c:Nat->Value):(IL ws b s c).length=120:=Pj _ 15 (λ_=>rfl) 8
def K4(rs:Nat->RS)(b c:Nat->Value):(If rs b c).length=104:=Pj _ 13 (λ_=>rfl) 8
def Xo(c:CS)(V:CV)(h:(Fz c V)[j]?=some v):(zw c V)[j]?=some v:=by
 unfold zw;rw[Ao (AN.1 h).1];exact h
def MR(c:CS)(V:CV)(hk:k<8)(h:(Fx (c.ws k) (V.wb k) (V.ws k) (V.wc k))[j]?=some v):(zw c V)[9+15*k+j]?=some v:=by
 have hj:j<15:=(AN.1 h).1;unfold zw;have hl:(Fz c V).length=9:=rfl;rw[Ab I,hl,(I:9+15*k+j-9=15*k+j),Ao (by rw[IR];omega)];unfold IL;rw[Tq _ 15 (λ_=>rfl) 8 hk hj];exact h
def Lg(c:CS)(V:CV)(hk:k<8)(h:(Gp (c.rs k) (V.rb k) (V.rc k))[j]?=some v):(zw c V)[129+13*k+j]?=some v:=by
 have hj:j<13:=(AN.1 h).1;unfold zw;have hl:(Fz c V).length=9:=rfl;rw[Ab I,hl,Ab (by rw[IR];omega),IR,(I:129+13*k+j-9-120=13*k+j),Ao (by rw[K4];omega)];unfold If;rw[Tq _ 13 (λ_=>rfl) 8 hk hj];exact h
def Lf(c:CS)(V:CV)(h:(IQ c V)[j]?=some v):(zw c V)[233+j]?=some v:=by
 unfold zw;have hl:(Fz c V).length=9:=rfl;rw[Ab I,hl,Ab (by rw[IR];omega),IR,Ab (by rw[K4];omega),K4,(I:233+j-9-120-104=j)];exact h
def Kx(c c':CS)(V a:CV)(v:Value)(hj:j<9)(h:Fz c' a=(Fz c V).set j v)(hw:IL c'.ws a.wb a.ws a.wc=IL c.ws V.wb V.ws V.wc)(hr:If c'.rs a.rb a.rc=If c.rs V.rb V.rc)(ht:IQ c' a=IQ c V):(zw c V).set j v=zw c' a:=by
 unfold zw;rw[Cb _ _ (show j<(Fz c V).length from hj),h,hw,hr,ht]
def Ht(c c':CS)(V a:CV)(v:Value)(hk:k<8)(hj:j<15)(hw:∀i,i<8->Fx (c'.ws i) (a.wb i) (a.ws i) (a.wc i)=if i=k then(Fx (c.ws k) (V.wb k) (V.ws k) (V.wc k)).set j v else Fx (c.ws i) (V.wb i) (V.ws i) (V.wc i))
  (h:Fz c' a=Fz c V) (hr:If c'.rs a.rb a.rc=If c.rs V.rb V.rc) (ht:IQ c' a=IQ c V):(zw c V).set (9+15*k+j) v=zw c' a:=by
 unfold zw;have hl:(Fz c V).length=9:=rfl;rw[Bj _ _ I,hl,(I:9+15*k+j-9=15*k+j),Cb _ _ (by rw[IR];omega)];unfold IL;rw[Tp _ _ 15 (λ_=>rfl) 8 v hk hj hw,h,hr,ht]
def Ky(c c':CS)(V a:CV)(v:Value)(hk:k<8)(hj:j<13)(hr:∀i,i<8->Gp (c'.rs i) (a.rb i) (a.rc i)=if i=k then(Gp (c.rs k) (V.rb k) (V.rc k)).set j v else Gp (c.rs i) (V.rb i) (V.rc i))
  (h:Fz c' a=Fz c V) (hw:IL c'.ws a.wb a.ws a.wc=IL c.ws V.wb V.ws V.wc) (ht:IQ c' a=IQ c V):(zw c V).set (129+13*k+j) v=zw c' a:=by
 unfold zw;have hl:(Fz c V).length=9:=rfl;rw[Bj _ _ I,hl,Bj _ _ (by rw[IR];omega),IR,(I:129+13*k+j-9-120=13*k+j),Cb _ _ (by rw[K4];omega)];unfold If;rw[Tp _ _ 13 (λ_=>rfl) 8 v hk hj hr,h,hw,ht]
def G8(c c':CS)(V a:CV)(v:Value)(h:Fz c' a=Fz c V)(hw:IL c'.ws a.wb a.ws a.wc=IL c.ws V.wb V.ws V.wc)(hr:If c'.rs a.rb a.rc=If c.rs V.rb V.rc)(ht:IQ c' a=(IQ c V).set j v):(zw c V).set (233+j) v=zw c' a:=by
 unfold zw;have hl:(Fz c V).length=9:=rfl;rw[Bj _ _ I,hl,Bj _ _ (by rw[IR];omega),IR,Bj _ _ (by rw[K4];omega),K4,(I:233+j-9-120-104=j),h,hw,hr,ht]
def Er(w:World)(e size:Nat)(v:Value)(n:Nat)(xs:nJ):Prop :=
 xs.length=n*size/\(v=.slice none 0 0/\n=0\/∃g o cap cur,v=.slice (some ⟨g,o*size,none⟩) n cap/\w.heap[g]?=some (.cells cur e (0,0))/\n<=cap/\cap<=maxLen/\(o+cap)*size<=cur.size/\(cur.toList.drop (o*size)).take (n*size)=xs)
def Value.blk:Value->Option Nat
 | .slice (some a) _ _=>some a.block
 | _=>none
variable{S:Nat->Prop}{w':World}
def Er.mod{size n:Nat}(h:Er w e size v n xs)(m:DW S w w')(hs:∀g,Value.blk v=some g->¬S g):Er w' e size v n xs:=by
 refine⟨h.1,?_⟩;rcases h.2 with h|⟨g,o,cap,a,rfl,hg,h1⟩
 .exact .inl h
 exact .inr ⟨g,o,cap,a,rfl,m.obj (hs g rfl) hg,h1⟩
def Er.nil(w:World)(e size:Nat):Er w e size (.slice none 0 0) 0 []:=⟨mv,.inl ⟨rfl,rfl⟩⟩
def Gt(tag:nH)(t:Nat×Nat)(w:World)(v:Value)(fs:List Da):Prop :=
 ∃l:List (Da×Value),l.map (·.1)=fs/\IM w v l/\(∀g,Value.blk v=some g->tag g=t)/\∀fr∈l,∀g,Value.blk fr.2=some g->tag g=t
def Hq(h:∀g,Value.blk v=some g->¬S g):Dp S v:=λg o n c e=>h g (by rw[e];rfl)
variable{fs:List Da}{tag tag':nH}
def Gt.mod{t:Nat×Nat}(h:Gt tag t w v fs)(m:DW S w w')(b:∀g,S g->tag g≠t)(c:∀g,tag g=t->tag' g=t):Gt tag' t w' v fs:=by
 obtain⟨l,h1,h2,h3,h4⟩:=h;exact⟨l,h1,h2.mod m (Hq λg hg x=>b g x (h3 g hg)) (λfr a=>Hq λg hg x=>b g x (h4 fr a g hg)),λg hg=>c g (h3 g hg),λfr a g hg=>c g (h4 fr a g hg)⟩
def Fw(w:World)(b:Nat)(l:List (Nat×Nat)):Prop :=
 ∃D,w.ownsMap (H:=Unit) prog 43 (plainElem prog 43) b l.length D/\Maps.size D=l.length/\∀x:Nat,x<18446744073709551616->Maps.has D (.int .u64 x)=l.any (λp=>p.1==x)
def Fw.mod{l:List (Nat×Nat)}(h:Fw w b l)(m:DW S w w')(hs:¬S b):Fw w' b l:=by
 obtain⟨D,⟨es,a,h1,h2⟩,h3⟩:=h;exact⟨D,⟨es,a,m.obj hs h1,h2⟩,h3⟩
def zy(l:List (Dc×Value)):List Value:=l.flatMap λp=>[.int .u64 p.1.n,.int .u64 p.1.at_,p.2]
def FB(l:List (Nat×nG)):List Value:=l.flatMap λp=>[.int .u64 p.1,.string (zu p.2)]
def zt(l:List Da):List Value:=l.flatMap λf=>(zl f (.slice none 0 0)).toList
structure zi(tag:nH)(i b:Nat)(c:CS)(V:CV)(W:World):Prop where
 obj:W.heap[b]?=some (.cells (zw c V).toArray 127 (0,0))
 tb:tag b=(i,1)
 got:El W V.g 0 V.gv c.got.rs c.got.fl c.got.most
 tg:tag V.g=(i,2)
 tgv:∀g,V.gv.ownBlock=some g->tag g=(i,3)
 wb:∀k,k<8->OB W (V.wb k) (c.ws k).b
 ws:∀k,k<8->W.ownsRow 0 214 2 (V.ws k) (c.ws k).sent.rs.length (zq (c.ws k).sent.rs)
 wc:∀k,k<8->W.ownsRow 0 214 2 (V.wc k) (c.ws k).came.rs.length (zq (c.ws k).came.rs)
 rb:∀k,k<8->OB W (V.rb k) (c.rs k).b
 rc:∀k,k<8->W.ownsRow 0 214 2 (V.rc k) (c.rs k).came.rs.length (zq (c.rs k).came.rs)
 twb:∀k,k<8->∀g,(V.wb k).ownBlock=some g->tag g=(i,10+k)
 tws:∀k,k<8->∀g,(V.ws k).ownBlock=some g->tag g=(i,20+k)
 twc:∀k,k<8->∀g,(V.wc k).ownBlock=some g->tag g=(i,30+k)
 trb:∀k,k<8->∀g,(V.rb k).ownBlock=some g->tag g=(i,40+k)
 trc:∀k,k<8->∀g,(V.rc k).ownBlock=some g->tag g=(i,50+k)
 ft:W.ownsRow 0 173 3 V.ft c.flight.length (zy (c.flight.zip V.fts))
 fl:V.fts.length=c.flight.length
 fs:∀p∈c.flight.zip V.fts,Gt tag (i,5) W p.2 p.1.fs
 tft:∀g,V.ft.ownBlock=some g->tag g=(i,4)
 wt:Er W 65 10 V.wt c.waits.length (zt c.waits)
 twt:∀g,Value.blk V.wt=some g->tag g=(i,6)
 sn:Fw W V.sn c.seen
 tsn:tag V.sn=(i,7)
 cm:W.ownsRow 0 154 2 V.cm c.came.length (FB c.came)
 tcm:∀g,V.cm.ownBlock=some g->tag g=(i,8)
variable{V:CV}{W':World}{c:CS}{i:Nat}
def zi.mod(h:zi tag i b c V W)(m:DW S W W')(hS:∀g,S g->(tag g).1≠i)(ht:∀g,(tag g).1=i->tag' g=tag g):zi tag' i b c V W':=by
 have q:∀{g:Nat} {t:Nat×Nat},tag g=t->t.1=i->¬S g:=λhg hi x=>hS _ x (by rw[hg,hi])
 have e:∀{g:Nat} {t:Nat×Nat},tag g=t->t.1=i->tag' g=t:=λhg hi=>(ht _ (by rw[hg,hi])).trans hg
 exact
  {obj:=m.obj (q h.tb rfl) h.obj
   tb:=e h.tb rfl
   got:=h.got.mod m (q h.tg rfl) (λg hg=>q (h.tgv g hg) rfl)
   tg:=e h.tg rfl
   tgv:=λg hg=>e (h.tgv g hg) rfl
   wb:=λk hk=>m.owns (h.wb k hk) (λg hg=>q (h.twb k hk g hg) rfl)
   ws:=λk hk=>m.owns (h.ws k hk) (λg hg=>q (h.tws k hk g hg) rfl)
   wc:=λk hk=>m.owns (h.wc k hk) (λg hg=>q (h.twc k hk g hg) rfl)
   rb:=λk hk=>m.owns (h.rb k hk) (λg hg=>q (h.trb k hk g hg) rfl)
   rc:=λk hk=>m.owns (h.rc k hk) (λg hg=>q (h.trc k hk g hg) rfl)
   twb:=λk hk g hg=>e (h.twb k hk g hg) rfl
   tws:=λk hk g hg=>e (h.tws k hk g hg) rfl
   twc:=λk hk g hg=>e (h.twc k hk g hg) rfl
   trb:=λk hk g hg=>e (h.trb k hk g hg) rfl
   trc:=λk hk g hg=>e (h.trc k hk g hg) rfl
   ft:=m.owns h.ft (λg hg=>q (h.tft g hg) rfl)
   fl:=h.fl
   fs:=λp hp=>(h.fs p hp).mod m (λg hg x=>q x rfl hg) (λg hg=>e hg rfl)
   tft:=λg hg=>e (h.tft g hg) rfl
   wt:=h.wt.mod m (λg hg=>q (h.twt g hg) rfl)
   twt:=λg hg=>e (h.twt g hg) rfl
   sn:=h.sn.mod m (q h.tsn rfl)
   tsn:=e h.tsn rfl
   cm:=m.owns h.cm (λg hg=>q (h.tcm g hg) rfl)
   tcm:=λg hg=>e (h.tcm g hg) rfl }
def zi.mod0(h:zi tag i b c V W)(m:DW DY W W'):zi tag i b c V W':=h.mod m (λ_ x=>x.elim) (λ_ _=>rfl)
def Dv(tag:nH)(W:World):Prop:=∀g,W.heap.size<=g->tag g=(0,0)
def Dv.mod(h:Dv tag W)(m:DW S W W'):Dv tag W':=λg hg=>h g (AJ m.size hg)
structure Dn(i:Nat)(tag tag':nH)(W W':World):Prop where
 old:∀g,g<W.heap.size->tag' g=tag g
 new:∀g,W.heap.size<=g->(tag' g).1=i\/tag' g=(0,0)
 z:Dv tag' W'
def Dn.same(h:Dv tag W)(m:DW S W W'):Dn i tag tag W W':=⟨λ_ _=>rfl,λg hg=>.inr (h g hg),h.mod m⟩
variable{W'':World}
def Dn.trans{a:nH}(h:Dn i tag tag' W W')(k:Dn i tag' a W' W'')(hs:W.heap.size<=W'.heap.size):Dn i tag a W W'':=by
 refine⟨λg hg=>(k.old g I).trans (h.old g hg),λg hg=>?_,k.z⟩;by_cases q:g<W'.heap.size
 .rw[k.old g q];exact h.new g hg
 exact k.new g I
def zQ(tag:nH)(W W':World)(t:Nat×Nat):Nat->Nat×Nat:=λg=>if g<W.heap.size then tag g else if g<W'.heap.size then t else(0,0)
def zD{t:Nat×Nat}(h:g<W.heap.size):zQ tag W W' t g=tag g:=by simp[zQ,h]
def Gs{t:Nat×Nat}(h:W.heap.size<=g)(h':g<W'.heap.size):zQ tag W W' t g=t:=by
 simp only[zQ,(I:¬g<W.heap.size),AI,As,AQ h']
def Jt{r:Nat}(hs:W.heap.size<=W'.heap.size):Dn i tag (zQ tag W W' (i,r)) W W':=by
 refine⟨λg hg=>zD hg,λg hg=>?_,λg hg=>?_⟩
 .by_cases q:g<W'.heap.size
  .exact .inl (by rw[Gs hg q])
  exact .inr (by simp only[zQ,(I:¬g<W.heap.size),q,AI,As])
 simp only[zQ,(I:¬g<W.heap.size),(I:¬g<W'.heap.size),AI,As]
def Ei(h:Dv tag W){r:Nat}(hg:tag g=(i,r))(hi:0<i):g<W.heap.size:=by
 by_cases q:g<W.heap.size
 .exact q
 have:=h g I;rw[hg]at this;simp at this;omega
def zi.hd(h:zi tag i b c V W)(hv:(Fz c V)[j]?=some v):W.cell? (b,j)=some v :=
 za h.obj (by rw[BY];exact Xo c V hv)
def zi.tl(h:zi tag i b c V W)(hv:(IQ c V)[j]?=some v):W.cell? (b,233+j)=some v :=
 za h.obj (by rw[BY];exact Lf c V hv)
end
section
open Go.RowKit Go.Proofs.Tryz
variable{V:CV}{W:World}{b i j k:Nat}{c:CS}{tag:nH}{v:Value}
def zi.w(h:zi tag i b c V W)(hk:k<8)(hv:(Fx (c.ws k) (V.wb k) (V.ws k) (V.wc k))[j]?=some v):W.cell? (b,9+15*k+j)=some v :=
 za h.obj (by rw[BY];exact MR c V hk hv)
def zi.r(h:zi tag i b c V W)(hk:k<8)(hv:(Gp (c.rs k) (V.rb k) (V.rc k))[j]?=some v):W.cell? (b,129+13*k+j)=some v :=
 za h.obj (by rw[BY];exact Lg c V hk hv)
def zi.fz(h:zi tag i b c V W)(j:Nat):W.frozen? ⟨b,j,none⟩=false:=by simp[World.frozen?,h.obj]
def fo(w:World)(l:nG)(hl:l.length<=4611686018427387904):∃cap w',(convert 9 60 (.string (zu l))).run prog w=.ok (.slice w.heap.size l.length cap) w'/\BR w' (.slice w.heap.size l.length cap) l/\DW DY w w'/\w'.heap.size=w.heap.size+1:=by
 have h:=Lib.run_convert_string_bytes (P:=prog) w 9 60 5 (zu l) (u:=.string) underlying9 underlying60 underlying5;have a:=grownCap_ge w (zu l).size 0 5;have b:grownCap w (zu l).size 0 5<=maxLen:=grownCap_le_maxLen w _ 0 _ (by rw[zJ];unfold maxLen;omega);rw[zJ]at h a b;refine⟨_,_,h,⟨_,_,rfl,a,b,λi c hc=>⟨_,_,rfl,?_⟩⟩,⟨?_,?_,?_,?_,?_⟩,Lib.bytesWorld_size _ _ _⟩
 .have hi:=(AN.1 hc).1;have:=Lib.bytesWorld_cell w 5 (zu l) i (by rw[zJ];exact hi);rw[A6,this];simp only[zu,List.getD,hc,Option.getD_some]
 .simp[Lib.bytesWorld,World.freeze,World.alloc,World.drew,-World.alloc_eq,-World.drew_eq]
 .simp[Lib.bytesWorld,World.freeze,World.alloc,World.drew,-World.alloc_eq,-World.drew_eq]
 .simp[Lib.bytesWorld,World.freeze,World.alloc,World.drew,-World.alloc_eq,-World.drew_eq]
 .rw[Lib.bytesWorld_size];omega
 intro k hk _;exact Lib.bytesWorld_at_old w _ _ k hk
def Dk(rs:zC)(n:Nat):Prop:=∃i,i<rs.length/\DZ rs i<=n/\n<=DX rs i
def Wl(a b:zC)(i:Nat)(h:i<a.length):DZ (a++b) i=DZ a i/\DX (a++b) i=DX a i:=by
 simp[DZ,DX,Ao h]
def Po(a b:zC)(i:Nat)(h:a.length<=i):DZ (a++b) i=DZ b (i-a.length)/\DX (a++b) i=DX b (i-a.length):=by
 simp[DZ,DX,Ab h]
def NJ(rs:zC)(k i:Nat)(h:i<k):DZ (rs.take k) i=DZ rs i/\DX (rs.take k) i=DX rs i:=by
 simp[DZ,DX,Ak,h]
def Za(rs:zC)(k i:Nat):DZ (rs.drop k) i=DZ rs (k+i)/\DX (rs.drop k) i=DX rs (k+i):=by
 simp[DZ,DX,Ak,BD]
def lV(r:Nat×Nat)(rs:zC):DZ (r::rs) 0=r.1/\DX (r::rs) 0=r.2:=⟨rfl,rfl⟩
def WL(r:Nat×Nat)(rs:zC)(i:Nat):DZ (r::rs) (i+1)=DZ rs i/\DX (r::rs) (i+1)=DX rs i:=⟨rfl,rfl⟩
def Pd(rs:zC)(m hi m1 a:Nat)(h1:m1<=a)(h2:a<=rs.length):(EI rs m hi m1 a).length=m1+1+(rs.length-a):=by
 simp[EI];omega
def Me(rs:zC)(m hi m1 a i:Nat)(h1:m1<=a)(h2:a<=rs.length)(b:i<m1):DZ (EI rs m hi m1 a) i=DZ rs i/\DX (EI rs m hi m1 a) i=DX rs i:=by
 unfold EI;have hl:i<(rs.take m1).length:=my;rw[(Wl _ _ i hl).1,(Wl _ _ i hl).2];exact NJ rs m1 i b
def RI(rs:zC)(m hi m1 a:Nat)(h1:m1<=a)(h2:a<=rs.length):DZ (EI rs m hi m1 a) m1=(EM rs m hi m1 a).1/\DX (EI rs m hi m1 a) m1=(EM rs m hi m1 a).2:=by
 unfold EI;have hl:(rs.take m1).length=m1:=my;rw[(Po _ _ m1 I).1,(Po _ _ m1 I).2,hl,DH];exact lV _ _
def Je(rs:zC)(m hi m1 a i:Nat)(h1:m1<=a)(h2:a<=rs.length)(hi1:m1<i):DZ (EI rs m hi m1 a) i=DZ rs (a+(i-m1-1))/\DX (EI rs m hi m1 a) i=DX rs (a+(i-m1-1)):=by
 unfold EI;have hl:(rs.take m1).length=m1:=my;rw[(Po _ _ i I).1,(Po _ _ i I).2,hl];obtain⟨j,hj⟩:∃j,i-m1=j+1:=⟨i-m1-1,I⟩;rw[hj,(WL _ _ j).1,(WL _ _ j).2];exact Za rs a j
variable{m m1:Nat}{rs:zC}
def jU(a:WF rs)(h1:FD rs.length (D0 rs m) m1):∀i,i<m1->DX rs i+1<m:=by
 intro i hi;obtain⟨a1,b1,_⟩:=h1;have e:=b1 I;simp only[D0,Ai]at e;by_cases he:i=m1-1
 .rw[he];omega
 have:=a.2 i (m1-1) I I;have h2:=a.1 (m1-1) I;omega
variable{hi:Nat}
def Yb{a:Nat}(b:WF rs)(h2:FD rs.length (EF rs hi) a):∀i,a<=i->i<rs.length->hi+1<DZ rs i:=by
 intro i h1 hi;obtain⟨_,_,c2⟩:=h2;have e:=c2 I;simp only[EF,Ah]at e;by_cases he:i=a
 .rw[he];exact e
 have:=b.2 a i I hi;have h3:=b.1 a I;omega
def jT{a:Nat}(b:WF rs)(c:hi<18446744073709551616)(h1:FD rs.length (D0 rs m) m1)(h2:FD rs.length (EF rs hi) a):(EM rs m hi m1 a).1<=m/\hi<=(EM rs m hi m1 a).2/\(EM rs m hi m1 a).2<18446744073709551616/\(∀i,i<m1->DX rs i+1<(EM rs m hi m1 a).1)/\(∀i,a<=i->i<rs.length->(EM rs m hi m1 a).2+1<DZ rs i):=by
 have hf:=jU b h1;have d:=Yb b h2;have hm2:=h2.1;unfold EM;split
 .rename_i hlt;have w2:=b.1 (a-1) I;refine⟨Bu _ _,BO _ _,by show max _ _<_;omega,λi hi=>?_,λi h3 h4=>?_⟩
  .have:=hf i hi;have h5:=b.2 i m1 hi I;show _<min _ _;omega
  have:=d i h3 h4;have h5:=b.2 (a-1) i I h4;show max _ _+1<_;omega
 exact⟨AF _,AF _,c,hf,d⟩
def Qj{c:Nat}(d:WF rs)(h:m<=hi)(k:hi<18446744073709551616)(h1:FD rs.length (D0 rs m) m1)(h2:FD rs.length (EF rs hi) c):WF (EI rs m hi m1 c):=by
 have a:=Jo d h h1 h2;have b:=h2.1;have hl:=Pd rs m hi m1 c a b;obtain⟨r1,r2,r3,r4,r5⟩:=jT d k h1 h2;have g:=RI rs m hi m1 c a b;refine⟨λi hi1=>?_,λi j f hj=>?_⟩
 .rcases CM i m1 with hc|hc|hc
  .have e:=Me rs m hi m1 c i a b hc;rw[e.1,e.2];exact d.1 i I
  .subst hc;rw[g.1,g.2];omega
  have e:=Je rs m hi m1 c i a b hc;rw[e.1,e.2];exact d.1 _ I
 rcases CM i m1 with hc|hc|hc
 .have e:=Me rs m hi m1 c i a b hc;rw[e.2];rcases CM j m1 with hd|hd|hd
  .rw[(Me rs m hi m1 c j a b hd).1];exact d.2 i j f I
  .subst hd;rw[g.1];exact r4 i hc
  rw[(Je rs m hi m1 c j a b hd).1];exact d.2 i _ I I
 .subst hc;rw[g.2,(Je rs m hi i c j a b f).1];exact r5 _ I I
 rw[(Je rs m hi m1 c i a b hc).2,(Je rs m hi m1 c j a b I).1];exact d.2 _ _ I I
def Ko(a:WF rs)(h:i<=j)(b:j<rs.length):DZ rs i<=DZ rs j/\DX rs i<=DX rs j:=by
 by_cases he:i=j
 .subst he;exact⟨AF _,AF _⟩
 have:=a.2 i j I b;have h1:=a.1 i I;have h2:=a.1 j b;omega
def UD{c:Nat}(k:WF rs)(l:m<=hi)(h1:FD rs.length (D0 rs m) m1)(h2:FD rs.length (EF rs hi) c)(n:Nat):Dk (EI rs m hi m1 c) n↔Dk rs n\/(m<=n/\n<=hi):=by
 have d:=Jo k l h1 h2;have f:=h2.1;have hl:=Pd rs m hi m1 c d f;have g:=RI rs m hi m1 c d f;constructor
 .rintro⟨i,h,b,a⟩;rcases CM i m1 with hc|hc|hc
  .have e:=Me rs m hi m1 c i d f hc;rw[e.1]at b;rw[e.2]at a;exact .inl ⟨i,I,b,a⟩
  .subst hc;rw[g.1]at b;rw[g.2]at a;by_cases o:m<=n/\n<=hi
   .exact .inr o
   refine .inl ?_;unfold EM at b a;split at b
   .rename_i hlt;rw[AQ hlt]at a;simp only at b a;have c1:=h1.2.2 I;simp only[D0,Ah]at c1;have b2:=h2.2.1 I;simp only[EF,Ai]at b2;by_cases hn:n<m
    .exact⟨i,I,I,I⟩
    exact⟨c-1,I,I,I⟩
   rename_i hlt;rw[AI hlt]at a;simp only at b a;omega
  have e:=Je rs m hi m1 c i d f hc;rw[e.1]at b;rw[e.2]at a;exact .inl ⟨_,I,b,a⟩
 rintro(⟨i,h,b,a⟩|⟨ha,hb⟩)
 .by_cases hc:i<m1
  .have e:=Me rs m hi m1 c i d f hc;exact⟨i,I,by rw[e.1];exact b,by rw[e.2];exact a⟩
  by_cases hd:c<=i
  .have e:=Je rs m hi m1 c (m1+1+(i-c)) d f I;have e2:c+(m1+1+(i-c)-m1-1)=i:=I;rw[e2]at e;exact⟨m1+1+(i-c),I,by rw[e.1];exact b,by rw[e.2];exact a⟩
  have l1:=(Ko k (i:=m1) (j:=i) I h).1;have l2:=(Ko k (i:=i) (j:=c-1) I I).2;refine⟨m1,I,?_,?_⟩
  .rw[g.1,EM,AQ I];show min _ _<=_;omega
  rw[g.2,EM,AQ I];show _<=max _ _;omega
 refine⟨m1,I,?_,?_⟩
 .rw[g.1,EM];split
  .show min _ _<=_;omega
  exact ha
 rw[g.2,EM];split
 .show _<=max _ _;omega
 exact hb
def XN{n:Nat}(d:WF rs)(h:FD rs.length (Kb rs n) m):(m<rs.length/\DZ rs m<=n)↔Dk rs n:=by
 obtain⟨a,b,c⟩:=h;constructor
 .rintro⟨h1,h2⟩;have:=c h1;simp only[Kb,Ah]at this;exact⟨m,h1,h2,this⟩
 rintro⟨i,hi,hlo,hhi⟩;by_cases hc:i<m
 .have e:=b I;simp only[Kb,Ai]at e;have:=(Ko d (i:=i) (j:=m-1) I I).2;omega
 have:=(Ko d (i:=m) (j:=i) I hi).1;exact⟨I,I⟩
def Gn(h:i<rs.length):rs[i]?=some (DZ rs i,DX rs i):=by
 simp[DZ,DX,Ak,AK h]
def Dj:zC->Nat->Nat->Nat×Nat
 | [],lo,hi=>(lo,hi)
 | r::l,lo,hi=>if r.2<lo then Dj l lo hi else if lo<r.1 then(lo,min hi r.1)else Dj l (r.2+1) hi
def TN(h:k<rs.length):rs.drop k=(DZ rs k,DX rs k)::rs.drop (k+1):=by
 rw[CK h];congr 1;have:=Gn h;rw[AK h]at this;exact Bt this
theorem QS(rs:zC)(fl most b o lo hi:Nat)(v:Value)(w:World)(h:El w b o v rs fl most)(l:lo<=9223372036854775808)(hb:∀k,k<rs.length->DX rs k<9223372036854775808):Calls prog 91 #[(b,o),lo,hi] w λe w'=>e=.returned (.tuple #[.int .u64 ((Dj rs lo hi).1:Int),.int .u64 ((Dj rs lo hi).2:Int)])/\DW DY w w':=by
 obtain⟨a,cap,rfl,h1,h2,h3⟩:=zk h.own;have hl:=h.cl;have HH:=zb h;have H3:=zb h3;have HB:=zb hb;unfold maxLen at h2;clear h h3 hb;obtain⟨G,n⟩:=nm (Dj rs lo hi);rw[n];have HG:=zb n;clear n;go_enter func91,ntmps91;go_wp2_with fail
 go_loopw [1,15] (λlv r wr=>∃k L:Nat,k<=rs.length/\lv=.int .u64 L/\r=.int .i64 k/\DW DY w wr/\L<=9223372036854775808/\AA (Dj (rs.drop k) L hi=G)) (λ_ r _=>rs.length-(intOf r).toNat)
 case atStart=>exact⟨0,lo,AM _,rfl,rfl,DW.refl _ _,l,HG⟩
 case round =>
  obtain⟨k,L,hk,rfl,rfl,m,hL,i⟩:=hrel;have M:=zb m;by_cases f:k<rs.length
  .obtain⟨g,rfl⟩:=H3.z I;obtain⟨s,t⟩:=Ir HH.z.own k f;have s:=m.cell (a:=⟨g,_,none⟩) id s;have t:=m.cell (a:=⟨g,_,none⟩) id t;have u:=HB.z k f;have c:AA (Dj (rs.drop k) L hi=if DX rs k<L then Dj (rs.drop (k+1)) L hi else if L<DZ rs k then(L,min hi (DZ rs k))else Dj (rs.drop (k+1)) (DX rs k+1) hi):=by
    show _=_;rw[TN f];rfl
   obtain⟨p,y⟩:=nm (DZ rs k);obtain⟨q,z⟩:=nm (DX rs k);rw[y]at s c;rw[z]at t c u;clear m y z hl;by_cases c1:q<L
   .have d1:(q:Int)<L:=I;have d:AA (Dj (rs.drop (k+1)) L hi=G):=by
     have:=c.z;rw[AQ c1,i.z]at this;exact this.symm
    clear c1 c;go_wp2_with fail;go_roundw
    case rel=>exact⟨k+1,L,I,rfl,by go_num,M.z.alloc _,hL,d⟩
    simp[intOf];omega
   have d1:¬(q:Int)<L:=I;by_cases c2:L<p
   .have d2:(L:Int)<p:=I;have d:AA (G=(L,min hi p)):=by
     have:=c.z;rw[AI c1,AQ c2,i.z]at this;exact this
    clear c1 c2 c;by_cases c3:p<=hi
    .have d3:(p:Int)<=hi:=I;have HM:AA (min hi p=p):=zb I;clear c3;go_wp2_with fail;go_quiet (fail);go_wp2_with fail;all_goals first
      | (exfalso;omega)
      | (go_ret2;exact⟨by rw[d.z];(first|(rw[(I:min hi p=p)];rfl)|(rw[(I:min hi p=hi)];rfl)),(M.z.alloc _).drewN _⟩)
    have d3:¬(p:Int)<=hi:=I;have HM:AA (min hi p=hi):=zb I;clear c3;go_wp2_with fail;go_quiet (fail);go_wp2_with fail;all_goals first
     | (exfalso;omega)
     | (go_ret2;exact⟨by rw[d.z];(first|(rw[(I:min hi p=p)];rfl)|(rw[(I:min hi p=hi)];rfl)),(M.z.alloc _).drewN _⟩)
   have d2:¬(L:Int)<p:=I;have hw1:=wu ((q:Int)+1) I;have d:AA (Dj (rs.drop (k+1)) (q+1) hi=G):=by
    have:=c.z;rw[AI c1,AI c2,i.z]at this;exact this.symm
   clear c1 c2 c;go_wp2_with fail;go_roundw
   case rel=>exact⟨k+1,q+1,I,by go_num,by go_num,M.z.alloc _,I,d⟩
   simp[intOf];omega
  have j:k=rs.length:=I;have d:AA (G=(L,hi)):=by
   have:=i.z;rw[j,CE]at this;exact this.symm
  clear m j i;go_wp2_with fail;go_ret2;exact⟨by rw[d.z];rfl,M.z⟩
def Db(c:Int)(n:Nat):Nat:=((if c<0 then -(c+1)else c) % (n:Int)).toNat
def En(c:Int)(n:Nat)(h:0<n):Db c n<n:=by
 unfold Db;have h1:=Int.emod_lt_of_pos (if c<0 then -(c+1)else c) (I:(0:Int)<n);have h2:=Int.emod_nonneg (if c<0 then -(c+1)else c) (I:(n:Int)≠0);omega
def JF(c:Int)(n:Nat)(w:World)(h1 : -9223372036854775808<=c)(h2:c<=9223372036854775807)(hn:0<n)(hn2:n<=9223372036854775807):Calls prog 24 #[[c],[n]] w λe w'=>e=.returned (.int .i64 (Db c n:Int))/\w=w':=by
 have a:∀x:Int,(if c<0 then -(c+1)else c)=x->0<=x->x % (n:Int)=(Db c n:Int):=by
  intro x hx _;unfold Db;rw[hx];have:=Int.emod_nonneg x (I:(n:Int)≠0);omega
 have hn':(1:Int)<=n:=I;by_cases hc:c<0
 .have H:=zb (a (-(c+1)) (by rw[AQ hc]) I);have E:AA (-((c+1).tmod (n:Int))=(-(c+1)) % (n:Int)):=by
   show _=_;rw[<-Int.neg_tmod,Int.tmod_eq_emod_of_nonneg I]
  clear a;go_enter func24,ntmps24;go_wp2_with fail;go_ret;exact⟨by rw[<-H.z,<-E.z];rfl,rfl⟩
 have H:=zb (a c (by rw[AI hc]) I);clear a;go_enter func24,ntmps24;go_wp2_with fail;go_ret;exact⟨by rw[<-H.z];rfl,rfl⟩
end
section
open Go.RowKit Go.Proofs.Tryz Go.Shelf
attribute [local go_sem] Oper.semAt_some
def YR(F:Fence)(n:Nat)(hF:F.fn 141)(a:F.round=none)(b o:Nat)(w:World):CallsIn F n prog 141 #[.pointer (b,o)] w λe w'=>e=.returned (.func (.func 193) #[] #[.pointer w.heap.size])/\w'=w.alloc (.cells #[(b,o)] 114):=by
 refine callsIn_of_wp func141 rfl hF ?_ a;simp only[ntmps141,Am,AR,Ad,Nat.reduceAdd,Nat.reduceSub,BA,A9,BK,BE,An,BS];gi_wp2;go_ret;exact⟨rfl,rfl⟩
end
section
open Go.RowKit Go.Proofs.Tryz Go.Shelf
attribute [local go_sem] Oper.semAt_some
abbrev Wr(p:Nat×Nat->Prop):={r:Nat×Nat // p r}
abbrev Hu(p:Nat×Nat->Prop):={x:Nat×(Nat×Nat) // p x.2}
def Hu.rr{p:Nat×Nat->Prop}(x:Hu p):Wr p:=⟨x.1.2,x.2⟩
def Fm(p:Nat×Nat->Prop)(rs:zC)(hp:∀i,p (DZ rs i,DX rs i))(k:Nat):List (Hu p):=(List.range k).map λj=>⟨(rs.length-1-j,(DZ rs (rs.length-1-j),DX rs (rs.length-1-j))),hp _⟩
def ln(p:Nat×Nat->Prop)(rs:zC)(a:∀i,p (DZ rs i,DX rs i))(k:Nat):Fm p rs a (k+1)=Fm p rs a k++[⟨(rs.length-1-k,(DZ rs (rs.length-1-k),DX rs (rs.length-1-k))),a _⟩]:=by unfold Fm;rw[Bp,Ba];rfl
def mQ(p:Nat×Nat->Prop)(rs:zC)(hp:∀i,p (DZ rs i,DX rs i))(k:Nat):(Fm p rs hp k).length=k:=by unfold Fm;rw[BB,CO]
def kk(p:Nat×Nat->Prop)(rs:zC)(hp:∀i,p (DZ rs i,DX rs i))(k:Nat):(Fm p rs hp k).map (·.1)=FO rs k:=by unfold Fm FO;rw[Cg];rfl
def gP(F:Fence)(n:Nat)(hF:F.fn 215)(B:F.round=none)(hn:1<=n)(l z cap:Nat)(a:nI)(p:Nat×Nat->Prop)(rs:zC)(h:∀i,p (DZ rs i,DX rs i))(J A:List (Hu p)->World->Prop)
  (C:∀pre x W,J pre W->pre.length<rs.length->YieldAt F (n-1) prog l (JQ x.1) W λe W' =>
   (e=.returned (.bool true)/\J (pre++[x]) W'/\FW z a W W')\/(e=.returned (.bool false)/\A (pre++[x]) W'))
  (W:World) (j:W.cell? z=some (.slice a rs.length cap)) (hr:RR W (.slice a rs.length cap) rs) (h0:J [] W) :
  CallsIn F n prog 215 #[.func (.yield l) #[] #[],.pointer z] W λe W'=>(∃v,e=.returned v) /\
   ((∃ys,ys=Fm p rs h rs.length/\J ys W')\/(∃pre,(∃k,k<=rs.length/\pre=Fm p rs h k)/\A pre W')):=by
 obtain⟨_,_,e,r1,r2,D⟩:=hr;cases e;unfold maxLen at r2;have L:(rs.length:Int)<=9223372036854775807:=I;refine callsIn_of_wp func215 rfl hF ?_ B;simp only[ntmps215,Am,AR,Ad,Nat.reduceAdd,Nat.reduceSub,BA,A9,BK,BE,An,BS];gi_wp2
 gi_loopw [3] (λi wr=>∃k:Nat,k<=rs.length/\i=.int .i64 ((rs.length:Int)-1-k)/\J (Fm p rs h k) wr/\FW z a W wr) (λi _=>(intOf i+1).toNat)
 case atStart=>exact⟨0,AM _,mv,h0,FW.refl _ _ _⟩
 case round =>
  obtain⟨k,hk,rfl,c,b⟩:=hrel;by_cases E:k<rs.length
  .obtain⟨q,M⟩:=nm (rs.length-1-k);have m:(rs.length:Int)-1-k=(q:Int):=I;have G:q<rs.length:=I;obtain⟨g,o,rfl,c1,c2,_,_⟩:=D q G;have d:=b.box j;have s:=b.row c1;have t:=b.row c2;obtain⟨fn,tmps,assign,body,N,O⟩:=C _ ⟨(q,(DZ rs q,DX rs q)),h q⟩ wr c (by rw[mQ];exact E);have HB:=zb (ln p rs h k);have P:=zb M;have Q:=zb c;have H:=zb m;unfold JQ at N;dsimp only at N;rw[m];clear M c D c1 c2 m;gi_wp2;refine O.mono ?_;clear O C;rintro e R (⟨rfl,u,w⟩|⟨rfl,f⟩)
   .have r:AA (J (Fm p rs h (k+1)) R):=by
     show J _ _;rw[HB.z,P.z];exact u
    have K:=zb (b.trans w);clear u w b d s t j;gi_wp2;go_roundw
    case rel=>exact⟨k+1,I,by rw[<-H.z];congr 1;omega,r.z,K.z⟩
    simp[intOf]
   have r:AA (A (Fm p rs h (k+1)) R):=by
    show A _ _;rw[HB.z,P.z];exact f
   clear f b d s t j;gi_wp2;refine bodyPost_ret (results_none rfl _ _ _) rfl ?_;exact⟨⟨_,rfl⟩,.inr ⟨_,⟨k+1,I,rfl⟩,r.z⟩⟩
  have y:k=rs.length:=I;have Q:=zb c;have HK:=zb y;have S:¬(0:Int)<=(rs.length:Int)-1-k:=I;clear c y D C;gi_wp2
  go_end0
  exact⟨⟨_,rfl⟩,.inl (by rw[<-HK.z];exact Q.z)⟩
def kj(F:Fence)(n:Nat)(hF:F.fn 215)(d:F.round=none)(hn:1<=n)(b cap:Nat)(a:nI)(p:Nat×Nat->Prop)(rs:zC)(f:∀i,p (DZ rs i,DX rs i))(w:World)(c:w.cell? b=some (.slice a rs.length cap))(hr:RR w (.slice a rs.length cap) rs):SeqStopsK F n prog 215 #[.pointer b] (λx:Hu p=>JQ x.1) (FW b a) (λys=>ys=Fm p rs f rs.length) (λpre=>∃k,k<=rs.length/\pre=Fm p rs f k) rs.length w:=λl J Jx W h _ _ hY h0=>by
 have j:=zm c;refine gP F n hF d hn l b cap a p rs f J Jx hY W ((h.cell (p:=b) j).trans c) ?_ h0;obtain⟨_,_,e,h1,h2,h3⟩:=hr;cases e;refine⟨_,_,rfl,h1,h2,λi hi=>?_⟩;obtain⟨g,o,e,m,q2,q3,q4⟩:=h3 i hi;have hl:=zm m;exact⟨g,o,e,(h.cell (p:=⟨g,_,none⟩) hl).trans m,(h.cell (p:=⟨g,_,none⟩) hl).trans q2,q3,q4⟩
def gO(F:Fence)(n:Nat)(q:∀f,F.fn f)(t:F.round=none)(hn:4<=n)(l P b of lb cap:Nat)(a:nI)(p:Nat×Nat->Prop)(rs:zC)(hp:∀i,p (DZ rs i,DX rs i))(J Jx:List (Wr p)->World->Prop)(W:World)
  (hY:∀pre x W1,J pre W1->pre.length<rs.length->YieldAt F (n-1-1-1) prog l (ME x.1) W1 λe W' =>
   DW (Ja lb l a W1) W1 W'/\((e=.returned (.bool true)/\J (pre++[x]) W')\/(e=.returned (.bool false)/\Jx (pre++[x]) W')))
  (hJ:OwnFrom W.heap.size J) (Q:OwnFrom W.heap.size Jx) (z:W.cell? P=some (.pointer (b,of))) (hb:W.cell? (b,of)=some (.slice a rs.length cap)) (m:RR W (.slice a rs.length cap) rs) (hlb:lb<W.heap.size) (hl:l<W.heap.size) (R:∀g o,a=some ⟨g,o,none⟩->g<W.heap.size/\g≠lb/\g≠l) (h0:J [] W) :
  CallsIn F n prog 193 #[.func (.yield l) #[] #[],.pointer P] W λe W'=>(∃v,e=.returned v) /\
   (J ((Fm p rs hp rs.length).map Hu.rr) W'\/∃k,k<=rs.length/\Jx ((Fm p rs hp k).map Hu.rr) W'):=by
 have S:=zb hJ;have T:=zb Q;have HY:=zb hY;have HR:=zb m;have H0:=zb h0;have ad:(W.alloc (.cells #[.func (.yield l) #[] #[]] 300)).cell? P=some (.pointer (b,of)):=((DW.refl DY W).alloc _).cell (a:=P) id z;have ae:(W.alloc (.cells #[.func (.yield l) #[] #[]] 300)).cell? (b,of)=some (.slice a rs.length cap):=((DW.refl DY W).alloc _).cell (a:=(b,of)) id hb;have h1:1<=n:=I;clear hJ Q hY m h0;refine callsIn_of_wp_marks func193 rfl (q _) ?_ t;simp only[ntmps193,Am,AR,Ad,Nat.reduceAdd,Nat.reduceSub,BA,A9,BK,BE,An,BS]
 gi_wp2_with (gi_at_call 194;refine(TZ F (n-1) (q _) t _ _ _ _).mono ?_;rintro e w' ⟨rfl,rfl⟩)
 obtain⟨d,C⟩:=nm W.heap.size;have bY:Boxed ((W.alloc (.cells #[.func (.yield l) #[] #[]] 300)).alloc (.cells #[.slice a rs.length cap] 63)) d 300 (.func (.yield l) #[] #[]):=by
  rw[<-C];exact(Boxed.new W _ _).alloc _
 have bS:Boxed ((W.alloc (.cells #[.func (.yield l) #[] #[]] 300)).alloc (.cells #[.slice a rs.length cap] 63)) (d+1) 63 (.slice a rs.length cap):=by
  have:=Boxed.new (W.alloc (.cells #[.func (.yield l) #[] #[]] 300)) 63 (.slice a rs.length cap);rw[World.size_alloc,C]at this;exact this
 have m0:DW DY W ((W.alloc (.cells #[.func (.yield l) #[] #[]] 300)).alloc (.cells #[.slice a rs.length cap] 63)):=((DW.refl _ _).alloc _).alloc _;obtain⟨w1,u⟩:=nm (((W.alloc (.cells #[.func (.yield l) #[] #[]] 300)).alloc (.cells #[.slice a rs.length cap] 63)));have hs1:w1.heap.size=d+2:=by rw[<-u];simp;omega
 have af:J [] w1:=by rw[<-u];exact S.z.alloc _ (S.z.alloc _ H0.z)
 rw[u]at bY bS m0 ⊢;rw[C];have ah:=HR.z.mod m0 (Dp.no _);clear u ad ae;refine wpIn_rangeFunc_ownH t h1 (gf:=215) (lb:=#[.pointer (U (d+1) 0)]) rfl (q _) (enters_of func215 mr rfl)
  (kj F (n-1) (q _) t I (d+1) cap a p rs hp w1 bS.cell ah) (λh k=>h.trans k) ?hKb (Below.refl _ _) (λ_=>rfl)
  (λpre X=>(J (pre.map Hu.rr) X/\Boxed X d 300 (.func (.yield l) #[] #[]))/\Boxed X (d+1) 63 (.slice a rs.length cap))
  (λc pre X=>c=.ret/\Jx (pre.map Hu.rr) X) ?hI ?hIx ⟨⟨af,bY⟩,bS⟩
  (λx a' X=>∃rb,a'={ tmps:=#[.func (.yield l) #[] #[],.pointer P,.pointer d,undef,.pointer (some ⟨rb,0,none⟩),.pointer (b,of),.pointer (b,of),.pointer (b,of),.slice a rs.length cap,.func (.func 215) #[] #[.pointer (U (d+1) 0)],.int .i64 x.1.1,.agg #[.int .u64 x.1.2.1,.int .u64 x.1.2.2],undef,undef,undef,undef],defers:=[] } /\
   X.heap[rb]?=some (.cells #[x.1.2.1,x.1.2.2] 214 (0,0))) ?hAx ?assign ?body ?done ?stop
 case hKb =>
  intro X l2 o o' hl2 _ _ _;exact⟨World.putObj_heap_other I,λg o e=>World.putObj_heap_other (nC ((R g o e).1))⟩
 case hI =>
  exact OwnFrom.and (OwnFrom.and (λs A B row z hg m=>S.z _ A B row z hg (λr e=>⟨nC ((m r e).1),(m r e).2⟩)) (Own.from (boxed_own d _ (λ_=>_)) _)) (Own.from (boxed_own (d+1) _ (λ_=>_)) _)
 case hIx =>
  intro c s A B row z hg m;exact⟨z.1,T.z _ A B row z.2 hg (λr e=>⟨nC ((m r e).1),(m r e).2⟩)⟩
 case hAx =>
  intro x a' s A B row z hg m;obtain⟨rb,e,E⟩:=z;refine⟨rb,e,(hg.block rb (AH.1 E).1 (λe2=>?_)).trans E⟩;obtain⟨_,o,V,G⟩:=m rb e2.symm;rw[E]at V;cases V;cases G
 case assign =>
  intro l' pre x X K hI H;unfold JQ;gi_wp2;refine H _ _ ((KeepsOthers.alloc X _).from _) ⟨Below.heap_alloc _ _ _ hI.2.lt,λg o e=>Below.heap_alloc _ _ _ ?_⟩ ⟨⟨?_,hI.1.2.alloc _⟩,hI.2.alloc _⟩ ⟨X.heap.size,rfl,heap_alloc_new X _⟩
  .have q1:=(R g o e).1;have q2:=hI.2.lt;omega
  exact S.z.alloc _ hI.1.1
 case body =>
  rintro l' pre x a' X hl' Y ⟨⟨L,hy⟩,M⟩ ⟨rb,rfl,Z⟩ ai;have yc:=hy.cell;have r0:X.cell? rb=some (.int .u64 x.1.2.1):=za Z rfl;have r1:X.cell? (rb,1)=some (.int .u64 x.1.2.2):=za Z rfl;obtain⟨fn,tmps,assign,body,w,hR⟩:=HY.z (pre.map Hu.rr) x.rr X L (nF ai);unfold ME Hu.rr at w;dsimp only at w;have hn1:1<=n-1-1:=I;have HJP:=zb L;clear L Y;have aj:=zb hR;clear hR;gi_wp2;refine RoundIn.mono (F:=F.inRound l') (show RoundIn (F.inRound l') _ _ _ _ _ _ _ _ _ from aj.z) ?_;rintro e X3 ⟨N,aa⟩;have ab:=hy.lt;have j:=M.lt;have nY:¬Ja lb l a X d:=by
   rintro(h|h|⟨_,cs,fz,h⟩)
   .omega
   .omega
   rw[show X.heap[d]?=_ from hy]at h;simp at h
  have nS:¬Ja lb l a X (d+1):=by
   rintro(h|h|⟨_,cs,fz,h⟩)
   .omega
   .omega
   rw[show X.heap[d+1]?=_ from M]at h;simp at h
  have ac:AA (KeepsFrom w1.heap.size X X3):=⟨N.size,λk o hk E G=>by
   refine(N.block k (AH.1 E).1 ?_).trans E;rintro(h|h|⟨_,cs,fz,h⟩)
   .omega
   .omega
   rw[E]at h;cases h;cases G⟩
  have ak:AA (FW (d+1) a X X3):=⟨N.block _ j nS,λg o e=>N.block _ (nC ((R g o e).1)) (by
   rintro(h|h|⟨h,_⟩)
   .exact(R g o e).2.1 h
   .exact(R g o e).2.2 h
   exact h g o e rfl)⟩
  have al:AA (Boxed X3 d 300 (.func (.yield l) #[] #[])):=(N.block _ ab nY).trans hy;have am:AA (Boxed X3 (d+1) 63 (.slice a rs.length cap)):=(N.block _ j nS).trans M;clear nY nS N ab j;rcases aa with⟨rfl,y⟩|⟨rfl,y⟩
  .have O:=zb y;clear y yc w;gi_wp2;exact⟨ac.z,ak.z,⟨by rw[Ba];exact O.z,al.z⟩,am.z⟩
  have O:=zb y;clear y yc w;gi_wp2;exact⟨ac.z,rfl,by rw[Ba];exact O.z⟩
 case done =>
  rintro D ys X hD rfl ⟨⟨y,_⟩,_⟩ H;gi_wp2;refine⟨mv,.inl ⟨_,_,rfl,run_takeDeferred H,?_⟩⟩;exact⟨_,results_none rfl _ _ _,⟨_,rfl⟩,.inl (S.z.putObj _ y I H rfl)⟩
 case stop =>
  rintro D c pre X hD ⟨k,hk,rfl⟩ ⟨rfl,y⟩ H;gi_wp2;refine⟨mv,.inl ⟨_,_,rfl,run_takeDeferred H,?_⟩⟩;exact⟨_,results_none rfl _ _ _,⟨_,rfl⟩,.inr ⟨k,hk,T.z.putObj _ y I H rfl⟩⟩
end
section
open Go
open Go.Proofs.Tryz
variable{P:Program}{Q:Exit->Act->World->Prop}
def jM{o:Oper}{a:Act}{K:Act->World->Prop}{r:Result Next}(l n:Nat)(h:o.upon P a K Q r):o.uponIn (Fence.wide.inRound l) n P a K Q r:=by
 unfold Oper.upon at h;unfold Oper.uponIn;split at h<;>simp only[]at h ⊢
 .exact h
 .exact h
 .exact h
 .exact⟨λx=>by simp[Fence.wide]at x,callsIn_wide.2 h⟩
 .refine⟨λx=>by simp[Fence.wide]at x,λc cs _=>?_⟩;obtain⟨v,w',hr,s⟩:=h c cs;exact⟨v,w',hr,stepsIn_wide.2 s⟩
 exact h
variable{ops:Array Oper}
theorem WU{md:Region.Mode}(l n:Nat)(hd:∀(i:Nat) o,ops[i]?=some o->∀c,o.op≠.defer c)(b:¬LetsOut Q):∀(fuel:Nat) (L:Array Bool) (a:Act) (w:World),wpAny P md ops Q fuel L a w->wpAnyIn (Fence.wide.inRound l) n P md ops Q fuel L a w
 | 0,_,_,_,h=>h
 | fuel+1,L,a,w,h=>by
  refine⟨h.1,λi hi=>?_⟩;have h1:=h.2 i hi;have hk:∀a w,wpAny P md ops Q fuel (L.setIfInBounds i true) a w->wpAnyIn (Fence.wide.inRound l) n P md ops Q fuel (L.setIfInBounds i true) a w:=λa w x=>WU l n hd b fuel _ a w x
  refine wpOpIn_mono hk ?_;unfold wpOp at h1;unfold wpOpIn;cases ho:ops[i]? with
  | none =>
   rw[ho]at h1;exact h1
  | some o =>
   rw[ho]at h1;simp only[]at h1 ⊢;by_cases d:Region.wanted o (yielded ops a.tmps)=true
   .simp only[d,BC]at h1 ⊢;rcases h1 with h1|⟨_,h1⟩
    .refine⟨λ_ _=>trivial,?_⟩;rw[show(Fence.wide.inRound l).round=some l from rfl,Oper.semAt_some l _ _ (hd i o ho)];exact jM l n h1
    exact absurd h1 b
   simp only[d,BX,Be]at h1 ⊢;exact⟨λ_ _=>trivial,h1⟩
def Qw(ops:Array Oper):Bool:=ops.all λo=>match o.op with|.defer _=>false|_=>true
def ll(h:Qw ops=true)(i:Nat)(o:Oper)(a:ops[i]?=some o):∀c,o.op≠.defer c:=by
 intro c e;have:=(Array.all_eq_true.1 h) i (AH.1 a).1;rw[(AH.1 a).2,e]at this;cases this
variable{w:World}
def lk{id:Nat}{a:Act}{l n:Nat}(hm:P.follows .mixedOrders=true)(hd:Qw ops=true)(hq:¬LetsOut Q)
  (h:wpAny P .any ops Q ops.size (Array.replicate ops.size false) a w.drew):(Code.region id ops true).wpIn (Fence.wide.inRound l) n P Q a w :=
 wpIn_region_any hm (WU l n (ll hd) hq _ _ _ _ h)
def YP{id:Nat}{a:Act}{l n:Nat}(k:Nat)(F:World->Prop)(hm:P.follows .mixedOrders=true)(hd:Qw ops=true)(hs:Region.noSelect ops=true)(hF:F w.drew)
  (h:GT P .any ops (λe a w=>e=.normal/\Q .normal a w) k F ops.size (Array.replicate ops.size false) a w.drew):(Code.region id ops true).wpIn (Fence.wide.inRound l) n P Q a w:=by
 have hx:(Code.region id ops true).wpIn (Fence.wide.inRound l) n P (λe a w=>e=.normal/\Q .normal a w) a w:=by
  refine lk hm hd ?_ (Rh _ _ _ _ (h ⟨hs,mv,λj oj _ hl=>?_⟩ (.inr hF)))
  .rintro⟨_,_,x,_⟩;cases x
  have:=getD_replicate_false ops.size j;rw[this]at hl;cases hl
 exact Go.wpIn_mono hx (λe a w k=>by rw[k.1];exact k.2)
end
section
open Go.RowKit Go.Proofs.Tryz
theorem Wy(w:World)(v:Value)(l:nG)(h:BR w v l)(hl:l.length<=70368744177664):∃v' w',(∀ty,(Builtin.append_ #[60,60] ty #[.slice none 0 0,v]).run prog w=.ok v' w')/\OB w' v' l/\DW DY w w'/\(∀g,v'.ownBlock=some g->w.heap.size<=g):=by
 obtain⟨i,b,q,f,m⟩:=info_parts Ox;obtain⟨a,cap,rfl,h1,h2,h3⟩:=id h;by_cases h0:l.length=0
 .have n:=Aj h0;subst n;cases a with
  | none =>
   refine⟨.slice none 0 0,w,λty=>?_,OB.nil w,DW.refl _ _,λg hg=>by cases hg⟩;simp[Builtin.append_,run_underlying underlying60,sizeOf,typeInfo,b,Builtin.lenOf,Builtin.firstCells,loadCells,loadCellsFrom]
  | some a =>
   obtain⟨v',w',p,k2,k3,k4⟩:=zV (P:=prog) w 60 5 i (.int .u8 0) 1 1 underlying60 b q f m rfl mu (.slice none 0 0) 0 [] (World.ownsRow_nil w 0 _ 1)
    a 0 cap [] rfl (by intro j u d;cases d) (by intro u d;cases d) mz I
   exact⟨v',w',p,k2,(DW.refl _ w).grown k3 (λk hk=>by cases hk),λg hg=>(k4 g hg).elim (λx=>by cases x) id⟩
 obtain⟨g,o,rfl,_⟩:=h3 0 l[0] (AK I);obtain⟨v',w',p,k2,k3,k4⟩:=zV (P:=prog) w 60 5 i (.int .u8 0) 1 1 underlying60 b q f m rfl mu (.slice none 0 0) 0 [] (World.ownsRow_nil w 0 _ 1)
  ⟨g,o,none⟩ l.length cap (zU l) (by rw[JH,DJ]) (by
   intro j u d;simp only[zU,Bc,CB]at d;obtain⟨c,hc,rfl⟩:=d;obtain⟨g',o',e,hh⟩:=h3 j c hc;cases e;rw[zZ];exact hh) (Ri l) mz I
 refine⟨v',w',p,?_,(DW.refl _ w).grown k3 (λk hk=>by cases hk),λg hg=>(k4 g hg).elim (λx=>by cases x) id⟩;rw[A6,An]at k2;exact k2
def Gc.nil(w:World):Gc w (.slice none 0 0) []:=⟨World.ownsRow_nil w 0 _ 10,λx hx=>by cases hx⟩
def Id(S:Nat->Prop)(w wr:World):Prop :=
 DW S w wr/\∀k,S k->∀cs t,w.heap[k]?=some (.cells cs t (0,0))->∃cs',wr.heap[k]?=some (.cells cs' t (0,0))/\cs'.size=cs.size
def Id.refl(S:Nat->Prop)(w:World):Id S w w:=⟨DW.refl _ _,λ_ _ cs _ h=>⟨cs,h,rfl⟩⟩
variable{S:Nat->Prop}{b:Nat}{w:World}
def Id.set{wr:World}(h:Id S w wr)(hb:S b)(i:Nat)(v:Value):Id S w (wr.setCell (b,i) v):=by
 refine⟨h.1.setCell (p:=(b,i)) (.inl hb) v,λk hk cs t hc=>?_⟩;obtain⟨a,h1,h2⟩:=h.2 k hk cs t hc;by_cases e:k=b
 .subst e;exact⟨_,zc h1,nF h2⟩
 exact⟨a,((DW.refl (λx=>x=b) wr).setCell (p:=(b,i)) (.inl rfl) v).obj e h1,h2⟩
variable{cs:Array Value}{i t:Nat}
def Id.cell{wr:World}(h:Id S w wr)(hb:S b)(hc:w.heap[b]?=some (.cells cs t (0,0)))(hi:i<cs.size):(∃v,wr.cell? (b,i)=some v)/\wr.frozen? ⟨b,i,none⟩=false:=by
 obtain⟨a,h1,h2⟩:=h.2 b hb cs t hc;exact⟨⟨a[i],za h1 (Array.getElem?_eq_getElem I)⟩,zg h1⟩
def KN(v:Value)(a:List (Da×Value)):Nat->Prop:=λk=>v.ownBlock=some k\/∃x∈a,x.2.ownBlock=some k
def P7(W:World)(g:Nat)(v:Value)(a:List (Da×Value))(k:Nat)(wr:World):Prop :=
 Id (KN v a) W wr/\∀j x,k<=j->a[j]?=some x->wr.cell? ⟨g,j*10+9,none⟩=some x.2
variable{W:World}{g k:Nat}{v:Value}
def P7.set{wr:World}{a:List (Da×Value)}(h:P7 W g v a (k+1) wr)(hg:KN v a g)(hi:i<k*10+10)(u:Value):P7 W g v a (k+1) (wr.setCell (g,i) u):=by
 refine⟨h.1.set hg i u,λj x hj hx=>?_⟩;rw[World.cell?_setCell_other _ _ _ _ (by simp<;>omega)];exact h.2 j x hj hx
variable{cap e sz:Nat}{xs:nJ}
def Ws{n:Nat}(h:w.ownsRow 0 e sz (.slice g n cap) n xs):∃cur,w.heap[g]?=some (.cells cur e (0,0))/\cur.size=cap*sz/\n<=cap:=by
 rcases h.2 with⟨a,_⟩|⟨g',b,cur,a,_,hg,h1,_,h3,_⟩
 .cases a
 cases a;exact⟨cur,hg,h3,h1⟩
end
section
open Go.Proofs.Tryz
variable{P:Program}
def mb(m:Machine)(w:World)(t:Trace)(h:aloneAtReturn P m w t):leavingAtReturn P m w t:=by
 obtain⟨a,hh,he⟩:=h;refine⟨hh,⟨λg hg=>⟨0,?_⟩,a.2⟩,he⟩;have h1:(m.gs.toList.drop 1).all (λg=>g.status == .finished)=true:=a.1;rw[Ct]at h1;have:=h1 g hg;simpa [Goroutine.LeavesIn]using this
def holds_leaving{p:Pinned}{s:OpenSpec}{c:OpenClaim}(b:c.start=.entering)(a:c.stops=[])(d:c.wf s=true)(h:({ c with leaving:=false }:OpenClaim).holds p s)(hl:c.leaving=true):c.holds p s:=by
 obtain⟨h1,h2,h3,h4,h5,h6,h7,h8,f,fn,h9,e,g,i,j,k,l,n,o,q,r,u,v,x,y,z,A,B,C,k1,k2,L,D,E⟩:=h;refine⟨d,h2,h3,h4,h5,h6,h7,h8,f,fn,h9,e,g,i,j,k,l,n,o,q,r,u,v,x,y,z,A,B,C,k1,k2,L,D,λos hw hq H enc inj=>?_⟩;have hf:=E os hw hq H enc inj;unfold OpenClaim.form at hf ⊢;have e1:({ c with leaving:=false }:OpenClaim).start=.entering:=b;have e2:({ c with leaving:=false }:OpenClaim).stops=[]:=a;rw[e1,e2]at hf;rw[b,a];intro F;have hF:=hf F;have e4:c.atReturn p.checked.prog=leavingAtReturn p.checked.prog:=by unfold OpenClaim.atReturn;rw[hl]
 rw[e4];exact ReturnsInOpen.mono (atReturn:=aloneAtReturn p.checked.prog) (λm w t h=>mb m w t h) (λm h=>h) hF
def card_going(g:Looks){p:Pinned}{s:OpenSpec}{c:OpenClaim}(kinds:List LaidKind)(a:Bool)(b:Bool×String)(e:Bool)
  (hc:c.holds p s) (hw:c.wfByText s=true) (d:c.laidByTextAt g p kinds a)
  (i:c.start=.entering) (k:c.noBlocks=false/\c.again=false) (hm:p.checked.prog.mainIs=some (b.1,b.2.toList)) (hn:(!b.1&&b.2.isEmpty && !e)=false)
  (hl:∀f fn,p.checked.prog.funcNamed c.func=some f->p.checked.prog.funcs[f]?=some fn->e=p.checked.prog.looks []/\∀(j:Nat) t,fn.params[j]?=some t->p.checked.prog.wantsStandIn t=false)
  (hg:true=c.goesBy p.checked.prog) :
  Claim7.holds p (.plain s) { stood:={ row:=c,standIns:=[],harness:=b,looks:=e },kinds:=[],alts:=[],laidByText:=true,laidKinds:=kinds,laidTests:=a,laidLooks:=g,goes:=true } :=
 ⟨Claim7.tied_new_at g kinds a (Claim7.new_of_sixth hc b e i k hm (by simpa [Claim7.isSixth]using hn) hl) hw,(λD hD=>by cases hD),d,(λh=>by cases h),hg⟩
end
end Go.Proofs.YtddfdpbaiedcjaaGreatDoor
