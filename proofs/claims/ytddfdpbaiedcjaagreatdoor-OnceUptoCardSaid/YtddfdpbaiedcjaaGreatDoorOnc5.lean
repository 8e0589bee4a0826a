/- A part of Once's proof. Conditions: none. Part 5 of 15. -/
import Derived.Deep.RegionHeld3
import Derived.Deep.DeepCutAuto
import Derived.Test.YtddfdpbaiedcjaaGreatDoorOnc4
set_option maxRecDepth 100000
set_option maxHeartbeats 16000000
set_option linter.all false
namespace Go.Proofs.YtddfdpbaiedcjaaGreatDoor
section
open Go.RowKit Go.Proofs.Tryz
def Np{α : Type}(A B cs:List α)(o:Nat)(ho:o=A.length):splice (A++B) o cs=A++(cs++B.drop cs.length):=by
 subst ho;simp[splice,<-List.drop_drop]
def P5{α : Type}(a X:List α)(n:Nat)(ht:a.take n=X):∃Y,a=X++Y:=⟨a.drop n,by rw[<-ht,Bn]⟩
def dJ(A X Y:List Value)(a b:Value)(hY:2<=Y.length):splice (splice (A++X++Y) (A.length+2) X) A.length [a,b]=A++[a,b]++X++Y.drop 2:=by
 have h1:splice (A++X++Y) (A.length+2) X=A++((X++Y).take 2++(X++Y.drop 2)):=by
  have e:(A++X++Y)=(A++(X++Y).take 2)++(X++Y).drop 2:=by simp[Av,Bn]
  have hl:((X++Y).take 2).length=2:=by simp;omega
  rw[e,Np _ _ _ _ (by simp[hl]),CW,Nat.add_comm,Av]
  congr 1
  congr 1
  congr 1
  rw[Cq];simp
 rw[h1,Np _ _ _ _ rfl];have hl:((X++Y).take 2).length=2:=by simp;omega
 have:List.drop [a,b].length (List.take 2 (X++Y)++(X++List.drop 2 Y))=X++Y.drop 2:=by
  have e2:[a,b].length=((X++Y).take 2).length:=by rw[hl];rfl
  rw[e2,List.drop_left]
 rw[this];simp
def gy(a:List Value)(i n cap:Nat)(rs:zC)(r:Nat×Nat)(hi:i<=n)(hn:n+1<=cap)(b:a.length=cap*2)(hrs:rs.length=n)(ht:a.take (n*2)=zo rs):(LL a i n [.int .u64 r.1,.int .u64 r.2]).take ((n+1)*2)=zo (rs.take i++r::rs.drop i):=by
 obtain⟨Y,rfl⟩:=P5 _ _ _ ht;have d:(zo (rs.take i)).length=i*2:=by rw[zO];simp;omega
 have e:(zo (rs.drop i)).length=(n-i)*2:=by rw[zO];simp;omega
 have c:zo rs=zo (rs.take i)++zo (rs.drop i):=by rw[<-JB,Bn]
 have hY:2<=Y.length:=by
  simp only[AF,zO]at b;omega
 have h1:((zo rs++Y).drop (i*2)).take ((n-i)*2)=zo (rs.drop i):=by
  rw[c,<-d,Av,List.drop_left,<-e,BH]
 unfold LL;rw[h1,c,show(i+1)*2=(zo (rs.take i)).length+2 by omega,show i*2=(zo (rs.take i)).length by omega,dJ _ _ _ _ _ hY,JB,zo];have hl:(zo (rs.take i)++[Value.int .u64 r.1,Value.int .u64 r.2]++zo (rs.drop i)).length=(n+1)*2:=by simp[d,e];omega
 rw[<-hl,BH];simp
def iN(d a:List Value)(i n cap f:Nat)(rs:zC)(r:Nat×Nat)(hi:i<=n)(hn:n+1<=f)(_hcap:n<=cap)(j:a.length=cap*2)(g:d.length=f*2)(h0:d.take (i*2)=a.take (i*2))(hrs:rs.length=n)(ht:a.take (n*2)=zo rs):(LR d a i n [.int .u64 r.1,.int .u64 r.2]).take ((n+1)*2)=zo (rs.take i++r::rs.drop i):=by
 obtain⟨Y,rfl⟩:=P5 _ _ _ ht;have b:(zo (rs.take i)).length=i*2:=by rw[zO];simp;omega
 have k:(zo (rs.drop i)).length=(n-i)*2:=by rw[zO];simp;omega
 have c:zo rs=zo (rs.take i)++zo (rs.drop i):=by rw[<-JB,Bn]
 have h1:((zo rs++Y).drop (i*2)).take ((n-i)*2)=zo (rs.drop i):=by
  rw[c,<-b,Av,List.drop_left,<-k,BH]
 have h2:(zo rs++Y).take (i*2)=zo (rs.take i):=by rw[c,<-b,Av,BH]
 obtain⟨Z,rfl⟩:=P5 _ _ _ (h0.trans h2);have hZ:Z.length=f*2-i*2:=by simp[b]at g;omega
 unfold LR;rw[h1,Np _ _ _ _ b.symm];have e:zo (rs.take i)++([Value.int .u64 r.1,Value.int .u64 r.2]++Z.drop 2)=(zo (rs.take i)++[Value.int .u64 r.1,Value.int .u64 r.2])++Z.drop 2:=by simp
 have h:[Value.int .u64 r.1,Value.int .u64 r.2].length=2:=rfl;rw[h,e,Np _ _ _ _ (by simp[b];omega),<-List.append_assoc,JB,zo];have hl:(zo (rs.take i)++[Value.int .u64 r.1,Value.int .u64 r.2]++zo (rs.drop i)).length=(n+1)*2:=by simp[b,k];omega
 rw[<-hl,BH];simp
def ip(a:List Value)(i n cap:Nat)(r:Nat×Nat)(hi:i<=n)(hn:n+1<=cap)(b:a.length=cap*2):(LL a i n [.int .u64 r.1,.int .u64 r.2]).length=cap*2:=by
 unfold LL;have h1:(splice a ((i+1)*2) ((a.drop (i*2)).take ((n-i)*2))).length=cap*2:=by
  rw[length_splice _ _ _ (by simp;omega)];exact b
 rw[length_splice _ _ _ (by simp;omega)];exact h1
def jA(c a:List Value)(i n b cap:Nat)(r:Nat×Nat)(hi:i<=n)(hn:n+1<=b)(e:n<=cap)(f:a.length=cap*2)(d:c.length=b*2):(LR c a i n [.int .u64 r.1,.int .u64 r.2]).length=b*2:=by
 unfold LR;have h1:(splice c (i*2) [Value.int .u64 r.1,Value.int .u64 r.2]).length=b*2:=by
  rw[length_splice _ _ _ (by simp;omega)];exact d
 rw[length_splice _ _ _ (by simp;omega)];exact h1
theorem P0(rs:zC):∀v∈zo rs,v.oneCell'=true:=by
 induction rs with
 | nil=>intro v h;cases h
 | cons r rs ih =>
  intro v h;simp only[zo,BP]at h;rcases h with rfl|rfl|h
  ·rfl
  ·rfl
  ·exact ih v h
variable{fz:Nat×Nat}{g t:Nat}{w:World}
def PU{cs:List Value}(hg:w.heap[g]?=some (.cells cs.toArray t fz)):∀j u,cs[j]?=some u->w.cell? ((⟨g,0,none⟩:Addr).add j)=some u:=by
 intro j u h;rw[zS];simpa [World.cell?,hg]using h
variable{base e sz:Nat}{v:Value}{xs:List Value}
def PT{n:Nat}(h:w.ownsRow base e sz v n xs)(hn:0<n):∃g cap cur,v = .slice (some ⟨g,0,none⟩) n cap/\w.heap[g]?=some (.cells (cur:List Value).toArray e (0,0))/\n<=cap/\cap<=maxLen/\cur.length=cap*sz/\cur.take (n*sz)=xs:=by
 rcases h.2 with⟨_,h0⟩|⟨g,cap,cur,rfl,_,hg,h1,h2,h3,h4⟩
 ·omega
 ·exact⟨g,cap,cur.toList,rfl,by simpa using hg,h1,h2,by simpa using h3,h4⟩
def eE(v:Value)(rs:zC)(i:Nat)(r:Nat×Nat)(g2:Nat)(w:World)(hi:i<=rs.length)(H:rs.length<=1099511627776)(d:w.ownsRow 0 214 2 v rs.length (zo rs))
  (l:w.heap[g2]?=some (.cells [.int .u64 r.1,.int .u64 r.2].toArray 214 (0,0))) (B:v.ownBlock≠some g2) :
  Calls prog 201 #[v,.int .i64 i,.slice (some ⟨g2,0,none⟩) 1 1] w λe w'=>∃v',e = .returned v'/\w'.ownsRow 0 214 2 v' (rs.length+1) (zo (rs.take i++r::rs.drop i))/\w.grownBy w' v.ownBlock/\Dy w v v':=by
 obtain⟨I,m,s,o,t⟩:=info_parts PW;by_cases C:i=rs.length
 ·obtain⟨a,cap,rfl,h1,h2,h3⟩:=zi d;obtain⟨v',w1,Dc,ho,D,E⟩:=zJ (P:=prog) w 63 214 I _ 2 16 underlying63 m s o t rfl (by decide) _ _ _ d ⟨g2,0,none⟩ 1 1 [.int .u64 r.1,.int .u64 r.2] rfl (PU l) (by simp[Value.oneCell']) (by unfold maxLen;omega) (by omega);subst C;unfold maxLen at h2;refine(U2 g2 _ cap a v' w w1 h1 (by omega) Dc).mono ?_;rintro e w' ⟨rfl,rfl⟩;refine⟨v',rfl,?_,D,E⟩;simpa [JB,zo]using ho
 ·obtain⟨g,cap,b,rfl,hg,h1,h2,h3,h4⟩:=PT d (by omega);have F:g2≠g:=λe=>B (by simp[Value.ownBlock,e])
  unfold maxLen at h2;have n:∀v∈(b.drop (i*2)).take ((rs.length-i)*2),v.oneCell'=true:=by
   intro v J;refine P0 rs v ?_;rw[<-h4];have e:(b.drop (i*2)).take ((rs.length-i)*2)=(b.take (rs.length*2)).drop (i*2):=by
    rw[C4]
    congr 1
    omega
   rw[e]at J;exact CE J
  by_cases c:rs.length+1<=cap
  ·refine(Wr g g2 i rs.length cap b r w (by omega) c (by omega) hg h3 n l F).mono ?_;rintro e w' ⟨rfl,rfl⟩;refine⟨_,rfl,⟨by simp[zO];omega,.inr ⟨g,cap,_,rfl,AL _,setRow_heap w g _ _ _ _ hg,c,by unfold maxLen;omega,?_,?_⟩⟩,⟨rfl,rfl,rfl,by simp,λk _ hk=>setRow_other w g k _ (λe=>hk (by simp[Value.ownBlock,e]))⟩,λk hk=>.inl hk⟩
   ·simpa using ip b i rs.length cap r hi c h3
   ·simpa using gy b i rs.length cap rs r hi c h3 rfl h4
  ·have Dc:=λty=>jH (P:=prog) w 63 3 ty 214 .i64 I _ underlying63 underlying3 m s ⟨g,0,none⟩ i cap (rs.length+1-i) (zo (rs.take i)) (by rw[zO,o];simp;omega)
    (λj u A=>PU hg j u (by
     rw[<-N1,<-h4,BZ,B8]at A;split at A
     ·exact A
     ·cases A)) (by omega) (by omega) (by rw[t];omega) (by rw[o];omega)
   rw[show i+(rs.length+1-i)=rs.length+1 by omega,show((rs.length+1-i:Nat):Int)=(rs.length:Int)+1-i by omega]at Dc;have f:=grownCap_ge w (rs.length+1) cap 214;have x:grownCap w (rs.length+1) cap 214<=maxLen:=grownCap_le_maxLen w _ cap _ (by unfold maxLen;omega);unfold maxLen at x;generalize grownCap w (rs.length+1) cap 214=nc at Dc f x;have G:=(AI.1 hg).1;have y:=(AI.1 l).1;obtain⟨p,q⟩:∃p:List Value,(zo (rs.take i)).toArray++Builtin.zeroCells (Value.agg #[Value.int .u64 0,Value.int .u64 0]).cells (rs.length+1-i)++Builtin.zeroCells (Value.agg #[Value.int .u64 0,Value.int .u64 0]).cells (nc-(rs.length+1))=p.toArray/\p.length=nc*2/\p.take (i*2)=b.take (i*2):=by
    refine⟨zo (rs.take i)++(Builtin.zeroCells (Value.agg #[Value.int .u64 0,Value.int .u64 0]).cells (rs.length+1-i)).toList++(Builtin.zeroCells (Value.agg #[Value.int .u64 0,Value.int .u64 0]).cells (nc-(rs.length+1))).toList,by simp,?_,?_⟩
    ·simp[size_zeroCells,zO,Value.cells];omega
    ·have K:(zo (rs.take i)).length=i*2:=by rw[zO];simp;omega
     rw[Av,<-K,BH,K,<-N1,<-h4,BZ]
     congr 1
     omega
   obtain⟨q,h,z⟩:=q;rw[q]at Dc;refine(Wq g g2 w.heap.size i rs.length cap nc b p r w _ (by omega) h1 (by omega) (by omega) h3 n Dc ((Below.heap_alloc w.drew _ g G).trans hg) ((Below.heap_alloc w.drew _ g2 y).trans l) (heap_alloc_new w.drew _) h f (by omega) (by omega) (by omega)).mono ?_;rintro e w' ⟨rfl,rfl⟩;refine⟨_,rfl,⟨by simp[zO];omega,.inr ⟨w.heap.size,nc,_,rfl,AL _,setRow_heap _ _ _ _ _ _ (heap_alloc_new w.drew _),f,by unfold maxLen;omega,?_,?_⟩⟩,⟨rfl,rfl,rfl,by simp,λk hk _=>?_⟩,λk hk=>by simp[Value.ownBlock]at hk;omega⟩
   ·simpa using jA p b i rs.length nc cap r hi f h1 h3 h
   ·simpa using iN p b i rs.length cap nc rs r hi f h1 h3 h z rfl h4
   ·exact(setRow_other _ _ _ _ (by omega)).trans (Below.heap_alloc w.drew _ k hk)
def Ln(a:List Value)(n:Nat):List Value:=splice (splice a 0 ((a.drop 2).take ((n-1)*2))) ((n-1)*2) [.int .u64 0,.int .u64 0]
def Wp(g n cap:Nat)(a:List Value)(w:World)(hn:2<=n)(m:n<=cap)(i:cap<=9223372036854775807)
  (hg:w.heap[g]?=some (.cells a.toArray 214 (0,0))) (d:a.length=cap*2) (j:∀v∈(a.drop 2).take ((n-1)*2),v.oneCell'=true) :
  Calls prog 157 #[.slice (some ⟨g,0,none⟩) n cap,.int .i64 0,.int .i64 1] w λe w'=>e = .returned (.slice (some ⟨g,0,none⟩) (n-1) cap) /\
   w'=(w.setRow g (Ln a n).toArray).drew:=by
 obtain⟨i0,f,hz0,k,hz2⟩:=info_parts PW;have hl:((a.drop 2).take ((n-1)*2)).length=(n-1)*2:=by simp;omega
 have Dc:∀ty,(Builtin.append_ #[63,63] ty #[.slice (some ⟨g,0,none⟩) 0 cap,.slice (some ⟨g,2,none⟩) (n-1) (cap-1)]).run prog w.drew =
   .ok (.slice (some ⟨g,0,none⟩) (n-1) cap) (w.setRow g (splice a 0 ((a.drop 2).take ((n-1)*2))).toArray).drew:=λty=>by
  have:=run_append_room (P:=prog) w.drew 63 ty 214 i0 underlying63 f g 0 cap a.toArray hg ⟨g,2,none⟩ (n-1) (cap-1) _ (by rw[hl,k]) (TG hg 2 ((n-1)*2)) j (by omega) (by rw[hl];simp;omega);rw[this];simp[splice];rfl
 obtain⟨h,b⟩:=nm (splice a 0 ((a.drop 2).take ((n-1)*2)));have o:h.length=cap*2:=by rw[<-b,length_splice _ _ _ (by rw[hl];omega)];exact d
 rw[b]at Dc;obtain⟨l,c⟩:=nm (splice h ((n-1)*2) [Value.int .u64 0,Value.int .u64 0]);have hcl:∀ty,(Builtin.clear_ #[63] ty #[.slice (some ⟨g,(n-1)*2,none⟩) (n-(n-1)) (cap-(n-1))]).run prog (w.setRow g h.toArray).drew = .ok (.tuple #[]) (w.setRow g l.toArray).drew:=λty=>by
  rw[show n-(n-1)=1 by omega,Ld (P:=prog) (w.setRow g h.toArray).drew 63 ty 214 (.agg #[.int .u64 0,.int .u64 0]) 2 underlying63 PV rfl (by simp[Value.cells,Value.oneCell']) g ((n-1)*2) 1 _ h _ (setRow_heap w g _ _ _ _ hg) (by omega)];rw[show(Builtin.zeroCells (Value.agg #[Value.int .u64 0,Value.int .u64 0]).cells 1).toList=[Value.int .u64 0,Value.int .u64 0]by kernel_rfl,c]
  congr 1
  exact A0 World.drew (setRow_setRow w g _ _)
 have HC:AA (Ln a n=l):=by
  show splice (splice _ _ _) _ _=l;rw[b,c]
 have h1:1<cap:=by omega
 have h2:(1:Int)<=n:=by omega
 have h3:n-1<cap:=by omega
 clear b c hl;go_enter func157,ntmps157;go_wp2_with fail;have h5:¬cap=1:=by omega
 go_region_law (refine zH rfl (.tmp 22) (.tmp 25) 63 63 rfl (.slice (some ⟨g,0,none⟩) 0 cap) (.slice (some ⟨g,2,none⟩) (n-1) (cap-1)) (.slice (some ⟨g,0,none⟩) (n-1) cap) (by simp[Act.eval,Act.put]) (by simp[Act.eval,Act.put]) Dc ?_)
 go_wp2_with fail;go_ret;exact⟨rfl,by rw[HC.z]⟩
def U1(a:Option Addr)(g2 i n cap:Nat)(R:Ending->World->Prop)(w:World)(hi:i<=n)(f:n<=cap)(c:cap<=9223372036854775807)
  (b:Calls prog 201 #[.slice a n cap,.int .i64 i,.slice (some ⟨g2,0,none⟩) 1 1] w λe w'=>∃v',e = .returned v'/\R (.returned v') w') :
  Calls prog 156 #[.slice a n cap,.int .i64 i,.int .i64 i,.slice (some ⟨g2,0,none⟩) 1 1] w R:=by
 by_cases hc:i=cap
 ·obtain rfl:n=i:=by omega
  subst hc;cases a;all_goals
   go_enter func156,ntmps156;go_wp2_with (go_at_call 201;refine b.mono ?_;rintro e w' ⟨v',rfl,d⟩);exact d
 ·have h1:i<cap:=by omega
  cases a;all_goals
   go_enter func156,ntmps156;go_wp2_with (go_at_call 201;refine b.mono ?_;rintro e w' ⟨v',rfl,d⟩);exact d
def LK(a:List Value)(i n:Nat)(r:List Value):List Value:=splice (splice a (i*2) r) ((i+1)*2) (Builtin.zeroCells #[.int .u64 0,.int .u64 0] (n-(i+1))).toList
def U0(g g2 i n cap:Nat)(b:List Value)(r:Nat×Nat)(w:World)(hi:i<n)(q:n<=cap)(_hcap2:cap<=9223372036854775807)
  (hg:w.heap[g]?=some (.cells b.toArray 214 (0,0))) (j:b.length=cap*2) (m:w.heap[g2]?=some (.cells [.int .u64 r.1,.int .u64 r.2].toArray 214 (0,0))) :
  Calls prog 156 #[.slice (some ⟨g,0,none⟩) n cap,.int .i64 i,.int .i64 n,.slice (some ⟨g2,0,none⟩) 1 1] w λe w'=>e = .returned (.slice (some ⟨g,0,none⟩) (i+1) cap) /\
   w'=w.setRow g (LK b i n [.int .u64 r.1,.int .u64 r.2]).toArray:=by
 obtain⟨i0,k,hz0,f,hz2⟩:=info_parts PW;have Dc:∀ty,(Builtin.append_ #[63,63] ty #[.slice (some ⟨g,0,none⟩) i cap,.slice (some ⟨g2,0,none⟩) 1 1]).run prog w =
   .ok (.slice (some ⟨g,0,none⟩) (i+1) cap) (w.setRow g (splice b (i*2) [Value.int .u64 r.1,Value.int .u64 r.2]).toArray):=λty=>by
  have:=run_append_room (P:=prog) w 63 ty 214 i0 underlying63 k g i cap b.toArray hg ⟨g2,0,none⟩ 1 1 [Value.int .u64 r.1,Value.int .u64 r.2] (by rw[f];rfl) (PU m) (by simp[Value.oneCell']) (by omega) (by rw[f];simp;omega);rw[this,f];simp[splice]
 obtain⟨h,c⟩:=nm (splice b (i*2) [Value.int .u64 r.1,Value.int .u64 r.2]);have s:h.length=cap*2:=by rw[<-c,length_splice _ _ _ (by simp;omega)];exact j
 rw[c]at Dc;obtain⟨l,d⟩:=nm (splice h ((i+1)*2) (Builtin.zeroCells #[Value.int .u64 0,Value.int .u64 0] (n-(i+1))).toList);have o:∀ty,(Builtin.clear_ #[63] ty #[.slice (some ⟨g,(i+1)*2,none⟩) (n-(i+1)) (cap-(i+1))]).run prog (w.setRow g h.toArray) = .ok (.tuple #[]) (w.setRow g l.toArray):=λty=>by
  rw[Ld (P:=prog) (w.setRow g h.toArray) 63 ty 214 (.agg #[.int .u64 0,.int .u64 0]) 2 underlying63 PV rfl (by simp[Value.cells,Value.oneCell']) g ((i+1)*2) (n-(i+1)) _ h _ (setRow_heap w g _ _ _ _ hg) (by omega)];rw[show(Value.agg #[Value.int .u64 0,Value.int .u64 0]).cells=#[Value.int .u64 0,Value.int .u64 0]from rfl,d]
  congr 1
  exact setRow_setRow w g _ _
 have t:AA (LK b i n [.int .u64 r.1,.int .u64 r.2]=l):=by
  show splice (splice _ _ _) _ _=l;rw[c,d]
 have p:AA (i+1=n->h=l):=by
  intro e;rw[<-d];subst e;simp[splice,Builtin.zeroCells]
 have h1:(i:Int)<n:=by omega
 have h2:((i:Int)==n)=false:=by simp;omega
 have h3:i<cap:=by omega
 clear c d;by_cases a:i+1=n
 ·have h4:decide ((i:Int)+1<n)=false:=by simp;omega
  have u:=p.z a;have HE:AA (h=l):=u;clear u o;have h5:¬((i:Int)+1<n):=by omega
  go_enter func156,ntmps156;have Hl:=zb a;clear a;go_wp2_with (at_builtin;refine zm rfl _ _ _ _ rfl _ _ _ rfl rfl Dc ?_);go_ret;exact⟨rfl,by rw[t.z,HE.z]⟩
 ·have h5:(i:Int)+1<n:=by omega
  have h6:i+1<cap:=by omega
  clear a;go_enter func156,ntmps156;go_wp2_with (at_builtin;refine zm rfl _ _ _ _ rfl _ _ _ rfl rfl Dc ?_);go_ret;exact⟨rfl,by rw[t.z]⟩
def Lm(a:List Value)(i j n:Nat)(r:List Value):List Value :=
 splice (splice (splice a (i*2) r) ((i+1)*2) (((splice a (i*2) r).drop (j*2)).take ((n-j)*2))) ((i+1+(n-j))*2) (Builtin.zeroCells #[.int .u64 0,.int .u64 0] (n-(i+1+(n-j)))).toList
def OP{α : Type}(L:List α)(o k n:Nat)(h:n=o+k):(L.take n).drop o=(L.drop o).take k:=by
 subst h;rw[C4]
 congr 1
 omega
def Uz(g g2 i j n cap:Nat)(a:List Value)(r:Nat×Nat)(w:World)(hi:i<j)(hj:j<n)(E:n<=cap)(A:cap<=9223372036854775807)
  (hg:w.heap[g]?=some (.cells a.toArray 214 (0,0))) (t:a.length=cap*2) (u:∀v∈a.take (n*2),v.oneCell'=true) (B:w.heap[g2]?=some (.cells [.int .u64 r.1,.int .u64 r.2].toArray 214 (0,0))) (_hne:g2≠g) :
  Calls prog 156 #[.slice (some ⟨g,0,none⟩) n cap,.int .i64 i,.int .i64 j,.slice (some ⟨g2,0,none⟩) 1 1] w λe w'=>e = .returned (.slice (some ⟨g,0,none⟩) (i+1+(n-j)) cap) /\
   ∃k,w'=(w.setRow g (Lm a i j n [.int .u64 r.1,.int .u64 r.2]).toArray).drewN k:=by
 obtain⟨d,f⟩:=nm (splice a (i*2) [Value.int .u64 r.1,Value.int .u64 r.2]);have y:d.length=cap*2:=by rw[<-f,length_splice _ _ _ (by simp;omega)];exact t
 have hc1:∀ty nq,(Builtin.copy_ #[63,63] ty #[.slice (some ⟨g,i*2,none⟩) (i+1+(n-j)-i) (cap-i),.slice (some ⟨g2,0,none⟩) 1 1]).run prog (w.drewN nq) = .ok (goInt (1:Nat)) ((w.setRow g d.toArray).drewN nq):=λty nq=>by
  rw[Le (P:=prog) (w.drewN nq) 63 63 ty 214 2 underlying63 Jp g (i*2) (i+1+(n-j)-i) (cap-i) g2 0 1 1 1 a _ _ _ _ hg B (by omega) (by omega) (by omega) (by simp) (by omega) (by simp[Value.oneCell'])];simp only[Bv,Ca,CR,Nat.one_mul,f];rfl
 obtain⟨h,l⟩:=nm (splice d ((i+1)*2) ((d.drop (j*2)).take ((n-j)*2)));have F:h.length=cap*2:=by rw[<-l,length_splice _ _ _ (by simp;omega)];exact y
 have q:∀v∈(d.drop (j*2)).take ((n-j)*2),v.oneCell'=true:=by
  intro v G;have e:d.drop (j*2)=a.drop (j*2):=by
   rw[<-f];simp only[splice];rw[Cq,By (by simp;omega),Am,Cq,By (by simp;omega),Am,CW]
   congr 1
   simp;omega
  rw[e,<-OP a (j*2) ((n-j)*2) (n*2) (by omega)]at G;exact u v (CE G)
 have hc2:∀ty nq,(Builtin.copy_ #[63,63] ty #[.slice (some ⟨g,(i+1)*2,none⟩) (n-j) (cap-(i+1)),.slice (some ⟨g,j*2,none⟩) (n-j) (cap-j)]).run prog ((w.setRow g d.toArray).drewN nq) =
   .ok (goInt (n-j:Nat)) ((w.setRow g h.toArray).drewN nq):=λty nq=>by
  have s:=setRow_heap w g _ d.toArray _ _ hg;rw[Le (P:=prog) ((w.setRow g d.toArray).drewN nq) 63 63 ty 214 2 underlying63 Jp g ((i+1)*2) (n-j) (cap-(i+1)) g (j*2) (n-j) (cap-j) (n-j) d d _ _ _ s s (by omega) (by omega) (by omega) (by omega) (by omega) q];rw[l]
  congr 1
  exact A0 (λx=>World.drewN x nq) (setRow_setRow w g _ _)
 obtain⟨z,m⟩:=nm (splice h ((i+1+(n-j))*2) (Builtin.zeroCells #[Value.int .u64 0,Value.int .u64 0] (n-(i+1+(n-j)))).toList);have C:∀ty nq,(Builtin.clear_ #[63] ty #[.slice (some ⟨g,(i+1+(n-j))*2,none⟩) (n-(i+1+(n-j))) (cap-(i+1+(n-j)))]).run prog ((w.setRow g h.toArray).drewN nq) = .ok (.tuple #[]) ((w.setRow g z.toArray).drewN nq):=λty nq=>by
  rw[Ld (P:=prog) ((w.setRow g h.toArray).drewN nq) 63 ty 214 (.agg #[.int .u64 0,.int .u64 0]) 2 underlying63 PV rfl (by simp[Value.cells,Value.oneCell']) g ((i+1+(n-j))*2) (n-(i+1+(n-j))) _ h _ (setRow_heap w g _ _ _ _ hg) (by omega)];rw[show(Value.agg #[Value.int .u64 0,Value.int .u64 0]).cells=#[Value.int .u64 0,Value.int .u64 0]from rfl,m]
  congr 1
  exact A0 (λx=>World.drewN x nq) (setRow_setRow w g _ _)
 have H:AA (Lm a i j n [.int .u64 r.1,.int .u64 r.2]=z):=by
  show splice (splice (splice _ _ _) _ _) _ _=z;rw[f,l,m]
 have D:AA (i+1+(n-j)=n->h=z):=by
  intro e;rw[<-m,e];simp[splice,Builtin.zeroCells]
 clear f l m q u;have h1:(i:Int)<j:=by omega
 have h2:((i:Int)==j)=false:=by simp;omega
 have h3:((j:Int)==n)=false:=by simp;omega
 have h4:(j:Int)<n:=by omega
 have h5:i<cap:=by omega
 have h6:i+1<cap:=by omega
 have h7:j<cap:=by omega
 have h8:¬cap=i+1:=by omega
 have h9:¬cap=j:=by omega
 by_cases b:i+1+(n-j)=cap
 ·have HL:=zb b;have p:n-(i+1+(n-j))=0:=by omega
  have HE:AA (h=z):=D.z (by omega);have H10:=zb p;have I:∀ty o c nq,(Builtin.clear_ #[63] ty #[.slice (some ⟨g,o,none⟩) (n-(i+1+(n-j))) c]).run prog ((w.setRow g h.toArray).drewN nq) = .ok (.tuple #[]) ((w.setRow g h.toArray).drewN nq):=λty o c nq=>by
   rw[p];simp[Builtin.clear_,run_underlying underlying63]
  clear b p C;go_enter func156,ntmps156;go_wp2_with fail;go_quiet (fail);go_wp2_with fail
  go_region
  go_wp2_with fail;all_goals
   go_ret;refine⟨?_,_,by rw[H.z,HE.z]⟩
   first|rfl|(rw[<-HL.z];rfl)
 ·have p:i+1+(n-j)<cap:=by omega
  clear b;go_enter func156,ntmps156;go_wp2_with fail;go_quiet (fail);go_wp2_with fail
  go_region
  go_wp2_with fail;go_ret;exact⟨rfl,_,by rw[H.z]⟩
def QC{α : Type}(L:List α)(o:Nat)(cs:List α)(h:o<=L.length):(splice L o cs).take o=L.take o:=by
 simp only[splice];rw[BC (by simp;omega),BZ]
 congr 1
 omega
def gw{α : Type}(L:List α)(o:Nat)(cs:List α)(k:Nat)(h:o+cs.length<=L.length)(hk:o+cs.length<=k):(splice L o cs).drop k=L.drop k:=by
 simp only[splice];rw[Cq,By (by simp;omega),Am,Cq,By (by simp;omega),Am,CW]
 congr 1
 simp;omega
def OO{α : Type}(L:List α)(o:Nat)(cs:List α)(h:o+cs.length<=L.length):(splice L o cs).take (o+cs.length)=L.take o++cs:=by
 simp only[splice];rw[<-List.append_assoc];have:(L.take o++cs).length=o+cs.length:=by simp;omega
 rw[<-this,BH]
def gu(a:List Value)(i n cap:Nat)(rs:zC)(r:Nat×Nat)(hi:i<n)(hn:n<=cap)(b:a.length=cap*2)(hrs:rs.length=n)(ht:a.take (n*2)=zo rs):(LK a i n [.int .u64 r.1,.int .u64 r.2]).take ((i+1)*2)=zo (rs.take i++[r]):=by
 have h1:(splice a (i*2) [Value.int .u64 r.1,Value.int .u64 r.2]).length=cap*2:=by rw[length_splice _ _ _ (by simp;omega)];exact b
 unfold LK;rw[QC _ _ _ (by omega)];have e:(i+1)*2=i*2 + [Value.int .u64 r.1,Value.int .u64 r.2].length:=by simp;omega
 rw[e,OO _ _ _ (by simp;omega),JB,<-N1,<-ht,BZ,BM (by omega)];rfl
def io(a:List Value)(i n cap:Nat)(r:Nat×Nat)(hi:i<n)(hn:n<=cap)(b:a.length=cap*2):(LK a i n [.int .u64 r.1,.int .u64 r.2]).length=cap*2:=by
 have h1:(splice a (i*2) [Value.int .u64 r.1,Value.int .u64 r.2]).length=cap*2:=by rw[length_splice _ _ _ (by simp;omega)];exact b
 unfold LK;rw[length_splice _ _ _ (by simp[size_zeroCells];omega)];exact h1
def iM(a:List Value)(i j n cap:Nat)(rs:zC)(r:Nat×Nat)(hi:i<j)(hj:j<n)(hn:n<=cap)(b:a.length=cap*2)(hrs:rs.length=n)(c:a.take (n*2)=zo rs):(Lm a i j n [.int .u64 r.1,.int .u64 r.2]).take ((i+1+(n-j))*2)=zo (rs.take i++r::rs.drop j)/\(Lm a i j n [.int .u64 r.1,.int .u64 r.2]).length=cap*2:=by
 have h1:(splice a (i*2) [Value.int .u64 r.1,Value.int .u64 r.2]).length=cap*2:=by rw[length_splice _ _ _ (by simp;omega)];exact b
 have hX:((splice a (i*2) [Value.int .u64 r.1,Value.int .u64 r.2]).drop (j*2)).take ((n-j)*2)=zo (rs.drop j):=by
  rw[gw _ _ _ _ (by simp;omega) (by simp;omega),<-OP a (j*2) ((n-j)*2) (n*2) (by omega),c,UE]
 have hXl:(zo (rs.drop j)).length=(n-j)*2:=by rw[zO];simp;omega
 have h2:(splice (splice a (i*2) [Value.int .u64 r.1,Value.int .u64 r.2]) ((i+1)*2) (zo (rs.drop j))).length=cap*2:=by rw[length_splice _ _ _ (by omega)];exact h1
 unfold Lm;rw[hX];constructor
 ·rw[QC _ _ _ (by omega),show(i+1+(n-j))*2=(i+1)*2+(zo (rs.drop j)).length by omega,OO _ _ _ (by omega)];have e:(i+1)*2=i*2 + [Value.int .u64 r.1,Value.int .u64 r.2].length:=by simp;omega
  rw[e,OO _ _ _ (by simp;omega),JB,zo,<-N1,<-c,BZ,BM (by omega)];simp
 ·rw[length_splice _ _ _ (by simp[size_zeroCells];omega)];exact h2
def iK(v:Value)(rs:zC)(i j:Nat)(r:Nat×Nat)(g2:Nat)(w:World)(hij:i<=j)(hj:j<=rs.length)(f:rs.length<=1099511627776)(b:w.ownsRow 0 214 2 v rs.length (zo rs))
  (d:w.heap[g2]?=some (.cells [.int .u64 r.1,.int .u64 r.2].toArray 214 (0,0))) (l:v.ownBlock≠some g2) :
  Calls prog 156 #[v,.int .i64 i,.int .i64 j,.slice (some ⟨g2,0,none⟩) 1 1] w λe w'=>∃v',e = .returned v'/\w'.ownsRow 0 214 2 v' (rs.take i++r::rs.drop j).length (zo (rs.take i++r::rs.drop j))/\w.grownBy w' v.ownBlock/\Dy w v v':=by
 by_cases m:i=j
 ·subst m;have hl:(rs.take i++r::rs.drop i).length=rs.length+1:=by simp;omega
  rw[hl];obtain⟨a,cap,rfl,h1,h2,_⟩:=zi b;unfold maxLen at h2;refine U1 a g2 i _ cap _ w (by omega) h1 (by omega) ?_;refine(eE _ rs i r g2 w hj f b d l).mono ?_;rintro e w' ⟨v',rfl,h⟩;exact⟨v',rfl,v',rfl,h⟩
 ·obtain⟨g,cap,c,rfl,hg,h1,h2,h3,h4⟩:=PT b (by omega);unfold maxLen at h2;have n:g2≠g:=λe=>l (by simp[Value.ownBlock,e])
  by_cases o:j=rs.length
  ·have hl:(rs.take i++r::rs.drop j).length=i+1:=by simp;omega
   rw[hl];have e0:rs.drop j=[]:=by simp;omega
   rw[e0];subst o;refine(U0 g g2 i rs.length cap c r w (by omega) h1 (by omega) hg h3 d).mono ?_;rintro e w' ⟨rfl,rfl⟩;refine⟨_,rfl,⟨by simp[zO];omega,.inr ⟨g,cap,_,rfl,AL _,setRow_heap w g _ _ _ _ hg,by omega,by unfold maxLen;omega,?_,?_⟩⟩,⟨rfl,rfl,rfl,by simp,λk _ hk=>setRow_other w g k _ (λe=>hk (by simp[Value.ownBlock,e]))⟩,λk hk=>.inl hk⟩
   ·simpa using io c i rs.length cap r (by omega) h1 h3
   ·simpa using gu c i rs.length cap rs r (by omega) h1 h3 rfl h4
  ·have hl:(rs.take i++r::rs.drop j).length=i+1+(rs.length-j):=by simp;omega
   rw[hl];have hf:=iM c i j rs.length cap rs r (by omega) (by omega) h1 h3 rfl h4;refine(Uz g g2 i j rs.length cap c r w (by omega) (by omega) h1 (by omega) hg h3 (by rw[h4];exact P0 rs) d n).mono ?_;rintro e w' ⟨rfl,k,rfl⟩;refine⟨_,rfl,⟨by simp[zO];omega,.inr ⟨g,cap,_,rfl,AL _,setRow_heap w g _ _ _ _ hg,by omega,by unfold maxLen;omega,?_,?_⟩⟩,⟨rfl,rfl,rfl,by simp,λk _ hk=>setRow_other w g k _ (λe=>hk (by simp[Value.ownBlock,e]))⟩,λk hk=>.inl hk⟩
   ·simpa using hf.2
   ·simpa using hf.1
def iL(a:List Value)(n cap:Nat)(rs:zC)(hn:2<=n)(d:n<=cap)(b:a.length=cap*2)(hrs:rs.length=n)(ht:a.take (n*2)=zo rs):(Ln a n).take ((n-1)*2)=zo (rs.drop 1)/\(Ln a n).length=cap*2:=by
 have hX:(a.drop 2).take ((n-1)*2)=zo (rs.drop 1):=by
  rw[<-OP a 2 ((n-1)*2) (n*2) (by omega),ht];exact UE rs 1
 have c:(zo (rs.drop 1)).length=(n-1)*2:=by rw[zO];simp;omega
 have h1:(splice a 0 (zo (rs.drop 1))).length=cap*2:=by rw[length_splice _ _ _ (by omega)];exact b
 unfold Ln;rw[hX];constructor
 ·rw[QC _ _ _ (by omega)];have:=OO a 0 (zo (rs.drop 1)) (by omega);rw[c,Au,CR,Am]at this;exact this
 ·rw[length_splice _ _ _ (by rw[h1,show [Value.int IntKind.u64 0,Value.int IntKind.u64 0].length=2 from rfl];omega)];exact h1
def eD(v:Value)(rs:zC)(w:World)(d:2<=rs.length)(b:w.ownsRow 0 214 2 v rs.length (zo rs)):Calls prog 157 #[v,.int .i64 0,.int .i64 1] w λe w'=>∃v',e = .returned v'/\w'.ownsRow 0 214 2 v' (rs.drop 1).length (zo (rs.drop 1))/\w.grownBy w' v.ownBlock/\Dy w v v':=by
 obtain⟨g,cap,a,rfl,hg,h1,h2,h3,h4⟩:=PT b (by omega);unfold maxLen at h2;have hf:=iL a rs.length cap rs d h1 h3 rfl h4;have c:∀v∈(a.drop 2).take ((rs.length-1)*2),v.oneCell'=true:=by
  intro v f;rw[<-OP a 2 ((rs.length-1)*2) (rs.length*2) (by omega),h4]at f;exact P0 rs v (CE f)
 refine(Wp g rs.length cap a w d h1 (by omega) hg h3 c).mono ?_;rintro e w' ⟨rfl,rfl⟩;have hl:(rs.drop 1).length=rs.length-1:=by simp
 rw[hl];refine⟨_,rfl,⟨by rw[zO,hl],.inr ⟨g,cap,_,rfl,AL _,setRow_heap w g _ _ _ _ hg,by omega,by unfold maxLen;omega,?_,?_⟩⟩,⟨rfl,rfl,rfl,by simp,λk _ hk=>setRow_other w g k _ (λe=>hk (by simp[Value.ownBlock,e]))⟩,λk hk=>.inl hk⟩
 ·simpa using hf.2
 ·simpa using hf.1
def D6(rs:zC)(lo i:Nat):Bool:=decide (lo<=DY rs i+1)
def D9(rs:zC)(hi i:Nat):Bool:=decide (hi+1<Da rs i)
def iJ:NM 154:=λargs w=>Nq func154 (by kernel_rfl) rfl args w
def iI:NM 155:=λargs w=>Nq func155 (by kernel_rfl) rfl args w
def Wo(rs:zC)(i b o d f lo:Nat)(v:Value)(w:World)
  (hs:w.cell? ⟨d,0,none⟩=some (.pointer (some ⟨b,o,none⟩))) (hn:w.cell? ⟨f,0,none⟩=some (.int .u64 lo)) (hlo:lo<18446744073709551616)
  (hl:w.cell? ⟨b,o,none⟩=some v) (c:w.ownsRow 0 214 2 v rs.length (zo rs)) (hi:i<rs.length) :
  Calls prog 154 #[.int .i64 i,.pointer (some ⟨d,0,none⟩),.pointer (some ⟨f,0,none⟩)] w λe w'=>e = .returned (.bool (D6 rs lo i))/\∃k,w'=w.drewN k:=by
 obtain⟨a,cap,rfl,h1,h2,h3⟩:=zi c;obtain⟨g,rfl⟩:=h3 (by omega);have hr:=(IM c i hi).2;have hi1:(i:Int)<rs.length:=by omega
 have hi0:0<=(i:Int):=by omega
 unfold maxLen at h2;clear h3;by_cases hc:lo<=DY rs i
 ·have hd:decide ((lo:Int)<=DY rs i)=true:=by simp;omega
  have hf:D6 rs lo i=true:=by simp[D6];omega
  go_enter func154,ntmps154;go_wp2_with fail;go_quiet (fail);go_wp2_with fail;go_ret;exact⟨by rw[hf];rfl,_,rfl⟩
 ·have hd:decide ((lo:Int)<=DY rs i)=false:=by simp;omega
  have hb:0<=(lo:Int)-DY rs i:=by omega
  have hb2:(lo:Int)-DY rs i<18446744073709551616:=by omega
  have HF:AA (D6 rs lo i=decide ((lo:Int)-DY rs i=1)):=by
   show _=_;simp only[D6]
   congr 1
   apply propext;omega
  go_enter func154,ntmps154;go_wp2_with fail;go_quiet (fail);go_wp2_with fail;go_ret;exact⟨by rw[HF.z];rfl,_,rfl⟩
def Wm(rs:zC)(i b o h j c:Nat)(v:Value)(w:World)
  (hs:w.cell? ⟨h,0,none⟩=some (.pointer (some ⟨b,o,none⟩))) (hn:w.cell? ⟨j,0,none⟩=some (.int .u64 c)) (hb:∀i,i<rs.length->Da rs i<18446744073709551616)
  (hl:w.cell? ⟨b,o,none⟩=some v) (d:w.ownsRow 0 214 2 v rs.length (zo rs)) (hi:i<rs.length) :
  Calls prog 155 #[.int .i64 i,.pointer (some ⟨h,0,none⟩),.pointer (some ⟨j,0,none⟩)] w λe w'=>e = .returned (.bool (D9 rs c i))/\∃k,w'=w.drewN k:=by
 obtain⟨a,cap,rfl,h1,h2,h3⟩:=zi d;obtain⟨g,rfl⟩:=h3 (by omega);have hr:=(IM d i hi).1;have hlt:=hb i hi;clear hb;have hi1:(i:Int)<rs.length:=by omega
 have l:0<=(i:Int):=by omega
 unfold maxLen at h2;clear h3;by_cases hc:c<Da rs i
 ·have hd:decide ((c:Int)<Da rs i)=true:=by simp;omega
  have hb:0<=(Da rs i:Int)-c:=by omega
  have hb2:(Da rs i:Int)-c<18446744073709551616:=by omega
  have f:AA (D9 rs c i=decide (1<(Da rs i:Int)-c)):=by
   show _=_;simp only[D9]
   congr 1
   apply propext;omega
  go_enter func155,ntmps155;go_wp2_with fail;go_quiet (fail);go_wp2_with fail;go_ret;exact⟨by rw[f.z];rfl,_,rfl⟩
 ·have hd:decide ((c:Int)<Da rs i)=false:=by simp;omega
  have f:AA (D9 rs c i=false):=by
   show _=_;simp only[D9,Ak];omega
  go_enter func155,ntmps155;go_wp2_with fail;go_quiet (fail);go_wp2_with fail;go_ret;exact⟨by rw[f.z];rfl,_,rfl⟩
def WF(rs:zC):Prop:=(∀i,i<rs.length->Da rs i<=DY rs i/\DY rs i<18446744073709551616)/\∀i j,i<j->j<rs.length->DY rs i+1<Da rs j
variable{hi lo:Nat}{rs:zC}
def Lb{m1 a:Nat}(h:WF rs)(hlh:lo<=hi)(h1:Eo rs.length (D6 rs lo) m1)(h2:Eo rs.length (D9 rs hi) a):m1<=a:=by
 obtain⟨a1,b1,c1⟩:=h1;obtain⟨a2,b2,c2⟩:=h2;by_cases hlt:a<m1
 ·have b:=b1 (by omega);have e2:=c2 (by omega);simp only[D6,Ak]at b;simp only[D9,Af]at e2;have hw:=h.1 a (by omega);by_cases he:a=m1-1
  ·rw[<-he]at b;omega
  ·have:=h.2 a (m1-1) (by omega) (by omega);have hw2:=h.1 (m1-1) (by omega);omega
 ·omega
variable{b o:Nat}
def MO(h:w.cell? ⟨b,o,none⟩=some v):(w.setCell ⟨b,o,none⟩ v).heap[b]?=w.heap[b]?:=by
 unfold World.cell? at h;simp only[World.setCell,CA];split at h
 ·rename_i c e fz hb;simp only at hb;rw[hb];simp only[Option.isSome_none,BQ,BY]at h;have:c.setIfInBounds o v=c:=by
   apply Ce;intro j;rw[BK];split
   ·rename_i hj;subst hj;split
    ·exact h.symm
    ·rename_i hn;simp[CQ (DD hn)]at h
   ·rfl
  simp[this]
 ·cases h
theorem im(w:World)(b o:Nat)(x y z:Value):(((w.setCell ⟨b,o,none⟩ x).setCell ⟨b,o+1,none⟩ y).setCell ⟨b,o,none⟩ z).heap[b]?=((w.setCell ⟨b,o,none⟩ z).setCell ⟨b,o+1,none⟩ y).heap[b]?:=by
 simp only[World.setCell,CA,A5];cases w.heap[b]? with
 | none=>rfl
 | some ob =>
  cases ob with
  | cells c e fz =>
   simp only[Ay,Option.isSome_none,BQ,BY]
   congr 2
   apply Ce;intro j;simp only[BK,DB];by_cases h1:o=j
   ·subst h1;simp
   ·by_cases h2:o+1=j
    ·subst h2;simp
    ·simp[h1,h2]
  | _=>rfl
structure FX(w W:World)(b o S L H:Nat)(v:Value)(rs:zC)(fl most lo hi:Nat):Prop where
 cs:W.cell? ⟨S,0,none⟩=some (.pointer (some ⟨b,o,none⟩))
 cl:W.cell? ⟨L,0,none⟩=some (.int .u64 lo)
 ch:W.cell? ⟨H,0,none⟩=some (.int .u64 hi)
 fz:W.frozen? ⟨L,0,none⟩=false
 set:ET W b o v rs fl most
 mod:DW DX w W
 ns:w.heap.size<=S/\w.heap.size<=L/\w.heap.size<=H
 ne:S≠L/\H≠L
variable{H:Nat}{W:World}
def FX.drewN{S L:Nat}{fl most:Nat}(h:FX w W b o S L H v rs fl most lo hi)(k:Nat):FX w (W.drewN k) b o S L H v rs fl most lo hi :=
 ⟨h.cs,h.cl,h.ch,h.fz,h.set.mod ((DW.refl DX W).drewN k) (λx=>x) (λ_ _ x=>x),h.mod.drewN k,h.ns,h.ne⟩
def FX.alloc{S L:Nat}{fl most:Nat}(h:FX w W b o S L H v rs fl most lo hi)(x:Obj):FX w (W.alloc x) b o S L H v rs fl most lo hi:=by
 have a:=(DW.refl DX W).alloc x;exact⟨a.cell (λx=>x) h.cs,a.cell (λx=>x) h.cl,a.cell (λx=>x) h.ch,by rw[World.frozen?_of_block (w:=W) (a.block L (zk h.cl) (λx=>x))];exact h.fz,h.set.mod a (λx=>x) (λ_ _ x=>x),h.mod.alloc x,h.ns,h.ne⟩
def FX.start(w:World)(b o:Nat)(v:Value)(rs:zC)(fl most lo hi t1 a c:Nat)(h:ET w b o v rs fl most):FX w (((w.alloc (.cells #[.pointer (some ⟨b,o,none⟩)] t1)).alloc (.cells #[.int .u64 lo] a)).alloc (.cells #[.int .u64 hi] c)) b o w.heap.size (w.heap.size+1) (w.heap.size+1+1) v rs fl most lo hi:=by
 have d:DW DX w (((w.alloc (.cells #[.pointer (some ⟨b,o,none⟩)] t1)).alloc (.cells #[.int .u64 lo] a)).alloc (.cells #[.int .u64 hi] c)):=(((DW.refl _ _).alloc _).alloc _).alloc _;have e1:(((w.alloc (.cells #[.pointer (some ⟨b,o,none⟩)] t1)).alloc (.cells #[.int .u64 lo] a)).alloc (.cells #[.int .u64 hi] c)).heap[w.heap.size]?=some (.cells #[.pointer (some ⟨b,o,none⟩)] t1 (0,0)):=by
  rw[Below.heap_alloc _ _ _ (by simp;omega),Below.heap_alloc _ _ _ (by simp)];exact heap_alloc_new w _
 have e:(((w.alloc (.cells #[.pointer (some ⟨b,o,none⟩)] t1)).alloc (.cells #[.int .u64 lo] a)).alloc (.cells #[.int .u64 hi] c)).heap[w.heap.size+1]?=some (.cells #[.int .u64 lo] a (0,0)):=by
  rw[Below.heap_alloc _ _ _ (by simp)];have:=heap_alloc_new (w.alloc (.cells #[.pointer (some ⟨b,o,none⟩)] t1)) (.cells #[.int .u64 lo] a);simpa using this
 have e3:(((w.alloc (.cells #[.pointer (some ⟨b,o,none⟩)] t1)).alloc (.cells #[.int .u64 lo] a)).alloc (.cells #[.int .u64 hi] c)).heap[w.heap.size+2]?=some (.cells #[.int .u64 hi] c (0,0)):=by
  have:=heap_alloc_new ((w.alloc (.cells #[.pointer (some ⟨b,o,none⟩)] t1)).alloc (.cells #[.int .u64 lo] a)) (.cells #[.int .u64 hi] c);simpa using this
 exact⟨za e1 rfl,za e rfl,za e3 rfl,zf e,h.mod d (λx=>x) (λ_ _ x=>x),d,⟨by omega,by omega,by omega⟩,⟨by omega,by omega⟩⟩
def FX.raise{S L:Nat}{fl most:Nat}(h:FX w W b o S L H v rs fl most lo hi)(hb:b<w.heap.size)(hv:∀g,v.ownBlock=some g->g<w.heap.size)(a:Nat):FX w (W.setCell ⟨L,0,none⟩ (.int .u64 a)) b o S L H v rs fl most a hi:=by
 have c:DW (λk=>k=L) W (W.setCell ⟨L,0,none⟩ (.int .u64 a)):=(DW.refl (λk=>k=L) W).setCell (p:=⟨L,0,none⟩) (.inl rfl) _;obtain⟨n1,n2,n3⟩:=h.ns;exact⟨c.cell h.ne.1 h.cs,by rw[World.cell?_setCell_same _ _ _ h.cl],c.cell h.ne.2 h.ch,by rw[World.frozen?_setCell];exact h.fz,h.set.mod c (by show ¬b=L;omega) (λg hg=>by show ¬g=L;have:=hv g hg;omega),
  h.mod.setCell (.inr n2) _,h.ns,h.ne⟩
def FX.newR{fl most R:Nat}(h:FX w W b o w.heap.size (w.heap.size+1) (w.heap.size+1+1) v rs fl most lo hi)(hR:w.heap.size+1+1<R)(hb:b<R)(hg:∀g,v.ownBlock=some g->g<R)(x y:Value):FX w ((W.setCell ⟨R,0,none⟩ x).setCell ⟨R,1,none⟩ y).drew b o w.heap.size (w.heap.size+1) (w.heap.size+1+1) v rs fl most lo hi:=by
 have a:=(((DW.refl (λk=>k=R) W).setCell (p:=⟨R,0,none⟩) (.inl rfl) x).setCell (p:=⟨R,1,none⟩) (.inl rfl) y).drew;have n1:¬w.heap.size=R:=by omega
 have d:¬w.heap.size+1=R:=by omega
 have n3:¬w.heap.size+1+1=R:=by omega
 have n4:¬b=R:=by omega
 exact⟨a.cell n1 h.cs,a.cell d h.cl,a.cell n3 h.ch,by rw[World.frozen?_of_block (w:=W) (a.block (w.heap.size+1) (zk h.cl) d)];exact h.fz,h.set.mod a n4 (λg c=>by show ¬g=R;have:=hg g c;omega),
  ((h.mod.setCell (p:=⟨R,0,none⟩) (.inr (by show _<=R;omega)) x).setCell (p:=⟨R,1,none⟩) (.inr (by show _<=R;omega)) y).drew,h.ns,h.ne⟩
def MS{R:Nat}{d b:Value}(h:W.heap[R]?=some (.cells #[d,b] t (0,0)))(x y:Int)(a c:Nat)(hx:x=(a:Int))(hy:y=(c:Int)):(((W.setCell ⟨R,0,none⟩ (.int .u64 x)).setCell ⟨R,1,none⟩ (.int .u64 y)).drew).heap[R]?=some (.cells #[.int .u64 a,.int .u64 c] t (0,0)):=by
 subst hx hy;have h1:(W.setCell ⟨R,0,none⟩ (.int .u64 a)).heap[R]?=some (.cells #[.int .u64 a,b] t (0,0)):=by
  rw[setCell_eq_setRow W R 0 #[d,b] t (0,0) _ h];exact setRow_heap W R _ _ _ _ h
 show((W.setCell ⟨R,0,none⟩ (.int .u64 a)).setCell ⟨R,1,none⟩ (.int .u64 c)).heap[R]?=_;rw[setCell_eq_setRow _ R 1 #[.int .u64 a,b] t (0,0) _ h1];exact setRow_heap _ R _ _ _ _ h1
def Uy(rs:zC)(fl most b o lo hi:Nat)(v:Value)(w:World)(h:ET w b o v rs fl most)
  (hv:∀g,v.ownBlock=some g->g<w.heap.size) (i:hi<max lo fl) :
  Calls prog 88 #[.pointer (some ⟨b,o,none⟩),.int .u64 lo,.int .u64 hi] w λe w'=>e = .returned (.tuple #[])/\DW DX w w':=by
 have j:=zk h.cf;have a:=FX.start w b o v rs fl most lo hi 114 43 43 h;obtain⟨p,d⟩:=nm ((((w.alloc (.cells #[.pointer (some ⟨b,o,none⟩)] 114)).alloc (.cells #[.int .u64 lo] 43)).alloc (.cells #[.int .u64 hi] 43)));rw[d]at a;have k:=zb d;clear d;obtain⟨m,q⟩:=nm (max lo fl);have c:=(a.raise j hv m).drewN 1;have l:AA ((if lo<fl then(fl:Int)else lo)=(m:Int)):=by
  show _=_;split<;>omega
 rw[q]at i;obtain⟨W1,f⟩:=nm ((p.setCell ⟨w.heap.size+1,0,none⟩ (.int .u64 m)).drew);have n:=zb f;rw[show(p.setCell ⟨w.heap.size+1,0,none⟩ (.int .u64 m)).drewN 1=W1 from f]at c;clear f q;have c1:=a.cs;have c2:=a.cl;have c3:=a.set.cf;have c4:=a.fz;go_enter func88,ntmps88;go_wp2_with fail;rw[k.z]
 go_region
 rw[l.z,n.z];clear c1 c2 c3 c4;have c2:=c.cl;have c3:=c.ch;have hlt:(hi:Int)<m:=by omega
 go_wp2_with fail;refine bodyPost_ret (results_none rfl _ _ _) rfl ?_;exact⟨rfl,c.mod⟩
def EO(rs:zC)(m hi m1 a:Nat):Nat×Nat:=if m1<a then(min m (Da rs m1),max hi (DY rs (a-1)))else(m,hi)
def EB(rs:zC)(m hi m1 a:Nat):zC:=rs.take m1++EO rs m hi m1 a::rs.drop a
def Ux(rs:zC)(fl most b o lo hi:Nat)(v:Value)(w:World)(e:Ending)(w':World):Prop :=
 ∃m1 m2 v' rs' fl',Eo rs.length (D6 rs (max lo fl)) m1/\Eo rs.length (D9 rs hi) m2 /\
  (rs',fl')=(if most<(EB rs (max lo fl) hi m1 m2).length then((EB rs (max lo fl) hi m1 m2).drop 1,DY (EB rs (max lo fl) hi m1 m2) 0+1)else(EB rs (max lo fl) hi m1 m2,fl)) /\
  e = .returned (.tuple #[])/\w'.ownsRow 0 214 2 v' rs'.length (zo rs')/\w'.heap[b]?=((w.setCell ⟨b,o,none⟩ v').setCell ⟨b,o+1,none⟩ (.int .u64 fl')).heap[b]? /\
  DW (λk=>k=b\/v.ownBlock=some k) w w'/\Dy w v v'
def Kv(rs:zC)(fl most b o lo hi:Nat)(v:Value)(w:World)(h:ET w b o v rs fl most)(ar:WF rs)(hlo:lo<18446744073709551616)(hhi:hi<18446744073709551616)(hfl:fl<18446744073709551616)
  (hv:∀g,v.ownBlock=some g->g<w.heap.size) (W:v.ownBlock≠some b) (au:max lo fl<=hi)
  (F:1<=most) (aP:most<=9223372036854775807) (X:∀m1 m2,Eo rs.length (D6 rs (max lo fl)) m1->Eo rs.length (D9 rs hi) m2->WF (EB rs (max lo fl) hi m1 m2)) :
  Calls prog 88 #[.pointer (some ⟨b,o,none⟩),.int .u64 lo,.int .u64 hi] w λe w'=>Ux rs fl most b o lo hi v w e w':=by
 have av:=zk h.cf;have aw:=h.len;have G:=FX.start w b o v rs fl most lo hi 114 43 43 h;obtain⟨W0,aj⟩:=nm ((((w.alloc (.cells #[.pointer (some ⟨b,o,none⟩)] 114)).alloc (.cells #[.int .u64 lo] 43)).alloc (.cells #[.int .u64 hi] 43)));rw[aj]at G;have ax:=zb aj;clear aj;obtain⟨m,hm⟩:=nm (max lo fl);have aQ:m<18446744073709551616:=by omega
 have l:=(G.raise av hv m).drewN 1;have ay:AA ((if lo<fl then(fl:Int)else lo)=(m:Int)):=by
  show _=_;split<;>omega
 have HM:=zb hm;rw[hm]at au X;obtain⟨W1,ak⟩:=nm ((W0.setCell ⟨w.heap.size+1,0,none⟩ (.int .u64 m)).drew);have az:=zb ak;rw[show(W0.setCell ⟨w.heap.size+1,0,none⟩ (.int .u64 m)).drewN 1=W1 from ak]at l;clear ak hm;have c1:=G.cs;have c2:=G.cl;have c3:=G.set.cf;have c4:=G.fz;have aA:∀k0,Calls prog 152 #[.int .i64 rs.length,.func (.func 154) #[] #[.pointer (some ⟨w.heap.size,0,none⟩),.pointer (some ⟨w.heap.size+1,0,none⟩)]] (W1.drewN k0) λe w'=>∃m1,Eo rs.length (D6 rs m) m1/\e = .returned (.int .i64 m1)/\∃k,w'=W1.drewN k:=λk0 =>
  (Oq rs.length 154 #[.pointer (some ⟨w.heap.size,0,none⟩),.pointer (some ⟨w.heap.size+1,0,none⟩)] (D6 rs m) (W1.drewN k0) (by omega) iJ (λi k al =>
   (Wo rs i b o w.heap.size (w.heap.size+1) m v ((W1.drewN k0).drewN k) l.cs l.cl aQ l.set.cl l.set.own al).mono λe w' ⟨he,k',hw⟩=>⟨he,k+k',by rw[hw,World.drewN_drewN]⟩)).mono
   λe w' ⟨m1,h1,he,k',hw⟩=>⟨m1,h1,he,k0+k',by rw[hw,World.drewN_drewN]⟩
 have aB:∀k0,Calls prog 152 #[.int .i64 rs.length,.func (.func 155) #[] #[.pointer (some ⟨w.heap.size,0,none⟩),.pointer (some ⟨w.heap.size+1+1,0,none⟩)]] (W1.drewN k0) λe w'=>∃m2,Eo rs.length (D9 rs hi) m2/\e = .returned (.int .i64 m2)/\FX w w' b o w.heap.size (w.heap.size+1) (w.heap.size+1+1) v rs fl most m hi:=λk0 =>
  (Oq rs.length 155 #[.pointer (some ⟨w.heap.size,0,none⟩),.pointer (some ⟨w.heap.size+1+1,0,none⟩)] (D9 rs hi) (W1.drewN k0) (by omega) iI (λi k al =>
   (Wm rs i b o w.heap.size (w.heap.size+1+1) hi v ((W1.drewN k0).drewN k) l.cs l.ch (λi hi=>by have:=ar.1 i hi;omega) l.set.cl l.set.own al).mono λe w' ⟨he,k',hw⟩=>⟨he,k+k',by rw[hw,World.drewN_drewN]⟩)).mono
   λe w' ⟨m1,h1,he,k',hw⟩=>⟨m1,h1,he,by rw[hw];exact(l.drewN k0).drewN k'⟩
 obtain⟨a,cap,n,n1,n2,n3⟩:=zi h.own;have aC:=zb aA;have aD:=zb aB;clear aA aB;go_enter func88,ntmps88;go_wp2_with fail;rw[ax.z]
 go_region
 rw[ay.z,az.z];clear c1 c2 c3 c4;have c1:=l.cs;have c2:=l.cl;have c3:=l.ch;have c5:=l.set.cl;rw[n]at c5;have hle:¬(hi:Int)<m:=by omega
 have aE:=trivial;go_upto_if 37 with(first|(go_at_call 152;have _t:=aE;refine(aC.z 0).mono ?_;rintro e w' ⟨m1,aa,rfl,k1,rfl⟩;clear aE)|(go_at_call 152;refine(aD.z _).mono ?_;rintro e W2 ⟨m2,Q,rfl,H⟩;have d1:=H.cs;have d2:=H.cl;have d3:=H.ch;have S:=H.set.cl;rw[n]at S;clear c1 c2 c3 c5));obtain⟨R,hR⟩:=nm W2.heap.size;obtain⟨W3,ab⟩:=nm (W2.alloc (.cells #[.int .u64 m,.int .u64 hi] 214));have s:=ab ▸ H.alloc _;have A:W3.heap[R]?=some (.cells #[.int .u64 m,.int .u64 hi] 214 (0,0)):=by rw[<-ab,<-hR];exact heap_alloc_new W2 _
 have aR:w.heap.size+1+1<R:=by rw[<-hR];exact zk H.ch
 have aS:b<R:=by omega
 have hRs:w.heap.size<R:=by omega
 rw[hR,ab];clear hR ab d1 d2 d3 S H l G aC aD ax az ay
 go_cut [6,7] (λf t wx=>f = .int .i64 m1/\t = .int .i64 m2/\FX w wx b o w.heap.size (w.heap.size+1) (w.heap.size+1+1) v rs fl most m hi /\
  wx.heap[R]?=some (.cells #[.int .u64 ((EO rs m hi m1 m2).1:Int),.int .u64 ((EO rs m hi m1 m2).2:Int)] 214 (0,0)))
 case first =>
  have d1:=s.cs;have d2:=s.cl;have d3:=s.ch;have S:=s.set.cl;rw[n]at S;have e1:=za (o:=0) A rfl;have e2:=za (o:=1) A rfl;have e3:=zf (o:=0) A;have e4:=zf (o:=1) A;by_cases aF:m1<m2
  ·have ad:=Q.1;obtain⟨g,rfl⟩:=n3 (by omega);have hgR:g<R:=by
    have:=hv g (by rw[n];rfl);omega
   have r1:=(IM (n ▸ s.set.own) m1 (by omega)).1;have r2:=(IM (n ▸ s.set.own) (m2-1) (by omega)).2;have i0:(m1:Int)<m2:=by omega
   have i1:(m1:Int)<rs.length:=by omega
   have i2:(m2:Int)-1<rs.length:=by omega
   have i3:0<=(m2:Int)-1:=by omega
   have i4:IntKind.i64.wrap ((m2:Int)-1)=(m2:Int)-1:=IntWalk.i64_in _ (by omega);have i5:((m2:Int)-1).toNat=m2-1:=by omega
   have i6:(1:Int)<=m2:=by omega
   have q1:¬w.heap.size=R:=by omega
   have q2:¬w.heap.size+1=R:=by omega
   have q3:¬w.heap.size+1+1=R:=by omega
   have q4:¬b=R:=by omega
   have q5:¬g=R:=by omega
   have Hr:AA (EO rs m hi m1 m2=(min m (Da rs m1),max hi (DY rs (m2-1)))):=by
    show _=_;rw[EO,AN aF]
   have aG:AA ((if Da rs m1<m then(Da rs m1:Int)else(m:Int))=((min m (Da rs m1):Nat):Int)):=by
    show _=_;split<;>omega
   have aH:AA ((if hi<DY rs (m2-1)then(DY rs (m2-1):Int)else(hi:Int))=((max hi (DY rs (m2-1)):Nat):Int)):=by
    show _=_;split<;>omega
   go_wp2_with fail
   go_region_held3 (λw'=>w'.cell? ⟨w.heap.size,0,none⟩=some (.pointer (some ⟨b,o,none⟩))/\w'.cell? ⟨w.heap.size+1,0,none⟩=some (.int .u64 m)/\w'.cell? ⟨w.heap.size+1+1,0,none⟩=some (.int .u64 hi)/\w'.cell? ⟨b,o,none⟩=some (.slice (some ⟨g,0,none⟩) rs.length cap)/\w'.cell? ⟨g,m1*2,none⟩=some (.int .u64 (Da rs m1:Int))/\w'.cell? ⟨g,(m2-1)*2+1,none⟩=some (.int .u64 (DY rs (m2-1):Int))) (first|exact⟨d1,d2,d3,S,r1,r2⟩|exact⟨LD d1 q1,LD d2 q2,LD d3 q3,LD S q4,LD r1 q5,LD r2 q5⟩|exact⟨LC d1 q1,LC d2 q2,LC d3 q3,LC S q4,LC r1 q5,LC r2 q5⟩) ((fail))
   all_goals
    rw[aG.z,aH.z];generalize hmn:min m (Da rs m1)=mn at *;generalize hmx:max hi (DY rs (m2-1))=mx at *;have q:=s.newR aR aS (by rw[n];intro k hk;simp[Value.ownBlock]at hk;omega) (.int .u64 mn) (.int .u64 mx);have I:(((W3.setCell ⟨R,0,none⟩ (.int .u64 mn)).setCell ⟨R,1,none⟩ (.int .u64 mx)).drew).heap[R]?=some (.cells #[.int .u64 ((EO rs m hi m1 m2).1:Int),.int .u64 ((EO rs m hi m1 m2).2:Int)] 214 (0,0)):=by
     rw[Hr.z];exact MS A mn mx mn mx rfl rfl
    clear d1 d2 d3 S e1 e2 e3 e4 r1 r2 A s hmn hmx aG aH;generalize ((W3.setCell ⟨R,0,none⟩ (.int .u64 mn)).setCell ⟨R,1,none⟩ (.int .u64 mx)).drew=W4 at *;go_wp2_with fail;go_meet;exact⟨rfl,rfl,q,I⟩
  ·have Hr:AA (EO rs m hi m1 m2=(m,hi)):=by
    show _=_;rw[EO,AH aF]
   go_wp2_with fail;go_meet;exact⟨rfl,rfl,s,by rw[Hr.z];exact A⟩
 case rest =>
  obtain⟨rfl,rfl,q,I⟩:=hcut;clear A s n3;have ad:=Q.1;have aT:=Lb ar au aa Q;obtain⟨rl,am⟩:=nm ((EO rs m hi m1 m2).1);obtain⟨rh,an⟩:=nm ((EO rs m hi m1 m2).2);rw[am,an]at I;have Hr:AA (EO rs m hi m1 m2=(rl,rh)):=by
   show _=_;rw[<-am,<-an]
  clear am an;have d1:=q.cs;have S:=q.set.cl;rw[n]at S;have e1:=za (o:=0) I rfl;have e2:=za (o:=1) I rfl;have l1:=zk q.cs;have l2:b<wc.heap.size:=by omega
  have l3:=(AI.1 I).1;have q1:¬w.heap.size=wc.heap.size:=by omega
  have q2:¬b=wc.heap.size:=by omega
  have q3:¬R=wc.heap.size:=by omega
  have q4:¬w.heap.size=b:=by omega
  have q5:¬R=b:=by omega
  have M:=q.set.own;rw[n]at M;have aI:(Value.slice a rs.length cap).ownBlock≠some wc.heap.size:=by
   intro J;have:=M.lt _ J;omega
  have p1:some w.heap.size≠(Value.slice a rs.length cap).ownBlock:=by
   intro J;have:=hv _ (n ▸ J.symm);omega
  have p2:some b≠(Value.slice a rs.length cap).ownBlock:=λJ=>W (n ▸ J.symm)
  have p3:some R≠(Value.slice a rs.length cap).ownBlock:=by
   intro J;have:=hv _ (n ▸ J.symm);omega
  have B:DW DX wc (wc.alloc (.cells #[.int .u64 rl,.int .u64 rh] 214)).drew:=((DW.refl DX wc).alloc _).drew;have T:=And.intro (B.cell (λx=>x) d1) (And.intro (B.cell (λx=>x) S) (And.intro (B.cell (λx=>x) e1) (B.cell (λx=>x) e2)));have ae:∀w4,World.grownBy (wc.alloc (.cells #[.int .u64 rl,.int .u64 rh] 214)).drew w4 (Value.slice a rs.length cap).ownBlock->w4.frozen? ⟨b,o,none⟩=false:=by
   intro w4 y;rw[World.frozen?_of_block (w:=(wc.alloc (.cells #[.int .u64 rl,.int .u64 rh] 214)).drew) (y.block b (Aw l2 B.size) p2)];exact(q.set.mod B (λx=>x) (λ_ _ x=>x)).fz o
  go_upto_region 8 with fail;refine zl 12 (λw'=>w'.cell? ⟨w.heap.size,0,none⟩=some (.pointer (some ⟨b,o,none⟩))/\w'.cell? ⟨b,o,none⟩=some (.slice a rs.length cap)/\w'.cell? ⟨R,0,none⟩=some (.int .u64 rl)/\w'.cell? ⟨R,1,none⟩=some (.int .u64 rh)) ⟨d1,S,e1,e2⟩ ?_;refine GI 0 ?_;iterate 8
   refine GV rfl ?_;try simp only[PS]
  refine zw 8 rfl (λK C=>?_);go_simp;refine C.z _ _ T ?_;clear C K;try simp only[PS]
  refine zw 9 rfl (λK C=>?_);go_simp;refine(iK (.slice a rs.length cap) rs m1 m2 (rl,rh) wc.heap.size _ aT ad aw ?_ ?_ aI).mono ?_
  ·exact(((DW.refl DX wc).alloc _).drew).owns M (λ_ _ x=>x)
  ·exact heap_alloc_new wc _
  rintro e w4 ⟨v',rfl,ho,y,ac⟩;have f1:=y.cell T.1 p1;have f2:=y.cell T.2.1 p2;have f3:=y.cell T.2.2.1 p3;have f4:=y.cell T.2.2.2 p3;have f5:=ae _ y;refine C.z _ _ ⟨f1,f2,f3,f4⟩ ?_;clear C K;try simp only[PS]
  refine GI 10 ?_;iterate 2
   refine GV rfl ?_;try simp only[PS]
  obtain⟨c,N⟩:=nm (rs.take m1++(rl,rh)::rs.drop m2);rw[N]at ho;have ao:AA (EB rs m hi m1 m2=c):=by
   show _=_;rw[EB,Hr.z,N]
  have aJ:WF c:=by rw[<-ao.z];exact X m1 m2 aa Q
  have hl5:c.length<=rs.length+1:=by
   rw[<-N];simp;omega
  clear N;have O:(v':Value).ownBlock≠some b:=by
   intro J;rcases ac b J with h1|h1
   ·exact p2 h1.symm
   ·simp at h1;omega
  obtain⟨a',d,rfl,k1,k2,k3⟩:=zi ho;have r:DW (λk=>v.ownBlock=some k) wc w4:=(B.mono (λ_ x=>x.elim)).grown y (λk hk=>.inl (by rw[n,hk]));have Y:Dy w v (.slice a' c.length d):=λk hk=>by
   rcases ac k hk with h1|h1
   ·exact .inl (by rw[n];exact h1)
   ·refine .inr ?_;have:=q.mod.size;simp at h1;omega
  have aK:∀k,(Value.slice a' c.length d).ownBlock=some k->v.ownBlock=some k\/wc.heap.size<=k:=λk hk=>by
   rcases ac k hk with h1|h1
   ·exact .inl (by rw[n];exact h1)
   ·exact .inr (by simp at h1;omega)
  obtain⟨U,u⟩:=nm (w4.setCell ⟨b,o,none⟩ (.slice a' c.length d));have g1:U.cell? ⟨w.heap.size,0,none⟩=some (.pointer (some ⟨b,o,none⟩)):=by rw[<-u];exact Nz f1 q4
  have g2:U.cell? ⟨b,o,none⟩=some (.slice a' c.length d):=by rw[<-u,World.cell?_setCell_same _ _ _ f2]
  have g3:U.cell? ⟨b,o+1,none⟩=some (.int .u64 fl):=by
   rw[<-u,World.cell?_setCell_other _ _ _ _ (by simp)];exact r.cell W q.set.cf
  have g4:U.cell? ⟨b,o+2,none⟩=some (.int .i64 most):=by
   rw[<-u,World.cell?_setCell_other _ _ _ _ (by simp)];exact r.cell W q.set.cm
  have g5:∀j,U.frozen? ⟨b,j,none⟩=false:=by
   intro j;rw[<-u,World.frozen?_setCell,World.frozen?_of_block (w:=wc) (r.block b l2 W)];exact q.set.fz j
  have P:U.ownsRow 0 214 2 (.slice a' c.length d) c.length (zo c):=by
   rw[<-u];exact((DW.refl (λk=>k=b) w4).setCell (p:=⟨b,o,none⟩) (.inl rfl) _).owns ho (λg hg x=>O (hg.trans (A0 some x)))
  have Z:DW (λk=>k=b\/v.ownBlock=some k) w U:=by
   rw[<-u];exact((q.mod.mono (λ_ x=>x.elim)).then (S':=λk=>v.ownBlock=some k) r (λi hi=>.inl (.inr hi))).setCell (p:=⟨b,o,none⟩) (.inl (.inl rfl)) _
  have L:U.heap[b]?=(w.setCell ⟨b,o,none⟩ (.slice a' c.length d)).heap[b]?:=by
   rw[<-u];exact MM ((r.block b l2 W).trans (q.mod.block b av (λx=>x))) _ _
  refine zU rfl (λK C=>?_);go_simp;refine C.z _ _ ?_;clear C K;try simp only[PS]
  refine zn ?_;try rw[u]
  clear u r f1 f2 f3 f4 f5 ae T B d1 S e1 e2 I q y ac M aI p1 p2 p3;have hn5:(c.length:Int)<=1099511627777:=by omega
  by_cases F:most<c.length
  ·have hd:(most:Int)<c.length:=by omega
   have k0:2<=c.length:=by omega
   obtain⟨g,rfl⟩:=k3 (by omega);have r1:U.cell? ⟨g,1,none⟩=some (.int .u64 (DY c 0:Int)):=by simpa using(IM P 0 (by omega)).2
   have hb1:DY c 0+1<18446744073709551616:=by
    have h1:=aJ.2 0 1 (by omega) (by omega);have h2:=aJ.1 1 (by omega);omega
   have hz:(0:Int)<c.length:=by omega
   have hz':0<c.length:=by omega
   have aV:=wu ((DY c 0:Int)+1) (by omega);go_wp2_with fail;go_quiet (fail);go_wp2_with fail;refine zl 11 (λw'=>w'.cell? ⟨w.heap.size,0,none⟩=some (.pointer (some ⟨b,o,none⟩))/\w'.cell? ⟨b,o,none⟩=some (.slice (some ⟨g,0,none⟩) c.length d)/\w'.cell? ⟨g,1,none⟩=some (.int .u64 (DY c 0:Int))) ⟨g1,g2,r1⟩ ?_;refine GI 0 ?_;iterate 11
    refine GV rfl ?_;try simp only[PS]
   have aU:=g5 (o+1);refine zU rfl (λK C=>?_);go_simp;refine C.z _ _ ?_;clear C K;try simp only[PS]
   refine zn ?_;obtain⟨W6,V⟩:=nm ((U.drewN (nq+1)).setCell ⟨b,o+1,none⟩ (.int .u64 ((DY c 0:Int)+1)));have ap:DW (λk=>k=b) U W6:=by
    rw[<-V];exact((DW.refl (λk=>k=b) U).drewN (nq+1)).setCell (p:=⟨b,o+1,none⟩) (.inl rfl) _
   have s1:=ap.cell q4 g1;have s2:W6.cell? ⟨b,o,none⟩=some (.slice (some ⟨g,0,none⟩) c.length d):=by
    rw[<-V,World.cell?_setCell_other _ _ _ _ (by simp)];exact g2
   have s3:W6.frozen? ⟨b,o,none⟩=false:=by
    rw[<-V,World.frozen?_setCell];exact g5 o
   have aL:=ap.owns P (λk hk x=>O (hk.trans (A0 some x)));have af:=Z.then ap (λi hi=>.inl (.inl hi));have aq:W6.heap[b]?=((w.setCell ⟨b,o,none⟩ (.slice (some ⟨g,0,none⟩) c.length d)).setCell ⟨b,o+1,none⟩ (.int .u64 ((DY c 0:Int)+1))).heap[b]?:=by
    rw[<-V];exact MM (w':=U.drewN (nq+1)) L _ _
   rw[V];clear V g1 g2 g3 g4 aU r1 L Z P;go_wp2_with fail;refine zl 8 (λw'=>w'.cell? ⟨w.heap.size,0,none⟩=some (.pointer (some ⟨b,o,none⟩))/\w'.cell? ⟨b,o,none⟩=some (.slice (some ⟨g,0,none⟩) c.length d)) ⟨s1,s2⟩ ?_;refine GI 0 ?_;iterate 5
    refine GV rfl ?_;try simp only[PS]
   refine zw 5 rfl (λK C=>?_);go_simp;refine(eD (.slice (some ⟨g,0,none⟩) c.length d) c _ k0 ?_).mono ?_
   ·exact((DW.refl DX W6).drew).owns aL (λ_ _ x=>x)
   rintro e w7 ⟨v7,rfl,aM,D,ah⟩;have p2:some b≠(Value.slice (some ⟨g,0,none⟩) c.length d).ownBlock:=λJ=>O J.symm
   have p1:some w.heap.size≠(Value.slice (some ⟨g,0,none⟩) c.length d).ownBlock:=by
    intro J;rcases aK _ J.symm with h1|h1
    ·have:=hv _ h1;omega
    ·omega
   have f1:=D.cell (w:=W6.drew) s1 p1;have f2:=D.cell (w:=W6.drew) s2 p2;have ai:=zk s2;have f5:w7.frozen? ⟨b,o,none⟩=false:=by
    rw[World.frozen?_of_block (w:=W6.drew) (D.block b ai p2)];exact s3
   refine C.z _ _ ⟨f1,f2⟩ ?_;clear C K;try simp only[PS]
   refine GI 6 ?_;iterate 2
    refine GV rfl ?_;try simp only[PS]
   obtain⟨a7,E,rfl,k71,k72,k73⟩:=zi aM;refine zU rfl (λK C=>?_);go_simp;refine C.z _ _ ?_;clear C K;try simp only[PS]
   refine zn ?_;have aN:(Value.slice a7 (c.drop 1).length E).ownBlock≠some b:=by
    intro J;rcases ah b J with h1|h1
    ·exact O h1
    ·have h2:W6.heap.size<=b:=h1;omega
   have aO:=af.drew.grown D (λk hk=>(Y k hk).imp .inr id);go_wp2_with fail;refine bodyPost_ret (results_none rfl _ _ _) rfl ?_;refine⟨m1,m2,.slice a7 (c.drop 1).length E,c.drop 1,DY c 0+1,by rw[HM.z];exact aa,Q,?_,rfl,?_,?_,?_,?_⟩
   ·rw[HM.z,ao.z,AN F]
   ·have:=((DW.refl (λk=>k=b) w7).setCell (p:=⟨b,o,none⟩) (.inl rfl) (.slice a7 (c.drop 1).length E)).owns aM (λk hk x=>aN (hk.trans (A0 some x)));simpa using this
   ·have h1:w7.heap[b]?=W6.heap[b]?:=D.block b ai p2;have:=(MM (h1.trans aq) o (.slice a7 (c.drop 1).length E)).trans (im _ _ _ _ _ _);simpa using this
   ·have:=aO.setCell (p:=⟨b,o,none⟩) (.inl (.inl rfl)) (.slice a7 (c.drop 1).length E);simpa using this
   ·intro k hk;rcases ah k hk with h1|h1
    ·exact Y k h1
    ·have h2:W6.heap.size<=k:=h1;exact .inr (AO af.size h2)
  ·have hd:¬(most:Int)<c.length:=by omega
   go_wp2_with fail;go_quiet (fail);go_wp2_with fail;refine bodyPost_ret (results_none rfl _ _ _) rfl ?_;refine⟨m1,m2,.slice a' c.length d,c,fl,by rw[HM.z];exact aa,Q,?_,rfl,P,?_,Z.drewN _,Y⟩
   ·rw[HM.z,ao.z,AH F]
   ·exact(MO g3).symm.trans (MM L _ _)
structure Dh where
 rs:zC
 fl:Nat
 most:Nat
structure WS where
 b:List UInt8
 sent:Dh
 came:Dh
 high:Nat
 finished:Bool
 ending:Bool
 cut:Bool
 keep:Nat
 final:Nat
 telling:Bool
 credit:Nat
structure RS where
 b:List UInt8
 came:Dh
 high:Nat
 fin:Nat
 ended:Bool
 cut:Bool
 keep:Nat
 read:Nat
 state:Nat
 grant:Nat
 anew:Bool
structure Df where
 n:Nat
 at_:Nat
 fs:List Db
structure CS where
 mtu:Nat
 window:Nat
 total:Nat
 now:Nat
 closed:Nat
 said:Bool
 next:Nat
 got:Dh
 answer:Bool
 ws:Nat->WS
 rs:Nat->RS
 credit:Nat
 grant:Nat
 anew:Bool
 flight:List Df
 largest:Nat
 waits:List Db
 lastID:Nat
 anyID:Bool
 seen:List (Nat×Nat)
 most:Nat
 came:List (Nat×List UInt8)
structure CV where
 g:Nat
 gv:Value
 wb:Nat->Value
 ws:Nat->Value
 wc:Nat->Value
 rb:Nat->Value
 rc:Nat->Value
 ft:Value
 fts:List Value
 wt:Value
 sn:Nat
 cm:Value
def upd{α : Type}(f:Nat -> α)(k:Nat)(x : α):Nat -> α := λj=>if j=k then x else f j
def ze{α : Type}(f:Nat -> α)(k:Nat)(x : α):upd f k x k=x:=by simp[upd]
variable{j k:Nat}
def zd{α : Type}(f:Nat -> α)(x : α)(h:j≠k):upd f k x j=f j:=by simp[upd,h]
def Fj{α : Type}(f:Nat -> α)(k:Nat):upd f k (f k)=f:=by
 funext j;by_cases h:j=k
 ·rw[h,ze]
 ·rw[zd _ _ h]
def FZ(x:WS)(bv sv cv:Value):List Value :=
 [bv,sv,.int .u64 x.sent.fl,.int .i64 x.sent.most,cv,.int .u64 x.came.fl,.int .i64 x.came.most,.int .u64 x.high,.bool x.finished,.bool x.ending,.bool x.cut,.int .u64 x.keep,.int .u64 x.final,.bool x.telling,.int .u64 x.credit]
def GD(x:RS)(bv cv:Value):List Value :=
 [bv,cv,.int .u64 x.came.fl,.int .i64 x.came.most,.int .u64 x.high,.int .u64 x.fin,.bool x.ended,.bool x.cut,.int .u64 x.keep,.int .u64 x.read,.int .i64 x.state,.int .u64 x.grant,.bool x.anew]
def Fa(c:CS)(V:CV):List Value :=
 [.int .i64 c.mtu,.int .i64 c.window,.int .i64 c.total,.int .u64 c.now,.int .i64 c.closed,.bool c.said,.int .u64 c.next,.pointer (some ⟨V.g,0,none⟩),.bool c.answer]
def Hd(c:CS)(V:CV):List Value :=
 [.int .u64 c.credit,.int .u64 c.grant,.bool c.anew,V.ft,.int .u64 c.largest,V.wt,.int .u64 c.lastID,.bool c.anyID,.map (some V.sn),.int .u64 c.most,V.cm]
def Gz(ws:Nat->WS)(b s c:Nat->Value):List Value:=(List.range 8).flatMap λk=>FZ (ws k) (b k) (s k) (c k)
def Hx(rs:Nat->RS)(b c:Nat->Value):List Value:=(List.range 8).flatMap λk=>GD (rs k) (b k) (c k)
def zt(c:CS)(V:CV):List Value:=Fa c V++(Gz c.ws V.wb V.ws V.wc++(Hx c.rs V.rb V.rc++Hd c V))
section
variable {α : Type}
theorem Ny(f:Nat->List α)(n:Nat)(hl:∀k,(f k).length=n)(m:Nat):((List.range m).flatMap f).length=n*m:=by
 induction m with
 | zero=>simp
 | succ m ih=>rw[Bf,CI,AF,ih];simp[hl,Nat.mul_succ]
theorem Rk(f:Nat->List α)(n:Nat)(hl:∀k,(f k).length=n)(m:Nat)(hk:k<m)(hj:j<n):((List.range m).flatMap f)[n*k+j]?=(f k)[j]?:=by
 induction m with
 | zero=>omega
 | succ m ih =>
  rw[Bf,CI];have a:=Ny f n hl m;by_cases h:k<m
  ·have:n*k+j<n*m:=by
    have:n*(k+1)<=n*m:=Cx n h;rw[Nat.mul_succ]at this;omega
   rw[Ag (by omega)];exact ih h
  ·have:k=m:=by omega
   subst this;rw[AV (by omega),a,Cf];simp
theorem Rj(f g:Nat->List α)(n:Nat)(hl:∀k,(f k).length=n)(m:Nat)(v : α)(hk:k<m)(hj:j<n)(hg:∀i,i<m->g i=if i=k then(f k).set j v else f i):((List.range m).flatMap f).set (n*k+j) v=(List.range m).flatMap g:=by
 induction m with
 | zero=>omega
 | succ m ih =>
  rw[Bf,CI,CI];have a:=Ny f n hl m;by_cases h:k<m
  ·have:n*k+j<n*m:=by
    have:n*(k+1)<=n*m:=Cx n h;rw[Nat.mul_succ]at this;omega
   rw[CT _ _ (by omega),ih h (λi hi=>hg i (by omega))];have:=hg m (by omega);rw[AH (by omega)]at this;simp[this]
  ·have:k=m:=by omega
   subst this;rw[Bb _ _ (by omega),a,Cf];have e:(List.range k).flatMap f=(List.range k).flatMap g:=by
    have:∀q,q<=k->(List.range q).flatMap f=(List.range q).flatMap g:=by
     intro q hq
     induction q with
     | zero=>rfl
     | succ q ih2 =>
      rw[Bf,CI,CI,ih2 (by omega)];have:=hg q (by omega);rw[AH (by omega)]at this;simp[this]
    exact this k (AG k)
   have:=hg k (by omega);rw[AN rfl]at this;rw[e];simp[this]
end
def Hg(ws:Nat->WS)(b s c:Nat->Value):(Gz ws b s c).length=120:=Ny _ 15 (λ_=>rfl) 8
def Jy(rs:Nat->RS)(b c:Nat->Value):(Hx rs b c).length=104:=Ny _ 13 (λ_=>rfl) 8
def Uw(c:CS)(V:CV)(h:(Fa c V)[j]?=some v):(zt c V)[j]?=some v:=by
 unfold zt;rw[Ag (AM.1 h).1];exact h
def LJ(c:CS)(V:CV)(hk:k<8)(h:(FZ (c.ws k) (V.wb k) (V.ws k) (V.wc k))[j]?=some v):(zt c V)[9+15*k+j]?=some v:=by
 have hj:j<15:=(AM.1 h).1;unfold zt;have hl:(Fa c V).length=9:=rfl;rw[AV (by omega),hl,show 9+15*k+j-9=15*k+j by omega,Ag (by rw[Hg];omega)];unfold Gz;rw[Rk _ 15 (λ_=>rfl) 8 hk hj];exact h
def Ko(c:CS)(V:CV)(hk:k<8)(h:(GD (c.rs k) (V.rb k) (V.rc k))[j]?=some v):(zt c V)[129+13*k+j]?=some v:=by
 have hj:j<13:=(AM.1 h).1;unfold zt;have hl:(Fa c V).length=9:=rfl;rw[AV (by omega),hl,AV (by rw[Hg];omega),Hg,show 129+13*k+j-9-120=13*k+j by omega,Ag (by rw[Jy];omega)];unfold Hx;rw[Rk _ 13 (λ_=>rfl) 8 hk hj];exact h
def Kn(c:CS)(V:CV)(h:(Hd c V)[j]?=some v):(zt c V)[233+j]?=some v:=by
 unfold zt;have hl:(Fa c V).length=9:=rfl;rw[AV (by omega),hl,AV (by rw[Hg];omega),Hg,AV (by rw[Jy];omega),Jy,show 233+j-9-120-104=j by omega];exact h
def Ju(c c':CS)(V a:CV)(v:Value)(hj:j<9)(h:Fa c' a=(Fa c V).set j v)(hw:Gz c'.ws a.wb a.ws a.wc=Gz c.ws V.wb V.ws V.wc)(hr:Hx c'.rs a.rb a.rc=Hx c.rs V.rb V.rc)(ht:Hd c' a=Hd c V):(zt c V).set j v=zt c' a:=by
 unfold zt;rw[CT _ _ (show j<(Fa c V).length from hj),h,hw,hr,ht]
def GY(c c':CS)(V a:CV)(v:Value)(hk:k<8)(hj:j<15)(hw:∀i,i<8->FZ (c'.ws i) (a.wb i) (a.ws i) (a.wc i)=if i=k then(FZ (c.ws k) (V.wb k) (V.ws k) (V.wc k)).set j v else FZ (c.ws i) (V.wb i) (V.ws i) (V.wc i))
  (h:Fa c' a=Fa c V) (hr:Hx c'.rs a.rb a.rc=Hx c.rs V.rb V.rc) (ht:Hd c' a=Hd c V):(zt c V).set (9+15*k+j) v=zt c' a:=by
 unfold zt;have hl:(Fa c V).length=9:=rfl;rw[Bb _ _ (by omega),hl,show 9+15*k+j-9=15*k+j by omega,CT _ _ (by rw[Hg];omega)];unfold Gz;rw[Rj _ _ 15 (λ_=>rfl) 8 v hk hj hw,h,hr,ht]
def Jt(c c':CS)(V a:CV)(v:Value)(hk:k<8)(hj:j<13)(hr:∀i,i<8->GD (c'.rs i) (a.rb i) (a.rc i)=if i=k then(GD (c.rs k) (V.rb k) (V.rc k)).set j v else GD (c.rs i) (V.rb i) (V.rc i))
  (h:Fa c' a=Fa c V) (hw:Gz c'.ws a.wb a.ws a.wc=Gz c.ws V.wb V.ws V.wc) (ht:Hd c' a=Hd c V):(zt c V).set (129+13*k+j) v=zt c' a:=by
 unfold zt;have hl:(Fa c V).length=9:=rfl;rw[Bb _ _ (by omega),hl,Bb _ _ (by rw[Hg];omega),Hg,show 129+13*k+j-9-120=13*k+j by omega,CT _ _ (by rw[Jy];omega)];unfold Hx;rw[Rj _ _ 13 (λ_=>rfl) 8 v hk hj hr,h,hw,ht]
def zX(c c':CS)(V a:CV)(v:Value)(h:Fa c' a=Fa c V)(hw:Gz c'.ws a.wb a.ws a.wc=Gz c.ws V.wb V.ws V.wc)(hr:Hx c'.rs a.rb a.rc=Hx c.rs V.rb V.rc)(ht:Hd c' a=(Hd c V).set j v):(zt c V).set (233+j) v=zt c' a:=by
 unfold zt;have hl:(Fa c V).length=9:=rfl;rw[Bb _ _ (by omega),hl,Bb _ _ (by rw[Hg];omega),Hg,Bb _ _ (by rw[Jy];omega),Jy,show 233+j-9-120-104=j by omega,h,hw,hr,ht]
def ED(w:World)(e size:Nat)(v:Value)(n:Nat)(xs:List Value):Prop :=
 xs.length=n*size/\(v = .slice none 0 0/\n=0\/∃g o cap cur,v = .slice (some ⟨g,o*size,none⟩) n cap/\w.heap[g]?=some (.cells cur e (0,0))/\n<=cap/\cap<=maxLen/\(o+cap)*size<=cur.size/\(cur.toList.drop (o*size)).take (n*size)=xs)
def Value.blk:Value->Option Nat
 | .slice (some a) _ _=>some a.block
 | _=>none
variable{S:Nat->Prop}{w':World}
def ED.mod{size n:Nat}(h:ED w e size v n xs)(m:DW S w w')(hs:∀g,Value.blk v=some g->¬S g):ED w' e size v n xs:=by
 refine⟨h.1,?_⟩;rcases h.2 with h|⟨g,o,cap,a,rfl,hg,h1⟩
 ·exact .inl h
 ·exact .inr ⟨g,o,cap,a,rfl,m.obj (hs g rfl) hg,h1⟩
def ED.nil(w:World)(e size:Nat):ED w e size (.slice none 0 0) 0 []:=⟨by simp,.inl ⟨rfl,rfl⟩⟩
def GF(tag:Nat->Nat×Nat)(t:Nat×Nat)(w:World)(v:Value)(fs:List Db):Prop :=
 ∃l:List (Db×Value),l.map (·.1)=fs/\G6 w v l/\(∀g,Value.blk v=some g->tag g=t)/\∀fr∈l,∀g,Value.blk fr.2=some g->tag g=t
def GE(h:∀g,Value.blk v=some g->¬S g):Dl S v:=λg o n c e=>h g (by rw[e];rfl)
variable{fs:List Db}{tag tag':Nat->Nat×Nat}
def GF.mod{t:Nat×Nat}(h:GF tag t w v fs)(m:DW S w w')(b:∀g,S g->tag g≠t)(c:∀g,tag g=t->tag' g=t):GF tag' t w' v fs:=by
 obtain⟨l,h1,h2,h3,h4⟩:=h;exact⟨l,h1,h2.mod m (GE λg hg x=>b g x (h3 g hg)) (λfr a=>GE λg hg x=>b g x (h4 fr a g hg)),λg hg=>c g (h3 g hg),λfr a g hg=>c g (h4 fr a g hg)⟩
def FY(w:World)(b:Nat)(l:List (Nat×Nat)):Prop :=
 ∃D,w.ownsMap (H:=Unit) prog 43 (plainElem prog 43) b l.length D/\Maps.size D=l.length/\∀x:Nat,x<18446744073709551616->Maps.has D (.int .u64 x)=l.any (λp=>p.1==x)
def FY.mod{l:List (Nat×Nat)}(h:FY w b l)(m:DW S w w')(hs:¬S b):FY w' b l:=by
 obtain⟨D,⟨es,a,h1,h2⟩,h3⟩:=h;exact⟨D,⟨es,a,m.obj hs h1,h2⟩,h3⟩
def zy(l:List (Df×Value)):List Value:=l.flatMap λp=>[.int .u64 p.1.n,.int .u64 p.1.at_,p.2]
def En(l:List (Nat×List UInt8)):List Value:=l.flatMap λp=>[.int .u64 p.1,.string (zq p.2)]
def zp(l:List Db):List Value:=l.flatMap λf=>(zh f (.slice none 0 0)).toList
structure zg(tag:Nat->Nat×Nat)(i b:Nat)(c:CS)(V:CV)(W:World):Prop where
 obj:W.heap[b]?=some (.cells (zt c V).toArray 127 (0,0))
 tb:tag b=(i,1)
 got:ET W V.g 0 V.gv c.got.rs c.got.fl c.got.most
 tg:tag V.g=(i,2)
 tgv:∀g,V.gv.ownBlock=some g->tag g=(i,3)
 wb:∀k,k<8->OB W (V.wb k) (c.ws k).b
 ws:∀k,k<8->W.ownsRow 0 214 2 (V.ws k) (c.ws k).sent.rs.length (zo (c.ws k).sent.rs)
 wc:∀k,k<8->W.ownsRow 0 214 2 (V.wc k) (c.ws k).came.rs.length (zo (c.ws k).came.rs)
 rb:∀k,k<8->OB W (V.rb k) (c.rs k).b
 rc:∀k,k<8->W.ownsRow 0 214 2 (V.rc k) (c.rs k).came.rs.length (zo (c.rs k).came.rs)
 twb:∀k,k<8->∀g,(V.wb k).ownBlock=some g->tag g=(i,10+k)
 tws:∀k,k<8->∀g,(V.ws k).ownBlock=some g->tag g=(i,20+k)
 twc:∀k,k<8->∀g,(V.wc k).ownBlock=some g->tag g=(i,30+k)
 trb:∀k,k<8->∀g,(V.rb k).ownBlock=some g->tag g=(i,40+k)
 trc:∀k,k<8->∀g,(V.rc k).ownBlock=some g->tag g=(i,50+k)
 ft:W.ownsRow 0 173 3 V.ft c.flight.length (zy (c.flight.zip V.fts))
 fl:V.fts.length=c.flight.length
 fs:∀p∈c.flight.zip V.fts,GF tag (i,5) W p.2 p.1.fs
 tft:∀g,V.ft.ownBlock=some g->tag g=(i,4)
 wt:ED W 65 10 V.wt c.waits.length (zp c.waits)
 twt:∀g,Value.blk V.wt=some g->tag g=(i,6)
 sn:FY W V.sn c.seen
 tsn:tag V.sn=(i,7)
 cm:W.ownsRow 0 154 2 V.cm c.came.length (En c.came)
 tcm:∀g,V.cm.ownBlock=some g->tag g=(i,8)
variable{V:CV}{W':World}{c:CS}{i:Nat}
def zg.mod(h:zg tag i b c V W)(m:DW S W W')(hS:∀g,S g->(tag g).1≠i)(ht:∀g,(tag g).1=i->tag' g=tag g):zg tag' i b c V W':=by
 have q:∀{g:Nat} {t:Nat×Nat},tag g=t->t.1=i->¬S g:=λhg hi x=>hS _ x (by rw[hg,hi])
 have e:∀{g:Nat} {t:Nat×Nat},tag g=t->t.1=i->tag' g=t:=λhg hi=>(ht _ (by rw[hg,hi])).trans hg
 exact
  {obj:=m.obj (q h.tb rfl) h.obj
   tb:=e h.tb rfl
   got:=h.got.mod m (q h.tg rfl) (λg hg=>q (h.tgv g hg) rfl)
   tg:=e h.tg rfl
   tgv:=λg hg=>e (h.tgv g hg) rfl
   wb:=λk hk=>m.owns (h.wb k hk) (λg hg=>q (h.twb k hk g hg) rfl)
   ws:=λk hk=>m.owns (h.ws k hk) (λg hg=>q (h.tws k hk g hg) rfl)
   wc:=λk hk=>m.owns (h.wc k hk) (λg hg=>q (h.twc k hk g hg) rfl)
   rb:=λk hk=>m.owns (h.rb k hk) (λg hg=>q (h.trb k hk g hg) rfl)
   rc:=λk hk=>m.owns (h.rc k hk) (λg hg=>q (h.trc k hk g hg) rfl)
   twb:=λk hk g hg=>e (h.twb k hk g hg) rfl
   tws:=λk hk g hg=>e (h.tws k hk g hg) rfl
   twc:=λk hk g hg=>e (h.twc k hk g hg) rfl
   trb:=λk hk g hg=>e (h.trb k hk g hg) rfl
   trc:=λk hk g hg=>e (h.trc k hk g hg) rfl
   ft:=m.owns h.ft (λg hg=>q (h.tft g hg) rfl)
   fl:=h.fl
   fs:=λp hp=>(h.fs p hp).mod m (λg hg x=>q x rfl hg) (λg hg=>e hg rfl)
   tft:=λg hg=>e (h.tft g hg) rfl
   wt:=h.wt.mod m (λg hg=>q (h.twt g hg) rfl)
   twt:=λg hg=>e (h.twt g hg) rfl
   sn:=h.sn.mod m (q h.tsn rfl)
   tsn:=e h.tsn rfl
   cm:=m.owns h.cm (λg hg=>q (h.tcm g hg) rfl)
   tcm:=λg hg=>e (h.tcm g hg) rfl }
def zg.mod0(h:zg tag i b c V W)(m:DW DX W W'):zg tag i b c V W':=h.mod m (λ_ x=>x.elim) (λ_ _=>rfl)
def Do(tag:Nat->Nat×Nat)(W:World):Prop:=∀g,W.heap.size<=g->tag g=(0,0)
def Do.mod(h:Do tag W)(m:DW S W W'):Do tag W':=λg hg=>h g (AO m.size hg)
structure Dj(i:Nat)(tag tag':Nat->Nat×Nat)(W W':World):Prop where
 old:∀g,g<W.heap.size->tag' g=tag g
 new:∀g,W.heap.size<=g->(tag' g).1=i\/tag' g=(0,0)
 z:Do tag' W'
def Dj.same(h:Do tag W)(m:DW S W W'):Dj i tag tag W W':=⟨λ_ _=>rfl,λg hg=>.inr (h g hg),h.mod m⟩
variable{W'':World}
def Dj.trans{a:Nat->Nat×Nat}(h:Dj i tag tag' W W')(k:Dj i tag' a W' W'')(hs:W.heap.size<=W'.heap.size):Dj i tag a W W'':=by
 refine⟨λg hg=>(k.old g (by omega)).trans (h.old g hg),λg hg=>?_,k.z⟩;by_cases q:g<W'.heap.size
 ·rw[k.old g q];exact h.new g hg
 ·exact k.new g (by omega)
def retag(tag:Nat->Nat×Nat)(W W':World)(t:Nat×Nat):Nat->Nat×Nat:=λg=>if g<W.heap.size then tag g else if g<W'.heap.size then t else(0,0)
def zz{t:Nat×Nat}(h:g<W.heap.size):retag tag W W' t g=tag g:=by simp[retag,h]
def Fr{t:Nat×Nat}(h:W.heap.size<=g)(h':g<W'.heap.size):retag tag W W' t g=t:=by
 simp only[retag,show ¬g<W.heap.size by omega,AH,As,AN h']
variable{r:Nat}
def Ib(hs:W.heap.size<=W'.heap.size):Dj i tag (retag tag W W' (i,r)) W W':=by
 refine⟨λg hg=>zz hg,λg hg=>?_,λg hg=>?_⟩
 ·by_cases q:g<W'.heap.size
  ·exact .inl (by rw[Fr hg q])
  ·exact .inr (by simp only[retag,show ¬g<W.heap.size by omega,q,AH,As])
 ·simp only[retag,show ¬g<W.heap.size by omega,show ¬g<W'.heap.size by omega,AH,As]
def EQ(h:Do tag W)(hg:tag g=(i,r))(hi:0<i):g<W.heap.size:=by
 by_cases q:g<W.heap.size
 ·exact q
 ·have:=h g (by omega);rw[hg]at this;simp at this;omega
def zg.hd(h:zg tag i b c V W)(hv:(Fa c V)[j]?=some v):W.cell? ⟨b,j,none⟩=some v :=
 za h.obj (by rw[BS];exact Uw c V hv)
def zg.tl(h:zg tag i b c V W)(hv:(Hd c V)[j]?=some v):W.cell? ⟨b,233+j,none⟩=some v :=
 za h.obj (by rw[BS];exact Kn c V hv)
end
section
open Go.RowKit Go.Proofs.Tryz
variable{V:CV}{W:World}{b i j k:Nat}{c:CS}{tag:Nat->Nat×Nat}{v:Value}
def zg.w(h:zg tag i b c V W)(hk:k<8)(hv:(FZ (c.ws k) (V.wb k) (V.ws k) (V.wc k))[j]?=some v):W.cell? ⟨b,9+15*k+j,none⟩=some v :=
 za h.obj (by rw[BS];exact LJ c V hk hv)
def zg.r(h:zg tag i b c V W)(hk:k<8)(hv:(GD (c.rs k) (V.rb k) (V.rc k))[j]?=some v):W.cell? ⟨b,129+13*k+j,none⟩=some v :=
 za h.obj (by rw[BS];exact Ko c V hk hv)
def zg.fz(h:zg tag i b c V W)(j:Nat):W.frozen? ⟨b,j,none⟩=false:=by simp[World.frozen?,h.obj]
def EC(n:Nat):Value:=if n=0 then .nilIface else .iface 57 (.int .i64 n)
def dU:EC 0 = .nilIface:=rfl
def Ie{n:Nat}(h:n≠0):EC n = .iface 57 (.int .i64 n):=by simp[EC,h]
def Js(n:Nat)(w:World)(hg:Er w):Calls prog 53 #[EC n] w (Rb w (n:Int)):=by
 by_cases h:n=0
 ·subst h;exact TN _ _ _ w (PR w)
 ·rw[Ie h];exact TN _ _ _ w (Oy (n:Int) w hg)
def Dn(tag:Nat->Nat×Nat)(i b:Nat)(W:World)(c':CS)(W':World):Prop :=
 ∃tag' V',zg tag' i b c' V' W'/\Dj i tag tag' W W'/\DW (λg=>(tag g).1=i) W W'
def EA(tag:Nat->Nat×Nat)(i b:Nat)(W:World)(r:Value)(c':CS)(e:Ending)(W':World):Prop:=e = .returned r/\Dn tag i b W c' W'
structure Id(c c':CS):Prop where
 got:c'.got=c.got
 ws:∀k,k<8->(c'.ws k).b=(c.ws k).b/\(c'.ws k).sent.rs=(c.ws k).sent.rs/\(c'.ws k).came.rs=(c.ws k).came.rs
 rs:∀k,k<8->(c'.rs k).b=(c.rs k).b/\(c'.rs k).came.rs=(c.rs k).came.rs
 flight:c'.flight=c.flight
 waits:c'.waits=c.waits
 seen:c'.seen=c.seen
 came:c'.came=c.came
def Id.refl(c:CS):Id c c:=⟨rfl,λ_ _=>⟨rfl,rfl,rfl⟩,λ_ _=>⟨rfl,rfl⟩,rfl,rfl,rfl,rfl⟩
variable{W':World}{c':CS}
def zg.re(h:zg tag i b c V W)(m:DW (λg=>g=b) W W')(d:W'.heap[b]?=some (.cells (zt c' V).toArray 127 (0,0)))(s:Id c c'):zg tag i b c' V W':=by
 have q:∀{g:Nat} {r:Nat},tag g=(i,r)->r≠1->¬g=b:=λhg hr x=>by
  rw[x,h.tb]at hg;simp at hg;exact hr hg.symm
 have ne:∀(a k:Nat),1<a->a+k≠1:=λa k ha=>by omega
 obtain⟨s1,s2,s3,e,s5,s6,s7⟩:=s;exact
  {obj:=d
   tb:=h.tb
   got:=by rw[s1];exact h.got.mod m (q h.tg (by decide)) (λg hg=>q (h.tgv g hg) (by decide))
   tg:=h.tg
   tgv:=h.tgv
   wb:=λk hk=>by rw[(s2 k hk).1];exact m.owns (h.wb k hk) (λg hg=>q (h.twb k hk g hg) (ne _ _ (by decide)))
   ws:=λk hk=>by rw[(s2 k hk).2.1];exact m.owns (h.ws k hk) (λg hg=>q (h.tws k hk g hg) (ne _ _ (by decide)))
   wc:=λk hk=>by rw[(s2 k hk).2.2];exact m.owns (h.wc k hk) (λg hg=>q (h.twc k hk g hg) (ne _ _ (by decide)))
   rb:=λk hk=>by rw[(s3 k hk).1];exact m.owns (h.rb k hk) (λg hg=>q (h.trb k hk g hg) (ne _ _ (by decide)))
   rc:=λk hk=>by rw[(s3 k hk).2];exact m.owns (h.rc k hk) (λg hg=>q (h.trc k hk g hg) (ne _ _ (by decide)))
   twb:=h.twb
   tws:=h.tws
   twc:=h.twc
   trb:=h.trb
   trc:=h.trc
   ft:=by rw[e];exact m.owns h.ft (λg hg=>q (h.tft g hg) (by decide))
   fl:=by rw[e];exact h.fl
   fs:=λp f=>by rw[e]at f;exact(h.fs p f).mod m (λg hg x=>q x (by decide) hg) (λg hg=>hg)
   tft:=h.tft
   wt:=by rw[s5];exact h.wt.mod m (λg hg=>q (h.twt g hg) (by decide))
   twt:=h.twt
   sn:=by rw[s6];exact h.sn.mod m (q h.tsn (by decide))
   tsn:=h.tsn
   cm:=by rw[s7];exact m.owns h.cm (λg hg=>q (h.tcm g hg) (by decide))
   tcm:=h.tcm }
def zg.store(h:zg tag i b c V W)(j:Nat)(v:Value)(hc:(zt c V).set j v=zt c' V)(s:Id c c'):zg tag i b c' V (W.setCell ⟨b,j,none⟩ v) :=
 h.re ((DW.refl (λg=>g=b) _).setCell (p:=⟨b,j,none⟩) (.inl rfl) _) (by rw[zc h.obj,Ap,hc]) s
def zg.left(h:zg tag i b c V W')(ht:Do tag W)(m:DW (λg=>(tag g).1=i) W W'):Dn tag i b W c W':=⟨tag,V,h,Dj.same ht m,m⟩
def zg.modb(h:zg tag i b c V W)(m:DW (λg=>g=b) W W'):DW (λg=>(tag g).1=i) W W':=m.mono (λg hg=>.inl (by rw[hg,h.tb]))
def zg.storeW(h:zg tag i b c V W)(hk:k<8)(j:Nat)(hj:j<15)(v:Value)(x:WS)(hx:FZ x (V.wb k) (V.ws k) (V.wc k)=(FZ (c.ws k) (V.wb k) (V.ws k) (V.wc k)).set j v)(h1:x.b=(c.ws k).b)(h2:x.sent.rs=(c.ws k).sent.rs)(h3:x.came.rs=(c.ws k).came.rs):zg tag i b { c with ws:=upd c.ws k x } V (W.setCell ⟨b,9+15*k+j,none⟩ v):=by
 refine h.store _ _ (GY _ _ _ _ _ hk hj (λq _=>?_) rfl rfl rfl) ⟨rfl,λq hq=>?_,λ_ _=>⟨rfl,rfl⟩,rfl,rfl,rfl,rfl⟩
 ·by_cases a:q=k
  ·subst a;simp only[ze,A5];exact hx
  ·simp only[zd _ _ a,AH a]
 ·by_cases a:q=k
  ·subst a;simp only[ze];exact⟨h1,h2,h3⟩
  ·simp[zd _ _ a]
def zg.storeR(h:zg tag i b c V W)(hk:k<8)(j:Nat)(hj:j<13)(v:Value)(x:RS)(hx:GD x (V.rb k) (V.rc k)=(GD (c.rs k) (V.rb k) (V.rc k)).set j v)(h1:x.b=(c.rs k).b)(h3:x.came.rs=(c.rs k).came.rs):zg tag i b { c with rs:=upd c.rs k x } V (W.setCell ⟨b,129+13*k+j,none⟩ v):=by
 refine h.store _ _ (Jt _ _ _ _ _ hk hj (λq _=>?_) rfl rfl rfl) ⟨rfl,λ_ _=>⟨rfl,rfl,rfl⟩,λq hq=>?_,rfl,rfl,rfl,rfl⟩
 ·by_cases a:q=k
  ·subst a;simp only[ze,A5];exact hx
  ·simp only[zd _ _ a,AH a]
 ·by_cases a:q=k
  ·subst a;simp only[ze];exact⟨h1,h3⟩
  ·simp[zd _ _ a]
def CS.stream(c:CS)(k:Int):Nat:=if c.closed≠0 then 12 else if k<0\/8<=k then 2 else 0
def Nv(h:zg tag i b c V W)(k:Int):Calls prog 90 #[.pointer (some ⟨b,0,none⟩),.int .i64 k] W λe W'=>e = .returned (EC (c.stream k))/\W=W':=by
 have c4:=h.hd (j:=4) rfl;unfold CS.stream EC;clear h;by_cases h0:c.closed=0
 ·rw[h0]at c4;by_cases h1:k<0
  ·simp only[h0,h1,true_or,ne_eq,CC,BY,A5];clear h0;go_enter func90,ntmps90;go_wp2_with fail;go_ret;exact⟨rfl,rfl⟩
  ·by_cases h2:8<=k
   ·simp only[h0,h2,or_true,ne_eq,CC,BY,A5];clear h0;go_enter func90,ntmps90;go_wp2_with fail;go_ret;exact⟨rfl,rfl⟩
   ·simp only[h0,h1,h2,or_self,ne_eq,CC,BY,A5];clear h0;go_enter func90,ntmps90;go_wp2_with fail;go_ret;exact⟨rfl,rfl⟩
 ·have hb:((c.closed:Int)==0)=false:=AR.2 (by omega);simp only[h0,ne_eq,As,A5];clear h0;go_enter func90,ntmps90;go_wp2_with fail;go_ret;exact⟨rfl,rfl⟩
def CS.err(c:CS):Nat:=c.closed
def CS.finish(c:CS)(k:Int):Nat×CS :=
 if c.stream k≠0 then(c.stream k,c)else if (c.ws k.toNat).finished||(c.ws k.toNat).cut then(4,c)else(0,{ c with ws:=upd c.ws k.toNat { c.ws k.toNat with finished:=true } })
def iD(h:zg tag i b c V W)(r:Do tag W)(k:Int):Calls prog 70 #[.pointer (some ⟨b,0,none⟩),.int .i64 k] W (EA tag i b W (EC (c.finish k).1) (c.finish k).2):=by
 have e:=Nv h k;have s:=zb (h.left r (DW.refl _ _));unfold CS.finish;by_cases d:c.stream k=0
 ·obtain⟨k0,k8,m⟩:0<=k/\k<8/\c.closed=0:=by
   unfold CS.stream at d;split at d
   ·cases d
   ·split at d
    ·cases d
    ·rename_i a b;simp at a;omega
  obtain⟨q,rfl⟩:∃q:Nat,k=(q:Int):=⟨k.toNat,by omega⟩;have t:q<8:=by omega
  rw[d]at e;simp only[d,Ao,ne_eq,CC,BY];obtain⟨fi,f⟩:=nm ((c.ws q).finished);obtain⟨cu,l⟩:=nm ((c.ws q).cut);have w8:W.cell? ⟨b,9+q*15+8,none⟩=some (.bool fi):=by rw[<-f,AK];exact h.w (j:=8) t rfl
  have w10:W.cell? ⟨b,9+q*15+10,none⟩=some (.bool cu):=by rw[<-l,AK];exact h.w (j:=10) t rfl
  have cf:=h.fz (9+q*15+8);have u:=h.storeW t 8 (by decide) (.bool true) { c.ws q with finished:=true } rfl rfl rfl rfl;rw[AK]at u;have H:=zb (u.left r (h.modb ((DW.refl (λg=>g=b) _).setCell (p:=⟨b,9+q*15+8,none⟩) (.inl rfl) _)));obtain⟨c1,o⟩:∃c1:CS,{ c with ws:=upd c.ws q { c.ws q with finished:=true } }=c1:=⟨_,rfl⟩;rw[o]at H ⊢;rw[f,l];clear h u r f l d m o;cases fi
  ·cases cu
   ·go_enter func70,ntmps70;go_wp2_with (go_at_call 90;refine e.mono ?_;rintro _ _ ⟨rfl,rfl⟩;unfold EC;simp only[A5]);go_ret;exact⟨rfl,H.z⟩
   ·go_enter func70,ntmps70;go_wp2_with (go_at_call 90;refine e.mono ?_;rintro _ _ ⟨rfl,rfl⟩;unfold EC;simp only[A5]);go_ret;exact⟨rfl,s.z⟩
  ·go_enter func70,ntmps70;go_wp2_with (go_at_call 90;refine e.mono ?_;rintro _ _ ⟨rfl,rfl⟩;unfold EC;simp only[A5]);go_ret;exact⟨rfl,s.z⟩
 ·obtain⟨n,m⟩:=nm (c.stream k);rw[m]at e d;simp only[m,d,ne_eq,As,A5];rw[Ie d]at e ⊢;clear h r m d;go_enter func70,ntmps70;go_wp2_with (go_at_call 90;refine e.mono ?_;rintro _ _ ⟨rfl,rfl⟩);go_ret;exact⟨rfl,s.z⟩
variable{S:Nat->Prop}{V':CV}{tag':Nat->Nat×Nat}
def zg.build{R:Nat->Prop}(h:zg tag i b c V W)(m:DW S W W')(hS:∀g,S g->∃r,R r/\tag g=(i,r))(ht:∀g,(tag g).1=i->tag' g=tag g)
  (n:W'.heap[b]?=some (.cells (zt c' V').toArray 127 (0,0)))
  (got:(c'.got=c.got/\V'.g=V.g/\V'.gv=V.gv/\¬R 2/\¬R 3)\/(ET W' V'.g 0 V'.gv c'.got.rs c'.got.fl c'.got.most/\tag' V'.g=(i,2)/\∀g,V'.gv.ownBlock=some g->tag' g=(i,3)))
  (wb:∀k,k<8->((c'.ws k).b=(c.ws k).b/\V'.wb k=V.wb k/\¬R (10+k))\/(OB W' (V'.wb k) (c'.ws k).b/\∀g,(V'.wb k).ownBlock=some g->tag' g=(i,10+k)))
  (ws:∀k,k<8->((c'.ws k).sent.rs=(c.ws k).sent.rs/\V'.ws k=V.ws k/\¬R (20+k))\/(W'.ownsRow 0 214 2 (V'.ws k) (c'.ws k).sent.rs.length (zo (c'.ws k).sent.rs)/\∀g,(V'.ws k).ownBlock=some g->tag' g=(i,20+k)))
  (wc:∀k,k<8->((c'.ws k).came.rs=(c.ws k).came.rs/\V'.wc k=V.wc k/\¬R (30+k))\/(W'.ownsRow 0 214 2 (V'.wc k) (c'.ws k).came.rs.length (zo (c'.ws k).came.rs)/\∀g,(V'.wc k).ownBlock=some g->tag' g=(i,30+k)))
  (rb:∀k,k<8->((c'.rs k).b=(c.rs k).b/\V'.rb k=V.rb k/\¬R (40+k))\/(OB W' (V'.rb k) (c'.rs k).b/\∀g,(V'.rb k).ownBlock=some g->tag' g=(i,40+k)))
  (rc:∀k,k<8->((c'.rs k).came.rs=(c.rs k).came.rs/\V'.rc k=V.rc k/\¬R (50+k))\/(W'.ownsRow 0 214 2 (V'.rc k) (c'.rs k).came.rs.length (zo (c'.rs k).came.rs)/\∀g,(V'.rc k).ownBlock=some g->tag' g=(i,50+k)))
  (ft:(c'.flight=c.flight/\V'.ft=V.ft/\V'.fts=V.fts/\¬R 4/\¬R 5)\/(W'.ownsRow 0 173 3 V'.ft c'.flight.length (zy (c'.flight.zip V'.fts))/\V'.fts.length=c'.flight.length/\(∀p∈c'.flight.zip V'.fts,GF tag' (i,5) W' p.2 p.1.fs)/\∀g,V'.ft.ownBlock=some g->tag' g=(i,4)))
  (wt:(c'.waits=c.waits/\V'.wt=V.wt/\¬R 6)\/(ED W' 65 10 V'.wt c'.waits.length (zp c'.waits)/\∀g,Value.blk V'.wt=some g->tag' g=(i,6)))
  (sn:(c'.seen=c.seen/\V'.sn=V.sn/\¬R 7)\/(FY W' V'.sn c'.seen/\tag' V'.sn=(i,7)))
  (cm:(c'.came=c.came/\V'.cm=V.cm/\¬R 8)\/(W'.ownsRow 0 154 2 V'.cm c'.came.length (En c'.came)/\∀g,V'.cm.ownBlock=some g->tag' g=(i,8))) :
  zg tag' i b c' V' W':=by
 have q:∀{g r:Nat},tag g=(i,r)->¬R r->¬S g:=λhg C x=>by
  obtain⟨r',h1,h2⟩:=hS _ x;rw[hg]at h2;simp at h2;rw[h2]at C;exact C h1
 have e:∀{g r:Nat},tag g=(i,r)->tag' g=(i,r):=λhg=>(ht _ (by rw[hg])).trans hg
 have j:ET W' V'.g 0 V'.gv c'.got.rs c'.got.fl c'.got.most/\tag' V'.g=(i,2)/\∀g,V'.gv.ownBlock=some g->tag' g=(i,3):=by
  rcases got with⟨a,d,f,A,B⟩|x
  ·rw[a,d,f];exact⟨h.got.mod m (q h.tg A) (λg hg=>q (h.tgv g hg) B),e h.tg,λg hg=>e (h.tgv g hg)⟩
  ·exact x
 have o:∀k,k<8->OB W' (V'.wb k) (c'.ws k).b/\∀g,(V'.wb k).ownBlock=some g->tag' g=(i,10+k):=λk hk=>by
  rcases wb k hk with⟨a,d,f⟩|x
  ·rw[a,d];exact⟨m.owns (h.wb k hk) (λg hg=>q (h.twb k hk g hg) f),λg hg=>e (h.twb k hk g hg)⟩
  ·exact x
 have s:∀k,k<8->W'.ownsRow 0 214 2 (V'.ws k) (c'.ws k).sent.rs.length (zo (c'.ws k).sent.rs)/\∀g,(V'.ws k).ownBlock=some g->tag' g=(i,20+k):=λk hk=>by
  rcases ws k hk with⟨a,d,f⟩|x
  ·rw[a,d];exact⟨m.owns (h.ws k hk) (λg hg=>q (h.tws k hk g hg) f),λg hg=>e (h.tws k hk g hg)⟩
  ·exact x
 have t:∀k,k<8->W'.ownsRow 0 214 2 (V'.wc k) (c'.ws k).came.rs.length (zo (c'.ws k).came.rs)/\∀g,(V'.wc k).ownBlock=some g->tag' g=(i,30+k):=λk hk=>by
  rcases wc k hk with⟨a,d,f⟩|x
  ·rw[a,d];exact⟨m.owns (h.wc k hk) (λg hg=>q (h.twc k hk g hg) f),λg hg=>e (h.twc k hk g hg)⟩
  ·exact x
 have u:∀k,k<8->OB W' (V'.rb k) (c'.rs k).b/\∀g,(V'.rb k).ownBlock=some g->tag' g=(i,40+k):=λk hk=>by
  rcases rb k hk with⟨a,d,f⟩|x
  ·rw[a,d];exact⟨m.owns (h.rb k hk) (λg hg=>q (h.trb k hk g hg) f),λg hg=>e (h.trb k hk g hg)⟩
  ·exact x
 have v:∀k,k<8->W'.ownsRow 0 214 2 (V'.rc k) (c'.rs k).came.rs.length (zo (c'.rs k).came.rs)/\∀g,(V'.rc k).ownBlock=some g->tag' g=(i,50+k):=λk hk=>by
  rcases rc k hk with⟨a,d,f⟩|x
  ·rw[a,d];exact⟨m.owns (h.rc k hk) (λg hg=>q (h.trc k hk g hg) f),λg hg=>e (h.trc k hk g hg)⟩
  ·exact x
 have l:W'.ownsRow 0 173 3 V'.ft c'.flight.length (zy (c'.flight.zip V'.fts))/\V'.fts.length=c'.flight.length/\(∀p∈c'.flight.zip V'.fts,GF tag' (i,5) W' p.2 p.1.fs)/\∀g,V'.ft.ownBlock=some g->tag' g=(i,4):=by
  rcases ft with⟨a,d,f,A,B⟩|x
  ·rw[a,d,f];exact⟨m.owns h.ft (λg hg=>q (h.tft g hg) A),h.fl,λp hp=>(h.fs p hp).mod m (λg hg x=>q x B hg) (λg hg=>e hg),λg hg=>e (h.tft g hg)⟩
  ·exact x
 have w:ED W' 65 10 V'.wt c'.waits.length (zp c'.waits)/\∀g,Value.blk V'.wt=some g->tag' g=(i,6):=by
  rcases wt with⟨a,d,f⟩|x
  ·rw[a,d];exact⟨h.wt.mod m (λg hg=>q (h.twt g hg) f),λg hg=>e (h.twt g hg)⟩
  ·exact x
 have y:FY W' V'.sn c'.seen/\tag' V'.sn=(i,7):=by
  rcases sn with⟨a,d,f⟩|x
  ·rw[a,d];exact⟨h.sn.mod m (q h.tsn f),e h.tsn⟩
  ·exact x
 have z:W'.ownsRow 0 154 2 V'.cm c'.came.length (En c'.came)/\∀g,V'.cm.ownBlock=some g->tag' g=(i,8):=by
  rcases cm with⟨a,d,f⟩|x
  ·rw[a,d];exact⟨m.owns h.cm (λg hg=>q (h.tcm g hg) f),λg hg=>e (h.tcm g hg)⟩
  ·exact x
 exact⟨n,e h.tb,j.1,j.2.1,j.2.2,λk hk=>(o k hk).1,λk hk=>(s k hk).1,λk hk=>(t k hk).1,λk hk=>(u k hk).1,λk hk=>(v k hk).1,λk hk=>(o k hk).2,λk hk=>(s k hk).2,λk hk=>(t k hk).2,λk hk=>(u k hk).2,λk hk=>(v k hk).2,
  l.1,l.2.1,l.2.2.1,l.2.2.2,w.1,w.2,y.1,y.2,z.1,z.2⟩
variable{g r:Nat}
def zg.apart{a b:Nat}(h:tag g=(i,r))(h':tag a=(i,b))(hr:r≠b):g≠a:=λe=>by
 rw[e,h']at h;simp at h;exact hr h.symm
variable{base e sz:Nat}{w:World}{xs:List Value}
def zF{n:Nat}(h:w.ownsRow base e sz v n xs):∀g,v.ownBlock=some g->g<w.heap.size:=by
 intro g hg;rcases h.2 with⟨rfl,rfl⟩|⟨g',cap,cur,rfl,_,h0,h1,h2,_⟩
 ·simp[Value.ownBlock]at hg
 ·simp[Value.ownBlock]at hg;subst hg;exact(AI.1 h0).1
def Ox(w:World)(v:Value)(l:List UInt8)(a:Addr)(cap:Nat)(s:List UInt8)(h:OB w v l)(hb:BR w (.slice (some a) s.length cap) s)(hl:l.length+s.length<=140737488355328):∃v' w',(∀ty,(Builtin.append_ #[60,60] ty #[v,.slice (some a) s.length cap]).run prog w = .ok v' w')/\Dq w v l s v' w':=by
 obtain⟨i,hi,hz,b,c⟩:=info_parts Nf;obtain⟨a',c',e,_,_,hc⟩:=hb;cases e;obtain⟨v',w',h1,h2,h3,h4,h5⟩:=Jw (P:=prog) w 60 5 i (.int .u8 0) 1 1 underlying60 hi hz b c rfl (by decide) v l.length (zR l) h a s.length cap (zR s) (by simp[zR]) (λj u f=>by
   simp only[zR,BW,CM]at f;obtain⟨x,hx,rfl⟩:=f;obtain⟨g,o,e2,d⟩:=hc j x hx;cases e2;rw[zS];exact d) (QI s) (by unfold maxLen;omega) (by omega)
 exact⟨v',w',h1,by rw[OB,AF,ML];exact h2,h5,h3,h4⟩
def CS.send(c:CS)(k:Int)(s:List UInt8):Nat×CS :=
 if c.stream k≠0 then(c.stream k,c)else if (c.ws k.toNat).finished||(c.ws k.toNat).cut then(4,c)else if 2048<(c.ws k.toNat).b.length+s.length then(3,c)else(0,{ c with ws:=upd c.ws k.toNat { c.ws k.toNat with b:=(c.ws k.toNat).b++s } })
def LW{k:Int}(d:c.stream k=0):0<=k/\k<8/\c.closed=0:=by
 unfold CS.stream at d;split at d
 ·cases d
 ·split at d
  ·cases d
  ·rename_i a b;simp at a;omega
variable{W1:World}{v':Value}
def zg.newWb(h:zg tag i b c V W)(f:Do tag W)(hi:0<i)(hk:k<8){s:List UInt8}(d:Dq W (V.wb k) (c.ws k).b s v' W1):Dn tag i b W { c with ws:=upd c.ws k { c.ws k with b:=(c.ws k).b++s } } (W1.setCell ⟨b,9+15*k,none⟩ v'):=by
 have m1:=(DW.refl _ W).grown d.grown (λg hg=>.inl hg);have hb:¬(V.wb k).ownBlock=some b:=λx=>zg.apart h.tb (h.twb k hk b x) (by omega) rfl
 have o1:=m1.obj hb h.obj;have hbW:=EQ f h.tb hi;have l:DW (λg=>(V.wb k).ownBlock=some g\/g=b) W (W1.setCell ⟨b,9+15*k,none⟩ v'):=(m1.mono (λg hg=>.inl (.inl hg))).setCell (p:=⟨b,9+15*k,none⟩) (.inl (.inr rfl)) _;have hw:DW (λg=>g=b) W1 (W1.setCell ⟨b,9+15*k,none⟩ v'):=(DW.refl (λg=>g=b) _).setCell (p:=⟨b,9+15*k,none⟩) (.inl rfl) _;have j:∀g,v'.ownBlock=some g->g≠b:=λg hg x=>by
  subst x;rcases d.at_ g hg with y|y
  ·exact hb y
  ·omega
 have hs1:W1.heap.size=(W1.setCell ⟨b,9+15*k,none⟩ v').heap.size:=by simp
 refine⟨retag tag W W1 (i,10+k),{ V with wb:=upd V.wb k v' },?_,?_,l.mono (λg hg=>.inl ?_)⟩
 ·refine h.build (R:=λr=>r=1\/r=10+k) l (λg hg=>?_) (λg hg=>zz (EQ f (i:=i) (r:=(tag g).2) (by rw[<-hg]) hi)) ?_ (.inl ⟨rfl,rfl,rfl,by omega,by omega⟩) (λq e=>?_) (λq e=>.inl ⟨?_,rfl,by omega⟩) (λq e=>.inl ⟨?_,rfl,by omega⟩) (λq e=>.inl ⟨rfl,rfl,by omega⟩) (λq e=>.inl ⟨rfl,rfl,by omega⟩) (.inl ⟨rfl,rfl,rfl,by omega,by omega⟩) (.inl ⟨rfl,rfl,by omega⟩) (.inl ⟨rfl,rfl,by omega⟩) (.inl ⟨rfl,rfl,by omega⟩)
  ·rcases hg with hg|hg
   ·exact⟨10+k,.inr rfl,h.twb k hk g hg⟩
   ·exact⟨1,.inl rfl,by rw[hg,h.tb]⟩
  ·rw[zc o1,Ap];rw[show 9+15*k=9+15*k+0 from rfl,GY c { c with ws:=upd c.ws k { c.ws k with b:=(c.ws k).b++s } } V { V with wb:=upd V.wb k v' } v' hk (by decide) (λq _=>?_) rfl rfl rfl];by_cases a:q=k
   ·subst a;simp only[ze,A5];rfl
   ·simp only[zd _ _ a,AH a]
  ·by_cases a:q=k
   ·subst a;simp only[ze];refine .inr ⟨hw.owns d.own j,λg hg=>?_⟩;rcases d.at_ g hg with y|y
    ·rw[zz (EQ f (h.twb q hk g y) hi),h.twb q hk g y]
    ·rw[Fr y];have:=zF d.own g hg;exact this
   ·exact .inl ⟨by simp only[zd _ _ a],by simp only[zd _ _ a],by omega⟩
  ·by_cases a:q=k
   ·subst a;simp only[ze]
   ·simp only[zd _ _ a]
  ·by_cases a:q=k
   ·subst a;simp only[ze]
   ·simp only[zd _ _ a]
 ·have:=Ib (i:=i) (r:=10+k) (tag:=tag) m1.size;exact⟨this.old,this.new,λg hg=>this.z g (by simpa using hg)⟩
 ·rcases hg with hg|hg
  ·rw[h.twb k hk g hg]
  ·rw[hg,h.tb]
def dS(h:zg tag i b c V W)(A:Do tag W)(hi:0<i)(k:Int)(a:Addr)(cap:Nat)(s:List UInt8)(m:BR W (.slice (some a) s.length cap) s)(hsl:s.length<=1099511627776)(o:∀k,k<8->(c.ws k).b.length<=1099511627776):Calls prog 69 #[.pointer (some ⟨b,0,none⟩),.int .i64 k,.slice (some a) s.length cap] W (EA tag i b W (EC (c.send k s).1) (c.send k s).2):=by
 have f:=Nv h k;have B:=zb (h.left A (DW.refl _ _));unfold CS.send;by_cases l:c.stream k=0
 ·obtain⟨k0,k8,v⟩:=LW l;obtain⟨q,rfl⟩:∃q:Nat,k=(q:Int):=⟨k.toNat,by omega⟩;have e:q<8:=by omega
  rw[l]at f;simp only[l,Ao,ne_eq,CC,BY];obtain⟨fi,p⟩:=nm ((c.ws q).finished);obtain⟨cu,r⟩:=nm ((c.ws q).cut);obtain⟨N,u⟩:=nm ((c.ws q).b.length);have C:=o q e;rw[u]at C;have w8:W.cell? ⟨b,9+q*15+8,none⟩=some (.bool fi):=by rw[<-p,AK];exact h.w (j:=8) e rfl
  have w10:W.cell? ⟨b,9+q*15+10,none⟩=some (.bool cu):=by rw[<-r,AK];exact h.w (j:=10) e rfl
  have E:W.cell? ⟨b,9+q*15,none⟩=some (V.wb q):=by rw[AK];exact h.w (j:=0) e rfl
  obtain⟨v',W1,Dc,y⟩:=Ox W (V.wb q) (c.ws q).b a cap s (h.wb q e) m (by omega);obtain⟨va,vc,rfl,_⟩:=zi y.own;have D:=h.newWb A hi e y;rw[AK]at D;have w1:W1.cell? ⟨b,9+q*15,none⟩=some (V.wb q):=by
   have m1:=(DW.refl _ W).grown y.grown (λg hg=>.inl hg);exact m1.cell (a:=⟨b,_,none⟩) (λx=>zg.apart h.tb (h.twb q e b x) (by omega) rfl) E
  have f1:W1.frozen? ⟨b,9+q*15,none⟩=false:=by
   have m1:=(DW.refl _ W).grown y.grown (λg hg=>.inl hg);have o1:=m1.obj (λx=>zg.apart h.tb (h.twb q e b x) (by omega) rfl) h.obj;simp[World.frozen?,o1]
  have H:=zb D;obtain⟨c1,z⟩:∃c1:CS,{ c with ws:=upd c.ws q { c.ws q with b:=(c.ws q).b++s } }=c1:=⟨_,rfl⟩;rw[z]at H ⊢;rw[p,r,u];rw[AF,u]at H;rw[AF,u]at Dc;obtain⟨wa,wc,t,_⟩:=zi (h.wb q e);rw[u]at t;rw[t]at E w1 Dc;clear h D A p r l v z u y m t o;cases fi
  ·cases cu
   ·by_cases d:2048<N+s.length
    ·have d1:(2048:Int)-N<s.length:=by omega
     simp only[d,Bool.or_self,BQ,BY,A5];clear d;go_enter func69,ntmps69;go_wp2_with (go_at_call 90;refine f.mono ?_;rintro _ _ ⟨rfl,rfl⟩;unfold EC;simp only[A5]);go_ret;exact⟨rfl,B.z⟩
    ·have d1:¬(2048:Int)-N<s.length:=by omega
     simp only[d,Bool.or_self,BQ,BY];clear d;go_enter func69,ntmps69;go_wp2_with (first|(go_at_call 90;refine f.mono ?_;rintro _ _ ⟨rfl,rfl⟩;unfold EC;simp only[A5])|(at_builtin;refine zm rfl _ _ _ _ rfl _ _ _ rfl rfl Dc ?_));go_ret;exact⟨rfl,H.z⟩
   ·simp only[Bool.or_true,A5];go_enter func69,ntmps69;go_wp2_with (go_at_call 90;refine f.mono ?_;rintro _ _ ⟨rfl,rfl⟩;unfold EC;simp only[A5]);go_ret;exact⟨rfl,B.z⟩
  ·simp only[Bool.true_or,A5];go_enter func69,ntmps69;go_wp2_with (go_at_call 90;refine f.mono ?_;rintro _ _ ⟨rfl,rfl⟩;unfold EC;simp only[A5]);go_ret;exact⟨rfl,B.z⟩
 ·obtain⟨n,v⟩:=nm (c.stream k);rw[v]at f l;simp only[v,l,ne_eq,As,A5];rw[Ie l]at f ⊢;clear h A v l m o;go_enter func69,ntmps69;go_wp2_with (go_at_call 90;refine f.mono ?_;rintro _ _ ⟨rfl,rfl⟩);go_ret;exact⟨rfl,B.z⟩
structure Dx(i:Nat)(tag:Nat->Nat×Nat)(W:World):Prop where
 ok:Do tag W
 pos:0<i
 err:Er W
 tab:Fc W
 g0:tag 0=(0,0)
 g1:tag 1=(0,0)
def Dx.mod(h:Dx i tag W)(m:DW S W W')(a:∀g,S g->(tag g).1≠0\/W.heap.size<=g):Dx i tag W':=by
 have s0:¬S 0:=λx=>by
  rcases a 0 x with q|q
  ·rw[h.g0]at q;exact q rfl
  ·have:=zk h.err;omega
 have s1:¬S 1:=λx=>by
  rcases a 1 x with q|q
  ·rw[h.g1]at q;exact q rfl
  ·have:=h.tab.lt;omega
 exact⟨h.ok.mod m,h.pos,h.err.mod m s0,h.tab.mod m s1,h.g0,h.g1⟩
def Dx.mod0(h:Dx i tag W)(m:DW DX W W'):Dx i tag W':=h.mod m (λ_ x=>x.elim)
def Dx.left(h:Dx i tag W)(e:Dj i tag tag' W W')(m:DW (λg=>(tag g).1=i) W W'):Dx i tag' W':=by
 have p0:=zk h.err;have p1:=h.tab.lt;have a:=h.mod m (λg hg=>.inl (by have:=h.pos;omega));exact⟨e.z,h.pos,a.err,a.tab,by rw[e.old 0 p0,h.g0],by rw[e.old 1 p1,h.g1]⟩
variable{W2:World}
def Dn.then0(h:Dn tag i b W c W1)(m:DW DX W1 W2):Dn tag i b W c W2:=by
 obtain⟨tag',V',h1,h2,h3⟩:=h;exact⟨tag',V',h1.mod0 m,⟨h2.old,h2.new,h2.z.mod m⟩,h3.trans (m.mono (λ_ x=>x.elim))⟩
variable{W0:World}
def Dn.thenS(e:Do tag W)(hi:0<i)(f:DW DX W W0)(h:Dn tag i b W0 c W1)(m:DW S W1 W2)(j:∀g,S g->W.heap.size<=g/\g<W0.heap.size):Dn tag i b W c W2:=by
 obtain⟨tag',V',h1,h2,h3⟩:=h;have q:∀g,S g->tag' g=(0,0):=λg hg=>by
  obtain⟨a,b⟩:=j g hg;rw[h2.old g b];exact e g a
 refine⟨tag',V',h1.mod m (λg hg x=>?_) (λ_ _=>rfl),⟨λg hg=>h2.old g (Aw hg f.size),λg hg=>?_,h2.z.mod m⟩,?_⟩
 ·rw[q g hg]at x;simp at x;omega
 ·by_cases d:g<W0.heap.size
  ·exact .inr (by rw[h2.old g d];exact e g hg)
  ·exact h2.new g (by omega)
 ·exact((f.mono (λ_ x=>x.elim)).then h3 (λg hg=>.inl hg)).then m (λg hg=>.inr (j g hg).1)
def Dn.from0(ht:Do tag W)(hi:0<i)(m0:DW DX W W0)(h:Dn tag i b W0 c W1):Dn tag i b W c W1 :=
 h.thenS (S:=DX) ht hi m0 (DW.refl _ _) (λ_ x=>x.elim)
def Gm(w:World)(g n:Nat):Prop:=∃cs t fz,w.heap[g]?=some (.cells cs t fz)/\n<=cs.size/\n<=fz.1
def Gm.cell{n:Nat}(h:Gm w g n)(hj:j<n):(∃v,w.cell? ⟨g,j,none⟩=some v)/\w.frozen? ⟨g,j,none⟩=false:=by
 obtain⟨cs,t,fz,h1,h2,h3⟩:=h;refine⟨⟨cs[j],za h1 (by simp[show j<cs.size by omega])⟩,?_⟩;obtain⟨lo,hi⟩:=fz;have:n<=lo:=h3;simp[World.frozen?,h1];omega
def Gm.set{n:Nat}(h:Gm w g n)(j:Nat)(v:Value):Gm (w.setCell ⟨g,j,none⟩ v) g n:=by
 obtain⟨cs,t,fz,h1,h2,h3⟩:=h;exact⟨_,t,fz,zc h1,by simpa using h2,h3⟩
variable{w':World}
def Gm.mod{n:Nat}(h:Gm w g n)(m:DW S w w')(hs:¬S g):Gm w' g n:=by
 obtain⟨cs,t,fz,h1,h2,h3⟩:=h;exact⟨cs,t,fz,m.obj hs h1,h2,h3⟩
def Py(w:World)(l:List UInt8)(hl:l.length<=4611686018427387904):∃cap w',(convert 9 60 (.string (zq l))).run prog w = .ok (.slice (some ⟨w.heap.size,0,none⟩) l.length cap) w'/\BR w' (.slice (some ⟨w.heap.size,0,none⟩) l.length cap) l/\DW DX w w'/\w'.heap.size=w.heap.size+1/\Gm w' w.heap.size l.length:=by
 have h:=Lib.run_convert_string_bytes (P:=prog) w 9 60 5 (zq l) (u:=.string) underlying9 underlying60 underlying5;have a:=grownCap_ge w (zq l).size 0 5;have b:grownCap w (zq l).size 0 5<=maxLen:=grownCap_le_maxLen w _ 0 _ (by rw[zE];unfold maxLen;omega);have hb:=Lib.bytesWorld_at_new w 5 (zq l);rw[zE]at h a b;have d:l.length<=(Lib.bytesCells w 5 (zq l)).size:=by
  by_cases h0:l.length=0
  ·omega
  ·have:=Lib.bytesWorld_cell w 5 (zq l) (l.length-1) (by rw[zE];omega);rw[World.cell?,hb]at this;have hq:(Lib.bytesCells w 5 (zq l))[l.length-1]?=some (.int .u8 (((zq l).data.toList.getD (l.length-1) 0).toNat:Int)):=by simpa using this
   have:=(AI.1 hq).1;omega
 refine⟨_,_,h,⟨_,_,rfl,a,b,λi c hc=>⟨_,_,rfl,?_⟩⟩,⟨?_,?_,?_,?_,?_⟩,Lib.bytesWorld_size _ _ _,⟨_,_,_,hb,d,d⟩⟩
 ·have hi:=(AM.1 hc).1;have:=Lib.bytesWorld_cell w 5 (zq l) i (by rw[zE];exact hi);rw[Au,this];simp only[zq,List.getD,hc,Option.getD_some]
 ·simp[Lib.bytesWorld,World.freeze,World.alloc,World.drew,-World.alloc_eq,-World.drew_eq]
 ·simp[Lib.bytesWorld,World.freeze,World.alloc,World.drew,-World.alloc_eq,-World.drew_eq]
 ·simp[Lib.bytesWorld,World.freeze,World.alloc,World.drew,-World.alloc_eq,-World.drew_eq]
 ·rw[Lib.bytesWorld_size];omega
 ·intro k hk _;exact Lib.bytesWorld_at_old w _ _ k hk
def gA(h:zg tag i b c V W)(E:Dx i tag W)(k:Int):Calls prog 38 #[.pointer (some ⟨b,0,none⟩),.int .i64 k] W (EA tag i b W (.int .i64 ((c.finish k).1:Int)) (c.finish k).2):=by
 have d:=iD h E.ok k;have HE:=zb E;clear h E;go_enter func38,ntmps38;go_wp2_with fail;refine d.mono ?_;rintro _ W1 ⟨rfl,a⟩;obtain⟨tag',V',h1,h2,h3⟩:=id a;have kn:=Js (c.finish k).1 W1 (HE.z.left h2 h3).err;have HL:=zb a;clear a h1 h2 h3 d;go_wp2_with fail;refine kn.mono ?_;rintro _ W2 ⟨rfl,e⟩;have H:=zb (HL.z.then0 e);clear e;go_wp2_with fail;go_ret;exact⟨rfl,H.z⟩
def dR(h:zg tag i b c V W)(E:Dx i tag W)(k:Int)(s:List UInt8)(t:s.length<=1099511627776)(d:∀k,k<8->(c.ws k).b.length<=1099511627776):Calls prog 37 #[.pointer (some ⟨b,0,none⟩),.int .i64 k,.string (zq s)] W (EA tag i b W (.int .i64 ((c.send k s).1:Int)) (c.send k s).2):=by
 obtain⟨cap,W1,u,a,m1,f,l⟩:=Py W s (by omega);have K:=dS (h.mod0 m1) (E.ok.mod m1) E.pos k ⟨W.heap.size,0,none⟩ cap s a t d;have v:s.length<=cap/\cap<=maxLen:=by
  obtain⟨_,_,e,w,q,_⟩:=a;cases e;exact⟨w,q⟩
 obtain⟨hc1,y⟩:=v;unfold maxLen at y;have n:=zb E;have L:=zb m1;have HB:=zb l;have HS:=zb f;clear h E a m1 d l f;go_enter func37,ntmps37;go_wp2_with fail;refine K.mono ?_;rintro _ W2 ⟨rfl,z⟩;clear K;obtain⟨tag',V',w,q,A⟩:=id z;have M:=(n.z.mod0 L.z).left q A;have o:=HB.z.mod A (λx=>by
  have:=n.z.ok W.heap.size (AG _);rw[this]at x;have:=n.z.pos;simp at x;omega)
 have kn:=Js (c.send k s).1 W2 M.err;have HL:=zb z;have B:=zb o;clear z w q A M o u;go_wp2_with fail;refine kn.mono ?_;rintro _ W3 ⟨rfl,C⟩;have D:=zb (B.z.mod C (λx=>x));have F:=zb (HL.z.then0 C);clear C kn;go_wp2_with fail
 go_loopw [19] (λG wr=>∃j:Nat,j<=s.length/\G = .int .i64 j/\Gm wr W.heap.size s.length/\DW (λg=>g=W.heap.size) W3 wr) (λG _=>s.length-(intOf G).toNat)
 case atStart=>exact⟨0,AL _,rfl,D.z,DW.refl _ _⟩
 case round =>
  obtain⟨j,hj,rfl,r,m⟩:=hrel;by_cases I:j<s.length
  ·obtain⟨⟨v0,e0⟩,z0⟩:=r.cell I;have J:=zb (r.set j (.int .u8 33));have HM:=zb (m.setCell (p:=⟨W.heap.size,j,none⟩) (.inl rfl) (.int .u8 33));clear r m;go_wp2_with fail;go_roundw
   case rel=>exact⟨j+1,by omega,by go_num,J.z,HM.z⟩
   case measure=>simp[intOf];omega
  ·have H:=zb (F.z.thenS n.z.ok n.z.pos L.z m (λg hg=>by
    have hg:=hg;have:=HS.z;omega))
   clear r m;go_wp2_with fail;go_ret;exact⟨rfl,H.z⟩
def RS.used(x:RS):Nat:=if x.state=2 then x.fin else x.read
def RS.hopes(x:RS):Bool:=if x.cut then decide (x.grant<x.keep)||(x.anew&&x.state==0)else !x.ended
def Ra(h:zg tag i b c V W)(hk:k<8):Calls prog 196 #[.pointer (some ⟨b,129+k*13,none⟩)] W λe W'=>e = .returned (.int .u64 ((c.rs k).used:Int))/\W=W':=by
 have f:W.cell? ⟨b,129+k*13+10,none⟩=some (.int .i64 ((c.rs k).state:Int)):=by rw[AK];exact h.r (j:=10) hk rfl
 have c5:W.cell? ⟨b,129+k*13+5,none⟩=some (.int .u64 ((c.rs k).fin:Int)):=by rw[AK];exact h.r (j:=5) hk rfl
 have c9:W.cell? ⟨b,129+k*13+9,none⟩=some (.int .u64 ((c.rs k).read:Int)):=by rw[AK];exact h.r (j:=9) hk rfl
 obtain⟨x,g⟩:=nm (c.rs k);rw[g]at f c5 c9 ⊢;clear h g;unfold RS.used;by_cases a:x.state=2
 ·have d:((x.state:Int)==2)=true:=by rw[a];rfl
  rw[AN a];clear a;go_enter func196,ntmps196;go_wp2_with fail;go_ret;exact⟨rfl,rfl⟩
 ·have d:((x.state:Int)==2)=false:=AR.2 (by omega);rw[AH a];clear a;go_enter func196,ntmps196;go_wp2_with fail;go_ret;exact⟨rfl,rfl⟩
def TM(h:zg tag i b c V W)(hk:k<8):Calls prog 197 #[.pointer (some ⟨b,129+k*13,none⟩)] W λe W'=>e = .returned (.bool (c.rs k).hopes)/\DW DX W W':=by
 have f:W.cell? ⟨b,129+k*13+10,none⟩=some (.int .i64 ((c.rs k).state:Int)):=by rw[AK];exact h.r (j:=10) hk rfl
 have q:W.cell? ⟨b,129+k*13+6,none⟩=some (.bool (c.rs k).ended):=by rw[AK];exact h.r (j:=6) hk rfl
 have s:W.cell? ⟨b,129+k*13+7,none⟩=some (.bool (c.rs k).cut):=by rw[AK];exact h.r (j:=7) hk rfl
 have t:W.cell? ⟨b,129+k*13+8,none⟩=some (.int .u64 ((c.rs k).keep:Int)):=by rw[AK];exact h.r (j:=8) hk rfl
 have g:W.cell? ⟨b,129+k*13+11,none⟩=some (.int .u64 ((c.rs k).grant:Int)):=by rw[AK];exact h.r (j:=11) hk rfl
 have a:W.cell? ⟨b,129+k*13+12,none⟩=some (.bool (c.rs k).anew):=by rw[AK];exact h.r (j:=12) hk rfl
 obtain⟨x,u⟩:=nm (c.rs k);rw[u]at f q s t g a ⊢;clear h u;unfold RS.hopes;obtain⟨cu,l⟩:=nm x.cut;obtain⟨an,m⟩:=nm x.anew;obtain⟨en,n⟩:=nm x.ended;rw[l]at s ⊢;rw[m]at a ⊢;rw[n]at q ⊢;clear l m n;cases cu
 ·clear t f g a;cases en
  ·go_enter func197,ntmps197;go_wp2_with fail;go_ret;exact⟨rfl,DW.refl _ _⟩
  ·go_enter func197,ntmps197;go_wp2_with fail;go_ret;exact⟨rfl,DW.refl _ _⟩
 ·by_cases hg:x.grant<x.keep
  ·have d:decide (x.grant<x.keep)=true:=by simp[hg]
   have HD:AA (decide (x.grant<x.keep)=true):=zb (by simp[hg]);clear hg;go_enter func197,ntmps197;go_wp2_with fail;go_quiet (fail);go_wp2_with fail;go_ret;exact⟨rfl,(DW.refl DX _).drewN _⟩
  ·have d:decide (x.grant<x.keep)=false:=by simp[hg]
   have HD:AA (decide (x.grant<x.keep)=false):=zb (by simp[hg]);clear hg;cases an
   ·go_enter func197,ntmps197;go_wp2_with fail;go_quiet (fail);go_wp2_with fail;go_ret;exact⟨rfl,(DW.refl DX _).drewN _⟩
   ·by_cases o:x.state=0
    ·have e:((x.state:Int)==0)=true:=by rw[o];rfl
     have p:AA ((x.state==0)=true):=zb (by rw[o];rfl);clear o;go_enter func197,ntmps197;go_wp2_with fail;go_quiet (fail);go_wp2_with fail;go_ret;exact⟨by rw[p.z];rfl,(DW.refl DX _).drewN _⟩
    ·have e:((x.state:Int)==0)=false:=AR.2 (by omega);have p:=zb (AR.2 o);clear o;go_enter func197,ntmps197;go_wp2_with fail;go_quiet (fail);go_wp2_with fail;go_ret;exact⟨by rw[p.z];rfl,(DW.refl DX _).drewN _⟩
def zG(ws:Nat->WS):Nat->Nat
 | 0=>0
 | k+1=>zG ws k+(ws k).high
def CS.spent(c:CS):Nat:=zG c.ws 8
variable{m:Nat}
theorem iY(ws:Nat->WS)(h:k<=m):zG ws k<=zG ws m:=by
 induction m with
 | zero=>rw[Nat.le_zero.1 h];exact AG _
 | succ m ih =>
  by_cases e:k=m+1
  ·rw[e];exact AG _
  ·have:=ih (by omega);simp only[zG];omega
def dQ(h:zg tag i b c V W)(o:c.spent<18446744073709551616):Calls prog 199 #[.pointer (some ⟨b,0,none⟩)] W λe W'=>e = .returned (.int .u64 c.spent)/\W=W':=by
 have HH:=zb h;have HS:=zb o;clear h o;go_enter func199,ntmps199;go_wp2_with fail
 go_loopw [3,5] (λnv f wr=>∃k:Nat,k<=8/\nv = .int .u64 (zG c.ws k:Int)/\f = .int .i64 k/\W=wr) (λ_ f _=>8-(intOf f).toNat)
 case atStart=>exact⟨0,by omega,rfl,rfl,rfl⟩
 case round =>
  obtain⟨k,hk,rfl,rfl,rfl⟩:=hrel;by_cases g:k<8
  ·have c7:W.cell? ⟨b,9+k*15+7,none⟩=some (.int .u64 ((c.ws k).high:Int)):=by rw[AK];exact HH.z.w (j:=7) g rfl
   have hb:zG c.ws k+(c.ws k).high<18446744073709551616:=by
    have h1:zG c.ws (k+1)<=zG c.ws 8:=iY _ (by omega);have h2:zG c.ws 8<18446744073709551616:=HS.z;have h3:zG c.ws (k+1)=zG c.ws k+(c.ws k).high:=rfl;omega
   obtain⟨n,a⟩:=nm (zG c.ws k);obtain⟨m,d⟩:=nm ((c.ws k).high);have HN:AA (zG c.ws (k+1)=n+m):=by
    show _=_;rw[<-a,<-d];rfl
   rw[a,d]at hb;rw[a];rw[d]at c7;have hw1:=wu ((n:Int)+m) (by omega);clear a d;go_wp2_with fail;go_roundw
   case rel=>exact⟨k+1,by omega,by rw[HN.z];rfl,by go_num,trivial⟩
   case measure=>simp[intOf];omega
  ·have l:k=8:=by omega
   subst l;go_wp2_with fail;go_ret;exact⟨rfl,rfl⟩
structure Dd where
 b:List UInt8
 fs:List Db
 room:Nat
 wants:Bool
 full:Bool
def Dd.add(d:Dd)(f:Db):Option Dd :=
 if d.room<(d.b++zA f).length+4 then none else some { d with b:=d.b++zA f,fs:=d.fs++[f],wants:=d.wants||f.kind != 2 }
structure ES(tag:Nat->Nat×Nat)(i db:Nat)(d:Dd)(bv fv:Value)(l:List (Db×Value))(W:World):Prop where
 obj:W.heap[db]?=some (.cells #[bv,fv,.int .i64 d.room,.bool d.wants,.bool d.full] 180 (0,0))
 tb:tag db=(i,90)
 ob:OB W bv d.b
 tbv:∀g,bv.ownBlock=some g->tag g=(i,91)
 own:W.ownsRow 0 65 10 fv l.length (Ex l)
 lf:l.map (·.1)=d.fs
 rr:∀x∈l,RR W x.2 x.1.rngs/\∀g,Value.blk x.2=some g->tag g=(i,5)
 tfv:∀g,fv.ownBlock=some g->tag g=(i,92)
structure Il(i:Nat)(tag tag':Nat->Nat×Nat)(W W':World):Prop where
 old:∀g,g<W.heap.size->tag' g=tag g
 new:∀g,W.heap.size<=g->(∃r,90<=r/\tag' g=(i,r))\/tag' g=(0,0)
 z:Do tag' W'
def It(i:Nat)(tag:Nat->Nat×Nat)(g:Nat):Prop:=∃r,90<=r/\tag g=(i,r)
def zg.modR(h:zg tag i b c V W)(hk:Do tag W)(hi:0<i)(m:DW (It i tag) W W')(e:∀g,g<W.heap.size->tag' g=tag g):zg tag' i b c V W':=by
 refine h.build (R:=λr=>90<=r) m (λg hg=>hg) (λg hg=>e g (EQ hk (i:=i) (r:=(tag g).2) (by rw[<-hg]) hi)) (m.obj (λ⟨r,hr,hx⟩=>?_) h.obj) (.inl ⟨rfl,rfl,rfl,by omega,by omega⟩) (λk hk=>.inl ⟨rfl,rfl,by omega⟩) (λk hk=>.inl ⟨rfl,rfl,by omega⟩) (λk hk=>.inl ⟨rfl,rfl,by omega⟩) (λk hk=>.inl ⟨rfl,rfl,by omega⟩) (λk hk=>.inl ⟨rfl,rfl,by omega⟩) (.inl ⟨rfl,rfl,rfl,by omega,by omega⟩) (.inl ⟨rfl,rfl,by omega⟩) (.inl ⟨rfl,rfl,by omega⟩) (.inl ⟨rfl,rfl,by omega⟩);rw[h.tb]at hx;simp at hx;omega
def In(tag:Nat->Nat×Nat)(i db:Nat)(W:World)(d:Dd)(f:Db)(e:Ending)(W':World):Prop :=
 e = .returned (.bool (d.add f).isSome)/\∃tag' bv' fv' l',ES tag' i db ((d.add f).getD d) bv' fv' l' W'/\Il i tag tag' W W'/\DW (It i tag) W W'
variable{bv fv:Value}{d:Dd}{db:Nat}{f:Db}
def VR{l:List (Db×Value)}(h:ES tag i db d bv fv l W)(hk:Do tag W)(hi:0<i)(m1:DW DX W W1)(k:Dq W1 bv d.b (zA f) v' W2)(c:d.add f=none):In tag i db W d f (.returned (.bool false)) W2:=by
 have e:=((m1.mono (λ_ x=>x.elim)).then ((DW.refl (λg=>bv.ownBlock=some g) W1).grown k.grown (λg hg=>.inl hg)) (λg hg=>.inl hg));have a:∀{g r:Nat},tag g=(i,r)->g<W.heap.size:=λhg=>EQ hk hg hi
 refine⟨by rw[c];rfl,retag tag W W2 (i,91),bv,fv,l,?_,⟨λg hg=>zz hg,λg hg=>?_,λg hg=>?_⟩,e.mono (λg hg=>.inl ⟨91,by decide,h.tbv g hg⟩)⟩
 ·rw[c];show ES _ i db d bv fv l W2;exact⟨e.obj (λx=>zg.apart h.tb (h.tbv _ x) (by decide) rfl) h.obj,by rw[zz (a h.tb),h.tb],k.old,λg hg=>by rw[zz (a (h.tbv g hg)),h.tbv g hg],e.owns h.own (λg hg x=>zg.apart (h.tfv g hg) (h.tbv g x) (by decide) rfl),h.lf,
   λx j=>⟨(h.rr x j).1.mod e (GE λg hg y=>zg.apart ((h.rr x j).2 g hg) (h.tbv g y) (by decide) rfl),λg hg=>by rw[zz (a ((h.rr x j).2 g hg)),(h.rr x j).2 g hg]⟩,λg hg=>by rw[zz (a (h.tfv g hg)),h.tfv g hg]⟩
 ·by_cases q:g<W2.heap.size
  ·exact .inl ⟨91,by decide,Fr hg q⟩
  ·exact .inr (by simp only[retag,show ¬g<W.heap.size by omega,q,AH,As])
 ·have:=e.size;simp only[retag,show ¬g<W.heap.size by omega,show ¬g<W2.heap.size by omega,AH,As]
variable{d':Dd}{rv:Value}
def XO{l:List (Db×Value)}{o n j:World}{p:Value}(h:ES tag i db d bv fv l W)(hk:Do tag W)(hi:0<i)(m1:DW DX W W1)(s:Dq W1 bv d.b (zA f) v' W2)(hd:d.add f=some d')
  (hr:RR W rv f.rngs) (t:∀g,Value.blk rv=some g->tag g=(i,5)) (D:DW (λg=>g=db) W2 o) (e:n.ownsRow 0 65 10 p (l.length+1) (Ex (l++[(f,rv)]))) (z:o.grownBy n fv.ownBlock) (u:Dy o fv p) (A:DW (λg=>g=db) n j)
  (ho:j.heap[db]?=some (.cells #[v',p,.int .i64 d.room,.bool d'.wants,.bool d.full] 180 (0,0))) (hs3:o.heap.size=W2.heap.size) (hs6:j.heap.size=n.heap.size) :
  In tag i db W d f (.returned (.bool true)) j:=by
 have a:∀{g r:Nat},tag g=(i,r)->g<W.heap.size:=λhg=>EQ hk hg hi
 have E:=(DW.refl (λg=>bv.ownBlock=some g) W1).grown s.grown (λg hg=>.inl hg);have m2:=(m1.mono (λ_ x=>x.elim)).then E (λg hg=>.inl hg);have B:=(DW.refl (λg=>fv.ownBlock=some g) o).grown z (λg hg=>.inl hg);have m:DW (λg=>g=db\/bv.ownBlock=some g\/fv.ownBlock=some g) W j:=(((m2.mono (λg hg=>.inl (.inr (.inl hg)))).then D (λg hg=>.inl (.inl hg))).then B (λg hg=>.inl (.inr (.inr hg)))).then A (λg hg=>.inl (.inl hg));have C:DW (λg=>g=db\/fv.ownBlock=some g) W2 j:=((D.mono (λg hg=>.inl (.inl hg))).then B (λg hg=>.inl (.inr hg))).then A (λg hg=>.inl (.inl hg));have z1:=m1.size;have z2:=E.size;have z5:=B.size;have k:d'={ d with b:=d.b++zA f,fs:=d.fs++[f],wants:=d.wants||f.kind != 2 }:=by
  unfold Dd.add at hd;split at hd
  ·cases hd
  ·exact(Bk hd).symm
 have v:=λx c=>(h.rr x c).1.mod m (GE λg hg y=>by
  rcases y with y|y|y
  ·exact zg.apart ((h.rr x c).2 g hg) (y ▸ h.tb) (by decide) rfl
  ·exact zg.apart ((h.rr x c).2 g hg) (h.tbv g y) (by decide) rfl
  ·exact zg.apart ((h.rr x c).2 g hg) (h.tfv g y) (by decide) rfl)
 have w:=hr.mod m (GE λg hg y=>by
  rcases y with y|y|y
  ·exact zg.apart (t g hg) (y ▸ h.tb) (by decide) rfl
  ·exact zg.apart (t g hg) (h.tbv g y) (by decide) rfl
  ·exact zg.apart (t g hg) (h.tfv g y) (by decide) rfl)
 refine⟨by rw[hd];rfl,λg=>if g<W.heap.size then tag g else if g<W2.heap.size then(i,91)else if g<n.heap.size then(i,92)else(0,0),v',p,l++[(f,rv)],?_,⟨λg hg=>AN hg,λg hg=>?_,λg hg=>?_⟩,m.mono (λg hg=>.inl ?_)⟩
 ·rw[hd];show ES _ i db d' v' p _ j;refine⟨by rw[ho,k],by rw[AN (a h.tb),h.tb],?_,λg hg=>?_,?_,by rw[k,BO,h.lf];rfl,λx c=>?_,λg hg=>?_⟩
  ·rw[k];refine C.owns s.own (λg hg y=>?_);rcases s.at_ g hg with q|q
   ·rcases y with y|y
    ·exact zg.apart (h.tbv g q) (y ▸ h.tb) (by decide) rfl
    ·exact zg.apart (h.tbv g q) (h.tfv g y) (by decide) rfl
   ·rcases y with y|y
    ·have:=a h.tb;omega
    ·have:=a (h.tfv g y);omega
  ·rcases s.at_ g hg with q|q
   ·rw[AN (a (h.tbv g q)),h.tbv g q]
   ·have:=zF s.own g hg;simp only[show ¬g<W.heap.size by omega,AH,As,AN this]
  ·rw[AF];refine A.owns e (λg hg y=>?_);have y:=y;rcases u g hg with q|q
   ·exact zg.apart (h.tfv g q) (y ▸ h.tb) (by decide) rfl
   ·have:=a h.tb;omega
  ·rw[An]at c;rcases c with c|c
   ·exact⟨v x c,λg hg=>by rw[AN (a ((h.rr x c).2 g hg)),(h.rr x c).2 g hg]⟩
   ·rw[Ab]at c;subst c;exact⟨w,λg hg=>by rw[AN (a (t g hg)),t g hg]⟩
  ·rcases u g hg with q|q
   ·rw[AN (a (h.tfv g q)),h.tfv g q]
   ·have:=zF e g hg;simp only[show ¬g<W.heap.size by omega,show ¬g<W2.heap.size by omega,AH,As,AN this]
 ·simp only[show ¬g<W.heap.size by omega,AH,As];split
  ·exact .inl ⟨91,by decide,rfl⟩
  ·split
   ·exact .inl ⟨92,by decide,rfl⟩
   ·exact .inr rfl
 ·simp only[show ¬g<W.heap.size by omega,show ¬g<W2.heap.size by omega,show ¬g<n.heap.size by omega,AH,As]
 ·rcases hg with hg|hg|hg
  ·exact⟨90,by decide,by rw[hg,h.tb]⟩
  ·exact⟨91,by decide,h.tbv g hg⟩
  ·exact⟨92,by decide,h.tfv g hg⟩
def Ni{l:List (Db×Value)}(h:ES tag i db d bv fv l W)(hk:Do tag W)(hi:0<i)(f:Db)(Z:Option Addr)(rn rc:Nat)(hs:zT f=true)(hr:RR W (.slice Z rn rc) f.rngs)(ht:∀g,Value.blk (.slice Z rn rc)=some g->tag g=(i,5))
  (ax:f.rngs.length<=1099511627776) (ay:f.data.length<=35184372088832) (az:d.b.length<=35184372088832) (hbf:(zA f).length<=35184372088832) (aA:l.length<=1099511627776) :
  Calls prog 142 #[.pointer (some ⟨db,0,none⟩),.agg (zh f (.slice Z rn rc))] W (In tag i db W d f):=by
 obtain⟨s,M⟩:=nm (Value.slice Z rn rc);rw[M]at hr ht ⊢;obtain⟨W0,A⟩:=nm (W.alloc (.cells (zh f s) 65));have m0:=AB A
 have o0:zj W0 W.heap.size f s:=by rw[<-A];exact heap_alloc_new W _
 have O:=m0.drew;have oD:=m0.obj (λx=>x) h.obj;have aL:=EQ hk h.tb hi;have ka:=QG bv d.b f s W0.drew (O.owns h.ob (λ_ _ x=>x)) (λ_=>GE λg hg x=>zg.apart (ht g hg) (h.tbv g x) (by decide) rfl) (hr.mod O (Dl.no _)) ax ay az;rw[hs]at ka;have G:¬bv.ownBlock=some db:=λx=>zg.apart h.tb (h.tbv _ x) (by decide) rfl
 have I:¬bv.ownBlock=some W.heap.size:=λx=>by have:=EQ hk (h.tbv _ x) hi;omega
 have aa:¬fv.ownBlock=some db:=λx=>zg.apart h.tb (h.tfv _ x) (by decide) rfl
 have ab:¬fv.ownBlock=some W.heap.size:=λx=>by have:=EQ hk (h.tfv _ x) hi;omega
 obtain⟨ba,bc,ac,hb1,hb2,_⟩:=zi h.ob;obtain⟨fa,fc,ad,hf1,hf2,_⟩:=zi h.own;have P:=zb h;have HK:=zb hk;have HR:=zb hr;have HT:=zb ht;have KA:=zb ka;have M0:=zb m0;have Q:=zb oD;have R:=zb o0;have aB:=zb A;have ae:¬W.heap.size=db:=by omega
 have aM:¬db=W.heap.size:=by omega
 clear h hk hr ht ka m0 oD o0 A O hs;obtain⟨dw,af⟩:=nm d.wants;have ah:=zb af;have aC:=zb ac;have HFV:=zb ad;have aD:=zb M;clear af ac ad M;go_enter func142,ntmps142;go_wp2_with fail;rw[aB.z];refine zl 7 (λw'=>zj w' W.heap.size f s/\w'.heap[db]?=some (.cells #[bv,fv,.int .i64 d.room,.bool d.wants,.bool d.full] 180 (0,0))) (⟨R.z,Q.z⟩) ?_;refine GI 0 ?_;iterate 5
  refine GS rfl ?_ ?_ ?_;rotate_left
  ·(intro wx k;obtain⟨hf,hd⟩:=k;obtain⟨y0,y1,y2,y3,y4,y5,y6,y7,y8,y9⟩:=hf.cells;have d0:=za (o:=0) hd rfl;have d1:=za (o:=1) hd rfl;go_simp;try with_reducible rfl)
  try simp only[PS]
 refine zw 5 rfl (λK t=>?_);go_simp;refine KA.z.mono ?_;rintro e W2 (⟨_,v',rfl,hA⟩|⟨hx,_⟩);rotate_left
 ·cases hx
 have mA:=(DW.refl (λg=>bv.ownBlock=some g) W0.drew).grown hA.grown (λg hg=>.inl hg);have B:zj W2 W.heap.size f s/\W2.heap[db]?=some (.cells #[bv,fv,.int .i64 d.room,.bool d.wants,.bool d.full] 180 (0,0)):=⟨mA.obj I R.z,mA.obj G Q.z⟩;refine t.z _ _ B ?_;clear t K;try simp only[PS]
 refine GI 6 ?_;refine GS rfl ?_ ?_ ?_;rotate_left
 ·(intro wx k;obtain⟨hf,hd⟩:=k;obtain⟨y0,y1,y2,y3,y4,y5,y6,y7,y8,y9⟩:=hf.cells;have d0:=za (o:=0) hd rfl;have d1:=za (o:=1) hd rfl;go_simp;try with_reducible rfl)
 try simp only[PS]
 refine zn ?_;obtain⟨va,vc,S,z1,z2,_⟩:=zi hA.own;have HA:=zb hA;have MA:=zb mA;have aE:=zb B;have x2:W2.cell? ⟨db,2,none⟩=some (.int .i64 d.room):=za B.2 rfl;obtain⟨N,T⟩:=nm ((d.b++zA f).length);rw[T]at S z1;have hNl:N<=70368744177664:=by rw[<-T,AF];omega
 unfold maxLen at z2;have ai:=zb S;clear hA mA B aE;rw[ai.z];by_cases c:d.room<N+4
 ·have a:d.add f=none:=by unfold Dd.add;rw[T,AN c]
  have H:=zb (VR P.z HK.z hi M0.z.drew HA.z a);have q1:(d.room:Int)<(N:Int)+4:=by omega
  clear T c a S;go_wp2_with fail;go_ret;exact H.z
 ·have q1:¬(d.room:Int)<(N:Int)+4:=by omega
  obtain⟨d',a⟩:∃d',d.add f=some d':=by unfold Dd.add;rw[T,AH c];exact⟨_,rfl⟩
  have aj:d'.wants=(d.wants||f.kind != 2):=by
   unfold Dd.add at a;rw[T,AH c]at a;rw[<-Option.some.inj a]
  have HW:=zb aj;have ak:=zb a;have C:=MA.z.obj G Q.z;have al:=MA.z.obj I R.z;have aF:W2.cell? ⟨db,0,none⟩=some bv:=za C rfl;have f2:∀j,W2.frozen? ⟨db,j,none⟩=false:=λj=>zf C
  obtain⟨r,u⟩:=nm (W2.setCell ⟨db,0,none⟩ v');have m3:DW (λg=>g=db) W2 r:=by rw[<-u];exact(DW.refl (λg=>g=db) _).setCell (p:=⟨db,0,none⟩) (.inl rfl) _
  have am:r.heap.size=W2.heap.size:=by rw[<-u];simp
  have D:r.heap[db]?=some (.cells #[v',fv,.int .i64 d.room,.bool d.wants,.bool d.full] 180 (0,0)):=by rw[<-u];exact zc C
  have E:zj r W.heap.size f s:=m3.obj ae al;have an:=(M0.z.drew.mono (λ_ x=>x.elim)).then MA.z (λg hg=>.inl hg);have ao:=m3.owns (an.owns P.z.own (λg hg x=>zg.apart (P.z.tfv g hg) (P.z.tbv g x) (by decide) rfl)) (λg hg x=>zg.apart (P.z.tfv g hg) (x ▸ P.z.tb) (by decide) rfl);obtain⟨v5,U,V,n,q,ap⟩:=Rh r.drew fv l f Z rn rc ao aA;rw[aD.z]at V n;obtain⟨fa5,fc5,aq,_⟩:=zi n;have v:r.grownBy U fv.ownBlock:=⟨q.os,q.tape,q.output,q.size,q.block⟩;have J:Dy r fv v5:=ap;have m5:=(DW.refl (λg=>fv.ownBlock=some g) r).grown v (λg hg=>.inl hg);have w:=m5.obj aa D;have Y:=m5.obj ab E;have f5:∀j,U.frozen? ⟨db,j,none⟩=false:=λj=>zf w
  have c51:U.cell? ⟨db,1,none⟩=some fv:=za w rfl;obtain⟨L,y⟩:=nm (U.setCell ⟨db,1,none⟩ v5);have m6:DW (λg=>g=db) U L:=by rw[<-y];exact(DW.refl (λg=>g=db) _).setCell (p:=⟨db,1,none⟩) (.inl rfl) _
  have F:L.heap[db]?=some (.cells #[v',v5,.int .i64 d.room,.bool d.wants,.bool d.full] 180 (0,0)):=by rw[<-y];exact zc w
  have ar:zj L W.heap.size f s:=m6.obj ae Y;have c63:L.cell? ⟨db,3,none⟩=some (.bool dw):=by rw[<-ah.z];exact za F rfl
  have k60:=ar.cells.1;have f6:∀j,L.frozen? ⟨db,j,none⟩=false:=λj=>zf F
  have H:∀x,L.setCell ⟨db,3,none⟩ (.bool x)=L.setCell ⟨db,3,none⟩ (.bool x)->x=(dw||f.kind != 2)->In tag i db W d f (.returned (.bool true)) (L.setCell ⟨db,3,none⟩ (.bool x)):=λx _ hx=>by
   refine XO P.z HK.z hi M0.z.drew HA.z ak.z HR.z HT.z m3 n v J (m6.setCell (p:=⟨db,3,none⟩) (.inl rfl) _) ?_ am (by rw[<-y];simp);rw[zc F,HW.z,ah.z,<-hx];rfl
  have HH:=zb H;have aG:AA (zj r.drew W.heap.size f s/\r.drew.heap[db]?=some (.cells #[v',fv,.int .i64 d.room,.bool d.wants,.bool d.full] 180 (0,0))):=⟨E,D⟩;have aH:AA (∀X,DW DX r X->zj X W.heap.size f s/\X.heap[db]?=some (.cells #[v',fv,.int .i64 d.room,.bool d.wants,.bool d.full] 180 (0,0))):=λX m=>⟨m.obj (λx=>x) E,m.obj (λx=>x) D⟩
  have aI:AA (zj U W.heap.size f s/\U.heap[db]?=some (.cells #[v',fv,.int .i64 d.room,.bool d.wants,.bool d.full] 180 (0,0))):=⟨Y,w⟩;have aJ:=zb u;have aK:=zb y;have au:=zb aq;have av:=zb V;clear H T c a aj C al u m3 am D E an ao V n q v ap J m5 w Y y m6 F ar aq;have aw:=aC.z;rw[aw]at aF;go_wp2_with fail;rw[<-ai.z,aJ.z];refine zl 10 (λw'=>zj w' W.heap.size f s/\w'.heap[db]?=some (.cells #[v',fv,.int .i64 d.room,.bool d.wants,.bool d.full] 180 (0,0))) (aG.z) ?_;refine GI 0 ?_;iterate 6
   refine GS rfl ?_ ?_ ?_;rotate_left
   ·(intro wx k;obtain⟨hf,hd⟩:=k;obtain⟨y0,y1,y2,y3,y4,y5,y6,y7,y8,y9⟩:=hf.cells;have d0:=za (o:=0) hd rfl;have d1:=za (o:=1) hd rfl;go_simp;try with_reducible rfl)
   try simp only[PS]
  refine zw 6 rfl (λK t=>?_);go_simp;refine t.z _ _ (aH.z _ ((DW.refl DX r).drew.alloc _)) ?_;clear t K;try simp only[PS]
  refine zw 7 rfl (λK t=>?_);refine zH rfl _ _ _ _ rfl _ _ _ rfl rfl av.z ?_;refine t.z _ _ aI.z ?_;clear t K;try simp only[PS]
  refine GI 8 ?_;iterate 2
   refine GS rfl ?_ ?_ ?_;rotate_left
   ·(intro wx k;obtain⟨hf,hd⟩:=k;obtain⟨y0,y1,y2,y3,y4,y5,y6,y7,y8,y9⟩:=hf.cells;have d0:=za (o:=0) hd rfl;have d1:=za (o:=1) hd rfl;go_simp;try with_reducible rfl)
   try simp only[PS]
  rw[au.z];refine zU rfl (λK t=>?_);go_simp;refine t.z _ _ ?_;clear t K;try simp only[PS]
  refine zn ?_;rw[<-au.z,aK.z];clear av;cases dw
  ·have z:=zb (HH.z (f.kind != 2) trivial (by simp));go_wp2_with fail;go_ret;exact z.z
  ·have z:=zb (HH.z true trivial (by simp));go_wp2_with fail;go_ret;exact z.z
def Dp(i:Nat)(tag:Nat->Nat×Nat)(g:Nat):Prop:=(tag g).1=i/\(tag g).2≠5
def EK(h:tag g=(i,r))(hr:r≠5):Dp i tag g:=⟨by rw[h],by rw[h];exact hr⟩
def DW.ofC(m:DW (Dp i tag) W W'):DW (λg=>(tag g).1=i) W W':=m.mono (λ_ h=>.inl h.1)
def GA(tag:Nat->Nat×Nat)(i b db:Nat)(W:World)(c':CS)(d':Dd)(r:Bool)(e:Ending)(W':World):Prop :=
 e = .returned (.bool r)/\∃tag' V' bv' fv' l',zg tag' i b c' V' W'/\ES tag' i db d' bv' fv' l' W'/\Dj i tag tag' W W'/\DW (Dp i tag) W W'
def Il.ext(h:Il i tag tag' W W'):Dj i tag tag' W W' :=
 ⟨h.old,λg hg=>by
  rcases h.new g hg with⟨r,_,e⟩|e
  ·exact .inl (by rw[e])
  ·exact .inr e,h.z⟩
def LV(m:DW (It i tag) W W'):DW (Dp i tag) W W':=m.mono (λg ⟨r,hr,e⟩=>.inl (EK e (by omega)))
def ES.modC{l:List (Db×Value)}(h:ES tag i db d bv fv l W)(m:DW S W W')(hS:∀g,S g->∃r,r<90/\r≠5/\tag g=(i,r))(e:∀g,(tag g).1=i->tag' g=tag g):ES tag' i db d bv fv l W':=by
 have q:∀{g r:Nat},tag g=(i,r)->(90<=r\/r=5)->¬S g:=λhg hr x=>by
  obtain⟨r',h1,h2,h3⟩:=hS _ x;rw[hg]at h3;simp at h3;omega
 have t:∀{g r:Nat},tag g=(i,r)->tag' g=(i,r):=λhg=>(e _ (by rw[hg])).trans hg
 exact⟨m.obj (q h.tb (.inl (by decide))) h.obj,t h.tb,m.owns h.ob (λg hg=>q (h.tbv g hg) (.inl (by decide))),λg hg=>t (h.tbv g hg),m.owns h.own (λg hg=>q (h.tfv g hg) (.inl (by decide))),h.lf,
  λx a=>⟨(h.rr x a).1.mod m (GE λg hg=>q ((h.rr x a).2 g hg) (.inr rfl)),λg hg=>t ((h.rr x a).2 g hg)⟩,λg hg=>t (h.tfv g hg)⟩
def Yb{e:Ending}(h:zg tag i b c V W)(hk:Do tag W)(hi:0<i)(hd:In tag i db W d f e W')(a:d.add f=none):GA tag i b db W c d false e W':=by
 obtain⟨rfl,tag',g,j,l',h1,h2,h3⟩:=hd;rw[a]at h1 ⊢;exact⟨rfl,tag',V,g,j,l',h.modR hk hi h3 h2.old,h1,h2.ext,LV h3⟩
def CS.datagrams(c:CS)(d:Dd):Option (CS×Dd) :=
 match c.waits with
 | []=>none
 | f::l=>(d.add f).map λd'=>({ c with waits:=l },d')
structure Db.Fits(f:Db):Prop where
 sound:zT f=true
 rn:f.rngs=[]
 data:f.data.length<=1048576
 len:(zA f).length<=1073741824
def fy{l:List Db}(h:ED W 65 10 v (f::l).length (zp (f::l))):∃g o cap,v = .slice (some ⟨g,o*10,none⟩) (l.length+1) cap/\l.length+1<=cap/\cap<=maxLen/\(∀j x,(zh f (.slice none 0 0))[j]?=some x->W.cell? ⟨g,o*10+j,none⟩=some x)/\ED W 65 10 (.slice (some ⟨g,(o+1)*10,none⟩) l.length (cap-1)) l.length (zp l)/\(cap-1=0->ED W 65 10 (.slice (some ⟨g,o*10,none⟩) l.length 0) l.length (zp l)):=by
 rcases h.2 with⟨_,hn⟩|⟨g,o,cap,a,rfl,hg,h1,h2,h3,h4⟩
 ·simp at hn
 ·have b:(zp l).length=l.length*10:=by
   have:=h.1;simp only[zp,C9,AF,AQ]at this ⊢;have e:(zh f (.slice none 0 0)).toList.length=10:=rfl;omega
  have e0:zp (f::l)=(zh f (.slice none 0 0)).toList++zp l:=rfl;have h1':l.length+1<=cap:=by simpa using h1
  refine⟨g,o,cap,rfl,h1,h2,λj x i=>?_,⟨b,.inr ⟨g,o+1,cap-1,a,rfl,hg,by omega,by omega,?_,?_⟩⟩,λhc=>?_⟩
  ·have hj:j<10:=(AI.1 i).1;refine za hg ?_;have:((a.toList.drop (o*10)).take ((f::l).length*10))[j]?=some x:=by
    rw[h4,e0,Ag (by exact hj),Bd];exact i
   rw[B8]at this;split at this
   ·rw[A6]at this;simpa using this
   ·cases this
  ·rw[show o+1+(cap-1)=o+cap by omega];exact h3
  ·have c:(a.toList.drop (o*10)).take ((l.length+1)*10)=(zh f (.slice none 0 0)).toList++zp l:=h4;have:((a.toList.drop (o*10)).take ((l.length+1)*10)).drop 10=zp l:=by
    rw[c];exact List.drop_left' rfl
   rw[<-this,C4,CW]
   congr 1
   ·omega
   ·congr 1
    omega
  ·have d:l=[]:=Ah (by omega);subst d;exact⟨rfl,.inr ⟨g,o,0,a,rfl,hg,AG _,AL _,AO (Bu 10 (by omega)) h3,by simp[zp]⟩⟩
theorem i9{l:List (Db×Value)}(h:zg tag i b c V W)(K:ES tag i db d bv fv l W)(E:Dx i tag W)(O:∀f∈c.waits,f.Fits)(hbl:d.b.length<=1073741824)(hll:l.length<=1073741824):Calls prog 146 #[.pointer (some ⟨b,0,none⟩),.pointer (some ⟨db,0,none⟩)] W (GA tag i b db W ((c.datagrams d).getD (c,d)).1 ((c.datagrams d).getD (c,d)).2 (c.datagrams d).isSome):=by
 have Z:W.cell? ⟨b,238,none⟩=some V.wt:=h.tl (j:=5) rfl;cases hwt:c.waits with
 | nil =>
  have z:c.datagrams d=none:=by unfold CS.datagrams;rw[hwt]
  rw[z];have G:V.wt = .slice none 0 0\/∃a cap,V.wt = .slice (some a) 0 cap:=by
   have:=h.wt;rw[hwt]at this;rcases this.2 with⟨e,_⟩|⟨g,o,cap,cur,e,_⟩
   ·exact .inl e
   ·exact .inr ⟨_,cap,e⟩
  have H:AA (GA tag i b db W c d false (.returned (.bool false)) W):=⟨rfl,tag,V,bv,fv,l,h,K,Dj.same E.ok (DW.refl DX _),DW.refl _ _⟩;clear h K E O hwt z;rcases G with e|⟨a,cap,e⟩;all_goals
   rw[e]at Z;clear e;go_enter func146,ntmps146;go_wp2_with fail;go_ret;exact H.z
 | cons f ws =>
  have I:=O f (by rw[hwt];exact Ae);have B:=h.wt;rw[hwt]at B;obtain⟨g,o,cap,G,n1,n2,m,w,t⟩:=fy B;have L:=h.twt g (by rw[G];rfl);have P:=Ni K E.ok E.pos f none 0 0 I.sound (by rw[I.rn];exact⟨none,0,rfl,AG _,AL _,λi hi=>absurd hi (BA i)⟩) (λg hg=>by simp[Value.blk]at hg) (by rw[I.rn];simp) (by have:=I.data;omega) (by omega) (by have:=I.len;omega) (by omega);have y0:W.cell? ⟨g,o*10,none⟩=some (.int .i64 f.kind):=m 0 _ rfl;have y1:=m 1 _ rfl;have y2:=m 2 _ rfl;have y3:=m 3 _ rfl;have y4:=m 4 _ rfl;have y5:=m 5 _ rfl;have y6:=m 6 _ rfl;have y7:=m 7 _ rfl;have y8:=m 8 _ rfl;have y9:=m 9 _ rfl;rw[G]at Z;unfold maxLen at n2;have Q:=zb h;have HD:=zb K;have J:=zb E;have M:=zb hwt;have HV:=zb G;have C:=zb L;have HR:=zb w;have S:=zb t;clear h K E O hwt G m I B L w t;unfold zh at P;have KA:=zb P;clear P;cases hadd:d.add f with
  | none =>
   have z:c.datagrams d=none:=by unfold CS.datagrams;rw[M.z];simp[hadd]
   rw[z];have u:=zb hadd;clear z hadd;go_enter func146,ntmps146;go_wp2_with (go_at_call 142;refine KA.z.mono ?_;intro e W1 hd;have H:=zb (Yb Q.z J.z.ok J.z.pos hd u.z);obtain⟨rfl,_⟩:=hd;simp only[u.z,Option.isSome_none]at H ⊢);go_ret;exact H.z
  | some d' =>
   have z:c.datagrams d=some ({ c with waits:=ws },d'):=by unfold CS.datagrams;rw[M.z];simp[hadd]
   rw[z];have u:=zb hadd;clear z hadd;go_enter func146,ntmps146;go_wp2_with fail;refine KA.z.mono ?_;rintro e W1 ⟨rfl,tag',T,U,l',D,v,A⟩;rw[u.z]at D ⊢;have n:=Q.z.modR J.z.ok J.z.pos A v.old;have X:W1.cell? ⟨b,238,none⟩=some V.wt:=n.tl (j:=5) rfl;have f51:=n.fz 238;have y:tag' g=(i,6):=by rw[v.old g (EQ J.z.ok C.z J.z.pos),C.z]
   rw[HV.z]at X;have HN:AA (∀v2,ED W 65 10 v2 ws.length (zp ws)->(∀q,Value.blk v2=some q->q=g)->GA tag i b db W { c with waits:=ws } d' true (.returned (.bool true)) (W1.setCell ⟨b,238,none⟩ v2)):=by
    intro v2 Y F;have N:DW (λq=>q=b) W1 (W1.setCell ⟨b,238,none⟩ v2):=(DW.refl (λq=>q=b) _).setCell (p:=⟨b,238,none⟩) (.inl rfl) _;refine⟨rfl,tag',{ V with wt:=v2 },T,U,l',?_,?_,⟨v.ext.old,v.ext.new,v.z.mod N⟩,?_⟩
    ·refine n.build (R:=λr=>r=1\/r=6) N (λq s=>⟨1,.inl rfl,by rw[s,n.tb]⟩) (λ_ _=>rfl) ?_ (.inl ⟨rfl,rfl,rfl,by omega,by omega⟩) (λk hk=>.inl ⟨rfl,rfl,by omega⟩) (λk hk=>.inl ⟨rfl,rfl,by omega⟩) (λk hk=>.inl ⟨rfl,rfl,by omega⟩) (λk hk=>.inl ⟨rfl,rfl,by omega⟩) (λk hk=>.inl ⟨rfl,rfl,by omega⟩) (.inl ⟨rfl,rfl,rfl,by omega,by omega⟩) (.inr ⟨?_,λq s=>?_⟩) (.inl ⟨rfl,rfl,by omega⟩) (.inl ⟨rfl,rfl,by omega⟩)
     ·rw[zc n.obj,Ap];rw[show(238:Nat)=233+5 from rfl,zX c { c with waits:=ws } V { V with wt:=v2 } _ rfl rfl rfl rfl]
     ·refine(Y.mod A (λq s ⟨r,z,hx⟩=>?_)).mod N (λq s x=>?_)
      ·rw[F q s,C.z]at hx;simp at hx;omega
      ·have x:=x;rw[F q s]at x;exact zg.apart y (x ▸ n.tb) (by decide) rfl
     ·rw[F q s,y]
    ·exact D.modC N (λq s=>⟨1,by decide,by decide,by rw[s,n.tb]⟩) (λ_ _=>rfl)
    ·exact(LV A).then N (λq s=>.inl (by
      have s:=s;exact EK (by rw[s,Q.z.tb]) (by decide)))
   clear D v A n y y0 y1 y2 y3 y4 y5 y6 y7 y8 y9;go_wp2_with fail;all_goals go_ret
   ·exact HN.z _ (S.z (by omega)) (λq s=>by simpa [Value.blk]using s.symm)
   ·have:=HR.z;rw[show(o+1)*10=o*10+10 by omega]at this;exact HN.z _ this (λq s=>by simpa [Value.blk]using s.symm)
def zB:Nat:=4611686018427387903
def Gu(k n:Nat):Db:=⟨6,(k:Int),0,0,n,false,0,0,[],[]⟩
def Gd(n:Nat):Db:=⟨5,0,0,0,n,false,0,0,[],[]⟩
def Ht(k final keep:Nat):Db:=⟨3,(k:Int),final,keep,0,false,0,0,[],[]⟩
def ctlR(c:CS)(d:Dd):Nat->Nat->Nat->Option (CS×Dd)×Nat
 | 0,_,t=>(none,t)
 | n+1,k,t =>
  if (decide ((c.rs k).grant<max (c.rs k).grant ((c.rs k).used+c.window))||(c.rs k).anew)&&(c.rs k).hopes then
   match d.add (Gu k (max (c.rs k).grant ((c.rs k).used+c.window)))with
   | some d'=>(some ({ c with rs:=upd c.rs k { c.rs k with grant:=max (c.rs k).grant ((c.rs k).used+c.window),anew:=false } },d'),min (t+(c.rs k).used) zB)
   | none=>ctlR c d n (k+1) (min (t+(c.rs k).used) zB)
  else ctlR c d n (k+1) (min (t+(c.rs k).used) zB)
def Eg(c:CS)(d:Dd):Nat->Nat->Option (CS×Dd)
 | 0,_=>none
 | n+1,k =>
  if (c.ws k).cut && !(c.ws k).telling then
   match d.add (Ht k (c.ws k).final (c.ws k).keep)with
   | some d'=>some ({ c with ws:=upd c.ws k { c.ws k with telling:=true } },d')
   | none=>Eg c d n (k+1)
  else Eg c d n (k+1)
def JW(c:CS)(d:Dd)(t:Nat):Option (CS×Dd) :=
 if decide (c.grant<max t c.grant)||c.anew then
  match d.add (Gd (max t c.grant))with
  | some d'=>some ({ c with grant:=max t c.grant,anew:=false },d')
  | none=>Eg c d 8 0
 else Eg c d 8 0
def CS.control(c:CS)(d:Dd):Option (CS×Dd) :=
 match (ctlR c d 8 0 c.total).1 with
 | some x=>some x
 | none=>JW c d (ctlR c d 8 0 c.total).2
def LU(f:Db)(hr:f.rngs=[]):(zA f).length<=64+f.data.length:=by
 have v1:=zu f.stream.toNat;have v2:=zu f.off;have v3:=zu f.rel;have v4:=zu f.lim;have v5:=zu f.id;have v6:=zu f.dl;have v7:=zu f.data.length;unfold zA I1 I0 Iz I9 IF Gg;split
 ·simp;omega
 ·split
  ·unfold GC;rw[hr];have w1:=zu (DY [] 0);have w2:=zu (([]:zC).length-1);have w3:=zu (DY [] 0-Da [] 0);simp only[AF,AQ,AX];have:(D8 [] (0-1)).length=0:=rfl;simp only[AX]at w2;omega
  ·split
   ·simp only[AF,AQ,AX];omega
   ·split
    ·split
     ·simp only[AF,AQ,AX];omega
     ·simp only[AF,AQ,AX];omega
    ·split
     ·simp only[AF,AQ,AX];omega
     ·split
      ·simp only[AF,AQ,AX];omega
      ·split
       ·simp only[AF,AQ,AX];omega
       ·simp only[AF,AQ,AX];omega
def O8{n:Nat}(hk:k<8)(hn:n<=zB):(Gu k n).Fits:=by
 refine⟨?_,rfl,by simp[Gu],AO (LU _ rfl) (by simp[Gu])⟩;unfold zB at hn;simp[zT,EM,Ff,ER,zN,Gu]
 and_intros<;>first|omega|exact Aq (by omega)
def RE{n:Nat}(hn:n<=zB):(Gd n).Fits:=by
 refine⟨?_,rfl,by simp[Gd],AO (LU _ rfl) (by simp[Gd])⟩;simp[zT,EM,Ff,ER,zN,Gd];unfold zB at hn;omega
def Q9{final keep:Nat}(hk:k<8)(hn:final<=zB)(hle:keep<=final):(Ht k final keep).Fits:=by
 refine⟨?_,rfl,by simp[Ht],AO (LU _ rfl) (by simp[Ht])⟩;unfold zB at hn;simp[zT,EM,Ff,ER,zN,Ht]
 and_intros<;>first|omega|exact Aq (by omega)
def MK{l:List (Db×Value)}(h:ES tag i db d bv fv l W)(hk:Do tag W)(hi:0<i)(f:Db)(hf:f.Fits)(hbl:d.b.length<=1073741824)(hll:d.fs.length<=1073741824):Calls prog 142 #[.pointer (some ⟨db,0,none⟩),.agg (zh f (.slice none 0 0))] W (In tag i db W d f):=by
 have hl:l.length=d.fs.length:=by rw[<-h.lf,A9]
 exact Ni h hk hi f none 0 0 hf.sound (by rw[hf.rn];exact⟨none,0,rfl,AG _,AL _,λi hi=>absurd hi (BA i)⟩) (λg hg=>by simp[Value.blk]at hg) (by rw[hf.rn];simp) (by have:=hf.data;omega) (by omega) (by have:=hf.len;omega) (by omega)
structure zL(tag:Nat->Nat×Nat)(i b db:Nat)(W:World)(c:CS)(d:Dd)(tag':Nat->Nat×Nat)(V':CV)(bv' fv':Value)(l':List (Db×Value))(W':World):Prop where
 c:zg tag' i b c V' W'
 d:ES tag' i db d bv' fv' l' W'
 e:Dj i tag tag' W W'
 m:DW (Dp i tag) W W'
 p:0<i
variable{bv' fv':Value}{l':List (Db×Value)}
def zL.ok(h:zL tag i b db W c d tag' V' bv' fv' l' W'):Do tag' W':=h.e.z
def zL.post(h:zL tag i b db W c d tag' V' bv' fv' l' W')(r:Bool):GA tag i b db W c d r (.returned (.bool r)) W':=⟨rfl,tag',V',bv',fv',l',h.c,h.d,h.e,h.m⟩
variable{W'':World}
def Ec(e:Dj i tag tag' W W')(m:DW (Dp i tag) W W')(m':DW (Dp i tag') W' W''):DW (Dp i tag) W W'':=by
 refine m.then m' (λg hg=>?_);by_cases q:g<W.heap.size
 ·exact .inl (by unfold Dp at hg ⊢;rw[e.old g q]at hg;exact hg)
 ·exact .inr (by omega)
def zL.add{e:Ending}(h:zL tag i b db W c d tag' V' bv' fv' l' W')(hd:In tag' i db W' d f e W''):e = .returned (.bool (d.add f).isSome)/\∃tag2 bv2 fv2 l2,zL tag i b db W c ((d.add f).getD d) tag2 V' bv2 fv2 l2 W'':=by
 obtain⟨rfl,tag2,bv2,fv2,l2,h1,h2,h3⟩:=hd;exact⟨rfl,tag2,bv2,fv2,l2,h.c.modR h.e.z h.p h3 h2.old,h1,h.e.trans h2.ext h.m.size,Ec h.e h.m (LV h3),h.p⟩
def zL.store(h:zL tag i b db W c d tag' V' bv' fv' l' W')(j:Nat)(v:Value)(hc:(zt c V').set j v=zt c' V')(s:Id c c'):zL tag i b db W c' d tag' V' bv' fv' l' (W'.setCell ⟨b,j,none⟩ v):=by
 have a:DW (λq=>q=b) W' (W'.setCell ⟨b,j,none⟩ v):=(DW.refl (λq=>q=b) _).setCell (p:=⟨b,j,none⟩) (.inl rfl) _;exact⟨h.c.store j v hc s,h.d.modC a (λq f=>⟨1,by decide,by decide,by rw[f,h.c.tb]⟩) (λ_ _=>rfl),⟨h.e.old,h.e.new,h.e.z.mod a⟩,Ec h.e h.m (a.mono (λq f=>.inl (EK (r:=1) (by rw[show q=b from f];exact h.c.tb) (by decide)))),h.p⟩
def zL.mod0(h:zL tag i b db W c d tag' V' bv' fv' l' W')(m:DW DX W' W''):zL tag i b db W c d tag' V' bv' fv' l' W'' :=
 ⟨h.c.mod0 m,h.d.modC m (λ_ x=>x.elim) (λ_ _=>rfl),⟨h.e.old,h.e.new,h.e.z.mod m⟩,h.m.trans (m.mono (λ_ x=>x.elim)),h.p⟩
def Jn{α : Type}(f:Nat -> α)(k:Nat)(x y : α):upd (upd f k x) k y=upd f k y:=by
 funext j;by_cases h:j=k
 ·rw[h,ze,ze]
 ·rw[zd _ _ h,zd _ _ h,zd _ _ h]
def KW(c:CS)(k:Nat)(x:RS)(h1:x.b=(c.rs k).b)(h3:x.came.rs=(c.rs k).came.rs):Id c { c with rs:=upd c.rs k x } :=
 ⟨rfl,λ_ _=>⟨rfl,rfl,rfl⟩,λq _=>by
  by_cases a:q=k
  ·subst a;simp only[ze];exact⟨h1,h3⟩
  ·simp[zd _ _ a],rfl,rfl,rfl,rfl⟩
def zL.storeR(h:zL tag i b db W c d tag' V' bv' fv' l' W')(hk:k<8)(j:Nat)(hj:j<13)(v:Value)(x:RS)(hx:GD x (V'.rb k) (V'.rc k)=(GD (c.rs k) (V'.rb k) (V'.rc k)).set j v)(h1:x.b=(c.rs k).b)(h3:x.came.rs=(c.rs k).came.rs):zL tag i b db W { c with rs:=upd c.rs k x } d tag' V' bv' fv' l' (W'.setCell ⟨b,129+13*k+j,none⟩ v):=by
 refine h.store _ _ (Jt _ _ _ _ _ hk hj (λq _=>?_) rfl rfl rfl) (KW c k x h1 h3);by_cases a:q=k
 ·subst a;simp only[ze,A5];exact hx
 ·simp only[zd _ _ a,AH a]
def zL.granted(h:zL tag i b db W c d tag' V' bv' fv' l' W')(hk:k<8)(m:Nat):zL tag i b db W { c with rs:=upd c.rs k { c.rs k with grant:=m,anew:=false } } d tag' V' bv' fv' l' ((W'.setCell ⟨b,129+13*k+11,none⟩ (.int .u64 m)).setCell ⟨b,129+13*k+12,none⟩ (.bool false)):=by
 have h1:=h.storeR hk 11 (by decide) (.int .u64 m) { c.rs k with grant:=m } rfl rfl rfl;have h2:=h1.storeR hk 12 (by decide) (.bool false) { c.rs k with grant:=m,anew:=false } (by simp only[ze];rfl) (by simp only[ze]) (by simp only[ze]);simp only[Jn]at h2;exact h2
def zL.grantedAll(h:zL tag i b db W c d tag' V' bv' fv' l' W')(m:Nat):zL tag i b db W { c with grant:=m,anew:=false } d tag' V' bv' fv' l' ((W'.setCell ⟨b,234,none⟩ (.int .u64 m)).setCell ⟨b,235,none⟩ (.bool false)):=by
 have h1:zL tag i b db W { c with grant:=m } d tag' V' bv' fv' l' (W'.setCell ⟨b,234,none⟩ (.int .u64 m)):=h.store (233+1) _ (zX c { c with grant:=m } V' V' _ rfl rfl rfl rfl) ⟨rfl,λ_ _=>⟨rfl,rfl,rfl⟩,λ_ _=>⟨rfl,rfl⟩,rfl,rfl,rfl,rfl⟩;exact h1.store (233+2) _ (zX { c with grant:=m } { c with grant:=m,anew:=false } V' V' _ rfl rfl rfl rfl) ⟨rfl,λ_ _=>⟨rfl,rfl,rfl⟩,λ_ _=>⟨rfl,rfl⟩,rfl,rfl,rfl,rfl⟩
def GP(rs:zC)(n:Nat):Prop:=∃i,i<rs.length/\Da rs i<=n/\n<=DY rs i
def UP(a b:zC)(i:Nat)(h:i<a.length):Da (a++b) i=Da a i/\DY (a++b) i=DY a i:=by
 simp[Da,DY,Ag h]
def ON(a b:zC)(i:Nat)(h:a.length<=i):Da (a++b) i=Da b (i-a.length)/\DY (a++b) i=DY b (i-a.length):=by
 simp[Da,DY,AV h]
def MB(rs:zC)(k i:Nat)(h:i<k):Da (rs.take k) i=Da rs i/\DY (rs.take k) i=DY rs i:=by
 simp[Da,DY,Ai,h]
def G9(rs:zC)(k i:Nat):Da (rs.drop k) i=Da rs (k+i)/\DY (rs.drop k) i=DY rs (k+i):=by
 simp[Da,DY,Ai,A6]
def iX(r:Nat×Nat)(rs:zC):Da (r::rs) 0=r.1/\DY (r::rs) 0=r.2:=⟨rfl,rfl⟩
def T7(r:Nat×Nat)(rs:zC)(i:Nat):Da (r::rs) (i+1)=Da rs i/\DY (r::rs) (i+1)=DY rs i:=⟨rfl,rfl⟩
def OR(rs:zC)(m hi m1 a:Nat)(h1:m1<=a)(h2:a<=rs.length):(EB rs m hi m1 a).length=m1+1+(rs.length-a):=by
 simp[EB];omega
def LZ(rs:zC)(m hi m1 a i:Nat)(h1:m1<=a)(h2:a<=rs.length)(b:i<m1):Da (EB rs m hi m1 a) i=Da rs i/\DY (EB rs m hi m1 a) i=DY rs i:=by
 unfold EB;have hl:i<(rs.take m1).length:=by simp;omega
 rw[(UP _ _ i hl).1,(UP _ _ i hl).2];exact MB rs m1 i b
def P4(rs:zC)(m hi m1 a:Nat)(h1:m1<=a)(h2:a<=rs.length):Da (EB rs m hi m1 a) m1=(EO rs m hi m1 a).1/\DY (EB rs m hi m1 a) m1=(EO rs m hi m1 a).2:=by
 unfold EB;have hl:(rs.take m1).length=m1:=by simp;omega
 rw[(ON _ _ m1 (by omega)).1,(ON _ _ m1 (by omega)).2,hl,Ch];exact iX _ _
def I6(rs:zC)(m hi m1 a i:Nat)(h1:m1<=a)(h2:a<=rs.length)(hi1:m1<i):Da (EB rs m hi m1 a) i=Da rs (a+(i-m1-1))/\DY (EB rs m hi m1 a) i=DY rs (a+(i-m1-1)):=by
 unfold EB;have hl:(rs.take m1).length=m1:=by simp;omega
 rw[(ON _ _ i (by omega)).1,(ON _ _ i (by omega)).2,hl];obtain⟨j,hj⟩:∃j,i-m1=j+1:=⟨i-m1-1,by omega⟩;rw[hj,(T7 _ _ j).1,(T7 _ _ j).2];exact G9 rs a j
variable{rs:zC}
def dt{m1:Nat}(a:WF rs)(h1:Eo rs.length (D6 rs m) m1):∀i,i<m1->DY rs i+1<m:=by
 intro i hi;obtain⟨a1,b1,_⟩:=h1;have e:=b1 (by omega);simp only[D6,Ak]at e;by_cases he:i=m1-1
 ·rw[he];omega
 ·have:=a.2 i (m1-1) (by omega) (by omega);have h2:=a.1 (m1-1) (by omega);omega
variable{hi:Nat}
def XN{a:Nat}(b:WF rs)(h2:Eo rs.length (D9 rs hi) a):∀i,a<=i->i<rs.length->hi+1<Da rs i:=by
 intro i h1 hi;obtain⟨_,_,c2⟩:=h2;have e:=c2 (by omega);simp only[D9,Af]at e;by_cases he:i=a
 ·rw[he];exact e
 ·have:=b.2 a i (by omega) hi;have h3:=b.1 a (by omega);omega
def dp{m1 a:Nat}(b:WF rs)(c:hi<18446744073709551616)(h1:Eo rs.length (D6 rs m) m1)(h2:Eo rs.length (D9 rs hi) a):(EO rs m hi m1 a).1<=m/\hi<=(EO rs m hi m1 a).2/\(EO rs m hi m1 a).2<18446744073709551616/\(∀i,i<m1->DY rs i+1<(EO rs m hi m1 a).1)/\(∀i,a<=i->i<rs.length->(EO rs m hi m1 a).2+1<Da rs i):=by
 have hf:=dt b h1;have d:=XN b h2;have hm2:=h2.1;unfold EO;split
 ·rename_i hlt;have w2:=b.1 (a-1) (by omega);refine⟨Bw _ _,Bl _ _,by show max _ _<_;omega,λi hi=>?_,λi h3 h4=>?_⟩
  ·have:=hf i hi;have h5:=b.2 i m1 hi (by omega);show _<min _ _;omega
  ·have:=d i h3 h4;have h5:=b.2 (a-1) i (by omega) h4;show max _ _+1<_;omega
 ·exact⟨AG _,AG _,c,hf,d⟩
def PQ{m1 c:Nat}(d:WF rs)(h:m<=hi)(k:hi<18446744073709551616)(h1:Eo rs.length (D6 rs m) m1)(h2:Eo rs.length (D9 rs hi) c):WF (EB rs m hi m1 c):=by
 have a:=Lb d h h1 h2;have b:=h2.1;have hl:=OR rs m hi m1 c a b;obtain⟨r1,r2,r3,r4,r5⟩:=dp d k h1 h2;have g:=P4 rs m hi m1 c a b;refine⟨λi hi1=>?_,λi j f hj=>?_⟩
 ·rcases CD i m1 with hc|hc|hc
  ·have e:=LZ rs m hi m1 c i a b hc;rw[e.1,e.2];exact d.1 i (by omega)
  ·subst hc;rw[g.1,g.2];omega
  ·have e:=I6 rs m hi m1 c i a b hc;rw[e.1,e.2];exact d.1 _ (by omega)
 ·rcases CD i m1 with hc|hc|hc
  ·have e:=LZ rs m hi m1 c i a b hc;rw[e.2];rcases CD j m1 with hd|hd|hd
   ·rw[(LZ rs m hi m1 c j a b hd).1];exact d.2 i j f (by omega)
   ·subst hd;rw[g.1];exact r4 i hc
   ·rw[(I6 rs m hi m1 c j a b hd).1];exact d.2 i _ (by omega) (by omega)
  ·subst hc;rw[g.2,(I6 rs m hi i c j a b f).1];exact r5 _ (by omega) (by omega)
  ·rw[(I6 rs m hi m1 c i a b hc).2,(I6 rs m hi m1 c j a b (by omega)).1];exact d.2 _ _ (by omega) (by omega)
def LQ(a:WF rs)(h:i<=j)(b:j<rs.length):Da rs i<=Da rs j/\DY rs i<=DY rs j:=by
 by_cases he:i=j
 ·subst he;exact⟨AG _,AG _⟩
 ·have:=a.2 i j (by omega) b;have h1:=a.1 i (by omega);have h2:=a.1 j b;omega
def XM{m1 c:Nat}(k:WF rs)(l:m<=hi)(h1:Eo rs.length (D6 rs m) m1)(h2:Eo rs.length (D9 rs hi) c)(n:Nat):GP (EB rs m hi m1 c) n↔GP rs n\/(m<=n/\n<=hi):=by
 have d:=Lb k l h1 h2;have f:=h2.1;have hl:=OR rs m hi m1 c d f;have g:=P4 rs m hi m1 c d f;constructor
 ·rintro⟨i,h,b,a⟩;rcases CD i m1 with hc|hc|hc
  ·have e:=LZ rs m hi m1 c i d f hc;rw[e.1]at b;rw[e.2]at a;exact .inl ⟨i,by omega,b,a⟩
  ·subst hc;rw[g.1]at b;rw[g.2]at a;by_cases o:m<=n/\n<=hi
   ·exact .inr o
   ·refine .inl ?_;unfold EO at b a;split at b
    ·rename_i hlt;rw[AN hlt]at a;simp only at b a;have c1:=h1.2.2 (by omega);simp only[D6,Af]at c1;have b2:=h2.2.1 (by omega);simp only[D9,Ak]at b2;by_cases hn:n<m
     ·exact⟨i,by omega,by omega,by omega⟩
     ·exact⟨c-1,by omega,by omega,by omega⟩
    ·rename_i hlt;rw[AH hlt]at a;simp only at b a;omega
  ·have e:=I6 rs m hi m1 c i d f hc;rw[e.1]at b;rw[e.2]at a;exact .inl ⟨_,by omega,b,a⟩
 ·rintro(⟨i,h,b,a⟩|⟨ha,hb⟩)
  ·by_cases hc:i<m1
   ·have e:=LZ rs m hi m1 c i d f hc;exact⟨i,by omega,by rw[e.1];exact b,by rw[e.2];exact a⟩
   ·by_cases hd:c<=i
    ·have e:=I6 rs m hi m1 c (m1+1+(i-c)) d f (by omega);have e2:c+(m1+1+(i-c)-m1-1)=i:=by omega
     rw[e2]at e;exact⟨m1+1+(i-c),by omega,by rw[e.1];exact b,by rw[e.2];exact a⟩
    ·have l1:=(LQ k (i:=m1) (j:=i) (by omega) h).1;have l2:=(LQ k (i:=i) (j:=c-1) (by omega) (by omega)).2;refine⟨m1,by omega,?_,?_⟩
     ·rw[g.1,EO,AN (by omega)];show min _ _<=_;omega
     ·rw[g.2,EO,AN (by omega)];show _<=max _ _;omega
  ·refine⟨m1,by omega,?_,?_⟩
   ·rw[g.1,EO];split
    ·show min _ _<=_;omega
    ·exact ha
   ·rw[g.2,EO];split
    ·show _<=max _ _;omega
    ·exact hb
def VP{n:Nat}(d:WF rs)(h:Eo rs.length (JU rs n) m):(m<rs.length/\Da rs m<=n)↔GP rs n:=by
 obtain⟨a,b,c⟩:=h;constructor
 ·rintro⟨h1,h2⟩;have:=c h1;simp only[JU,Af]at this;exact⟨m,h1,h2,this⟩
 ·rintro⟨i,hi,hlo,hhi⟩;by_cases hc:i<m
  ·have e:=b (by omega);simp only[JU,Ak]at e;have:=(LQ d (i:=i) (j:=m-1) (by omega) (by omega)).2;omega
  ·have:=(LQ d (i:=m) (j:=i) (by omega) hi).1;exact⟨by omega,by omega⟩
def LH(h:i<rs.length):rs[i]?=some (Da rs i,DY rs i):=by
 simp[Da,DY,Ai,AJ h]
def Dk:zC->Nat->Nat->Nat×Nat
 | [],lo,hi=>(lo,hi)
 | r::l,lo,hi=>if r.2<lo then Dk l lo hi else if lo<r.1 then(lo,min hi r.1)else Dk l (r.2+1) hi
def Q8(h:k<rs.length):rs.drop k=(Da rs k,DY rs k)::rs.drop (k+1):=by
 rw[CB h]
 congr 1
 have:=LH h;rw[AJ h]at this;exact Bk this
theorem O7(rs:zC)(fl most b o lo hi:Nat)(v:Value)(w:World)(h:ET w b o v rs fl most)(l:lo<=9223372036854775808)(hb:∀k,k<rs.length->DY rs k<9223372036854775808):Calls prog 91 #[.pointer (some ⟨b,o,none⟩),.int .u64 lo,.int .u64 hi] w λe w'=>e = .returned (.tuple #[.int .u64 ((Dk rs lo hi).1:Int),.int .u64 ((Dk rs lo hi).2:Int)])/\DW DX w w':=by
 obtain⟨a,cap,rfl,h1,h2,h3⟩:=zi h.own;have hl:=h.cl;have HH:=zb h;have H3:=zb h3;have HB:=zb hb;unfold maxLen at h2;clear h h3 hb;obtain⟨G,n⟩:=nm (Dk rs lo hi);rw[n];have HG:=zb n;clear n;go_enter func91,ntmps91;go_wp2_with fail
 go_loopw [1,15] (λlv r wr=>∃k L:Nat,k<=rs.length/\lv = .int .u64 L/\r = .int .i64 k/\DW DX w wr/\L<=9223372036854775808/\AA (Dk (rs.drop k) L hi=G)) (λ_ r _=>rs.length-(intOf r).toNat)
 case atStart=>exact⟨0,lo,AL _,rfl,rfl,DW.refl _ _,l,HG⟩
 case round =>
  obtain⟨k,L,hk,rfl,rfl,m,hL,i⟩:=hrel;have M:=zb m;by_cases f:k<rs.length
  ·obtain⟨g,rfl⟩:=H3.z (by omega);obtain⟨s,t⟩:=IM HH.z.own k f;have s:=m.cell (a:=⟨g,_,none⟩) id s;have t:=m.cell (a:=⟨g,_,none⟩) id t;have u:=HB.z k f;have c:AA (Dk (rs.drop k) L hi=if DY rs k<L then Dk (rs.drop (k+1)) L hi else if L<Da rs k then(L,min hi (Da rs k))else Dk (rs.drop (k+1)) (DY rs k+1) hi):=by
    show _=_;rw[Q8 f];rfl
   obtain⟨p,y⟩:=nm (Da rs k);obtain⟨q,z⟩:=nm (DY rs k);rw[y]at s c;rw[z]at t c u;clear m y z hl;by_cases c1:q<L
   ·have d1:(q:Int)<L:=by omega
    have d:AA (Dk (rs.drop (k+1)) L hi=G):=by
     have:=c.z;rw[AN c1,i.z]at this;exact this.symm
    clear c1 c;go_wp2_with fail;go_roundw
    case rel=>exact⟨k+1,L,by omega,rfl,by go_num,M.z.alloc _,hL,d⟩
    case measure=>simp[intOf];omega
   ·have d1:¬(q:Int)<L:=by omega
    by_cases c2:L<p
    ·have d2:(L:Int)<p:=by omega
     have d:AA (G=(L,min hi p)):=by
      have:=c.z;rw[AH c1,AN c2,i.z]at this;exact this
     clear c1 c2 c;by_cases c3:p<=hi
     ·have d3:(p:Int)<=hi:=by omega
      have HM:AA (min hi p=p):=zb (by omega);clear c3;go_wp2_with fail;go_quiet (fail);go_wp2_with fail;all_goals first
       | (exfalso;omega)
       | (go_ret2;exact⟨by rw[d.z];(first|(rw[show min hi p=p by omega];rfl)|(rw[show min hi p=hi by omega];rfl)),(M.z.alloc _).drewN _⟩)
     ·have d3:¬(p:Int)<=hi:=by omega
      have HM:AA (min hi p=hi):=zb (by omega);clear c3;go_wp2_with fail;go_quiet (fail);go_wp2_with fail;all_goals first
       | (exfalso;omega)
       | (go_ret2;exact⟨by rw[d.z];(first|(rw[show min hi p=p by omega];rfl)|(rw[show min hi p=hi by omega];rfl)),(M.z.alloc _).drewN _⟩)
    ·have d2:¬(L:Int)<p:=by omega
     have hw1:=wu ((q:Int)+1) (by omega);have d:AA (Dk (rs.drop (k+1)) (q+1) hi=G):=by
      have:=c.z;rw[AH c1,AH c2,i.z]at this;exact this.symm
     clear c1 c2 c;go_wp2_with fail;go_roundw
     case rel=>exact⟨k+1,q+1,by omega,by go_num,by go_num,M.z.alloc _,by omega,d⟩
     case measure=>simp[intOf];omega
  ·have j:k=rs.length:=by omega
   have d:AA (G=(L,hi)):=by
    have:=i.z;rw[j,CJ]at this;exact this.symm
   clear m j i;go_wp2_with fail;go_ret2;exact⟨by rw[d.z];rfl,M.z⟩
end
end Go.Proofs.YtddfdpbaiedcjaaGreatDoor
