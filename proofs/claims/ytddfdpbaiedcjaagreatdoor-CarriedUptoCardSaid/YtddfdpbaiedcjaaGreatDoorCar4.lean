/- A part of Carried's proof. Conditions: none. Part 4 of 13. -/
import Derived.Lib.Overlaps
import Derived.Deep.RegionHeld3
import Derived.Deep.DeepCutAuto
import Derived.Lib.ConvBytes
import Derived.Test.YtddfdpbaiedcjaaGreatDoorCar3
import Derived.JoinedCond
import Derived.SevenTiedAt
set_option maxRecDepth 100000
set_option maxHeartbeats 16000000
set_option linter.all false
namespace Go.Proofs.YtddfdpbaiedcjaaGreatDoor
open Go.RowKit Go.Proofs.Tryz
theorem zgu:(prog.info? 214).map (fun i=>(i.zero,i.size,i.bytes))=some (some (.agg #[.int .u64 0,.int .u64 0]),2,16):=by kernel_rfl
theorem zcj:(prog.info? 214).map (·.size)=some 2:=by kernel_rfl
theorem zgv(w:World):(zeroValue 214).run prog w = .ok (.agg #[.int .u64 0,.int .u64 0]) w:=by kernel_rfl
theorem ziC(w:World)(g g2 o h i lb cb:Nat)(b a:List Value)(hg:w.heap[g]?=some (.cells b.toArray 214 (0,0)))(c:w.heap[g2]?=some (.cells a.toArray 214 (0,0)))
  (f:g2≠g) (d:b.length≠0) :
  (callFunc 202 #[.slice (some ⟨g2,0,none⟩) h i,.slice (some ⟨g,o,none⟩) lb cb]).run prog w = .ok (.value (.bool false)) w:=by
 rw[run_callFunc_extern func202 (by kernel_rfl) (by kernel_rfl) (by kernel_rfl) (e:=Extern.SlicesOverlaps.overlaps #[63,63] #[4]) (by kernel_rfl),
  Lib.run_overlaps_apart w 63 4 214 underlying63 2 (fun w=>zeb zcj w) ⟨g2,0,none⟩ ⟨g,o,none⟩ h i lb cb f 214 214 a.length b.length
   (by simp[World.shape?,c]) (by simp[World.shape?,hg]) d (by simp[World.frozen?,c]) (by simp[World.frozen?,c])]
 rfl
def zfS(a:List Value)(i n:Nat)(r:List Value):List Value:=splice (splice a ((i+1)*2) ((a.drop (i*2)).take ((n-i)*2))) (i*2) r
theorem zoE(g g2 i n cap:Nat)(a:List Value)(r:Nat×Nat)(w:World)(hi:i<n)(hn:n+1≤cap)(o:cap≤9223372036854775807)
  (hg:w.heap[g]?=some (.cells a.toArray 214 (0,0))) (d:a.length=cap*2) (k:∀v∈(a.drop (i*2)).take ((n-i)*2),v.oneCell'=true) (f:w.heap[g2]?=some (.cells [.int .u64 r.1,.int .u64 r.2].toArray 214 (0,0))) (h:g2≠g) :
  Calls prog 201 #[.slice (some ⟨g,0,none⟩) n cap,.int .i64 i,.slice (some ⟨g2,0,none⟩) 1 1] w fun e w'=>e = .returned (.slice (some ⟨g,0,none⟩) (n+1) cap) ∧
   w'=(w.setRow g (zfS a i n [.int .u64 r.1,.int .u64 r.2]).toArray).drew:=by
 have h1:(i:Int)<n:=by omega
 have h2:decide ((i:Int)=n)=false:=by simp;omega
 have h3:((i:Int)==n)=false:=by simp;omega
 have h4:i+1<cap:=by omega
 have hov:=ziC w g g2 ((i+1)*2) 1 1 (n-i) (cap-(i+1)) a _ hg f h (by omega);have l:∀ty,(Builtin.copy_ #[63,63] ty #[.slice (some ⟨g,(i+1)*2,none⟩) (n-i) (cap-(i+1)),.slice (some ⟨g,i*2,none⟩) (n+1-i) (cap-i)]).run prog w.drew =
   .ok (goInt (n-i:Nat)) (w.setRow g (splice a ((i+1)*2) ((a.drop (i*2)).take ((n-i)*2))).toArray).drew:=fun ty =>
  zaX (P:=prog) w.drew 63 63 ty 214 2 underlying63 zcj g ((i+1)*2) (n-i) (cap-(i+1)) g (i*2) (n+1-i) (cap-i) (n-i) a a _ _ _ hg hg
   (by omega) (by omega) (by omega) (by omega) (by omega) k
 obtain⟨j,b⟩:=nm (splice a ((i+1)*2) ((a.drop (i*2)).take ((n-i)*2)));rw[b]at l;have p:j.length=cap*2:=by rw[←b,length_splice _ _ _ (by simp;omega)];exact d
 obtain⟨m,c⟩:=nm (splice j (i*2) [Value.int .u64 (r.1:Int),Value.int .u64 (r.2:Int)]);have hc2:∀ty,(Builtin.copy_ #[63,63] ty #[.slice (some ⟨g,i*2,none⟩) (n+1-i) (cap-i),.slice (some ⟨g2,0,none⟩) 1 1]).run prog (w.setRow g j.toArray).drew =
   .ok (goInt (1:Nat)) (w.setRow g m.toArray).drew:=fun ty=>by
  rw[zaX (P:=prog) (w.setRow g j.toArray).drew 63 63 ty 214 2 underlying63 zcj g (i*2) (n+1-i) (cap-i) g2 0 1 1 1 j _ _ _ _ (setRow_heap w g _ _ _ _ hg)
   ((setRow_other w g g2 _ h).trans f) (by omega) (by omega) (by omega) (by simp) (by omega) (by simp[Value.oneCell'])]
  simp only[List.drop_zero,List.take_succ_cons,List.take_zero,Nat.one_mul,c]
  congr 1
  exact congrArg World.drew (setRow_setRow w g _ _)
 have HC:Hid (zfS a i n [.int .u64 r.1,.int .u64 r.2]=m):=by
  show splice (splice _ _ _) _ _=m;rw[b,c]
 clear b c;go_enter func201,ntmps201;go_wp2_with fail
 go_region
 go_wp2_with fail;go_ret;exact⟨rfl,by rw[HC.out]⟩
theorem zqF(g2 n cap:Nat)(a:Option Addr)(v':Value)(w c:World)(d:n≤cap)(b:cap≤9223372036854775807)
  (happ:∀ty,(Builtin.append_ #[63,63] ty #[.slice a n cap,.slice (some ⟨g2,0,none⟩) 1 1]).run prog w = .ok v' c) :
  Calls prog 201 #[.slice a n cap,.int .i64 n,.slice (some ⟨g2,0,none⟩) 1 1] w fun e w'=>e = .returned v'∧w'=c:=by
 by_cases hc:n=cap
 ·subst hc;cases a;all_goals
   go_enter func201,ntmps201;go_wp2_with (at_builtin;refine zl rfl _ _ _ _ rfl _ _ _ rfl rfl happ ?_);go_ret;exact⟨rfl,rfl⟩
 ·have h1:n<cap:=by omega
  cases a;all_goals
   go_enter func201,ntmps201;go_wp2_with (at_builtin;refine zl rfl _ _ _ _ rfl _ _ _ rfl rfl happ ?_);go_ret;exact⟨rfl,rfl⟩
def zd2(C0 a:List Value)(i n:Nat)(r:List Value):List Value:=splice (splice C0 (i*2) r) ((i+1)*2) ((a.drop (i*2)).take ((n-i)*2))
theorem zoF(g g2 h i n cap c:Nat)(a j:List Value)(r:Nat×Nat)(w b:World)(hi:i<n)(hnc:n≤cap)(hn:cap<n+1)(s:cap≤9223372036854775807)
  (t:a.length=cap*2) (m:∀v∈(a.drop (i*2)).take ((n-i)*2),v.oneCell'=true)
  (happ:∀ty,(Builtin.append_ #[63,3] ty #[.slice (some ⟨g,0,none⟩) i cap,.int .i64 ((n:Int)+1-i)]).run prog w = .ok (.slice (some ⟨h,0,none⟩) (n+1) c) b)
  (hg:b.heap[g]?=some (.cells a.toArray 214 (0,0))) (o:b.heap[g2]?=some (.cells [.int .u64 r.1,.int .u64 r.2].toArray 214 (0,0)))
  (u:b.heap[h]?=some (.cells j.toArray 214 (0,0))) (p:j.length=c*2) (x:n+1≤c) (y:c≤9223372036854775807) (_hne:g2≠h) (l:g≠h) :
  Calls prog 201 #[.slice (some ⟨g,0,none⟩) n cap,.int .i64 i,.slice (some ⟨g2,0,none⟩) 1 1] w fun e w'=>e = .returned (.slice (some ⟨h,0,none⟩) (n+1) c) ∧
   w'=(b.setRow h (zd2 j a i n [.int .u64 r.1,.int .u64 r.2]).toArray).drew:=by
 have h1:(i:Int)<n:=by omega
 have h3:((i:Int)==n)=false:=by simp;omega
 have h4:i<cap:=by omega
 have h5:i+1<c:=by omega
 obtain⟨k,d⟩:=nm (splice j (i*2) [Value.int .u64 (r.1:Int),Value.int .u64 (r.2:Int)]);have z:k.length=c*2:=by rw[←d,length_splice _ _ _ (by simp;omega)];exact p
 have hc1:∀ty,(Builtin.copy_ #[63,63] ty #[.slice (some ⟨h,i*2,none⟩) (n+1-i) (c-i),.slice (some ⟨g2,0,none⟩) 1 1]).run prog b =
   .ok (goInt (1:Nat)) (b.setRow h k.toArray):=fun ty=>by
  rw[zaX (P:=prog) b 63 63 ty 214 2 underlying63 zcj h (i*2) (n+1-i) (c-i) g2 0 1 1 1 j _ _ _ _ u
   o (by omega) (by omega) (by omega) (by simp) (by omega) (by simp[Value.oneCell'])]
  simp only[List.drop_zero,List.take_succ_cons,List.take_zero,Nat.one_mul,d]
 obtain⟨q,f⟩:=nm (splice k ((i+1)*2) ((a.drop (i*2)).take ((n-i)*2)));have hc2:∀ty,(Builtin.copy_ #[63,63] ty #[.slice (some ⟨h,(i+1)*2,none⟩) (n-i) (c-(i+1)),.slice (some ⟨g,i*2,none⟩) (n-i) (cap-i)]).run prog (b.setRow h k.toArray).drew =
   .ok (goInt (n-i:Nat)) (b.setRow h q.toArray).drew:=fun ty=>by
  rw[zaX (P:=prog) (b.setRow h k.toArray).drew 63 63 ty 214 2 underlying63 zcj h ((i+1)*2) (n-i) (c-(i+1)) g (i*2) (n-i) (cap-i) (n-i) k a _ _ _ (setRow_heap b h _ _ _ _ u)
   ((setRow_other b h g _ l).trans hg) (by omega) (by omega) (by omega) (by omega) (by omega) m]
  rw[f]
  congr 1
  exact congrArg World.drew (setRow_setRow b h _ _)
 have HC:Hid (zd2 j a i n [.int .u64 r.1,.int .u64 r.2]=q):=by
  show splice (splice _ _ _) _ _=q;rw[d,f]
 clear d f;go_enter func201,ntmps201;go_wp2_with (at_builtin;refine zl rfl _ _ _ _ rfl _ _ _ rfl rfl happ ?_)
 go_region
 go_wp2_with fail;go_ret;exact⟨rfl,by rw[HC.out]⟩
theorem zdy{α : Type}(A B cs:List α)(o:Nat)(ho:o=A.length):splice (A++B) o cs=A++(cs++B.drop cs.length):=by
 subst ho;simp[splice,←List.drop_drop]
theorem zeN{α : Type}(a X:List α)(n:Nat)(ht:a.take n=X):∃Y,a=X++Y:=⟨a.drop n,by rw[←ht,List.take_append_drop]⟩
theorem zl4(A X Y:List Value)(a b:Value)(hY:2≤Y.length):splice (splice (A++X++Y) (A.length+2) X) A.length [a,b]=A++[a,b]++X++Y.drop 2:=by
 have h1:splice (A++X++Y) (A.length+2) X=A++((X++Y).take 2++(X++Y.drop 2)):=by
  have e:(A++X++Y)=(A++(X++Y).take 2)++(X++Y).drop 2:=by simp[List.append_assoc,List.take_append_drop]
  have hl:((X++Y).take 2).length=2:=by simp;omega
  rw[e,zdy _ _ _ _ (by simp[hl]),List.drop_drop,Nat.add_comm,List.append_assoc]
  congr 1
  congr 1
  congr 1
  rw[List.drop_append];simp
 rw[h1,zdy _ _ _ _ rfl];have hl:((X++Y).take 2).length=2:=by simp;omega
 have:List.drop [a,b].length (List.take 2 (X++Y)++(X++List.drop 2 Y))=X++Y.drop 2:=by
  have e2:[a,b].length=((X++Y).take 2).length:=by rw[hl];rfl
  rw[e2,List.drop_left]
 rw[this];simp
theorem ziD(a:List Value)(i n cap:Nat)(rs:zA)(r:Nat×Nat)(hi:i≤n)(hn:n+1≤cap)(b:a.length=cap*2)(hrs:rs.length=n)(ht:a.take (n*2)=zn rs):(zfS a i n [.int .u64 r.1,.int .u64 r.2]).take ((n+1)*2)=zn (rs.take i++r::rs.drop i):=by
 obtain⟨Y,rfl⟩:=zeN _ _ _ ht;have d:(zn (rs.take i)).length=i*2:=by rw[zL];simp;omega
 have e:(zn (rs.drop i)).length=(n-i)*2:=by rw[zL];simp;omega
 have c:zn rs=zn (rs.take i)++zn (rs.drop i):=by rw[←zax,List.take_append_drop]
 have hY:2≤Y.length:=by
  simp only[List.length_append,zL]at b;omega
 have h1:((zn rs++Y).drop (i*2)).take ((n-i)*2)=zn (rs.drop i):=by
  rw[c,←d,List.append_assoc,List.drop_left,←e,List.take_left]
 unfold zfS;rw[h1,c,show(i+1)*2=(zn (rs.take i)).length+2 by omega,show i*2=(zn (rs.take i)).length by omega,zl4 _ _ _ _ _ hY,zax,zn];have hl:(zn (rs.take i)++[Value.int .u64 (r.1:Int),Value.int .u64 (r.2:Int)]++zn (rs.drop i)).length=(n+1)*2:=by simp[d,e];omega
 rw[←hl,List.take_left];simp
theorem zhb(d a:List Value)(i n cap f:Nat)(rs:zA)(r:Nat×Nat)(hi:i≤n)(hn:n+1≤f)(_hcap:n≤cap)(j:a.length=cap*2)(g:d.length=f*2)(h0:d.take (i*2)=a.take (i*2))(hrs:rs.length=n)(ht:a.take (n*2)=zn rs):(zd2 d a i n [.int .u64 r.1,.int .u64 r.2]).take ((n+1)*2)=zn (rs.take i++r::rs.drop i):=by
 obtain⟨Y,rfl⟩:=zeN _ _ _ ht;have b:(zn (rs.take i)).length=i*2:=by rw[zL];simp;omega
 have k:(zn (rs.drop i)).length=(n-i)*2:=by rw[zL];simp;omega
 have c:zn rs=zn (rs.take i)++zn (rs.drop i):=by rw[←zax,List.take_append_drop]
 have h1:((zn rs++Y).drop (i*2)).take ((n-i)*2)=zn (rs.drop i):=by
  rw[c,←b,List.append_assoc,List.drop_left,←k,List.take_left]
 have h2:(zn rs++Y).take (i*2)=zn (rs.take i):=by rw[c,←b,List.append_assoc,List.take_left]
 obtain⟨Z,rfl⟩:=zeN _ _ _ (h0.trans h2);have hZ:Z.length=f*2-i*2:=by simp[b]at g;omega
 unfold zd2;rw[h1,zdy _ _ _ _ b.symm];have e:zn (rs.take i)++([Value.int .u64 (r.1:Int),Value.int .u64 (r.2:Int)]++Z.drop 2)=(zn (rs.take i)++[Value.int .u64 (r.1:Int),Value.int .u64 (r.2:Int)])++Z.drop 2:=by simp
 have h:[Value.int .u64 (r.1:Int),Value.int .u64 (r.2:Int)].length=2:=rfl;rw[h,e,zdy _ _ _ _ (by simp[b];omega),←List.append_assoc,zax,zn];have hl:(zn (rs.take i)++[Value.int .u64 (r.1:Int),Value.int .u64 (r.2:Int)]++zn (rs.drop i)).length=(n+1)*2:=by simp[b,k];omega
 rw[←hl,List.take_left];simp
theorem zgw(a:List Value)(i n cap:Nat)(r:Nat×Nat)(hi:i≤n)(hn:n+1≤cap)(b:a.length=cap*2):(zfS a i n [.int .u64 r.1,.int .u64 r.2]).length=cap*2:=by
 unfold zfS;have h1:(splice a ((i+1)*2) ((a.drop (i*2)).take ((n-i)*2))).length=cap*2:=by
  rw[length_splice _ _ _ (by simp;omega)];exact b
 rw[length_splice _ _ _ (by simp;omega)];exact h1
theorem zfB(c a:List Value)(i n b cap:Nat)(r:Nat×Nat)(hi:i≤n)(hn:n+1≤b)(e:n≤cap)(f:a.length=cap*2)(d:c.length=b*2):(zd2 c a i n [.int .u64 r.1,.int .u64 r.2]).length=b*2:=by
 unfold zd2;have h1:(splice c (i*2) [Value.int .u64 (r.1:Int),Value.int .u64 (r.2:Int)]).length=b*2:=by
  rw[length_splice _ _ _ (by simp;omega)];exact d
 rw[length_splice _ _ _ (by simp;omega)];exact h1
theorem zd3(rs:zA):∀v∈zn rs,v.oneCell'=true:=by
 induction rs with
 | nil=>intro v h;cases h
 | cons r rs ih =>
  intro v h;simp only[zn,List.mem_cons]at h;rcases h with rfl|rfl|h
  ·rfl
  ·rfl
  ·exact ih v h
variable{fz:Nat×Nat}{g t:Nat}{w:World}
theorem zgx{cs:List Value}(hg:w.heap[g]?=some (.cells cs.toArray t fz)):∀j u,cs[j]?=some u→w.cell? ((⟨g,0,none⟩:Addr).add j)=some u:=by
 intro j u h;rw[zU];simpa [World.cell?,hg]using h
variable{base e n sz:Nat}{v:Value}{xs:List Value}
theorem zgy(h:w.ownsRow base e sz v n xs)(hn:0<n):∃g cap cur,v = .slice (some ⟨g,0,none⟩) n cap∧w.heap[g]?=some (.cells (cur:List Value).toArray e (0,0))∧n≤cap∧cap≤maxLen∧cur.length=cap*sz∧cur.take (n*sz)=xs:=by
 rcases h.2 with⟨_,h0⟩|⟨g,cap,cur,rfl,_,hg,h1,h2,h3,h4⟩
 ·omega
 ·exact⟨g,cap,cur.toList,rfl,by simpa using hg,h1,h2,by simpa using h3,h4⟩
theorem zkN(v:Value)(rs:zA)(i:Nat)(r:Nat×Nat)(g2:Nat)(w:World)(hi:i≤rs.length)(H:rs.length≤1099511627776)(d:w.ownsRow 0 214 2 v rs.length (zn rs))
  (l:w.heap[g2]?=some (.cells [.int .u64 r.1,.int .u64 r.2].toArray 214 (0,0))) (B:v.ownBlock≠some g2) :
  Calls prog 201 #[v,.int .i64 i,.slice (some ⟨g2,0,none⟩) 1 1] w fun e w'=>∃v',e = .returned v'∧w'.ownsRow 0 214 2 v' (rs.length+1) (zn (rs.take i++r::rs.drop i))∧w.grownBy w' v.ownBlock∧zaH w v v':=by
 obtain⟨I,m,s,o,t⟩:=info_parts zgu;by_cases C:i=rs.length
 ·obtain⟨a,cap,rfl,h1,h2,h3⟩:=zi d;obtain⟨v',w1,happ,ho,D,E⟩:=zQ (P:=prog) w 63 214 I _ 2 16 underlying63 m s o t rfl (by decide) _ _ _ d ⟨g2,0,none⟩ 1 1 [.int .u64 r.1,.int .u64 r.2] rfl (zgx l) (by simp[Value.oneCell']) (by unfold maxLen;omega) (by omega);subst C;unfold maxLen at h2;refine(zqF g2 _ cap a v' w w1 h1 (by omega) happ).mono ?_;rintro e w' ⟨rfl,rfl⟩;refine⟨v',rfl,?_,D,E⟩;simpa [zax,zn]using ho
 ·obtain⟨g,cap,b,rfl,hg,h1,h2,h3,h4⟩:=zgy d (by omega);have F:g2≠g:=fun e=>B (by simp[Value.ownBlock,e])
  unfold maxLen at h2;have n:∀v∈(b.drop (i*2)).take ((rs.length-i)*2),v.oneCell'=true:=by
   intro v J;refine zd3 rs v ?_;rw[←h4];have e:(b.drop (i*2)).take ((rs.length-i)*2)=(b.take (rs.length*2)).drop (i*2):=by
    rw[List.drop_take]
    congr 1
    omega
   rw[e]at J;exact List.mem_of_mem_drop J
  by_cases c:rs.length+1≤cap
  ·refine(zoE g g2 i rs.length cap b r w (by omega) c (by omega) hg h3 n l F).mono ?_;rintro e w' ⟨rfl,rfl⟩;refine⟨_,rfl,⟨by simp[zL];omega,.inr ⟨g,cap,_,rfl,Nat.zero_le _,setRow_heap w g _ _ _ _ hg,c,by unfold maxLen;omega,?_,?_⟩⟩,⟨rfl,rfl,rfl,by simp,fun k _ hk=>setRow_other w g k _ (fun e=>hk (by simp[Value.ownBlock,e]))⟩,fun k hk=>.inl hk⟩
   ·simpa using zgw b i rs.length cap r hi c h3
   ·simpa using ziD b i rs.length cap rs r hi c h3 rfl h4
  ·have happ:=fun ty=>zeG (P:=prog) w 63 3 ty 214 .i64 I _ underlying63 underlying3 m s ⟨g,0,none⟩ i cap (rs.length+1-i) (zn (rs.take i)) (by rw[zL,o];simp;omega)
    (fun j u A=>zgx hg j u (by
     rw[←zch,←h4,List.take_take,List.getElem?_take]at A;split at A
     ·exact A
     ·cases A)) (by omega) (by omega) (by rw[t];omega) (by rw[o];omega)
   rw[show i+(rs.length+1-i)=rs.length+1 by omega,show((rs.length+1-i:Nat):Int)=(rs.length:Int)+1-i by omega]at happ;have f:=grownCap_ge w (rs.length+1) cap 214;have x:grownCap w (rs.length+1) cap 214≤maxLen:=grownCap_le_maxLen w _ cap _ (by unfold maxLen;omega);unfold maxLen at x;generalize grownCap w (rs.length+1) cap 214=nc at happ f x;have G:=(Array.getElem?_eq_some_iff.1 hg).1;have y:=(Array.getElem?_eq_some_iff.1 l).1;obtain⟨p,q⟩:∃p:List Value,(zn (rs.take i)).toArray++Builtin.zeroCells (Value.agg #[Value.int .u64 0,Value.int .u64 0]).cells (rs.length+1-i)++Builtin.zeroCells (Value.agg #[Value.int .u64 0,Value.int .u64 0]).cells (nc-(rs.length+1))=p.toArray∧p.length=nc*2∧p.take (i*2)=b.take (i*2):=by
    refine⟨zn (rs.take i)++(Builtin.zeroCells (Value.agg #[Value.int .u64 0,Value.int .u64 0]).cells (rs.length+1-i)).toList++(Builtin.zeroCells (Value.agg #[Value.int .u64 0,Value.int .u64 0]).cells (nc-(rs.length+1))).toList,by simp,?_,?_⟩
    ·simp[size_zeroCells,zL,Value.cells];omega
    ·have K:(zn (rs.take i)).length=i*2:=by rw[zL];simp;omega
     rw[List.append_assoc,←K,List.take_left,K,←zch,←h4,List.take_take]
     congr 1
     omega
   obtain⟨q,h,z⟩:=q;rw[q]at happ;refine(zoF g g2 w.heap.size i rs.length cap nc b p r w _ (by omega) h1 (by omega) (by omega) h3 n happ ((Below.heap_alloc w.drew _ g G).trans hg) ((Below.heap_alloc w.drew _ g2 y).trans l) (heap_alloc_new w.drew _) h f (by omega) (by omega) (by omega)).mono ?_;rintro e w' ⟨rfl,rfl⟩;refine⟨_,rfl,⟨by simp[zL];omega,.inr ⟨w.heap.size,nc,_,rfl,Nat.zero_le _,setRow_heap _ _ _ _ _ _ (heap_alloc_new w.drew _),f,by unfold maxLen;omega,?_,?_⟩⟩,⟨rfl,rfl,rfl,by simp,fun k hk _=>?_⟩,fun k hk=>by simp[Value.ownBlock]at hk;omega⟩
   ·simpa using zfB p b i rs.length nc cap r hi f h1 h3 h
   ·simpa using zhb p b i rs.length cap nc rs r hi f h1 h3 h z rfl h4
   ·exact(setRow_other _ _ _ _ (by omega)).trans (Below.heap_alloc w.drew _ k hk)
def zhc(a:List Value)(n:Nat):List Value:=splice (splice a 0 ((a.drop 2).take ((n-1)*2))) ((n-1)*2) [.int .u64 0,.int .u64 0]
theorem zoG(g n cap:Nat)(a:List Value)(w:World)(hn:2≤n)(m:n≤cap)(i:cap≤9223372036854775807)
  (hg:w.heap[g]?=some (.cells a.toArray 214 (0,0))) (d:a.length=cap*2) (j:∀v∈(a.drop 2).take ((n-1)*2),v.oneCell'=true) :
  Calls prog 157 #[.slice (some ⟨g,0,none⟩) n cap,.int .i64 0,.int .i64 1] w fun e w'=>e = .returned (.slice (some ⟨g,0,none⟩) (n-1) cap) ∧
   w'=(w.setRow g (zhc a n).toArray).drew:=by
 obtain⟨i0,f,hz0,k,hz2⟩:=info_parts zgu;have hl:((a.drop 2).take ((n-1)*2)).length=(n-1)*2:=by simp;omega
 have happ:∀ty,(Builtin.append_ #[63,63] ty #[.slice (some ⟨g,0,none⟩) 0 cap,.slice (some ⟨g,2,none⟩) (n-1) (cap-1)]).run prog w.drew =
   .ok (.slice (some ⟨g,0,none⟩) (n-1) cap) (w.setRow g (splice a 0 ((a.drop 2).take ((n-1)*2))).toArray).drew:=fun ty=>by
  have:=run_append_room (P:=prog) w.drew 63 ty 214 i0 underlying63 f g 0 cap a.toArray hg ⟨g,2,none⟩ (n-1) (cap-1) _ (by rw[hl,k]) (zg2 hg 2 ((n-1)*2)) j (by omega) (by rw[hl];simp;omega);rw[this];simp[splice];rfl
 obtain⟨h,b⟩:=nm (splice a 0 ((a.drop 2).take ((n-1)*2)));have o:h.length=cap*2:=by rw[←b,length_splice _ _ _ (by rw[hl];omega)];exact d
 rw[b]at happ;obtain⟨l,c⟩:=nm (splice h ((n-1)*2) [Value.int .u64 0,Value.int .u64 0]);have hcl:∀ty,(Builtin.clear_ #[63] ty #[.slice (some ⟨g,(n-1)*2,none⟩) (n-(n-1)) (cap-(n-1))]).run prog (w.setRow g h.toArray).drew = .ok (.tuple #[]) (w.setRow g l.toArray).drew:=fun ty=>by
  rw[show n-(n-1)=1 by omega,zaK (P:=prog) (w.setRow g h.toArray).drew 63 ty 214 (.agg #[.int .u64 0,.int .u64 0]) 2 underlying63 zgv rfl (by simp[Value.cells,Value.oneCell']) g ((n-1)*2) 1 _ h _ (setRow_heap w g _ _ _ _ hg) (by omega)];rw[show(Builtin.zeroCells (Value.agg #[Value.int .u64 0,Value.int .u64 0]).cells 1).toList=[Value.int .u64 0,Value.int .u64 0]by kernel_rfl,c]
  congr 1
  exact congrArg World.drew (setRow_setRow w g _ _)
 have HC:Hid (zhc a n=l):=by
  show splice (splice _ _ _) _ _=l;rw[b,c]
 have h1:1<cap:=by omega
 have h2:(1:Int)≤n:=by omega
 have h3:n-1<cap:=by omega
 clear b c hl;go_enter func157,ntmps157;go_wp2_with fail;have h5:¬cap=1:=by omega
 go_region_law (refine zO rfl (.tmp 22) (.tmp 25) 63 63 rfl (.slice (some ⟨g,0,none⟩) 0 cap) (.slice (some ⟨g,2,none⟩) (n-1) (cap-1)) (.slice (some ⟨g,0,none⟩) (n-1) cap) (by simp[Act.eval,Act.put]) (by simp[Act.eval,Act.put]) happ ?_)
 go_wp2_with fail;go_ret;exact⟨rfl,by rw[HC.out]⟩
theorem zqG(a:Option Addr)(g2 i n cap:Nat)(R:Ending→World→Prop)(w:World)(hi:i≤n)(f:n≤cap)(c:cap≤9223372036854775807)
  (b:Calls prog 201 #[.slice a n cap,.int .i64 i,.slice (some ⟨g2,0,none⟩) 1 1] w fun e w'=>∃v',e = .returned v'∧R (.returned v') w') :
  Calls prog 156 #[.slice a n cap,.int .i64 i,.int .i64 i,.slice (some ⟨g2,0,none⟩) 1 1] w R:=by
 by_cases hc:i=cap
 ·obtain rfl:n=i:=by omega
  subst hc;cases a;all_goals
   go_enter func156,ntmps156;go_wp2_with (go_at_call 201;refine b.mono ?_;rintro e w' ⟨v',rfl,d⟩);exact d
 ·have h1:i<cap:=by omega
  cases a;all_goals
   go_enter func156,ntmps156;go_wp2_with (go_at_call 201;refine b.mono ?_;rintro e w' ⟨v',rfl,d⟩);exact d
def zfT(a:List Value)(i n:Nat)(r:List Value):List Value:=splice (splice a (i*2) r) ((i+1)*2) (Builtin.zeroCells #[.int .u64 0,.int .u64 0] (n-(i+1))).toList
theorem zqH(g g2 i n cap:Nat)(b:List Value)(r:Nat×Nat)(w:World)(hi:i<n)(q:n≤cap)(_hcap2:cap≤9223372036854775807)
  (hg:w.heap[g]?=some (.cells b.toArray 214 (0,0))) (j:b.length=cap*2) (m:w.heap[g2]?=some (.cells [.int .u64 r.1,.int .u64 r.2].toArray 214 (0,0))) :
  Calls prog 156 #[.slice (some ⟨g,0,none⟩) n cap,.int .i64 i,.int .i64 n,.slice (some ⟨g2,0,none⟩) 1 1] w fun e w'=>e = .returned (.slice (some ⟨g,0,none⟩) (i+1) cap) ∧
   w'=w.setRow g (zfT b i n [.int .u64 r.1,.int .u64 r.2]).toArray:=by
 obtain⟨i0,k,hz0,f,hz2⟩:=info_parts zgu;have happ:∀ty,(Builtin.append_ #[63,63] ty #[.slice (some ⟨g,0,none⟩) i cap,.slice (some ⟨g2,0,none⟩) 1 1]).run prog w =
   .ok (.slice (some ⟨g,0,none⟩) (i+1) cap) (w.setRow g (splice b (i*2) [Value.int .u64 (r.1:Int),Value.int .u64 (r.2:Int)]).toArray):=fun ty=>by
  have:=run_append_room (P:=prog) w 63 ty 214 i0 underlying63 k g i cap b.toArray hg ⟨g2,0,none⟩ 1 1 [Value.int .u64 (r.1:Int),Value.int .u64 (r.2:Int)] (by rw[f];rfl) (zgx m) (by simp[Value.oneCell']) (by omega) (by rw[f];simp;omega);rw[this,f];simp[splice]
 obtain⟨h,c⟩:=nm (splice b (i*2) [Value.int .u64 (r.1:Int),Value.int .u64 (r.2:Int)]);have s:h.length=cap*2:=by rw[←c,length_splice _ _ _ (by simp;omega)];exact j
 rw[c]at happ;obtain⟨l,d⟩:=nm (splice h ((i+1)*2) (Builtin.zeroCells #[Value.int .u64 0,Value.int .u64 0] (n-(i+1))).toList);have o:∀ty,(Builtin.clear_ #[63] ty #[.slice (some ⟨g,(i+1)*2,none⟩) (n-(i+1)) (cap-(i+1))]).run prog (w.setRow g h.toArray) = .ok (.tuple #[]) (w.setRow g l.toArray):=fun ty=>by
  rw[zaK (P:=prog) (w.setRow g h.toArray) 63 ty 214 (.agg #[.int .u64 0,.int .u64 0]) 2 underlying63 zgv rfl (by simp[Value.cells,Value.oneCell']) g ((i+1)*2) (n-(i+1)) _ h _ (setRow_heap w g _ _ _ _ hg) (by omega)];rw[show(Value.agg #[Value.int .u64 0,Value.int .u64 0]).cells=#[Value.int .u64 0,Value.int .u64 0]from rfl,d]
  congr 1
  exact setRow_setRow w g _ _
 have t:Hid (zfT b i n [.int .u64 r.1,.int .u64 r.2]=l):=by
  show splice (splice _ _ _) _ _=l;rw[c,d]
 have p:Hid (i+1=n→h=l):=by
  intro e;rw[←d];subst e;simp[splice,Builtin.zeroCells]
 have h1:(i:Int)<n:=by omega
 have h2:((i:Int)==n)=false:=by simp;omega
 have h3:i<cap:=by omega
 clear c d;by_cases a:i+1=n
 ·have h4:decide ((i:Int)+1<n)=false:=by simp;omega
  have u:=p.out a;have HE:Hid (h=l):=u;clear u o;have h5:¬((i:Int)+1<n):=by omega
  go_enter func156,ntmps156;have Hl:=zb a;clear a;go_wp2_with (at_builtin;refine zl rfl _ _ _ _ rfl _ _ _ rfl rfl happ ?_);go_ret;exact⟨rfl,by rw[t.out,HE.out]⟩
 ·have h5:(i:Int)+1<n:=by omega
  have h6:i+1<cap:=by omega
  clear a;go_enter func156,ntmps156;go_wp2_with (at_builtin;refine zl rfl _ _ _ _ rfl _ _ _ rfl rfl happ ?_);go_ret;exact⟨rfl,by rw[t.out]⟩
def zhd(a:List Value)(i j n:Nat)(r:List Value):List Value :=
 splice (splice (splice a (i*2) r) ((i+1)*2) (((splice a (i*2) r).drop (j*2)).take ((n-j)*2))) ((i+1+(n-j))*2) (Builtin.zeroCells #[.int .u64 0,.int .u64 0] (n-(i+1+(n-j)))).toList
theorem za4{α : Type}(L:List α)(o k n:Nat)(h:n=o+k):(L.take n).drop o=(L.drop o).take k:=by
 subst h;rw[List.drop_take]
 congr 1
 omega
theorem zqI(g g2 i j n cap:Nat)(a:List Value)(r:Nat×Nat)(w:World)(hi:i<j)(hj:j<n)(E:n≤cap)(A:cap≤9223372036854775807)
  (hg:w.heap[g]?=some (.cells a.toArray 214 (0,0))) (t:a.length=cap*2) (u:∀v∈a.take (n*2),v.oneCell'=true) (B:w.heap[g2]?=some (.cells [.int .u64 r.1,.int .u64 r.2].toArray 214 (0,0))) (_hne:g2≠g) :
  Calls prog 156 #[.slice (some ⟨g,0,none⟩) n cap,.int .i64 i,.int .i64 j,.slice (some ⟨g2,0,none⟩) 1 1] w fun e w'=>e = .returned (.slice (some ⟨g,0,none⟩) (i+1+(n-j)) cap) ∧
   ∃k,w'=(w.setRow g (zhd a i j n [.int .u64 r.1,.int .u64 r.2]).toArray).drewN k:=by
 obtain⟨d,f⟩:=nm (splice a (i*2) [Value.int .u64 (r.1:Int),Value.int .u64 (r.2:Int)]);have y:d.length=cap*2:=by rw[←f,length_splice _ _ _ (by simp;omega)];exact t
 have hc1:∀ty nq,(Builtin.copy_ #[63,63] ty #[.slice (some ⟨g,i*2,none⟩) (i+1+(n-j)-i) (cap-i),.slice (some ⟨g2,0,none⟩) 1 1]).run prog (w.drewN nq) = .ok (goInt (1:Nat)) ((w.setRow g d.toArray).drewN nq):=fun ty nq=>by
  rw[zaX (P:=prog) (w.drewN nq) 63 63 ty 214 2 underlying63 zcj g (i*2) (i+1+(n-j)-i) (cap-i) g2 0 1 1 1 a _ _ _ _ hg B (by omega) (by omega) (by omega) (by simp) (by omega) (by simp[Value.oneCell'])];simp only[List.drop_zero,List.take_succ_cons,List.take_zero,Nat.one_mul,f];rfl
 obtain⟨h,l⟩:=nm (splice d ((i+1)*2) ((d.drop (j*2)).take ((n-j)*2)));have F:h.length=cap*2:=by rw[←l,length_splice _ _ _ (by simp;omega)];exact y
 have q:∀v∈(d.drop (j*2)).take ((n-j)*2),v.oneCell'=true:=by
  intro v G;have e:d.drop (j*2)=a.drop (j*2):=by
   rw[←f];simp only[splice];rw[List.drop_append,List.drop_eq_nil_of_le (by simp;omega),List.nil_append,List.drop_append,List.drop_eq_nil_of_le (by simp;omega),List.nil_append,List.drop_drop]
   congr 1
   simp;omega
  rw[e,←za4 a (j*2) ((n-j)*2) (n*2) (by omega)]at G;exact u v (List.mem_of_mem_drop G)
 have hc2:∀ty nq,(Builtin.copy_ #[63,63] ty #[.slice (some ⟨g,(i+1)*2,none⟩) (n-j) (cap-(i+1)),.slice (some ⟨g,j*2,none⟩) (n-j) (cap-j)]).run prog ((w.setRow g d.toArray).drewN nq) =
   .ok (goInt (n-j:Nat)) ((w.setRow g h.toArray).drewN nq):=fun ty nq=>by
  have s:=setRow_heap w g _ d.toArray _ _ hg;rw[zaX (P:=prog) ((w.setRow g d.toArray).drewN nq) 63 63 ty 214 2 underlying63 zcj g ((i+1)*2) (n-j) (cap-(i+1)) g (j*2) (n-j) (cap-j) (n-j) d d _ _ _ s s (by omega) (by omega) (by omega) (by omega) (by omega) q];rw[l]
  congr 1
  exact congrArg (fun x=>World.drewN x nq) (setRow_setRow w g _ _)
 obtain⟨z,m⟩:=nm (splice h ((i+1+(n-j))*2) (Builtin.zeroCells #[Value.int .u64 0,Value.int .u64 0] (n-(i+1+(n-j)))).toList);have C:∀ty nq,(Builtin.clear_ #[63] ty #[.slice (some ⟨g,(i+1+(n-j))*2,none⟩) (n-(i+1+(n-j))) (cap-(i+1+(n-j)))]).run prog ((w.setRow g h.toArray).drewN nq) = .ok (.tuple #[]) ((w.setRow g z.toArray).drewN nq):=fun ty nq=>by
  rw[zaK (P:=prog) ((w.setRow g h.toArray).drewN nq) 63 ty 214 (.agg #[.int .u64 0,.int .u64 0]) 2 underlying63 zgv rfl (by simp[Value.cells,Value.oneCell']) g ((i+1+(n-j))*2) (n-(i+1+(n-j))) _ h _ (setRow_heap w g _ _ _ _ hg) (by omega)];rw[show(Value.agg #[Value.int .u64 0,Value.int .u64 0]).cells=#[Value.int .u64 0,Value.int .u64 0]from rfl,m]
  congr 1
  exact congrArg (fun x=>World.drewN x nq) (setRow_setRow w g _ _)
 have H:Hid (zhd a i j n [.int .u64 r.1,.int .u64 r.2]=z):=by
  show splice (splice (splice _ _ _) _ _) _ _=z;rw[f,l,m]
 have D:Hid (i+1+(n-j)=n→h=z):=by
  intro e;rw[←m,e];simp[splice,Builtin.zeroCells]
 clear f l m q u;have h1:(i:Int)<j:=by omega
 have h2:((i:Int)==j)=false:=by simp;omega
 have h3:((j:Int)==n)=false:=by simp;omega
 have h4:(j:Int)<n:=by omega
 have h5:i<cap:=by omega
 have h6:i+1<cap:=by omega
 have h7:j<cap:=by omega
 have h8:¬cap=i+1:=by omega
 have h9:¬cap=j:=by omega
 by_cases b:i+1+(n-j)=cap
 ·have HL:=zb b;have p:n-(i+1+(n-j))=0:=by omega
  have HE:Hid (h=z):=D.out (by omega);have H10:=zb p;have I:∀ty o c nq,(Builtin.clear_ #[63] ty #[.slice (some ⟨g,o,none⟩) (n-(i+1+(n-j))) c]).run prog ((w.setRow g h.toArray).drewN nq) = .ok (.tuple #[]) ((w.setRow g h.toArray).drewN nq):=fun ty o c nq=>by
   rw[p];simp[Builtin.clear_,run_underlying underlying63]
  clear b p C;go_enter func156,ntmps156;go_wp2_with fail;go_quiet (fail);go_wp2_with fail
  go_region
  go_wp2_with fail;all_goals
   go_ret;refine⟨?_,_,by rw[H.out,HE.out]⟩
   first|rfl|(rw[←HL.out];rfl)
 ·have p:i+1+(n-j)<cap:=by omega
  clear b;go_enter func156,ntmps156;go_wp2_with fail;go_quiet (fail);go_wp2_with fail
  go_region
  go_wp2_with fail;go_ret;exact⟨rfl,_,by rw[H.out]⟩
theorem zdg{α : Type}(L:List α)(o:Nat)(cs:List α)(h:o≤L.length):(splice L o cs).take o=L.take o:=by
 simp only[splice];rw[List.take_append_of_le_length (by simp;omega),List.take_take]
 congr 1
 omega
theorem ziE{α : Type}(L:List α)(o:Nat)(cs:List α)(k:Nat)(h:o+cs.length≤L.length)(hk:o+cs.length≤k):(splice L o cs).drop k=L.drop k:=by
 simp only[splice];rw[List.drop_append,List.drop_eq_nil_of_le (by simp;omega),List.nil_append,List.drop_append,List.drop_eq_nil_of_le (by simp;omega),List.nil_append,List.drop_drop]
 congr 1
 simp;omega
theorem zbj{α : Type}(L:List α)(o:Nat)(cs:List α)(h:o+cs.length≤L.length):(splice L o cs).take (o+cs.length)=L.take o++cs:=by
 simp only[splice];rw[←List.append_assoc];have:(L.take o++cs).length=o+cs.length:=by simp;omega
 rw[←this,List.take_left]
theorem ziF(a:List Value)(i n cap:Nat)(rs:zA)(r:Nat×Nat)(hi:i<n)(hn:n≤cap)(b:a.length=cap*2)(hrs:rs.length=n)(ht:a.take (n*2)=zn rs):(zfT a i n [.int .u64 r.1,.int .u64 r.2]).take ((i+1)*2)=zn (rs.take i++[r]):=by
 have h1:(splice a (i*2) [Value.int .u64 (r.1:Int),Value.int .u64 (r.2:Int)]).length=cap*2:=by rw[length_splice _ _ _ (by simp;omega)];exact b
 unfold zfT;rw[zdg _ _ _ (by omega)];have e:(i+1)*2=i*2 + [Value.int .u64 (r.1:Int),Value.int .u64 (r.2:Int)].length:=by simp;omega
 rw[e,zbj _ _ _ (by simp;omega),zax,←zch,←ht,List.take_take,Nat.min_eq_left (by omega)];rfl
theorem zgz(a:List Value)(i n cap:Nat)(r:Nat×Nat)(hi:i<n)(hn:n≤cap)(b:a.length=cap*2):(zfT a i n [.int .u64 r.1,.int .u64 r.2]).length=cap*2:=by
 have h1:(splice a (i*2) [Value.int .u64 (r.1:Int),Value.int .u64 (r.2:Int)]).length=cap*2:=by rw[length_splice _ _ _ (by simp;omega)];exact b
 unfold zfT;rw[length_splice _ _ _ (by simp[size_zeroCells];omega)];exact h1
theorem zhe(a:List Value)(i j n cap:Nat)(rs:zA)(r:Nat×Nat)(hi:i<j)(hj:j<n)(hn:n≤cap)(b:a.length=cap*2)(hrs:rs.length=n)(c:a.take (n*2)=zn rs):(zhd a i j n [.int .u64 r.1,.int .u64 r.2]).take ((i+1+(n-j))*2)=zn (rs.take i++r::rs.drop j)∧(zhd a i j n [.int .u64 r.1,.int .u64 r.2]).length=cap*2:=by
 have h1:(splice a (i*2) [Value.int .u64 (r.1:Int),Value.int .u64 (r.2:Int)]).length=cap*2:=by rw[length_splice _ _ _ (by simp;omega)];exact b
 have hX:((splice a (i*2) [Value.int .u64 (r.1:Int),Value.int .u64 (r.2:Int)]).drop (j*2)).take ((n-j)*2)=zn (rs.drop j):=by
  rw[ziE _ _ _ _ (by simp;omega) (by simp;omega),←za4 a (j*2) ((n-j)*2) (n*2) (by omega),c,zeF]
 have hXl:(zn (rs.drop j)).length=(n-j)*2:=by rw[zL];simp;omega
 have h2:(splice (splice a (i*2) [Value.int .u64 (r.1:Int),Value.int .u64 (r.2:Int)]) ((i+1)*2) (zn (rs.drop j))).length=cap*2:=by rw[length_splice _ _ _ (by omega)];exact h1
 unfold zhd;rw[hX];constructor
 ·rw[zdg _ _ _ (by omega),show(i+1+(n-j))*2=(i+1)*2+(zn (rs.drop j)).length by omega,zbj _ _ _ (by omega)];have e:(i+1)*2=i*2 + [Value.int .u64 (r.1:Int),Value.int .u64 (r.2:Int)].length:=by simp;omega
  rw[e,zbj _ _ _ (by simp;omega),zax,zn,←zch,←c,List.take_take,Nat.min_eq_left (by omega)];simp
 ·rw[length_splice _ _ _ (by simp[size_zeroCells];omega)];exact h2
theorem ziG(v:Value)(rs:zA)(i j:Nat)(r:Nat×Nat)(g2:Nat)(w:World)(hij:i≤j)(hj:j≤rs.length)(f:rs.length≤1099511627776)(b:w.ownsRow 0 214 2 v rs.length (zn rs))
  (d:w.heap[g2]?=some (.cells [.int .u64 r.1,.int .u64 r.2].toArray 214 (0,0))) (l:v.ownBlock≠some g2) :
  Calls prog 156 #[v,.int .i64 i,.int .i64 j,.slice (some ⟨g2,0,none⟩) 1 1] w fun e w'=>∃v',e = .returned v'∧w'.ownsRow 0 214 2 v' (rs.take i++r::rs.drop j).length (zn (rs.take i++r::rs.drop j))∧w.grownBy w' v.ownBlock∧zaH w v v':=by
 by_cases m:i=j
 ·subst m;have hl:(rs.take i++r::rs.drop i).length=rs.length+1:=by simp;omega
  rw[hl];obtain⟨a,cap,rfl,h1,h2,_⟩:=zi b;unfold maxLen at h2;refine zqG a g2 i _ cap _ w (by omega) h1 (by omega) ?_;refine(zkN _ rs i r g2 w hj f b d l).mono ?_;rintro e w' ⟨v',rfl,h⟩;exact⟨v',rfl,v',rfl,h⟩
 ·obtain⟨g,cap,c,rfl,hg,h1,h2,h3,h4⟩:=zgy b (by omega);unfold maxLen at h2;have n:g2≠g:=fun e=>l (by simp[Value.ownBlock,e])
  by_cases o:j=rs.length
  ·have hl:(rs.take i++r::rs.drop j).length=i+1:=by simp;omega
   rw[hl];have e0:rs.drop j=[]:=by simp;omega
   rw[e0];subst o;refine(zqH g g2 i rs.length cap c r w (by omega) h1 (by omega) hg h3 d).mono ?_;rintro e w' ⟨rfl,rfl⟩;refine⟨_,rfl,⟨by simp[zL];omega,.inr ⟨g,cap,_,rfl,Nat.zero_le _,setRow_heap w g _ _ _ _ hg,by omega,by unfold maxLen;omega,?_,?_⟩⟩,⟨rfl,rfl,rfl,by simp,fun k _ hk=>setRow_other w g k _ (fun e=>hk (by simp[Value.ownBlock,e]))⟩,fun k hk=>.inl hk⟩
   ·simpa using zgz c i rs.length cap r (by omega) h1 h3
   ·simpa using ziF c i rs.length cap rs r (by omega) h1 h3 rfl h4
  ·have hl:(rs.take i++r::rs.drop j).length=i+1+(rs.length-j):=by simp;omega
   rw[hl];have hf:=zhe c i j rs.length cap rs r (by omega) (by omega) h1 h3 rfl h4;refine(zqI g g2 i j rs.length cap c r w (by omega) (by omega) h1 (by omega) hg h3 (by rw[h4];exact zd3 rs) d n).mono ?_;rintro e w' ⟨rfl,k,rfl⟩;refine⟨_,rfl,⟨by simp[zL];omega,.inr ⟨g,cap,_,rfl,Nat.zero_le _,setRow_heap w g _ _ _ _ hg,by omega,by unfold maxLen;omega,?_,?_⟩⟩,⟨rfl,rfl,rfl,by simp,fun k _ hk=>setRow_other w g k _ (fun e=>hk (by simp[Value.ownBlock,e]))⟩,fun k hk=>.inl hk⟩
   ·simpa using hf.2
   ·simpa using hf.1
theorem zhf(a:List Value)(n cap:Nat)(rs:zA)(hn:2≤n)(d:n≤cap)(b:a.length=cap*2)(hrs:rs.length=n)(ht:a.take (n*2)=zn rs):(zhc a n).take ((n-1)*2)=zn (rs.drop 1)∧(zhc a n).length=cap*2:=by
 have hX:(a.drop 2).take ((n-1)*2)=zn (rs.drop 1):=by
  rw[←za4 a 2 ((n-1)*2) (n*2) (by omega),ht];exact zeF rs 1
 have c:(zn (rs.drop 1)).length=(n-1)*2:=by rw[zL];simp;omega
 have h1:(splice a 0 (zn (rs.drop 1))).length=cap*2:=by rw[length_splice _ _ _ (by omega)];exact b
 unfold zhc;rw[hX];constructor
 ·rw[zdg _ _ _ (by omega)];have:=zbj a 0 (zn (rs.drop 1)) (by omega);rw[c,Nat.zero_add,List.take_zero,List.nil_append]at this;exact this
 ·rw[length_splice _ _ _ (by rw[h1,show [Value.int IntKind.u64 0,Value.int IntKind.u64 0].length=2 from rfl];omega)];exact h1
theorem zkO(v:Value)(rs:zA)(w:World)(d:2≤rs.length)(b:w.ownsRow 0 214 2 v rs.length (zn rs)):Calls prog 157 #[v,.int .i64 0,.int .i64 1] w fun e w'=>∃v',e = .returned v'∧w'.ownsRow 0 214 2 v' (rs.drop 1).length (zn (rs.drop 1))∧w.grownBy w' v.ownBlock∧zaH w v v':=by
 obtain⟨g,cap,a,rfl,hg,h1,h2,h3,h4⟩:=zgy b (by omega);unfold maxLen at h2;have hf:=zhf a rs.length cap rs d h1 h3 rfl h4;have c:∀v∈(a.drop 2).take ((rs.length-1)*2),v.oneCell'=true:=by
  intro v f;rw[←za4 a 2 ((rs.length-1)*2) (rs.length*2) (by omega),h4]at f;exact zd3 rs v (List.mem_of_mem_drop f)
 refine(zoG g rs.length cap a w d h1 (by omega) hg h3 c).mono ?_;rintro e w' ⟨rfl,rfl⟩;have hl:(rs.drop 1).length=rs.length-1:=by simp
 rw[hl];refine⟨_,rfl,⟨by rw[zL,hl],.inr ⟨g,cap,_,rfl,Nat.zero_le _,setRow_heap w g _ _ _ _ hg,by omega,by unfold maxLen;omega,?_,?_⟩⟩,⟨rfl,rfl,rfl,by simp,fun k _ hk=>setRow_other w g k _ (fun e=>hk (by simp[Value.ownBlock,e]))⟩,fun k hk=>.inl hk⟩
 ·simpa using hf.2
 ·simpa using hf.1
def zdz(rs:zA)(lo i:Nat):Bool:=decide (lo≤hiAt rs i+1)
def zay(rs:zA)(hi i:Nat):Bool:=decide (hi+1<loAt rs i)
theorem ziH:zjK 154:=fun args w=>zdv func154 (by kernel_rfl) rfl args w
theorem ziI:zjK 155:=fun args w=>zdv func155 (by kernel_rfl) rfl args w
theorem zoH(rs:zA)(i b o d f lo:Nat)(v:Value)(w:World)
  (hs:w.cell? ⟨d,0,none⟩=some (.pointer (some ⟨b,o,none⟩))) (hn:w.cell? ⟨f,0,none⟩=some (.int .u64 (lo:Int))) (hlo:lo<18446744073709551616)
  (hl:w.cell? ⟨b,o,none⟩=some v) (c:w.ownsRow 0 214 2 v rs.length (zn rs)) (hi:i<rs.length) :
  Calls prog 154 #[.int .i64 i,.pointer (some ⟨d,0,none⟩),.pointer (some ⟨f,0,none⟩)] w fun e w'=>e = .returned (.bool (zdz rs lo i))∧∃k,w'=w.drewN k:=by
 obtain⟨a,cap,rfl,h1,h2,h3⟩:=zi c;obtain⟨g,rfl⟩:=h3 (by omega);have hr:=(zaJ c i hi).2;have hi1:(i:Int)<rs.length:=by omega
 have hi0:0≤(i:Int):=by omega
 unfold maxLen at h2;clear h3;by_cases hc:lo≤hiAt rs i
 ·have hd:decide ((lo:Int)≤hiAt rs i)=true:=by simp;omega
  have hf:zdz rs lo i=true:=by simp[zdz];omega
  go_enter func154,ntmps154;go_wp2_with fail;go_quiet (fail);go_wp2_with fail;go_ret;exact⟨by rw[hf];rfl,_,rfl⟩
 ·have hd:decide ((lo:Int)≤hiAt rs i)=false:=by simp;omega
  have hb:0≤(lo:Int)-hiAt rs i:=by omega
  have hb2:(lo:Int)-hiAt rs i<18446744073709551616:=by omega
  have HF:Hid (zdz rs lo i=decide ((lo:Int)-hiAt rs i=1)):=by
   show _=_;simp only[zdz]
   congr 1
   apply propext;omega
  go_enter func154,ntmps154;go_wp2_with fail;go_quiet (fail);go_wp2_with fail;go_ret;exact⟨by rw[HF.out];rfl,_,rfl⟩
theorem zoI(rs:zA)(i b o h j c:Nat)(v:Value)(w:World)
  (hs:w.cell? ⟨h,0,none⟩=some (.pointer (some ⟨b,o,none⟩))) (hn:w.cell? ⟨j,0,none⟩=some (.int .u64 (c:Int))) (hb:∀i,i<rs.length→loAt rs i<18446744073709551616)
  (hl:w.cell? ⟨b,o,none⟩=some v) (d:w.ownsRow 0 214 2 v rs.length (zn rs)) (hi:i<rs.length) :
  Calls prog 155 #[.int .i64 i,.pointer (some ⟨h,0,none⟩),.pointer (some ⟨j,0,none⟩)] w fun e w'=>e = .returned (.bool (zay rs c i))∧∃k,w'=w.drewN k:=by
 obtain⟨a,cap,rfl,h1,h2,h3⟩:=zi d;obtain⟨g,rfl⟩:=h3 (by omega);have hr:=(zaJ d i hi).1;have hlt:=hb i hi;clear hb;have hi1:(i:Int)<rs.length:=by omega
 have l:0≤(i:Int):=by omega
 unfold maxLen at h2;clear h3;by_cases hc:c<loAt rs i
 ·have hd:decide ((c:Int)<loAt rs i)=true:=by simp;omega
  have hb:0≤(loAt rs i:Int)-c:=by omega
  have hb2:(loAt rs i:Int)-c<18446744073709551616:=by omega
  have f:Hid (zay rs c i=decide (1<(loAt rs i:Int)-c)):=by
   show _=_;simp only[zay]
   congr 1
   apply propext;omega
  go_enter func155,ntmps155;go_wp2_with fail;go_quiet (fail);go_wp2_with fail;go_ret;exact⟨by rw[f.out];rfl,_,rfl⟩
 ·have hd:decide ((c:Int)<loAt rs i)=false:=by simp;omega
  have f:Hid (zay rs c i=false):=by
   show _=_;simp only[zay,decide_eq_false_iff_not];omega
  go_enter func155,ntmps155;go_wp2_with fail;go_quiet (fail);go_wp2_with fail;go_ret;exact⟨by rw[f.out];rfl,_,rfl⟩
def WF(rs:zA):Prop:=(∀i,i<rs.length→loAt rs i≤hiAt rs i∧hiAt rs i<18446744073709551616)∧∀i j,i<j→j<rs.length→hiAt rs i+1<loAt rs j
variable{hi lo:Nat}{rs:zA}
theorem zbL{m1 a:Nat}(h:WF rs)(hlh:lo≤hi)(h1:zab rs.length (zdz rs lo) m1)(h2:zab rs.length (zay rs hi) a):m1≤a:=by
 obtain⟨a1,b1,c1⟩:=h1;obtain⟨a2,b2,c2⟩:=h2;by_cases hlt:a<m1
 ·have b:=b1 (by omega);have e2:=c2 (by omega);simp only[zdz,decide_eq_false_iff_not]at b;simp only[zay,decide_eq_true_eq]at e2;have hw:=h.1 a (by omega);by_cases he:a=m1-1
  ·rw[←he]at b;omega
  ·have:=h.2 a (m1-1) (by omega) (by omega);have hw2:=h.1 (m1-1) (by omega);omega
 ·omega
variable{b o:Nat}
theorem zaz(h:w.cell? ⟨b,o,none⟩=some v):(w.setCell ⟨b,o,none⟩ v).heap[b]?=w.heap[b]?:=by
 unfold World.cell? at h;simp only[World.setCell,Array.getElem?_modify];split at h
 ·rename_i c e fz hb;simp only at hb;rw[hb];simp only[Option.isSome_none,Bool.false_eq_true,if_false]at h;have:c.setIfInBounds o v=c:=by
   apply Array.ext_getElem?;intro j;rw[Array.getElem?_setIfInBounds];split
   ·rename_i hj;subst hj;split
    ·exact h.symm
    ·rename_i hn;simp[Array.getElem?_eq_none (Nat.le_of_not_lt hn)]at h
   ·rfl
  simp[this]
 ·cases h
theorem zgA(w:World)(b o:Nat)(x y z:Value):(((w.setCell ⟨b,o,none⟩ x).setCell ⟨b,o+1,none⟩ y).setCell ⟨b,o,none⟩ z).heap[b]?=((w.setCell ⟨b,o,none⟩ z).setCell ⟨b,o+1,none⟩ y).heap[b]?:=by
 simp only[World.setCell,Array.getElem?_modify,if_true];cases w.heap[b]? with
 | none=>rfl
 | some ob =>
  cases ob with
  | cells c e fz =>
   simp only[Option.map_some,Option.isSome_none,Bool.false_eq_true,if_false]
   congr 2
   apply Array.ext_getElem?;intro j;simp only[Array.getElem?_setIfInBounds,Array.size_setIfInBounds];by_cases h1:o=j
   ·subst h1;simp
   ·by_cases h2:o+1=j
    ·subst h2;simp
    ·simp[h1,h2]
  | _=>rfl
structure zck(w W:World)(b o S L H:Nat)(v:Value)(rs:zA)(fl most lo hi:Nat):Prop where
 cs:W.cell? ⟨S,0,none⟩=some (.pointer (some ⟨b,o,none⟩))
 cl:W.cell? ⟨L,0,none⟩=some (.int .u64 (lo:Int))
 ch:W.cell? ⟨H,0,none⟩=some (.int .u64 (hi:Int))
 fz:W.frozen? ⟨L,0,none⟩=false
 set:zbA W b o v rs fl most
 mod:Mod NoB w W
 ns:w.heap.size≤S∧w.heap.size≤L∧w.heap.size≤H
 ne:S≠L∧H≠L
variable{H:Nat}{W:World}
theorem zck.drewN{S L:Nat}{fl most:Nat}(h:zck w W b o S L H v rs fl most lo hi)(k:Nat):zck w (W.drewN k) b o S L H v rs fl most lo hi :=
 ⟨h.cs,h.cl,h.ch,h.fz,h.set.mod ((Mod.refl NoB W).drewN k) (fun x=>x) (fun _ _ x=>x),h.mod.drewN k,h.ns,h.ne⟩
theorem zck.alloc{S L:Nat}{fl most:Nat}(h:zck w W b o S L H v rs fl most lo hi)(x:Obj):zck w (W.alloc x) b o S L H v rs fl most lo hi:=by
 have a:Mod NoB W (W.alloc x):=(Mod.refl NoB W).alloc x;exact⟨a.cell (fun x=>x) h.cs,a.cell (fun x=>x) h.cl,a.cell (fun x=>x) h.ch,by rw[World.frozen?_of_block (w:=W) (a.block L (zk h.cl) (fun x=>x))];exact h.fz,h.set.mod a (fun x=>x) (fun _ _ x=>x),h.mod.alloc x,h.ns,h.ne⟩
theorem zck.start(w:World)(b o:Nat)(v:Value)(rs:zA)(fl most lo hi t1 a c:Nat)(h:zbA w b o v rs fl most):zck w (((w.alloc (.cells #[.pointer (some ⟨b,o,none⟩)] t1)).alloc (.cells #[.int .u64 lo] a)).alloc (.cells #[.int .u64 hi] c)) b o w.heap.size (w.heap.size+1) (w.heap.size+1+1) v rs fl most lo hi:=by
 have d:Mod NoB w (((w.alloc (.cells #[.pointer (some ⟨b,o,none⟩)] t1)).alloc (.cells #[.int .u64 lo] a)).alloc (.cells #[.int .u64 hi] c)):=(((Mod.refl _ _).alloc _).alloc _).alloc _;have e1:(((w.alloc (.cells #[.pointer (some ⟨b,o,none⟩)] t1)).alloc (.cells #[.int .u64 lo] a)).alloc (.cells #[.int .u64 hi] c)).heap[w.heap.size]?=some (.cells #[.pointer (some ⟨b,o,none⟩)] t1 (0,0)):=by
  rw[Below.heap_alloc _ _ _ (by simp;omega),Below.heap_alloc _ _ _ (by simp)];exact heap_alloc_new w _
 have e:(((w.alloc (.cells #[.pointer (some ⟨b,o,none⟩)] t1)).alloc (.cells #[.int .u64 lo] a)).alloc (.cells #[.int .u64 hi] c)).heap[w.heap.size+1]?=some (.cells #[.int .u64 lo] a (0,0)):=by
  rw[Below.heap_alloc _ _ _ (by simp)];have:=heap_alloc_new (w.alloc (.cells #[.pointer (some ⟨b,o,none⟩)] t1)) (.cells #[.int .u64 lo] a);simpa using this
 have e3:(((w.alloc (.cells #[.pointer (some ⟨b,o,none⟩)] t1)).alloc (.cells #[.int .u64 lo] a)).alloc (.cells #[.int .u64 hi] c)).heap[w.heap.size+2]?=some (.cells #[.int .u64 hi] c (0,0)):=by
  have:=heap_alloc_new ((w.alloc (.cells #[.pointer (some ⟨b,o,none⟩)] t1)).alloc (.cells #[.int .u64 lo] a)) (.cells #[.int .u64 hi] c);simpa using this
 exact⟨za e1 rfl,za e rfl,za e3 rfl,zf e,h.mod d (fun x=>x) (fun _ _ x=>x),d,⟨by omega,by omega,by omega⟩,⟨by omega,by omega⟩⟩
theorem zck.raise{S L:Nat}{fl most:Nat}(h:zck w W b o S L H v rs fl most lo hi)(hb:b<w.heap.size)(hv:∀g,v.ownBlock=some g→g<w.heap.size)(a:Nat):zck w (W.setCell ⟨L,0,none⟩ (.int .u64 (a:Int))) b o S L H v rs fl most a hi:=by
 have c:Mod (fun k=>k=L) W (W.setCell ⟨L,0,none⟩ (.int .u64 (a:Int))):=(Mod.refl (fun k=>k=L) W).setCell (p:=⟨L,0,none⟩) (.inl rfl) _;obtain⟨n1,n2,n3⟩:=h.ns;exact⟨c.cell h.ne.1 h.cs,by rw[World.cell?_setCell_same _ _ _ h.cl],c.cell h.ne.2 h.ch,by rw[World.frozen?_setCell];exact h.fz,h.set.mod c (by show ¬b=L;omega) (fun g hg=>by show ¬g=L;have:=hv g hg;omega),
  h.mod.setCell (.inr n2) _,h.ns,h.ne⟩
theorem zck.newR{fl most R:Nat}(h:zck w W b o w.heap.size (w.heap.size+1) (w.heap.size+1+1) v rs fl most lo hi)(hR:w.heap.size+1+1<R)(hb:b<R)(hg:∀g,v.ownBlock=some g→g<R)(x y:Value):zck w ((W.setCell ⟨R,0,none⟩ x).setCell ⟨R,1,none⟩ y).drew b o w.heap.size (w.heap.size+1) (w.heap.size+1+1) v rs fl most lo hi:=by
 have a:Mod (fun k=>k=R) W ((W.setCell ⟨R,0,none⟩ x).setCell ⟨R,1,none⟩ y).drew:=(((Mod.refl (fun k=>k=R) W).setCell (p:=⟨R,0,none⟩) (.inl rfl) x).setCell (p:=⟨R,1,none⟩) (.inl rfl) y).drew;have n1:¬w.heap.size=R:=by omega
 have d:¬w.heap.size+1=R:=by omega
 have n3:¬w.heap.size+1+1=R:=by omega
 have n4:¬b=R:=by omega
 exact⟨a.cell n1 h.cs,a.cell d h.cl,a.cell n3 h.ch,by rw[World.frozen?_of_block (w:=W) (a.block (w.heap.size+1) (zk h.cl) d)];exact h.fz,h.set.mod a n4 (fun g c=>by show ¬g=R;have:=hg g c;omega),
  ((h.mod.setCell (p:=⟨R,0,none⟩) (.inr (by show _≤R;omega)) x).setCell (p:=⟨R,1,none⟩) (.inr (by show _≤R;omega)) y).drew,h.ns,h.ne⟩
theorem setR2{R:Nat}{d b:Value}(h:W.heap[R]?=some (.cells #[d,b] t (0,0)))(x y:Int)(a c:Nat)(hx:x=(a:Int))(hy:y=(c:Int)):(((W.setCell ⟨R,0,none⟩ (.int .u64 x)).setCell ⟨R,1,none⟩ (.int .u64 y)).drew).heap[R]?=some (.cells #[.int .u64 (a:Int),.int .u64 (c:Int)] t (0,0)):=by
 subst hx hy;have h1:(W.setCell ⟨R,0,none⟩ (.int .u64 a)).heap[R]?=some (.cells #[.int .u64 a,b] t (0,0)):=by
  rw[setCell_eq_setRow W R 0 #[d,b] t (0,0) _ h];exact setRow_heap W R _ _ _ _ h
 show((W.setCell ⟨R,0,none⟩ (.int .u64 a)).setCell ⟨R,1,none⟩ (.int .u64 c)).heap[R]?=_;rw[setCell_eq_setRow _ R 1 #[.int .u64 a,b] t (0,0) _ h1];exact setRow_heap _ R _ _ _ _ h1
theorem zqJ(rs:zA)(fl most b o lo hi:Nat)(v:Value)(w:World)(h:zbA w b o v rs fl most)
  (hv:∀g,v.ownBlock=some g→g<w.heap.size) (i:hi<max lo fl) :
  Calls prog 88 #[.pointer (some ⟨b,o,none⟩),.int .u64 lo,.int .u64 hi] w fun e w'=>e = .returned (.tuple #[])∧Mod NoB w w':=by
 have j:=zk h.cf;have a:=zck.start w b o v rs fl most lo hi 114 43 43 h;obtain⟨p,d⟩:=nm ((((w.alloc (.cells #[.pointer (some ⟨b,o,none⟩)] 114)).alloc (.cells #[.int .u64 lo] 43)).alloc (.cells #[.int .u64 hi] 43)));rw[d]at a;have k:=zb d;clear d;obtain⟨m,q⟩:=nm (max lo fl);have c:=(a.raise j hv m).drewN 1;have l:Hid ((if lo<fl then(fl:Int)else lo)=(m:Int)):=by
  show _=_;split<;>omega
 rw[q]at i;obtain⟨W1,f⟩:=nm ((p.setCell ⟨w.heap.size+1,0,none⟩ (.int .u64 (m:Int))).drew);have n:=zb f;rw[show(p.setCell ⟨w.heap.size+1,0,none⟩ (.int .u64 (m:Int))).drewN 1=W1 from f]at c;clear f q;have c1:=a.cs;have c2:=a.cl;have c3:=a.set.cf;have c4:=a.fz;go_enter func88,ntmps88;go_wp2_with fail;rw[k.out]
 go_region
 rw[l.out,n.out];clear c1 c2 c3 c4;have c2:=c.cl;have c3:=c.ch;have hlt:(hi:Int)<m:=by omega
 go_wp2_with fail;refine bodyPost_ret (results_none rfl _ _ _) rfl ?_;exact⟨rfl,c.mod⟩
def zeh(rs:zA)(m hi m1 a:Nat):Nat×Nat:=if m1<a then(min m (loAt rs m1),max hi (hiAt rs (a-1)))else(m,hi)
def zbg(rs:zA)(m hi m1 a:Nat):zA:=rs.take m1++zeh rs m hi m1 a::rs.drop a
def zqK(rs:zA)(fl most b o lo hi:Nat)(v:Value)(w:World)(e:Ending)(w':World):Prop :=
 ∃m1 m2 v' rs' fl',zab rs.length (zdz rs (max lo fl)) m1∧zab rs.length (zay rs hi) m2 ∧
  (rs',fl')=(if most<(zbg rs (max lo fl) hi m1 m2).length then((zbg rs (max lo fl) hi m1 m2).drop 1,hiAt (zbg rs (max lo fl) hi m1 m2) 0+1)else(zbg rs (max lo fl) hi m1 m2,fl)) ∧
  e = .returned (.tuple #[])∧w'.ownsRow 0 214 2 v' rs'.length (zn rs')∧w'.heap[b]?=((w.setCell ⟨b,o,none⟩ v').setCell ⟨b,o+1,none⟩ (.int .u64 (fl':Int))).heap[b]? ∧
  Mod (fun k=>k=b∨v.ownBlock=some k) w w'∧zaH w v v'
theorem add_in(rs:zA)(fl most b o lo hi:Nat)(v:Value)(w:World)(h:zbA w b o v rs fl most)(au:WF rs)(hlo:lo<18446744073709551616)(hhi:hi<18446744073709551616)(hfl:fl<18446744073709551616)
  (hv:∀g,v.ownBlock=some g→g<w.heap.size) (X:v.ownBlock≠some b) (av:max lo fl≤hi)
  (F:1≤most) (aQ:most≤9223372036854775807) (Y:∀m1 m2,zab rs.length (zdz rs (max lo fl)) m1→zab rs.length (zay rs hi) m2→WF (zbg rs (max lo fl) hi m1 m2)) :
  Calls prog 88 #[.pointer (some ⟨b,o,none⟩),.int .u64 lo,.int .u64 hi] w fun e w'=>zqK rs fl most b o lo hi v w e w':=by
 have aw:=zk h.cf;have ax:=h.len;have G:=zck.start w b o v rs fl most lo hi 114 43 43 h;obtain⟨W0,ak⟩:=nm ((((w.alloc (.cells #[.pointer (some ⟨b,o,none⟩)] 114)).alloc (.cells #[.int .u64 lo] 43)).alloc (.cells #[.int .u64 hi] 43)));rw[ak]at G;have ay:=zb ak;clear ak;obtain⟨m,hm⟩:=nm (max lo fl);have aR:m<18446744073709551616:=by omega
 have l:=(G.raise aw hv m).drewN 1;have az:Hid ((if lo<fl then(fl:Int)else lo)=(m:Int)):=by
  show _=_;split<;>omega
 have HM:=zb hm;rw[hm]at av Y;obtain⟨W1,al⟩:=nm ((W0.setCell ⟨w.heap.size+1,0,none⟩ (.int .u64 (m:Int))).drew);have aA:=zb al;rw[show(W0.setCell ⟨w.heap.size+1,0,none⟩ (.int .u64 (m:Int))).drewN 1=W1 from al]at l;clear al hm;have c1:=G.cs;have c2:=G.cl;have c3:=G.set.cf;have c4:=G.fz;have aB:∀k0,Calls prog 152 #[.int .i64 rs.length,.func (.func 154) #[] #[.pointer (some ⟨w.heap.size,0,none⟩),.pointer (some ⟨w.heap.size+1,0,none⟩)]] (W1.drewN k0) fun e w'=>∃m1,zab rs.length (zdz rs m) m1∧e = .returned (.int .i64 m1)∧∃k,w'=W1.drewN k:=fun k0 =>
  (zlW rs.length 154 #[.pointer (some ⟨w.heap.size,0,none⟩),.pointer (some ⟨w.heap.size+1,0,none⟩)] (zdz rs m) (W1.drewN k0) (by omega) ziH (fun i k am =>
   (zoH rs i b o w.heap.size (w.heap.size+1) m v ((W1.drewN k0).drewN k) l.cs l.cl aR l.set.cl l.set.own am).mono fun e w' ⟨he,k',hw⟩=>⟨he,k+k',by rw[hw,World.drewN_drewN]⟩)).mono
   fun e w' ⟨m1,h1,he,k',hw⟩=>⟨m1,h1,he,k0+k',by rw[hw,World.drewN_drewN]⟩
 have aC:∀k0,Calls prog 152 #[.int .i64 rs.length,.func (.func 155) #[] #[.pointer (some ⟨w.heap.size,0,none⟩),.pointer (some ⟨w.heap.size+1+1,0,none⟩)]] (W1.drewN k0) fun e w'=>∃m2,zab rs.length (zay rs hi) m2∧e = .returned (.int .i64 m2)∧zck w w' b o w.heap.size (w.heap.size+1) (w.heap.size+1+1) v rs fl most m hi:=fun k0 =>
  (zlW rs.length 155 #[.pointer (some ⟨w.heap.size,0,none⟩),.pointer (some ⟨w.heap.size+1+1,0,none⟩)] (zay rs hi) (W1.drewN k0) (by omega) ziI (fun i k am =>
   (zoI rs i b o w.heap.size (w.heap.size+1+1) hi v ((W1.drewN k0).drewN k) l.cs l.ch (fun i hi=>by have:=au.1 i hi;omega) l.set.cl l.set.own am).mono fun e w' ⟨he,k',hw⟩=>⟨he,k+k',by rw[hw,World.drewN_drewN]⟩)).mono
   fun e w' ⟨m1,h1,he,k',hw⟩=>⟨m1,h1,he,by rw[hw];exact(l.drewN k0).drewN k'⟩
 obtain⟨a,cap,n,n1,n2,n3⟩:=zi h.own;have aD:=zb aB;have aE:=zb aC;clear aB aC;go_enter func88,ntmps88;go_wp2_with fail;rw[ay.out]
 go_region
 rw[az.out,aA.out];clear c1 c2 c3 c4;have c1:=l.cs;have c2:=l.cl;have c3:=l.ch;have c5:=l.set.cl;rw[n]at c5;have hle:¬(hi:Int)<m:=by omega
 have aF:True:=trivial;go_upto_if 37 with(first|(go_at_call 152;have _t:=aF;refine(aD.out 0).mono ?_;rintro e w' ⟨m1,ab,rfl,k1,rfl⟩;clear aF)|(go_at_call 152;refine(aE.out _).mono ?_;rintro e W2 ⟨m2,S,rfl,H⟩;have d1:=H.cs;have d2:=H.cl;have d3:=H.ch;have T:=H.set.cl;rw[n]at T;clear c1 c2 c3 c5));obtain⟨R,hR⟩:=nm W2.heap.size;obtain⟨W3,ac⟩:=nm (W2.alloc (.cells #[.int .u64 (m:Int),.int .u64 (hi:Int)] 214));have s:zck w W3 b o w.heap.size (w.heap.size+1) (w.heap.size+1+1) v rs fl most m hi:=ac ▸ H.alloc _;have A:W3.heap[R]?=some (.cells #[.int .u64 (m:Int),.int .u64 (hi:Int)] 214 (0,0)):=by rw[←ac,←hR];exact heap_alloc_new W2 _
 have aS:w.heap.size+1+1<R:=by rw[←hR];exact zk H.ch
 have aT:b<R:=by omega
 have hRs:w.heap.size<R:=by omega
 rw[hR,ac];clear hR ac d1 d2 d3 T H l G aD aE ay aA az
 go_cut [6,7] (fun f t wx=>f = .int .i64 m1∧t = .int .i64 m2∧zck w wx b o w.heap.size (w.heap.size+1) (w.heap.size+1+1) v rs fl most m hi ∧
  wx.heap[R]?=some (.cells #[.int .u64 ((zeh rs m hi m1 m2).1:Int),.int .u64 ((zeh rs m hi m1 m2).2:Int)] 214 (0,0)))
 case first =>
  have d1:=s.cs;have d2:=s.cl;have d3:=s.ch;have T:=s.set.cl;rw[n]at T;have e1:=za (o:=0) A rfl;have e2:=za (o:=1) A rfl;have e3:=zf (o:=0) A;have e4:=zf (o:=1) A;by_cases aG:m1<m2
  ·have ae:=S.1;obtain⟨g,rfl⟩:=n3 (by omega);have hgR:g<R:=by
    have:=hv g (by rw[n];rfl);omega
   have r1:=(zaJ (n ▸ s.set.own) m1 (by omega)).1;have r2:=(zaJ (n ▸ s.set.own) (m2-1) (by omega)).2;have i0:(m1:Int)<m2:=by omega
   have i1:(m1:Int)<rs.length:=by omega
   have i2:(m2:Int)-1<rs.length:=by omega
   have i3:0≤(m2:Int)-1:=by omega
   have i4:IntKind.i64.wrap ((m2:Int)-1)=(m2:Int)-1:=IntWalk.i64_in _ (by omega);have i5:((m2:Int)-1).toNat=m2-1:=by omega
   have i6:(1:Int)≤m2:=by omega
   have q1:¬w.heap.size=R:=by omega
   have q2:¬w.heap.size+1=R:=by omega
   have q3:¬w.heap.size+1+1=R:=by omega
   have q4:¬b=R:=by omega
   have q5:¬g=R:=by omega
   have Hr:Hid (zeh rs m hi m1 m2=(min m (loAt rs m1),max hi (hiAt rs (m2-1)))):=by
    show _=_;rw[zeh,if_pos aG]
   have aH:Hid ((if loAt rs m1<m then(loAt rs m1:Int)else(m:Int))=((min m (loAt rs m1):Nat):Int)):=by
    show _=_;split<;>omega
   have aI:Hid ((if hi<hiAt rs (m2-1)then(hiAt rs (m2-1):Int)else(hi:Int))=((max hi (hiAt rs (m2-1)):Nat):Int)):=by
    show _=_;split<;>omega
   go_wp2_with fail
   go_region_held3 (fun w'=>w'.cell? ⟨w.heap.size,0,none⟩=some (.pointer (some ⟨b,o,none⟩))∧w'.cell? ⟨w.heap.size+1,0,none⟩=some (.int .u64 (m:Int))∧w'.cell? ⟨w.heap.size+1+1,0,none⟩=some (.int .u64 (hi:Int))∧w'.cell? ⟨b,o,none⟩=some (.slice (some ⟨g,0,none⟩) rs.length cap)∧w'.cell? ⟨g,m1*2,none⟩=some (.int .u64 (loAt rs m1:Int))∧w'.cell? ⟨g,(m2-1)*2+1,none⟩=some (.int .u64 (hiAt rs (m2-1):Int))) (first|exact⟨d1,d2,d3,T,r1,r2⟩|exact⟨zkD d1 q1,zkD d2 q2,zkD d3 q3,zkD T q4,zkD r1 q5,zkD r2 q5⟩|exact⟨zkE d1 q1,zkE d2 q2,zkE d3 q3,zkE T q4,zkE r1 q5,zkE r2 q5⟩) ((fail))
   all_goals
    rw[aH.out,aI.out];generalize hmn:min m (loAt rs m1)=mn at *;generalize hmx:max hi (hiAt rs (m2-1))=mx at *;have q:=s.newR aS aT (by rw[n];intro k hk;simp[Value.ownBlock]at hk;omega) (.int .u64 (mn:Int)) (.int .u64 (mx:Int));have I:(((W3.setCell ⟨R,0,none⟩ (.int .u64 (mn:Int))).setCell ⟨R,1,none⟩ (.int .u64 (mx:Int))).drew).heap[R]?=some (.cells #[.int .u64 ((zeh rs m hi m1 m2).1:Int),.int .u64 ((zeh rs m hi m1 m2).2:Int)] 214 (0,0)):=by
     rw[Hr.out];exact setR2 A mn mx mn mx rfl rfl
    clear d1 d2 d3 T e1 e2 e3 e4 r1 r2 A s hmn hmx aH aI;generalize ((W3.setCell ⟨R,0,none⟩ (.int .u64 (mn:Int))).setCell ⟨R,1,none⟩ (.int .u64 (mx:Int))).drew=W4 at *;go_wp2_with fail;go_meet;exact⟨rfl,rfl,q,I⟩
  ·have Hr:Hid (zeh rs m hi m1 m2=(m,hi)):=by
    show _=_;rw[zeh,if_neg aG]
   go_wp2_with fail;go_meet;exact⟨rfl,rfl,s,by rw[Hr.out];exact A⟩
 case rest =>
  obtain⟨rfl,rfl,q,I⟩:=hcut;clear A s n3;have ae:=S.1;have aU:=zbL au av ab S;obtain⟨rl,an⟩:=nm ((zeh rs m hi m1 m2).1);obtain⟨rh,ao⟩:=nm ((zeh rs m hi m1 m2).2);rw[an,ao]at I;have Hr:Hid (zeh rs m hi m1 m2=(rl,rh)):=by
   show _=_;rw[←an,←ao]
  clear an ao;have d1:=q.cs;have T:=q.set.cl;rw[n]at T;have e1:=za (o:=0) I rfl;have e2:=za (o:=1) I rfl;have l1:w.heap.size<wc.heap.size:=zk q.cs;have l2:b<wc.heap.size:=by omega
  have l3:R<wc.heap.size:=(Array.getElem?_eq_some_iff.1 I).1;have q1:¬w.heap.size=wc.heap.size:=by omega
  have q2:¬b=wc.heap.size:=by omega
  have q3:¬R=wc.heap.size:=by omega
  have q4:¬w.heap.size=b:=by omega
  have q5:¬R=b:=by omega
  have N:=q.set.own;rw[n]at N;have aJ:(Value.slice a rs.length cap).ownBlock≠some wc.heap.size:=by
   intro J;have:=N.lt _ J;omega
  have p1:some w.heap.size≠(Value.slice a rs.length cap).ownBlock:=by
   intro J;have:=hv _ (n ▸ J.symm);omega
  have p2:some b≠(Value.slice a rs.length cap).ownBlock:=fun J=>X (n ▸ J.symm)
  have p3:some R≠(Value.slice a rs.length cap).ownBlock:=by
   intro J;have:=hv _ (n ▸ J.symm);omega
  have B:Mod NoB wc (wc.alloc (.cells #[.int .u64 (rl:Int),.int .u64 (rh:Int)] 214)).drew:=((Mod.refl NoB wc).alloc _).drew;have U:=And.intro (B.cell (fun x=>x) d1) (And.intro (B.cell (fun x=>x) T) (And.intro (B.cell (fun x=>x) e1) (B.cell (fun x=>x) e2)));have af:∀w4,World.grownBy (wc.alloc (.cells #[.int .u64 (rl:Int),.int .u64 (rh:Int)] 214)).drew w4 (Value.slice a rs.length cap).ownBlock→w4.frozen? ⟨b,o,none⟩=false:=by
   intro w4 y;rw[World.frozen?_of_block (w:=(wc.alloc (.cells #[.int .u64 (rl:Int),.int .u64 (rh:Int)] 214)).drew) (y.block b (Nat.lt_of_lt_of_le l2 B.size) p2)];exact(q.set.mod B (fun x=>x) (fun _ _ x=>x)).fz o
  go_upto_region 8 with fail;refine zm 12 (fun w'=>w'.cell? ⟨w.heap.size,0,none⟩=some (.pointer (some ⟨b,o,none⟩))∧w'.cell? ⟨b,o,none⟩=some (.slice a rs.length cap)∧w'.cell? ⟨R,0,none⟩=some (.int .u64 (rl:Int))∧w'.cell? ⟨R,1,none⟩=some (.int .u64 (rh:Int))) ⟨d1,T,e1,e2⟩ ?_;refine GI 0 ?_;iterate 8
   refine GS rfl ?_ ?_ ?_;rotate_left
   ·(intro wx z;(try dsimp only at z);go_simp;try with_reducible rfl)
   try simp only[PS]
  refine zz 8 rfl (fun K C=>?_);go_simp;refine C.out _ _ U ?_;clear C K;try simp only[PS]
  refine zz 9 rfl (fun K C=>?_);go_simp;refine(ziG (.slice a rs.length cap) rs m1 m2 (rl,rh) wc.heap.size _ aU ae ax ?_ ?_ aJ).mono ?_
  ·exact(((Mod.refl NoB wc).alloc _).drew).owns N (fun _ _ x=>x)
  ·exact heap_alloc_new wc _
  rintro e w4 ⟨v',rfl,ho,y,ad⟩;have f1:=y.cell U.1 p1;have f2:=y.cell U.2.1 p2;have f3:=y.cell U.2.2.1 p3;have f4:=y.cell U.2.2.2 p3;have f5:=af _ y;refine C.out _ _ ⟨f1,f2,f3,f4⟩ ?_;clear C K;try simp only[PS]
  refine GI 10 ?_;iterate 2
   refine GS rfl ?_ ?_ ?_;rotate_left
   ·(intro wx z;(try dsimp only at z);go_simp;try with_reducible rfl)
   try simp only[PS]
  obtain⟨c,O⟩:=nm (rs.take m1++(rl,rh)::rs.drop m2);rw[O]at ho;have ap:Hid (zbg rs m hi m1 m2=c):=by
   show _=_;rw[zbg,Hr.out,O]
  have aK:WF c:=by rw[←ap.out];exact Y m1 m2 ab S
  have hl5:c.length≤rs.length+1:=by
   rw[←O];simp;omega
  clear O;have P:(v':Value).ownBlock≠some b:=by
   intro J;rcases ad b J with h1|h1
   ·exact p2 h1.symm
   ·simp at h1;omega
  obtain⟨a',d,rfl,k1,k2,k3⟩:=zi ho;have r:Mod (fun k=>v.ownBlock=some k) wc w4:=(B.mono (fun _ x=>x.elim)).grown y (fun k hk=>.inl (by rw[n,hk]));have Z:zaH w v (.slice a' c.length d):=fun k hk=>by
   rcases ad k hk with h1|h1
   ·exact .inl (by rw[n];exact h1)
   ·refine .inr ?_;have:=q.mod.size;simp at h1;omega
  have aL:∀k,(Value.slice a' c.length d).ownBlock=some k→v.ownBlock=some k∨wc.heap.size≤k:=fun k hk=>by
   rcases ad k hk with h1|h1
   ·exact .inl (by rw[n];exact h1)
   ·exact .inr (by simp at h1;omega)
  obtain⟨V,u⟩:=nm (w4.setCell ⟨b,o,none⟩ (.slice a' c.length d));have g1:V.cell? ⟨w.heap.size,0,none⟩=some (.pointer (some ⟨b,o,none⟩)):=by rw[←u];exact zci f1 q4
  have g2:V.cell? ⟨b,o,none⟩=some (.slice a' c.length d):=by rw[←u,World.cell?_setCell_same _ _ _ f2]
  have g3:V.cell? ⟨b,o+1,none⟩=some (.int .u64 (fl:Int)):=by
   rw[←u,World.cell?_setCell_other _ _ _ _ (by simp)];exact r.cell X q.set.cf
  have g4:V.cell? ⟨b,o+2,none⟩=some (.int .i64 (most:Int)):=by
   rw[←u,World.cell?_setCell_other _ _ _ _ (by simp)];exact r.cell X q.set.cm
  have g5:∀j,V.frozen? ⟨b,j,none⟩=false:=by
   intro j;rw[←u,World.frozen?_setCell,World.frozen?_of_block (w:=wc) (r.block b l2 X)];exact q.set.fz j
  have Q:V.ownsRow 0 214 2 (.slice a' c.length d) c.length (zn c):=by
   rw[←u];exact((Mod.refl (fun k=>k=b) w4).setCell (p:=⟨b,o,none⟩) (.inl rfl) _).owns ho (fun g hg x=>P (hg.trans (congrArg some x)))
  have aa:Mod (fun k=>k=b∨v.ownBlock=some k) w V:=by
   rw[←u];exact((q.mod.mono (fun _ x=>x.elim)).then (S':=fun k=>v.ownBlock=some k) r (fun i hi=>.inl (.inr hi))).setCell (p:=⟨b,o,none⟩) (.inl (.inl rfl)) _
  have L:V.heap[b]?=(w.setCell ⟨b,o,none⟩ (.slice a' c.length d)).heap[b]?:=by
   rw[←u];exact zbh ((r.block b l2 X).trans (q.mod.block b aw (fun x=>x))) _ _
  refine zW rfl (fun K C=>?_);go_simp;refine C.out _ _ ?_;clear C K;try simp only[PS]
  refine zo ?_;try rw[u]
  clear u r f1 f2 f3 f4 f5 af U B d1 T e1 e2 I q y ad N aJ p1 p2 p3;have hn5:(c.length:Int)≤1099511627777:=by omega
  by_cases F:most<c.length
  ·have hd:(most:Int)<c.length:=by omega
   have k0:2≤c.length:=by omega
   obtain⟨g,rfl⟩:=k3 (by omega);have r1:V.cell? ⟨g,1,none⟩=some (.int .u64 (hiAt c 0:Int)):=by simpa using(zaJ Q 0 (by omega)).2
   have hb1:hiAt c 0+1<18446744073709551616:=by
    have h1:=aK.2 0 1 (by omega) (by omega);have h2:=aK.1 1 (by omega);omega
   have hz:(0:Int)<c.length:=by omega
   have hz':0<c.length:=by omega
   have aW:=wu ((hiAt c 0:Int)+1) (by omega);go_wp2_with fail;go_quiet (fail);go_wp2_with fail;refine zm 11 (fun w'=>w'.cell? ⟨w.heap.size,0,none⟩=some (.pointer (some ⟨b,o,none⟩))∧w'.cell? ⟨b,o,none⟩=some (.slice (some ⟨g,0,none⟩) c.length d)∧w'.cell? ⟨g,1,none⟩=some (.int .u64 (hiAt c 0:Int))) ⟨g1,g2,r1⟩ ?_;refine GI 0 ?_;iterate 11
    refine GS rfl ?_ ?_ ?_;rotate_left
    ·(intro wx z;(try dsimp only at z);go_simp;try with_reducible rfl)
    try simp only[PS]
   have aV:=g5 (o+1);refine zW rfl (fun K C=>?_);go_simp;refine C.out _ _ ?_;clear C K;try simp only[PS]
   refine zo ?_;obtain⟨M,W⟩:=nm ((V.drewN (nq+1)).setCell ⟨b,o+1,none⟩ (.int .u64 ((hiAt c 0:Int)+1)));have aq:Mod (fun k=>k=b) V M:=by
    rw[←W];exact((Mod.refl (fun k=>k=b) V).drewN (nq+1)).setCell (p:=⟨b,o+1,none⟩) (.inl rfl) _
   have s1:M.cell? ⟨w.heap.size,0,none⟩=some (.pointer (some ⟨b,o,none⟩)):=aq.cell q4 g1;have s2:M.cell? ⟨b,o,none⟩=some (.slice (some ⟨g,0,none⟩) c.length d):=by
    rw[←W,World.cell?_setCell_other _ _ _ _ (by simp)];exact g2
   have s3:M.frozen? ⟨b,o,none⟩=false:=by
    rw[←W,World.frozen?_setCell];exact g5 o
   have aM:M.ownsRow 0 214 2 (.slice (some ⟨g,0,none⟩) c.length d) c.length (zn c):=aq.owns Q (fun k hk x=>P (hk.trans (congrArg some x)));have ah:Mod (fun k=>k=b∨v.ownBlock=some k) w M:=aa.then aq (fun i hi=>.inl (.inl hi));have ar:M.heap[b]?=((w.setCell ⟨b,o,none⟩ (.slice (some ⟨g,0,none⟩) c.length d)).setCell ⟨b,o+1,none⟩ (.int .u64 ((hiAt c 0:Int)+1))).heap[b]?:=by
    rw[←W];exact zbh (w':=V.drewN (nq+1)) L _ _
   rw[W];clear W g1 g2 g3 g4 aV r1 L aa Q;go_wp2_with fail;refine zm 8 (fun w'=>w'.cell? ⟨w.heap.size,0,none⟩=some (.pointer (some ⟨b,o,none⟩))∧w'.cell? ⟨b,o,none⟩=some (.slice (some ⟨g,0,none⟩) c.length d)) ⟨s1,s2⟩ ?_;refine GI 0 ?_;iterate 5
    refine GS rfl ?_ ?_ ?_;rotate_left
    ·(intro wx z;(try dsimp only at z);go_simp;try with_reducible rfl)
    try simp only[PS]
   refine zz 5 rfl (fun K C=>?_);go_simp;refine(zkO (.slice (some ⟨g,0,none⟩) c.length d) c _ k0 ?_).mono ?_
   ·exact((Mod.refl NoB M).drew).owns aM (fun _ _ x=>x)
   rintro e w7 ⟨v7,rfl,aN,D,ai⟩;have p2:some b≠(Value.slice (some ⟨g,0,none⟩) c.length d).ownBlock:=fun J=>P J.symm
   have p1:some w.heap.size≠(Value.slice (some ⟨g,0,none⟩) c.length d).ownBlock:=by
    intro J;rcases aL _ J.symm with h1|h1
    ·have:=hv _ h1;omega
    ·omega
   have f1:=D.cell (w:=M.drew) s1 p1;have f2:=D.cell (w:=M.drew) s2 p2;have aj:b<M.heap.size:=zk s2;have f5:w7.frozen? ⟨b,o,none⟩=false:=by
    rw[World.frozen?_of_block (w:=M.drew) (D.block b aj p2)];exact s3
   refine C.out _ _ ⟨f1,f2⟩ ?_;clear C K;try simp only[PS]
   refine GI 6 ?_;iterate 2
    refine GS rfl ?_ ?_ ?_;rotate_left
    ·(intro wx z;(try dsimp only at z);go_simp;try with_reducible rfl)
    try simp only[PS]
   obtain⟨a7,E,rfl,k71,k72,k73⟩:=zi aN;refine zW rfl (fun K C=>?_);go_simp;refine C.out _ _ ?_;clear C K;try simp only[PS]
   refine zo ?_;have aO:(Value.slice a7 (c.drop 1).length E).ownBlock≠some b:=by
    intro J;rcases ai b J with h1|h1
    ·exact P h1
    ·have h2:M.heap.size≤b:=h1;omega
   have aP:Mod (fun k=>k=b∨v.ownBlock=some k) w w7:=ah.drew.grown D (fun k hk=>(Z k hk).imp .inr id);go_wp2_with fail;refine bodyPost_ret (results_none rfl _ _ _) rfl ?_;refine⟨m1,m2,.slice a7 (c.drop 1).length E,c.drop 1,hiAt c 0+1,by rw[HM.out];exact ab,S,?_,rfl,?_,?_,?_,?_⟩
   ·rw[HM.out,ap.out,if_pos F]
   ·have:=((Mod.refl (fun k=>k=b) w7).setCell (p:=⟨b,o,none⟩) (.inl rfl) (.slice a7 (c.drop 1).length E)).owns aN (fun k hk x=>aO (hk.trans (congrArg some x)));simpa using this
   ·have h1:w7.heap[b]?=M.heap[b]?:=D.block b aj p2;have:=(zbh (h1.trans ar) o (.slice a7 (c.drop 1).length E)).trans (zgA _ _ _ _ _ _);simpa using this
   ·have:=aP.setCell (p:=⟨b,o,none⟩) (.inl (.inl rfl)) (.slice a7 (c.drop 1).length E);simpa using this
   ·intro k hk;rcases ai k hk with h1|h1
    ·exact Z k h1
    ·have h2:M.heap.size≤k:=h1;exact .inr (Nat.le_trans ah.size h2)
  ·have hd:¬(most:Int)<c.length:=by omega
   go_wp2_with fail;go_quiet (fail);go_wp2_with fail;refine bodyPost_ret (results_none rfl _ _ _) rfl ?_;refine⟨m1,m2,.slice a' c.length d,c,fl,by rw[HM.out];exact ab,S,?_,rfl,Q,?_,aa.drewN _,Z⟩
   ·rw[HM.out,ap.out,if_neg F]
   ·exact(zaz g3).symm.trans (zbh L _ _)
structure zaI where
 rs:zA
 fl:Nat
 most:Nat
structure WS where
 b:List UInt8
 sent:zaI
 came:zaI
 high:Nat
 finished:Bool
 ending:Bool
 cut:Bool
 keep:Nat
 final:Nat
 telling:Bool
 credit:Nat
structure RS where
 b:List UInt8
 came:zaI
 high:Nat
 fin:Nat
 ended:Bool
 cut:Bool
 keep:Nat
 read:Nat
 state:Nat
 grant:Nat
 anew:Bool
structure Fly where
 n:Nat
 at_:Nat
 fs:List Frm
structure CS where
 mtu:Nat
 window:Nat
 total:Nat
 now:Nat
 closed:Nat
 said:Bool
 next:Nat
 got:zaI
 answer:Bool
 ws:Nat→WS
 rs:Nat→RS
 credit:Nat
 grant:Nat
 anew:Bool
 flight:List Fly
 largest:Nat
 waits:List Frm
 lastID:Nat
 anyID:Bool
 seen:List (Nat×Nat)
 most:Nat
 came:List (Nat×List UInt8)
structure CV where
 g:Nat
 gv:Value
 wb:Nat→Value
 ws:Nat→Value
 wc:Nat→Value
 rb:Nat→Value
 rc:Nat→Value
 ft:Value
 fts:List Value
 wt:Value
 sn:Nat
 cm:Value
def upd{α : Type}(f:Nat → α)(k:Nat)(x : α):Nat → α := fun j=>if j=k then x else f j
theorem ze{α : Type}(f:Nat → α)(k:Nat)(x : α):upd f k x k=x:=by simp[upd]
variable{j k:Nat}
theorem zd{α : Type}(f:Nat → α)(x : α)(h:j≠k):upd f k x j=f j:=by simp[upd,h]
theorem zaB{α : Type}(f:Nat → α)(k:Nat):upd f k (f k)=f:=by
 funext j;by_cases h:j=k
 ·rw[h,ze]
 ·rw[zd _ _ h]
def zbp(x:WS)(bv sv cv:Value):List Value :=
 [bv,sv,.int .u64 (x.sent.fl:Int),.int .i64 (x.sent.most:Int),cv,.int .u64 (x.came.fl:Int),.int .i64 (x.came.most:Int),.int .u64 (x.high:Int),.bool x.finished,.bool x.ending,.bool x.cut,.int .u64 (x.keep:Int),.int .u64 (x.final:Int),.bool x.telling,.int .u64 (x.credit:Int)]
def zbO(x:RS)(bv cv:Value):List Value :=
 [bv,cv,.int .u64 (x.came.fl:Int),.int .i64 (x.came.most:Int),.int .u64 (x.high:Int),.int .u64 (x.fin:Int),.bool x.ended,.bool x.cut,.int .u64 (x.keep:Int),.int .u64 (x.read:Int),.int .i64 (x.state:Int),.int .u64 (x.grant:Int),.bool x.anew]
def zaP(c:CS)(V:CV):List Value :=
 [.int .i64 (c.mtu:Int),.int .i64 (c.window:Int),.int .i64 (c.total:Int),.int .u64 (c.now:Int),.int .i64 (c.closed:Int),.bool c.said,.int .u64 (c.next:Int),.pointer (some ⟨V.g,0,none⟩),.bool c.answer]
def zbP(c:CS)(V:CV):List Value :=
 [.int .u64 (c.credit:Int),.int .u64 (c.grant:Int),.bool c.anew,V.ft,.int .u64 (c.largest:Int),V.wt,.int .u64 (c.lastID:Int),.bool c.anyID,.map (some V.sn),.int .u64 (c.most:Int),V.cm]
def zeO(ws:Nat→WS)(b s c:Nat→Value):List Value:=(List.range 8).flatMap fun k=>zbp (ws k) (b k) (s k) (c k)
def zfC(rs:Nat→RS)(b c:Nat→Value):List Value:=(List.range 8).flatMap fun k=>zbO (rs k) (b k) (c k)
def zr(c:CS)(V:CV):List Value:=zaP c V++(zeO c.ws V.wb V.ws V.wc++(zfC c.rs V.rb V.rc++zbP c V))
section
variable {α : Type}
theorem zcl(f:Nat→List α)(n:Nat)(hl:∀k,(f k).length=n)(m:Nat):((List.range m).flatMap f).length=n*m:=by
 induction m with
 | zero=>simp
 | succ m ih=>rw[List.range_succ,List.flatMap_append,List.length_append,ih];simp[hl,Nat.mul_succ]
theorem zjT(f:Nat→List α)(n:Nat)(hl:∀k,(f k).length=n)(m:Nat)(hk:k<m)(hj:j<n):((List.range m).flatMap f)[n*k+j]?=(f k)[j]?:=by
 induction m with
 | zero=>omega
 | succ m ih =>
  rw[List.range_succ,List.flatMap_append];have a:=zcl f n hl m;by_cases h:k<m
  ·have:n*k+j<n*m:=by
    have:n*(k+1)≤n*m:=Nat.mul_le_mul_left n h;rw[Nat.mul_succ]at this;omega
   rw[List.getElem?_append_left (by omega)];exact ih h
  ·have:k=m:=by omega
   subst this;rw[List.getElem?_append_right (by omega),a,Nat.add_sub_cancel_left];simp
theorem zjU(f g:Nat→List α)(n:Nat)(hl:∀k,(f k).length=n)(m:Nat)(v : α)(hk:k<m)(hj:j<n)(hg:∀i,i<m→g i=if i=k then(f k).set j v else f i):((List.range m).flatMap f).set (n*k+j) v=(List.range m).flatMap g:=by
 induction m with
 | zero=>omega
 | succ m ih =>
  rw[List.range_succ,List.flatMap_append,List.flatMap_append];have a:=zcl f n hl m;by_cases h:k<m
  ·have:n*k+j<n*m:=by
    have:n*(k+1)≤n*m:=Nat.mul_le_mul_left n h;rw[Nat.mul_succ]at this;omega
   rw[List.set_append_left _ _ (by omega),ih h (fun i hi=>hg i (by omega))];have:=hg m (by omega);rw[if_neg (by omega)]at this;simp[this]
  ·have:k=m:=by omega
   subst this;rw[List.set_append_right _ _ (by omega),a,Nat.add_sub_cancel_left];have e:(List.range k).flatMap f=(List.range k).flatMap g:=by
    have:∀q,q≤k→(List.range q).flatMap f=(List.range q).flatMap g:=by
     intro q hq
     induction q with
     | zero=>rfl
     | succ q ih2 =>
      rw[List.range_succ,List.flatMap_append,List.flatMap_append,ih2 (by omega)];have:=hg q (by omega);rw[if_neg (by omega)]at this;simp[this]
    exact this k (Nat.le_refl k)
   have:=hg k (by omega);rw[if_pos rfl]at this;rw[e];simp[this]
end
theorem zag(ws:Nat→WS)(b s c:Nat→Value):(zeO ws b s c).length=120:=zcl _ 15 (fun _=>rfl) 8
theorem zaS(rs:Nat→RS)(b c:Nat→Value):(zfC rs b c).length=104:=zcl _ 13 (fun _=>rfl) 8
theorem zqL(c:CS)(V:CV)(h:(zaP c V)[j]?=some v):(zr c V)[j]?=some v:=by
 unfold zr;rw[List.getElem?_append_left (List.getElem?_eq_some_iff.1 h).1];exact h
theorem zfU(c:CS)(V:CV)(hk:k<8)(h:(zbp (c.ws k) (V.wb k) (V.ws k) (V.wc k))[j]?=some v):(zr c V)[9+15*k+j]?=some v:=by
 have hj:j<15:=(List.getElem?_eq_some_iff.1 h).1;unfold zr;have hl:(zaP c V).length=9:=rfl;rw[List.getElem?_append_right (by omega),hl,show 9+15*k+j-9=15*k+j by omega,List.getElem?_append_left (by rw[zag];omega)];unfold zeO;rw[zjT _ 15 (fun _=>rfl) 8 hk hj];exact h
theorem conn_r(c:CS)(V:CV)(hk:k<8)(h:(zbO (c.rs k) (V.rb k) (V.rc k))[j]?=some v):(zr c V)[129+13*k+j]?=some v:=by
 have hj:j<13:=(List.getElem?_eq_some_iff.1 h).1;unfold zr;have hl:(zaP c V).length=9:=rfl;rw[List.getElem?_append_right (by omega),hl,List.getElem?_append_right (by rw[zag];omega),zag,show 129+13*k+j-9-120=13*k+j by omega,List.getElem?_append_left (by rw[zaS];omega)];unfold zfC;rw[zjT _ 13 (fun _=>rfl) 8 hk hj];exact h
theorem conn_t(c:CS)(V:CV)(h:(zbP c V)[j]?=some v):(zr c V)[233+j]?=some v:=by
 unfold zr;have hl:(zaP c V).length=9:=rfl;rw[List.getElem?_append_right (by omega),hl,List.getElem?_append_right (by rw[zag];omega),zag,List.getElem?_append_right (by rw[zaS];omega),zaS,show 233+j-9-120-104=j by omega];exact h
theorem za7(c c':CS)(V a:CV)(v:Value)(hj:j<9)(h:zaP c' a=(zaP c V).set j v)(hw:zeO c'.ws a.wb a.ws a.wc=zeO c.ws V.wb V.ws V.wc)(hr:zfC c'.rs a.rb a.rc=zfC c.rs V.rb V.rc)(ht:zbP c' a=zbP c V):(zr c V).set j v=zr c' a:=by
 unfold zr;rw[List.set_append_left _ _ (show j<(zaP c V).length from hj),h,hw,hr,ht]
theorem zat(c c':CS)(V a:CV)(v:Value)(hk:k<8)(hj:j<15)(hw:∀i,i<8→zbp (c'.ws i) (a.wb i) (a.ws i) (a.wc i)=if i=k then(zbp (c.ws k) (V.wb k) (V.ws k) (V.wc k)).set j v else zbp (c.ws i) (V.wb i) (V.ws i) (V.wc i))
  (h:zaP c' a=zaP c V) (hr:zfC c'.rs a.rb a.rc=zfC c.rs V.rb V.rc) (ht:zbP c' a=zbP c V):(zr c V).set (9+15*k+j) v=zr c' a:=by
 unfold zr;have hl:(zaP c V).length=9:=rfl;rw[List.set_append_right _ _ (by omega),hl,show 9+15*k+j-9=15*k+j by omega,List.set_append_left _ _ (by rw[zag];omega)];unfold zeO;rw[zjU _ _ 15 (fun _=>rfl) 8 v hk hj hw,h,hr,ht]
theorem zbr(c c':CS)(V a:CV)(v:Value)(hk:k<8)(hj:j<13)(hr:∀i,i<8→zbO (c'.rs i) (a.rb i) (a.rc i)=if i=k then(zbO (c.rs k) (V.rb k) (V.rc k)).set j v else zbO (c.rs i) (V.rb i) (V.rc i))
  (h:zaP c' a=zaP c V) (hw:zeO c'.ws a.wb a.ws a.wc=zeO c.ws V.wb V.ws V.wc) (ht:zbP c' a=zbP c V):(zr c V).set (129+13*k+j) v=zr c' a:=by
 unfold zr;have hl:(zaP c V).length=9:=rfl;rw[List.set_append_right _ _ (by omega),hl,List.set_append_right _ _ (by rw[zag];omega),zag,show 129+13*k+j-9-120=13*k+j by omega,List.set_append_left _ _ (by rw[zaS];omega)];unfold zfC;rw[zjU _ _ 13 (fun _=>rfl) 8 v hk hj hr,h,hw,ht]
theorem zaj(c c':CS)(V a:CV)(v:Value)(h:zaP c' a=zaP c V)(hw:zeO c'.ws a.wb a.ws a.wc=zeO c.ws V.wb V.ws V.wc)(hr:zfC c'.rs a.rb a.rc=zfC c.rs V.rb V.rc)(ht:zbP c' a=(zbP c V).set j v):(zr c V).set (233+j) v=zr c' a:=by
 unfold zr;have hl:(zaP c V).length=9:=rfl;rw[List.set_append_right _ _ (by omega),hl,List.set_append_right _ _ (by rw[zag];omega),zag,List.set_append_right _ _ (by rw[zaS];omega),zaS,show 233+j-9-120-104=j by omega,h,hw,hr,ht]
def zez(w:World)(e size:Nat)(v:Value)(n:Nat)(xs:List Value):Prop :=
 xs.length=n*size∧(v = .slice none 0 0∧n=0∨∃g o cap cur,v = .slice (some ⟨g,o*size,none⟩) n cap∧w.heap[g]?=some (.cells cur e (0,0))∧n≤cap∧cap≤maxLen∧(o+cap)*size≤cur.size∧(cur.toList.drop (o*size)).take (n*size)=xs)
def Value.blk:Value→Option Nat
 | .slice (some a) _ _=>some a.block
 | _=>none
variable{S:Nat→Prop}{w':World}
theorem zez.mod{size:Nat}(h:zez w e size v n xs)(m:Mod S w w')(hs:∀g,Value.blk v=some g→¬S g):zez w' e size v n xs:=by
 refine⟨h.1,?_⟩;rcases h.2 with h|⟨g,o,cap,a,rfl,hg,h1⟩
 ·exact .inl h
 ·exact .inr ⟨g,o,cap,a,rfl,m.obj (hs g rfl) hg,h1⟩
theorem zez.nil(w:World)(e size:Nat):zez w e size (.slice none 0 0) 0 []:=⟨by simp,.inl ⟨rfl,rfl⟩⟩
def zjV(tag:Nat→Nat×Nat)(t:Nat×Nat)(w:World)(v:Value)(fs:List Frm):Prop :=
 ∃l:List (Frm×Value),l.map (·.1)=fs∧zet w v l∧(∀g,Value.blk v=some g→tag g=t)∧∀fr∈l,∀g,Value.blk fr.2=some g→tag g=t
theorem zaY(h:∀g,Value.blk v=some g→¬S g):za2 S v:=fun g o n c e=>h g (by rw[e];rfl)
variable{fs:List Frm}{tag tag':Nat→Nat×Nat}
theorem zjV.mod{t:Nat×Nat}(h:zjV tag t w v fs)(m:Mod S w w')(b:∀g,S g→tag g≠t)(c:∀g,tag g=t→tag' g=t):zjV tag' t w' v fs:=by
 obtain⟨l,h1,h2,h3,h4⟩:=h;exact⟨l,h1,h2.mod m (zaY fun g hg x=>b g x (h3 g hg)) (fun fr a=>zaY fun g hg x=>b g x (h4 fr a g hg)),fun g hg=>c g (h3 g hg),fun fr a g hg=>c g (h4 fr a g hg)⟩
def zbq(w:World)(b:Nat)(l:List (Nat×Nat)):Prop :=
 ∃D,w.ownsMap (H:=Unit) prog 43 (plainElem prog 43) b l.length D∧Maps.size D=l.length∧∀x:Nat,x<18446744073709551616→Maps.has D (.int .u64 (x:Int))=l.any (fun p=>p.1==x)
theorem zbq.mod{l:List (Nat×Nat)}(h:zbq w b l)(m:Mod S w w')(hs:¬S b):zbq w' b l:=by
 obtain⟨D,⟨es,a,h1,h2⟩,h3⟩:=h;exact⟨D,⟨es,a,m.obj hs h1,h2⟩,h3⟩
def zw(l:List (Fly×Value)):List Value:=l.flatMap fun p=>[.int .u64 (p.1.n:Int),.int .u64 (p.1.at_:Int),p.2]
def zac(l:List (Nat×List UInt8)):List Value:=l.flatMap fun p=>[.int .u64 (p.1:Int),.string (zq p.2)]
def zp(l:List Frm):List Value:=l.flatMap fun f=>(zj f (.slice none 0 0)).toList
structure zg(tag:Nat→Nat×Nat)(i b:Nat)(c:CS)(V:CV)(W:World):Prop where
 obj:W.heap[b]?=some (.cells (zr c V).toArray 127 (0,0))
 tb:tag b=(i,1)
 got:zbA W V.g 0 V.gv c.got.rs c.got.fl c.got.most
 tg:tag V.g=(i,2)
 tgv:∀g,V.gv.ownBlock=some g→tag g=(i,3)
 wb:∀k,k<8→OB W (V.wb k) (c.ws k).b
 ws:∀k,k<8→W.ownsRow 0 214 2 (V.ws k) (c.ws k).sent.rs.length (zn (c.ws k).sent.rs)
 wc:∀k,k<8→W.ownsRow 0 214 2 (V.wc k) (c.ws k).came.rs.length (zn (c.ws k).came.rs)
 rb:∀k,k<8→OB W (V.rb k) (c.rs k).b
 rc:∀k,k<8→W.ownsRow 0 214 2 (V.rc k) (c.rs k).came.rs.length (zn (c.rs k).came.rs)
 twb:∀k,k<8→∀g,(V.wb k).ownBlock=some g→tag g=(i,10+k)
 tws:∀k,k<8→∀g,(V.ws k).ownBlock=some g→tag g=(i,20+k)
 twc:∀k,k<8→∀g,(V.wc k).ownBlock=some g→tag g=(i,30+k)
 trb:∀k,k<8→∀g,(V.rb k).ownBlock=some g→tag g=(i,40+k)
 trc:∀k,k<8→∀g,(V.rc k).ownBlock=some g→tag g=(i,50+k)
 ft:W.ownsRow 0 173 3 V.ft c.flight.length (zw (c.flight.zip V.fts))
 fl:V.fts.length=c.flight.length
 fs:∀p∈c.flight.zip V.fts,zjV tag (i,5) W p.2 p.1.fs
 tft:∀g,V.ft.ownBlock=some g→tag g=(i,4)
 wt:zez W 65 10 V.wt c.waits.length (zp c.waits)
 twt:∀g,Value.blk V.wt=some g→tag g=(i,6)
 sn:zbq W V.sn c.seen
 tsn:tag V.sn=(i,7)
 cm:W.ownsRow 0 154 2 V.cm c.came.length (zac c.came)
 tcm:∀g,V.cm.ownBlock=some g→tag g=(i,8)
variable{V:CV}{W':World}{c:CS}{i:Nat}
theorem zg.mod(h:zg tag i b c V W)(m:Mod S W W')(hS:∀g,S g→(tag g).1≠i)(ht:∀g,(tag g).1=i→tag' g=tag g):zg tag' i b c V W':=by
 have q:∀{g:Nat} {t:Nat×Nat},tag g=t→t.1=i→¬S g:=fun hg hi x=>hS _ x (by rw[hg,hi])
 have e:∀{g:Nat} {t:Nat×Nat},tag g=t→t.1=i→tag' g=t:=fun hg hi=>(ht _ (by rw[hg,hi])).trans hg
 exact
  {obj:=m.obj (q h.tb rfl) h.obj
   tb:=e h.tb rfl
   got:=h.got.mod m (q h.tg rfl) (fun g hg=>q (h.tgv g hg) rfl)
   tg:=e h.tg rfl
   tgv:=fun g hg=>e (h.tgv g hg) rfl
   wb:=fun k hk=>m.owns (h.wb k hk) (fun g hg=>q (h.twb k hk g hg) rfl)
   ws:=fun k hk=>m.owns (h.ws k hk) (fun g hg=>q (h.tws k hk g hg) rfl)
   wc:=fun k hk=>m.owns (h.wc k hk) (fun g hg=>q (h.twc k hk g hg) rfl)
   rb:=fun k hk=>m.owns (h.rb k hk) (fun g hg=>q (h.trb k hk g hg) rfl)
   rc:=fun k hk=>m.owns (h.rc k hk) (fun g hg=>q (h.trc k hk g hg) rfl)
   twb:=fun k hk g hg=>e (h.twb k hk g hg) rfl
   tws:=fun k hk g hg=>e (h.tws k hk g hg) rfl
   twc:=fun k hk g hg=>e (h.twc k hk g hg) rfl
   trb:=fun k hk g hg=>e (h.trb k hk g hg) rfl
   trc:=fun k hk g hg=>e (h.trc k hk g hg) rfl
   ft:=m.owns h.ft (fun g hg=>q (h.tft g hg) rfl)
   fl:=h.fl
   fs:=fun p hp=>(h.fs p hp).mod m (fun g hg x=>q x rfl hg) (fun g hg=>e hg rfl)
   tft:=fun g hg=>e (h.tft g hg) rfl
   wt:=h.wt.mod m (fun g hg=>q (h.twt g hg) rfl)
   twt:=fun g hg=>e (h.twt g hg) rfl
   sn:=h.sn.mod m (q h.tsn rfl)
   tsn:=e h.tsn rfl
   cm:=m.owns h.cm (fun g hg=>q (h.tcm g hg) rfl)
   tcm:=fun g hg=>e (h.tcm g hg) rfl }
theorem zg.mod0(h:zg tag i b c V W)(m:Mod NoB W W'):zg tag i b c V W':=h.mod m (fun _ x=>x.elim) (fun _ _=>rfl)
def zR(tag:Nat→Nat×Nat)(W:World):Prop:=∀g,W.heap.size≤g→tag g=(0,0)
theorem zR.mod(h:zR tag W)(m:Mod S W W'):zR tag W':=fun g hg=>h g (Nat.le_trans m.size hg)
structure Ext(i:Nat)(tag tag':Nat→Nat×Nat)(W W':World):Prop where
 old:∀g,g<W.heap.size→tag' g=tag g
 new:∀g,W.heap.size≤g→(tag' g).1=i∨tag' g=(0,0)
 out:zR tag' W'
theorem Ext.same(h:zR tag W)(m:Mod S W W'):Ext i tag tag W W':=⟨fun _ _=>rfl,fun g hg=>.inr (h g hg),h.mod m⟩
variable{W'':World}
theorem Ext.trans{a:Nat→Nat×Nat}(h:Ext i tag tag' W W')(k:Ext i tag' a W' W'')(hs:W.heap.size≤W'.heap.size):Ext i tag a W W'':=by
 refine⟨fun g hg=>(k.old g (by omega)).trans (h.old g hg),fun g hg=>?_,k.out⟩;by_cases q:g<W'.heap.size
 ·rw[k.old g q];exact h.new g hg
 ·exact k.new g (by omega)
def retag(tag:Nat→Nat×Nat)(W W':World)(t:Nat×Nat):Nat→Nat×Nat:=fun g=>if g<W.heap.size then tag g else if g<W'.heap.size then t else(0,0)
theorem zy{t:Nat×Nat}(h:g<W.heap.size):retag tag W W' t g=tag g:=by simp[retag,h]
theorem zav{t:Nat×Nat}(h:W.heap.size≤g)(h':g<W'.heap.size):retag tag W W' t g=t:=by
 simp only[retag,show ¬g<W.heap.size by omega,if_neg,not_false_eq_true,if_pos h']
variable{r:Nat}
theorem zbw(hs:W.heap.size≤W'.heap.size):Ext i tag (retag tag W W' (i,r)) W W':=by
 refine⟨fun g hg=>zy hg,fun g hg=>?_,fun g hg=>?_⟩
 ·by_cases q:g<W'.heap.size
  ·exact .inl (by rw[zav hg q])
  ·exact .inr (by simp only[retag,show ¬g<W.heap.size by omega,q,if_neg,not_false_eq_true])
 ·simp only[retag,show ¬g<W.heap.size by omega,show ¬g<W'.heap.size by omega,if_neg,not_false_eq_true]
theorem zaD(h:zR tag W)(hg:tag g=(i,r))(hi:0<i):g<W.heap.size:=by
 by_cases q:g<W.heap.size
 ·exact q
 ·have:=h g (by omega);rw[hg]at this;simp at this;omega
theorem zg.hd(h:zg tag i b c V W)(hv:(zaP c V)[j]?=some v):W.cell? ⟨b,j,none⟩=some v :=
 za h.obj (by rw[List.getElem?_toArray];exact zqL c V hv)
theorem zg.tl(h:zg tag i b c V W)(hv:(zbP c V)[j]?=some v):W.cell? ⟨b,233+j,none⟩=some v :=
 za h.obj (by rw[List.getElem?_toArray];exact conn_t c V hv)
end Go.Proofs.YtddfdpbaiedcjaaGreatDoor
namespace Go.Proofs.YtddfdpbaiedcjaaGreatDoor
open Go.RowKit Go.Proofs.Tryz
variable{V:CV}{W:World}{b i j k:Nat}{c:CS}{tag:Nat→Nat×Nat}{v:Value}
theorem zg.w(h:zg tag i b c V W)(hk:k<8)(hv:(zbp (c.ws k) (V.wb k) (V.ws k) (V.wc k))[j]?=some v):W.cell? ⟨b,9+15*k+j,none⟩=some v :=
 za h.obj (by rw[List.getElem?_toArray];exact zfU c V hk hv)
theorem zg.r(h:zg tag i b c V W)(hk:k<8)(hv:(zbO (c.rs k) (V.rb k) (V.rc k))[j]?=some v):W.cell? ⟨b,129+13*k+j,none⟩=some v :=
 za h.obj (by rw[List.getElem?_toArray];exact conn_r c V hk hv)
theorem zg.fz(h:zg tag i b c V W)(j:Nat):W.frozen? ⟨b,j,none⟩=false:=by simp[World.frozen?,h.obj]
theorem zms(w:World)(l:List UInt8)(hl:l.length≤4611686018427387904):∃cap w',(convert 9 60 (.string (zq l))).run prog w = .ok (.slice (some ⟨w.heap.size,0,none⟩) l.length cap) w'∧BR w' (.slice (some ⟨w.heap.size,0,none⟩) l.length cap) l∧Mod NoB w w'∧w'.heap.size=w.heap.size+1:=by
 have h:=Lib.run_convert_string_bytes (P:=prog) w 9 60 5 (zq l) (u:=.string) underlying9 underlying60 underlying5;have a:=grownCap_ge w (zq l).size 0 5;have b:grownCap w (zq l).size 0 5≤maxLen:=grownCap_le_maxLen w _ 0 _ (by rw[zF];unfold maxLen;omega);rw[zF]at h a b;refine⟨_,_,h,⟨_,_,rfl,a,b,fun i c hc=>⟨_,_,rfl,?_⟩⟩,⟨?_,?_,?_,?_,?_⟩,Lib.bytesWorld_size _ _ _⟩
 ·have hi:i<l.length:=(List.getElem?_eq_some_iff.1 hc).1;have:=Lib.bytesWorld_cell w 5 (zq l) i (by rw[zF];exact hi);rw[Nat.zero_add,this];simp only[zq,List.getD,hc,Option.getD_some]
 ·simp[Lib.bytesWorld,World.freeze,World.alloc,World.drew,-World.alloc_eq,-World.drew_eq]
 ·simp[Lib.bytesWorld,World.freeze,World.alloc,World.drew,-World.alloc_eq,-World.drew_eq]
 ·simp[Lib.bytesWorld,World.freeze,World.alloc,World.drew,-World.alloc_eq,-World.drew_eq]
 ·rw[Lib.bytesWorld_size];omega
 ·intro k hk _;exact Lib.bytesWorld_at_old w _ _ k hk
def zkU(rs:zA)(n:Nat):Prop:=∃i,i<rs.length∧loAt rs i≤n∧n≤hiAt rs i
theorem zc9(a b:zA)(i:Nat)(h:i<a.length):loAt (a++b) i=loAt a i∧hiAt (a++b) i=hiAt a i:=by
 simp[loAt,hiAt,List.getElem?_append_left h]
theorem zbl(a b:zA)(i:Nat)(h:a.length≤i):loAt (a++b) i=loAt b (i-a.length)∧hiAt (a++b) i=hiAt b (i-a.length):=by
 simp[loAt,hiAt,List.getElem?_append_right h]
theorem zeQ(rs:zA)(k i:Nat)(h:i<k):loAt (rs.take k) i=loAt rs i∧hiAt (rs.take k) i=hiAt rs i:=by
 simp[loAt,hiAt,List.getD_eq_getElem?_getD,h]
theorem zbQ(rs:zA)(k i:Nat):loAt (rs.drop k) i=loAt rs (k+i)∧hiAt (rs.drop k) i=hiAt rs (k+i):=by
 simp[loAt,hiAt,List.getD_eq_getElem?_getD,List.getElem?_drop]
theorem zhq(r:Nat×Nat)(rs:zA):loAt (r::rs) 0=r.1∧hiAt (r::rs) 0=r.2:=⟨rfl,rfl⟩
theorem zej(r:Nat×Nat)(rs:zA)(i:Nat):loAt (r::rs) (i+1)=loAt rs i∧hiAt (r::rs) (i+1)=hiAt rs i:=⟨rfl,rfl⟩
theorem zb0(rs:zA)(m hi m1 a:Nat)(h1:m1≤a)(h2:a≤rs.length):(zbg rs m hi m1 a).length=m1+1+(rs.length-a):=by
 simp[zbg];omega
theorem zcY(rs:zA)(m hi m1 a i:Nat)(h1:m1≤a)(h2:a≤rs.length)(b:i<m1):loAt (zbg rs m hi m1 a) i=loAt rs i∧hiAt (zbg rs m hi m1 a) i=hiAt rs i:=by
 unfold zbg;have hl:i<(rs.take m1).length:=by simp;omega
 rw[(zc9 _ _ i hl).1,(zc9 _ _ i hl).2];exact zeQ rs m1 i b
theorem zeR(rs:zA)(m hi m1 a:Nat)(h1:m1≤a)(h2:a≤rs.length):loAt (zbg rs m hi m1 a) m1=(zeh rs m hi m1 a).1∧hiAt (zbg rs m hi m1 a) m1=(zeh rs m hi m1 a).2:=by
 unfold zbg;have hl:(rs.take m1).length=m1:=by simp;omega
 rw[(zbl _ _ m1 (by omega)).1,(zbl _ _ m1 (by omega)).2,hl,Nat.sub_self];exact zhq _ _
theorem zb1(rs:zA)(m hi m1 a i:Nat)(h1:m1≤a)(h2:a≤rs.length)(hi1:m1<i):loAt (zbg rs m hi m1 a) i=loAt rs (a+(i-m1-1))∧hiAt (zbg rs m hi m1 a) i=hiAt rs (a+(i-m1-1)):=by
 unfold zbg;have hl:(rs.take m1).length=m1:=by simp;omega
 rw[(zbl _ _ i (by omega)).1,(zbl _ _ i (by omega)).2,hl];obtain⟨j,hj⟩:∃j,i-m1=j+1:=⟨i-m1-1,by omega⟩;rw[hj,(zej _ _ j).1,(zej _ _ j).2];exact zbQ rs a j
variable{m:Nat}{rs:zA}
theorem zkV{m1:Nat}(a:WF rs)(h1:zab rs.length (zdz rs m) m1):∀i,i<m1→hiAt rs i+1<m:=by
 intro i hi;obtain⟨a1,b1,_⟩:=h1;have e:=b1 (by omega);simp only[zdz,decide_eq_false_iff_not]at e;by_cases he:i=m1-1
 ·rw[he];omega
 ·have:=a.2 i (m1-1) (by omega) (by omega);have h2:=a.1 (m1-1) (by omega);omega
variable{hi:Nat}
theorem zo8{a:Nat}(b:WF rs)(h2:zab rs.length (zay rs hi) a):∀i,a≤i→i<rs.length→hi+1<loAt rs i:=by
 intro i h1 hi;obtain⟨_,_,c2⟩:=h2;have e:=c2 (by omega);simp only[zay,decide_eq_true_eq]at e;by_cases he:i=a
 ·rw[he];exact e
 ·have:=b.2 a i (by omega) hi;have h3:=b.1 a (by omega);omega
theorem zkW{m1 a:Nat}(b:WF rs)(c:hi<18446744073709551616)(h1:zab rs.length (zdz rs m) m1)(h2:zab rs.length (zay rs hi) a):(zeh rs m hi m1 a).1≤m∧hi≤(zeh rs m hi m1 a).2∧(zeh rs m hi m1 a).2<18446744073709551616∧(∀i,i<m1→hiAt rs i+1<(zeh rs m hi m1 a).1)∧(∀i,a≤i→i<rs.length→(zeh rs m hi m1 a).2+1<loAt rs i):=by
 have hf:=zkV b h1;have d:=zo8 b h2;have hm2:=h2.1;unfold zeh;split
 ·rename_i hlt;have w2:=b.1 (a-1) (by omega);refine⟨Nat.min_le_left _ _,Nat.le_max_left _ _,by show max _ _<_;omega,fun i hi=>?_,fun i h3 h4=>?_⟩
  ·have:=hf i hi;have h5:=b.2 i m1 hi (by omega);show _<min _ _;omega
  ·have:=d i h3 h4;have h5:=b.2 (a-1) i (by omega) h4;show max _ _+1<_;omega
 ·exact⟨Nat.le_refl _,Nat.le_refl _,c,hf,d⟩
theorem zgE{m1 c:Nat}(d:WF rs)(h:m≤hi)(k:hi<18446744073709551616)(h1:zab rs.length (zdz rs m) m1)(h2:zab rs.length (zay rs hi) c):WF (zbg rs m hi m1 c):=by
 have a:=zbL d h h1 h2;have b:=h2.1;have hl:=zb0 rs m hi m1 c a b;obtain⟨r1,r2,r3,r4,r5⟩:=zkW d k h1 h2;have g:=zeR rs m hi m1 c a b;refine⟨fun i hi1=>?_,fun i j f hj=>?_⟩
 ·rcases Nat.lt_trichotomy i m1 with hc|hc|hc
  ·have e:=zcY rs m hi m1 c i a b hc;rw[e.1,e.2];exact d.1 i (by omega)
  ·subst hc;rw[g.1,g.2];omega
  ·have e:=zb1 rs m hi m1 c i a b hc;rw[e.1,e.2];exact d.1 _ (by omega)
 ·rcases Nat.lt_trichotomy i m1 with hc|hc|hc
  ·have e:=zcY rs m hi m1 c i a b hc;rw[e.2];rcases Nat.lt_trichotomy j m1 with hd|hd|hd
   ·rw[(zcY rs m hi m1 c j a b hd).1];exact d.2 i j f (by omega)
   ·subst hd;rw[g.1];exact r4 i hc
   ·rw[(zb1 rs m hi m1 c j a b hd).1];exact d.2 i _ (by omega) (by omega)
  ·subst hc;rw[g.2,(zb1 rs m hi i c j a b f).1];exact r5 _ (by omega) (by omega)
  ·rw[(zb1 rs m hi m1 c i a b hc).2,(zb1 rs m hi m1 c j a b (by omega)).1];exact d.2 _ _ (by omega) (by omega)
theorem zd5(a:WF rs)(h:i≤j)(b:j<rs.length):loAt rs i≤loAt rs j∧hiAt rs i≤hiAt rs j:=by
 by_cases he:i=j
 ·subst he;exact⟨Nat.le_refl _,Nat.le_refl _⟩
 ·have:=a.2 i j (by omega) b;have h1:=a.1 i (by omega);have h2:=a.1 j b;omega
theorem zo9{m1 c:Nat}(k:WF rs)(l:m≤hi)(h1:zab rs.length (zdz rs m) m1)(h2:zab rs.length (zay rs hi) c)(n:Nat):zkU (zbg rs m hi m1 c) n↔zkU rs n∨(m≤n∧n≤hi):=by
 have d:=zbL k l h1 h2;have f:=h2.1;have hl:=zb0 rs m hi m1 c d f;have g:=zeR rs m hi m1 c d f;constructor
 ·rintro⟨i,h,b,a⟩;rcases Nat.lt_trichotomy i m1 with hc|hc|hc
  ·have e:=zcY rs m hi m1 c i d f hc;rw[e.1]at b;rw[e.2]at a;exact .inl ⟨i,by omega,b,a⟩
  ·subst hc;rw[g.1]at b;rw[g.2]at a;by_cases o:m≤n∧n≤hi
   ·exact .inr o
   ·refine .inl ?_;unfold zeh at b a;split at b
    ·rename_i hlt;rw[if_pos hlt]at a;simp only at b a;have c1:=h1.2.2 (by omega);simp only[zdz,decide_eq_true_eq]at c1;have b2:=h2.2.1 (by omega);simp only[zay,decide_eq_false_iff_not]at b2;by_cases hn:n<m
     ·exact⟨i,by omega,by omega,by omega⟩
     ·exact⟨c-1,by omega,by omega,by omega⟩
    ·rename_i hlt;rw[if_neg hlt]at a;simp only at b a;omega
  ·have e:=zb1 rs m hi m1 c i d f hc;rw[e.1]at b;rw[e.2]at a;exact .inl ⟨_,by omega,b,a⟩
 ·rintro(⟨i,h,b,a⟩|⟨ha,hb⟩)
  ·by_cases hc:i<m1
   ·have e:=zcY rs m hi m1 c i d f hc;exact⟨i,by omega,by rw[e.1];exact b,by rw[e.2];exact a⟩
   ·by_cases hd:c≤i
    ·have e:=zb1 rs m hi m1 c (m1+1+(i-c)) d f (by omega);have e2:c+(m1+1+(i-c)-m1-1)=i:=by omega
     rw[e2]at e;exact⟨m1+1+(i-c),by omega,by rw[e.1];exact b,by rw[e.2];exact a⟩
    ·have l1:=(zd5 k (i:=m1) (j:=i) (by omega) h).1;have l2:=(zd5 k (i:=i) (j:=c-1) (by omega) (by omega)).2;refine⟨m1,by omega,?_,?_⟩
     ·rw[g.1,zeh,if_pos (by omega)];show min _ _≤_;omega
     ·rw[g.2,zeh,if_pos (by omega)];show _≤max _ _;omega
  ·refine⟨m1,by omega,?_,?_⟩
   ·rw[g.1,zeh];split
    ·show min _ _≤_;omega
    ·exact ha
   ·rw[g.2,zeh];split
    ·show _≤max _ _;omega
    ·exact hb
variable{n:Nat}
theorem zq2(d:WF rs)(h:zab rs.length (zqA rs n) m):(m<rs.length∧loAt rs m≤n)↔zkU rs n:=by
 obtain⟨a,b,c⟩:=h;constructor
 ·rintro⟨h1,h2⟩;have:=c h1;simp only[zqA,decide_eq_true_eq]at this;exact⟨m,h1,h2,this⟩
 ·rintro⟨i,hi,hlo,hhi⟩;by_cases hc:i<m
  ·have e:=b (by omega);simp only[zqA,decide_eq_false_iff_not]at e;have:=(zd5 d (i:=i) (j:=m-1) (by omega) (by omega)).2;omega
  ·have:=(zd5 d (i:=m) (j:=i) (by omega) hi).1;exact⟨by omega,by omega⟩
theorem zfZ(h:i<rs.length):rs[i]?=some (loAt rs i,hiAt rs i):=by
 simp[loAt,hiAt,List.getD_eq_getElem?_getD,List.getElem?_eq_getElem h]
def za1:zA→Nat→Nat→Nat×Nat
 | [],lo,hi=>(lo,hi)
 | r::l,lo,hi=>if r.2<lo then za1 l lo hi else if lo<r.1 then(lo,min hi r.1)else za1 l (r.2+1) hi
theorem zmB(h:k<rs.length):rs.drop k=(loAt rs k,hiAt rs k)::rs.drop (k+1):=by
 rw[List.drop_eq_getElem_cons h]
 congr 1
 have:=zfZ h;rw[List.getElem?_eq_getElem h]at this;exact Option.some.inj this
theorem ziT(rs:zA)(fl most b o lo hi:Nat)(v:Value)(w:World)(h:zbA w b o v rs fl most)(l:lo≤9223372036854775808)(hb:∀k,k<rs.length→hiAt rs k<9223372036854775808):Calls prog 91 #[.pointer (some ⟨b,o,none⟩),.int .u64 (lo:Int),.int .u64 (hi:Int)] w fun e w'=>e = .returned (.tuple #[.int .u64 ((za1 rs lo hi).1:Int),.int .u64 ((za1 rs lo hi).2:Int)])∧Mod NoB w w':=by
 obtain⟨a,cap,rfl,h1,h2,h3⟩:=zi h.own;have hl:=h.cl;have HH:=zb h;have H3:=zb h3;have HB:=zb hb;unfold maxLen at h2;clear h h3 hb;obtain⟨G,n⟩:=nm (za1 rs lo hi);rw[n];have HG:=zb n;clear n;go_enter func91,ntmps91;go_wp2_with fail
 go_loopw [1,15] (fun lv r wr=>∃k L:Nat,k≤rs.length∧lv = .int .u64 (L:Int)∧r = .int .i64 k∧Mod NoB w wr∧L≤9223372036854775808∧Hid (za1 (rs.drop k) L hi=G)) (fun _ r _=>rs.length-(intOf r).toNat)
 case atStart=>exact⟨0,lo,Nat.zero_le _,rfl,rfl,Mod.refl _ _,l,HG⟩
 case round =>
  obtain⟨k,L,hk,rfl,rfl,m,hL,i⟩:=hrel;have M:=zb m;by_cases f:k<rs.length
  ·obtain⟨g,rfl⟩:=H3.out (by omega);obtain⟨s,t⟩:=zaJ HH.out.own k f;have s:=m.cell (a:=⟨g,_,none⟩) id s;have t:=m.cell (a:=⟨g,_,none⟩) id t;have u:=HB.out k f;have c:Hid (za1 (rs.drop k) L hi=if hiAt rs k<L then za1 (rs.drop (k+1)) L hi else if L<loAt rs k then(L,min hi (loAt rs k))else za1 (rs.drop (k+1)) (hiAt rs k+1) hi):=by
    show _=_;rw[zmB f];rfl
   obtain⟨p,y⟩:=nm (loAt rs k);obtain⟨q,z⟩:=nm (hiAt rs k);rw[y]at s c;rw[z]at t c u;clear m y z hl;by_cases c1:q<L
   ·have d1:(q:Int)<L:=by omega
    have d:Hid (za1 (rs.drop (k+1)) L hi=G):=by
     have:=c.out;rw[if_pos c1,i.out]at this;exact this.symm
    clear c1 c;go_wp2_with fail;go_roundw
    case rel=>exact⟨k+1,L,by omega,rfl,by go_num,M.out.alloc _,hL,d⟩
    case measure=>simp[intOf];omega
   ·have d1:¬(q:Int)<L:=by omega
    by_cases c2:L<p
    ·have d2:(L:Int)<p:=by omega
     have d:Hid (G=(L,min hi p)):=by
      have:=c.out;rw[if_neg c1,if_pos c2,i.out]at this;exact this
     clear c1 c2 c;by_cases c3:p≤hi
     ·have d3:(p:Int)≤hi:=by omega
      have HM:Hid (min hi p=p):=zb (by omega);clear c3;go_wp2_with fail;go_quiet (fail);go_wp2_with fail;all_goals first
       | (exfalso;omega)
       | (go_ret2;exact⟨by rw[d.out];(first|(rw[show min hi p=p by omega];rfl)|(rw[show min hi p=hi by omega];rfl)),(M.out.alloc _).drewN _⟩)
     ·have d3:¬(p:Int)≤hi:=by omega
      have HM:Hid (min hi p=hi):=zb (by omega);clear c3;go_wp2_with fail;go_quiet (fail);go_wp2_with fail;all_goals first
       | (exfalso;omega)
       | (go_ret2;exact⟨by rw[d.out];(first|(rw[show min hi p=p by omega];rfl)|(rw[show min hi p=hi by omega];rfl)),(M.out.alloc _).drewN _⟩)
    ·have d2:¬(L:Int)<p:=by omega
     have hw1:=wu ((q:Int)+1) (by omega);have d:Hid (za1 (rs.drop (k+1)) (q+1) hi=G):=by
      have:=c.out;rw[if_neg c1,if_neg c2,i.out]at this;exact this.symm
     clear c1 c2 c;go_wp2_with fail;go_roundw
     case rel=>exact⟨k+1,q+1,by omega,by go_num,by go_num,M.out.alloc _,by omega,d⟩
     case measure=>simp[intOf];omega
  ·have j:k=rs.length:=by omega
   have d:Hid (G=(L,hi)):=by
    have:=i.out;rw[j,List.drop_length]at this;exact this.symm
   clear m j i;go_wp2_with fail;go_ret2;exact⟨by rw[d.out];rfl,M.out⟩
def pickN(c:Int)(n:Nat):Nat:=((if c<0 then -(c+1)else c) % (n:Int)).toNat
theorem zae(c:Int)(n:Nat)(h:0<n):pickN c n<n:=by
 unfold pickN;have h1:=Int.emod_lt_of_pos (if c<0 then -(c+1)else c) (show(0:Int)<n by omega);have h2:=Int.emod_nonneg (if c<0 then -(c+1)else c) (show(n:Int)≠0 by omega);omega
theorem zbJ(c:Int)(n:Nat)(w:World)(h1 : -9223372036854775808≤c)(h2:c≤9223372036854775807)(hn:0<n)(hn2:n≤9223372036854775807):Calls prog 24 #[.int .i64 c,.int .i64 n] w fun e w'=>e = .returned (.int .i64 (pickN c n:Int))∧w=w':=by
 have a:∀x:Int,(if c<0 then -(c+1)else c)=x→0≤x→x % (n:Int)=(pickN c n:Int):=by
  intro x hx _;unfold pickN;rw[hx];have:=Int.emod_nonneg x (show(n:Int)≠0 by omega);omega
 have hn':(1:Int)≤n:=by omega
 by_cases hc:c<0
 ·have H:=zb (a (-(c+1)) (by rw[if_pos hc]) (by omega));have E:Hid (-((c+1).tmod (n:Int))=(-(c+1)) % (n:Int)):=by
   show _=_;rw[←Int.neg_tmod,Int.tmod_eq_emod_of_nonneg (by omega)]
  clear a;go_enter func24,ntmps24;go_wp2_with fail;go_ret;exact⟨by rw[←H.out,←E.out];rfl,rfl⟩
 ·have H:=zb (a c (by rw[if_neg hc]) (by omega));clear a;go_enter func24,ntmps24;go_wp2_with fail;go_ret;exact⟨by rw[←H.out];rfl,rfl⟩
end Go.Proofs.YtddfdpbaiedcjaaGreatDoor
namespace Go.Proofs.YtddfdpbaiedcjaaGreatDoor
open Go.RowKit Go.Proofs.Tryz Go.Shelf
attribute [local go_sem] Oper.semAt_some
theorem zpk(F:Fence)(n:Nat)(hF:F.fn 141)(a:F.round=none)(b o:Nat)(w:World):CallsIn F n prog 141 #[.pointer (some ⟨b,o,none⟩)] w fun e w'=>e = .returned (.func (.func 193) #[] #[.pointer (some ⟨w.heap.size,0,none⟩)])∧w'=w.alloc (.cells #[.pointer (some ⟨b,o,none⟩)] 114):=by
 refine callsIn_of_wp func141 rfl hF ?_ a;simp only[ntmps141,List.size_toArray,List.length_cons,List.length_nil,Nat.reduceAdd,Nat.reduceSub,Array.replicate_succ,Array.replicate_zero,List.push_toArray,List.append_toArray,List.nil_append,List.cons_append];gi_wp2;go_ret;exact⟨rfl,rfl⟩
end Go.Proofs.YtddfdpbaiedcjaaGreatDoor
namespace Go.Proofs.YtddfdpbaiedcjaaGreatDoor
open Go.RowKit Go.Proofs.Tryz Go.Shelf
attribute [local go_sem] Oper.semAt_some
abbrev RrP(p:Nat×Nat→Prop):={r:Nat×Nat // p r}
abbrev RgP(p:Nat×Nat→Prop):={x:Nat×(Nat×Nat) // p x.2}
def RgP.rr{p:Nat×Nat→Prop}(x:RgP p):RrP p:=⟨x.1.2,x.2⟩
def zaF(p:Nat×Nat→Prop)(rs:zA)(hp:∀i,p (loAt rs i,hiAt rs i))(k:Nat):List (RgP p):=(List.range k).map fun j=>⟨(rs.length-1-j,(loAt rs (rs.length-1-j),hiAt rs (rs.length-1-j))),hp _⟩
theorem zhz(p:Nat×Nat→Prop)(rs:zA)(a:∀i,p (loAt rs i,hiAt rs i))(k:Nat):zaF p rs a (k+1)=zaF p rs a k++[⟨(rs.length-1-k,(loAt rs (rs.length-1-k),hiAt rs (rs.length-1-k))),a _⟩]:=by unfold zaF;rw[List.range_succ,List.map_append];rfl
theorem zfH(p:Nat×Nat→Prop)(rs:zA)(hp:∀i,p (loAt rs i,hiAt rs i))(k:Nat):(zaF p rs hp k).length=k:=by unfold zaF;rw[List.length_map,List.length_range]
theorem zi5(p:Nat×Nat→Prop)(rs:zA)(hp:∀i,p (loAt rs i,hiAt rs i))(k:Nat):(zaF p rs hp k).map (·.1)=za3 rs k:=by unfold zaF za3;rw[List.map_map];rfl
theorem zmY(F:Fence)(n:Nat)(hF:F.fn 215)(B:F.round=none)(hn:1≤n)(l z cap:Nat)(a:Option Addr)(p:Nat×Nat→Prop)(rs:zA)(h:∀i,p (loAt rs i,hiAt rs i))(J A:List (RgP p)→World→Prop)
  (C:∀pre x W,J pre W→pre.length<rs.length→YieldAt F (n-1) prog l (zp8 x.1) W fun e W' =>
   (e = .returned (.bool true)∧J (pre++[x]) W'∧zb9 z a W W')∨(e = .returned (.bool false)∧A (pre++[x]) W'))
  (W:World) (j:W.cell? ⟨z,0,none⟩=some (.slice a rs.length cap)) (hr:RR W (.slice a rs.length cap) rs) (h0:J [] W) :
  CallsIn F n prog 215 #[.func (.yield l) #[] #[],.pointer (some ⟨z,0,none⟩)] W fun e W'=>(∃v,e = .returned v) ∧
   ((∃ys,ys=zaF p rs h rs.length∧J ys W')∨(∃pre,(∃k,k≤rs.length∧pre=zaF p rs h k)∧A pre W')):=by
 obtain⟨_,_,e,r1,r2,D⟩:=hr;cases e;unfold maxLen at r2;have K:(rs.length:Int)≤9223372036854775807:=by omega
 refine callsIn_of_wp func215 rfl hF ?_ B;simp only[ntmps215,List.size_toArray,List.length_cons,List.length_nil,Nat.reduceAdd,Nat.reduceSub,Array.replicate_succ,Array.replicate_zero,List.push_toArray,List.append_toArray,List.nil_append,List.cons_append];gi_wp2
 gi_loopw [3] (fun i wr=>∃k:Nat,k≤rs.length∧i = .int .i64 ((rs.length:Int)-1-k)∧J (zaF p rs h k) wr∧zb9 z a W wr) (fun i _=>(intOf i+1).toNat)
 case atStart=>exact⟨0,Nat.zero_le _,by simp,h0,zb9.refl _ _ _⟩
 case round =>
  obtain⟨k,hk,rfl,c,b⟩:=hrel;by_cases E:k<rs.length
  ·obtain⟨q,L⟩:=nm (rs.length-1-k);have m:(rs.length:Int)-1-k=(q:Int):=by omega
   have G:q<rs.length:=by omega
   obtain⟨g,o,rfl,c1,c2,_,_⟩:=D q G;have d:=b.box j;have s:=b.row c1;have t:=b.row c2;obtain⟨fn,tmps,assign,body,M,N⟩:=C _ ⟨(q,(loAt rs q,hiAt rs q)),h q⟩ wr c (by rw[zfH];exact E);have HB:=zb (zhz p rs h k);have O:=zb L;have P:=zb c;have H:=zb m;unfold zp8 at M;dsimp only at M;rw[m];clear L c D c1 c2 m;gi_wp2;refine N.mono ?_;clear N C;rintro e Q (⟨rfl,u,w⟩|⟨rfl,f⟩)
   ·have r:Hid (J (zaF p rs h (k+1)) Q):=by
     show J _ _;rw[HB.out,O.out];exact u
    have I:=zb (b.trans w);clear u w b d s t j;gi_wp2;go_roundw
    case rel=>exact⟨k+1,by omega,by rw[←H.out];congr 1;omega,r.out,I.out⟩
    case measure=>simp[intOf]
   ·have r:Hid (A (zaF p rs h (k+1)) Q):=by
     show A _ _;rw[HB.out,O.out];exact f
    clear f b d s t j;gi_wp2;refine bodyPost_ret (results_none rfl _ _ _) rfl ?_;exact⟨⟨_,rfl⟩,.inr ⟨_,⟨k+1,by omega,rfl⟩,r.out⟩⟩
  ·have y:k=rs.length:=by omega
   have P:=zb c;have HK:=zb y;have R:¬(0:Int)≤(rs.length:Int)-1-k:=by omega
   clear c y D C;gi_wp2
   go_end0
   exact⟨⟨_,rfl⟩,.inl (by rw[←HK.out];exact P.out)⟩
theorem zi6(F:Fence)(n:Nat)(hF:F.fn 215)(d:F.round=none)(hn:1≤n)(b cap:Nat)(a:Option Addr)(p:Nat×Nat→Prop)(rs:zA)(f:∀i,p (loAt rs i,hiAt rs i))(w:World)(c:w.cell? ⟨b,0,none⟩=some (.slice a rs.length cap))(hr:RR w (.slice a rs.length cap) rs):SeqStopsK F n prog 215 #[.pointer (some ⟨b,0,none⟩)] (fun x:RgP p=>zp8 x.1) (zb9 b a) (fun ys=>ys=zaF p rs f rs.length) (fun pre=>∃k,k≤rs.length∧pre=zaF p rs f k) rs.length w:=fun l J Jx W h _ _ hY h0=>by
 have j:=zk c;refine zmY F n hF d hn l b cap a p rs f J Jx hY W ((h.cell (p:=⟨b,0,none⟩) j).trans c) ?_ h0;obtain⟨_,_,e,h1,h2,h3⟩:=hr;cases e;refine⟨_,_,rfl,h1,h2,fun i hi=>?_⟩;obtain⟨g,o,e,m,q2,q3,q4⟩:=h3 i hi;have hl:=zk m;exact⟨g,o,e,(h.cell (p:=⟨g,_,none⟩) hl).trans m,(h.cell (p:=⟨g,_,none⟩) hl).trans q2,q3,q4⟩
theorem zmZ(F:Fence)(n:Nat)(q:∀f,F.fn f)(t:F.round=none)(hn:4≤n)(l O b of lb cap:Nat)(a:Option Addr)(p:Nat×Nat→Prop)(rs:zA)(hp:∀i,p (loAt rs i,hiAt rs i))(J Jx:List (RrP p)→World→Prop)(W:World)
  (hY:∀pre x W1,J pre W1→pre.length<rs.length→YieldAt F (n-1-1-1) prog l (zrI x.1) W1 fun e W' =>
   Mod (zeg lb l a W1) W1 W'∧((e = .returned (.bool true)∧J (pre++[x]) W')∨(e = .returned (.bool false)∧Jx (pre++[x]) W')))
  (hJ:OwnFrom W.heap.size J) (P:OwnFrom W.heap.size Jx) (z:W.cell? ⟨O,0,none⟩=some (.pointer (some ⟨b,of,none⟩))) (hb:W.cell? ⟨b,of,none⟩=some (.slice a rs.length cap)) (m:RR W (.slice a rs.length cap) rs) (hlb:lb<W.heap.size) (hl:l<W.heap.size) (Q:∀g o,a=some ⟨g,o,none⟩→g<W.heap.size∧g≠lb∧g≠l) (h0:J [] W) :
  CallsIn F n prog 193 #[.func (.yield l) #[] #[],.pointer (some ⟨O,0,none⟩)] W fun e W'=>(∃v,e = .returned v) ∧
   (J ((zaF p rs hp rs.length).map RgP.rr) W'∨∃k,k≤rs.length∧Jx ((zaF p rs hp k).map RgP.rr) W'):=by
 have R:=zb hJ;have S:=zb P;have HY:=zb hY;have HR:=zb m;have H0:=zb h0;have ab:(W.alloc (.cells #[.func (.yield l) #[] #[]] 300)).cell? ⟨O,0,none⟩=some (.pointer (some ⟨b,of,none⟩)):=((Mod.refl NoB W).alloc _).cell (a:=⟨O,0,none⟩) id z;have ac:(W.alloc (.cells #[.func (.yield l) #[] #[]] 300)).cell? ⟨b,of,none⟩=some (.slice a rs.length cap):=((Mod.refl NoB W).alloc _).cell (a:=⟨b,of,none⟩) id hb;have h1:1≤n:=by omega
 clear hJ P hY m h0;refine callsIn_of_wp_marks func193 rfl (q _) ?_ t;simp only[ntmps193,List.size_toArray,List.length_cons,List.length_nil,Nat.reduceAdd,Nat.reduceSub,Array.replicate_succ,Array.replicate_zero,List.push_toArray,List.append_toArray,List.nil_append,List.cons_append]
 gi_wp2_with (gi_at_call 194;refine(zlV F (n-1) (q _) t _ _ _ _).mono ?_;rintro e w' ⟨rfl,rfl⟩)
 obtain⟨d,C⟩:=nm W.heap.size;have bY:Boxed ((W.alloc (.cells #[.func (.yield l) #[] #[]] 300)).alloc (.cells #[.slice a rs.length cap] 63)) d 300 (.func (.yield l) #[] #[]):=by
  rw[←C];exact(Boxed.new W _ _).alloc _
 have bS:Boxed ((W.alloc (.cells #[.func (.yield l) #[] #[]] 300)).alloc (.cells #[.slice a rs.length cap] 63)) (d+1) 63 (.slice a rs.length cap):=by
  have:=Boxed.new (W.alloc (.cells #[.func (.yield l) #[] #[]] 300)) 63 (.slice a rs.length cap);rw[World.size_alloc,C]at this;exact this
 have m0:Mod NoB W ((W.alloc (.cells #[.func (.yield l) #[] #[]] 300)).alloc (.cells #[.slice a rs.length cap] 63)):=((Mod.refl _ _).alloc _).alloc _;obtain⟨w1,u⟩:=nm (((W.alloc (.cells #[.func (.yield l) #[] #[]] 300)).alloc (.cells #[.slice a rs.length cap] 63)));have hs1:w1.heap.size=d+2:=by rw[←u];simp;omega
 have ad:J [] w1:=by rw[←u];exact R.out.alloc _ (R.out.alloc _ H0.out)
 rw[u]at bY bS m0 ⊢;rw[C];have ae:=HR.out.mod m0 (za2.no _);clear u ab ac;refine wpIn_rangeFunc_ownH t h1 (gf:=215) (lb:=#[.pointer (some ⟨d+1,0,none⟩)]) rfl (q _) (enters_of func215 (by kernel_rfl) rfl)
  (zi6 F (n-1) (q _) t (by omega) (d+1) cap a p rs hp w1 bS.cell ae) (fun h k=>h.trans k) ?hKb (Below.refl _ _) (fun _=>rfl)
  (fun pre X=>(J (pre.map RgP.rr) X∧Boxed X d 300 (.func (.yield l) #[] #[]))∧Boxed X (d+1) 63 (.slice a rs.length cap))
  (fun c pre X=>c = .ret∧Jx (pre.map RgP.rr) X) ?hI ?hIx ⟨⟨ad,bY⟩,bS⟩
  (fun x a' X=>∃rb,a'={ tmps:=#[.func (.yield l) #[] #[],.pointer (some ⟨O,0,none⟩),.pointer (some ⟨d,0,none⟩),undef,.pointer (some ⟨rb,0,none⟩),.pointer (some ⟨b,of,none⟩),.pointer (some ⟨b,of,none⟩),.pointer (some ⟨b,of,none⟩),.slice a rs.length cap,.func (.func 215) #[] #[.pointer (some ⟨d+1,0,none⟩)],.int .i64 (x.1.1:Int),.agg #[.int .u64 (x.1.2.1:Int),.int .u64 (x.1.2.2:Int)],undef,undef,undef,undef],defers:=[] } ∧
   X.heap[rb]?=some (.cells #[.int .u64 (x.1.2.1:Int),.int .u64 (x.1.2.2:Int)] 214 (0,0))) ?hAx ?assign ?body ?done ?stop
 case hKb =>
  intro X l2 o o' hl2 _ _ _;exact⟨World.putObj_heap_other (by omega),fun g o e=>World.putObj_heap_other (by have:=(Q g o e).1;omega)⟩
 case hI =>
  exact OwnFrom.and (OwnFrom.and (fun s A B row z hg m=>R.out _ A B row z hg (fun r e=>⟨by have:=(m r e).1;omega,(m r e).2⟩)) (Own.from (boxed_own d _ (fun _=>_)) _)) (Own.from (boxed_own (d+1) _ (fun _=>_)) _)
 case hIx =>
  intro c s A B row z hg m;exact⟨z.1,S.out _ A B row z.2 hg (fun r e=>⟨by have:=(m r e).1;omega,(m r e).2⟩)⟩
 case hAx =>
  intro x a' s A B row z hg m;obtain⟨rb,e,E⟩:=z;refine⟨rb,e,(hg.block rb (Array.getElem?_eq_some_iff.1 E).1 (fun e2=>?_)).trans E⟩;obtain⟨_,o,T,G⟩:=m rb e2.symm;rw[E]at T;cases T;cases G
 case assign =>
  intro l' pre x X K hI H;unfold zp8;gi_wp2;refine H _ _ ((KeepsOthers.alloc X _).from _) ⟨Below.heap_alloc _ _ _ hI.2.lt,fun g o e=>Below.heap_alloc _ _ _ ?_⟩ ⟨⟨?_,hI.1.2.alloc _⟩,hI.2.alloc _⟩ ⟨X.heap.size,rfl,heap_alloc_new X _⟩
  ·have q1:=(Q g o e).1;have q2:=hI.2.lt;omega
  ·exact R.out.alloc _ hI.1.1
 case body =>
  rintro l' pre x a' X hl' U ⟨⟨I,hy⟩,L⟩ ⟨rb,rfl,V⟩ af;have yc:=hy.cell;have r0:X.cell? ⟨rb,0,none⟩=some (.int .u64 (x.1.2.1:Int)):=za V rfl;have r1:X.cell? ⟨rb,1,none⟩=some (.int .u64 (x.1.2.2:Int)):=za V rfl;obtain⟨fn,tmps,assign,body,w,hR⟩:=HY.out (pre.map RgP.rr) x.rr X I (by simpa using af);unfold zrI RgP.rr at w;dsimp only at w;have hn1:1≤n-1-1:=by omega
  have HJP:=zb I;clear I U;have ah:=zb hR;clear hR;gi_wp2;refine RoundIn.mono (F:=F.inRound l') (show RoundIn (F.inRound l') _ _ _ _ _ _ _ _ _ from ah.out) ?_;rintro e X3 ⟨M,Y⟩;have Z:=hy.lt;have j:=L.lt;have nY:¬zeg lb l a X d:=by
   rintro(h|h|⟨_,cs,fz,h⟩)
   ·omega
   ·omega
   ·rw[show X.heap[d]?=_ from hy]at h;simp at h
  have nS:¬zeg lb l a X (d+1):=by
   rintro(h|h|⟨_,cs,fz,h⟩)
   ·omega
   ·omega
   ·rw[show X.heap[d+1]?=_ from L]at h;simp at h
  have aa:Hid (KeepsFrom w1.heap.size X X3):=⟨M.size,fun k o hk E G=>by
   refine(M.block k (Array.getElem?_eq_some_iff.1 E).1 ?_).trans E;rintro(h|h|⟨_,cs,fz,h⟩)
   ·omega
   ·omega
   ·rw[E]at h;cases h;cases G⟩
  have ai:Hid (zb9 (d+1) a X X3):=⟨M.block _ j nS,fun g o e=>M.block _ (by have:=(Q g o e).1;omega) (by
   rintro(h|h|⟨h,_⟩)
   ·exact(Q g o e).2.1 h
   ·exact(Q g o e).2.2 h
   ·exact h g o e rfl)⟩
  have aj:Hid (Boxed X3 d 300 (.func (.yield l) #[] #[])):=(M.block _ Z nY).trans hy;have ak:Hid (Boxed X3 (d+1) 63 (.slice a rs.length cap)):=(M.block _ j nS).trans L;clear nY nS M Z j;rcases Y with⟨rfl,y⟩|⟨rfl,y⟩
  ·have N:=zb y;clear y yc w;gi_wp2;exact⟨aa.out,ai.out,⟨by rw[List.map_append];exact N.out,aj.out⟩,ak.out⟩
  ·have N:=zb y;clear y yc w;gi_wp2;exact⟨aa.out,rfl,by rw[List.map_append];exact N.out⟩
 case done =>
  rintro D ys X hD rfl ⟨⟨y,_⟩,_⟩ H;gi_wp2;refine⟨by simp,.inl ⟨_,_,rfl,run_takeDeferred H,?_⟩⟩;exact⟨_,results_none rfl _ _ _,⟨_,rfl⟩,.inl (R.out.putObj _ y (by omega) H rfl)⟩
 case stop =>
  rintro D c pre X hD ⟨k,hk,rfl⟩ ⟨rfl,y⟩ H;gi_wp2;refine⟨by simp,.inl ⟨_,_,rfl,run_takeDeferred H,?_⟩⟩;exact⟨_,results_none rfl _ _ _,⟨_,rfl⟩,.inr ⟨k,hk,S.out.putObj _ y (by omega) H rfl⟩⟩
end Go.Proofs.YtddfdpbaiedcjaaGreatDoor
namespace Go.Proofs.YtddfdpbaiedcjaaGreatDoor
open Go
open Go.Proofs.Tryz
variable{P:Program}{Q:Exit→Act→World→Prop}
theorem zk3{o:Oper}{a:Act}{K:Act→World→Prop}{r:Result Next}(l n:Nat)(h:o.upon P a K Q r):o.uponIn (Fence.wide.inRound l) n P a K Q r:=by
 unfold Oper.upon at h;unfold Oper.uponIn;split at h<;>simp only[]at h ⊢
 ·exact h
 ·exact h
 ·exact h
 ·exact⟨fun x=>by simp[Fence.wide]at x,callsIn_wide.2 h⟩
 ·refine⟨fun x=>by simp[Fence.wide]at x,fun c cs _=>?_⟩;obtain⟨v,w',hr,s⟩:=h c cs;exact⟨v,w',hr,stepsIn_wide.2 s⟩
 ·exact h
variable{ops:Array Oper}
theorem ze1{md:Region.Mode}(l n:Nat)(hd:∀(i:Nat) o,ops[i]?=some o→∀c,o.op≠.defer c)(b:¬LetsOut Q):∀(fuel:Nat) (L:Array Bool) (a:Act) (w:World),wpAny P md ops Q fuel L a w→wpAnyIn (Fence.wide.inRound l) n P md ops Q fuel L a w
 | 0,_,_,_,h=>h
 | fuel+1,L,a,w,h=>by
  refine⟨h.1,fun i hi=>?_⟩;have h1:=h.2 i hi;have hk:∀a w,wpAny P md ops Q fuel (L.setIfInBounds i true) a w→wpAnyIn (Fence.wide.inRound l) n P md ops Q fuel (L.setIfInBounds i true) a w:=fun a w x=>ze1 l n hd b fuel _ a w x
  refine wpOpIn_mono hk ?_;unfold wpOp at h1;unfold wpOpIn;cases ho:ops[i]? with
  | none =>
   rw[ho]at h1;exact h1
  | some o =>
   rw[ho]at h1;simp only[]at h1 ⊢;by_cases d:Region.wanted o (yielded ops a.tmps)=true
   ·simp only[d,if_true]at h1 ⊢;rcases h1 with h1|⟨_,h1⟩
    ·refine⟨fun _ _=>trivial,?_⟩;rw[show(Fence.wide.inRound l).round=some l from rfl,Oper.semAt_some l _ _ (hd i o ho)];exact zk3 l n h1
    ·exact absurd h1 b
   ·simp only[d,Bool.false_eq_true,if_false]at h1 ⊢;exact⟨fun _ _=>trivial,h1⟩
def zgM(ops:Array Oper):Bool:=ops.all fun o=>match o.op with|.defer _=>false|_=>true
theorem zhA(h:zgM ops=true)(i:Nat)(o:Oper)(a:ops[i]?=some o):∀c,o.op≠.defer c:=by
 intro c e;have:=(Array.all_eq_true.1 h) i (Array.getElem?_eq_some_iff.1 a).1;rw[(Array.getElem?_eq_some_iff.1 a).2,e]at this;cases this
variable{n:Nat}{w:World}
theorem zhB{id:Nat}{a:Act}{l:Nat}(hm:P.follows .mixedOrders=true)(hd:zgM ops=true)(hq:¬LetsOut Q)
  (h:wpAny P .any ops Q ops.size (Array.replicate ops.size false) a w.drew):(Code.region id ops true).wpIn (Fence.wide.inRound l) n P Q a w :=
 wpIn_region_any hm (ze1 l n (zhA hd) hq _ _ _ _ h)
theorem zpm{id:Nat}{a:Act}{l:Nat}(k:Nat)(F:World→Prop)(hm:P.follows .mixedOrders=true)(hd:zgM ops=true)(hs:Region.noSelect ops=true)(hF:F w.drew)
  (h:GT P .any ops (fun e a w=>e = .normal∧Q .normal a w) k F ops.size (Array.replicate ops.size false) a w.drew):(Code.region id ops true).wpIn (Fence.wide.inRound l) n P Q a w:=by
 have hx:(Code.region id ops true).wpIn (Fence.wide.inRound l) n P (fun e a w=>e = .normal∧Q .normal a w) a w:=by
  refine zhB hm hd ?_ (zdY _ _ _ _ (h ⟨hs,by simp,fun j oj _ hl=>?_⟩ (.inr hF)))
  ·rintro⟨_,_,x,_⟩;cases x
  ·have:(Array.replicate ops.size false).getD j false=false:=getD_replicate_false ops.size j;rw[this]at hl;cases hl
 exact Go.wpIn_mono hx (fun e a w k=>by rw[k.1];exact k.2)
end Go.Proofs.YtddfdpbaiedcjaaGreatDoor
namespace Go.Proofs.YtddfdpbaiedcjaaGreatDoor
open Go.RowKit Go.Proofs.Tryz
theorem zrl(w:World)(v:Value)(l:List UInt8)(h:BR w v l)(hl:l.length≤70368744177664):∃v' w',(∀ty,(Builtin.append_ #[60,60] ty #[.slice none 0 0,v]).run prog w = .ok v' w')∧OB w' v' l∧Mod NoB w w'∧(∀g,v'.ownBlock=some g→w.heap.size≤g):=by
 obtain⟨i,b,q,f,m⟩:=info_parts zgm;obtain⟨a,cap,rfl,h1,h2,h3⟩:=id h;by_cases h0:l.length=0
 ·have n:l=[]:=List.eq_nil_of_length_eq_zero h0;subst n;cases a with
  | none =>
   refine⟨.slice none 0 0,w,fun ty=>?_,OB.nil w,Mod.refl _ _,fun g hg=>by cases hg⟩;simp[Builtin.append_,run_underlying underlying60,sizeOf,typeInfo,b,Builtin.lenOf,Builtin.firstCells,loadCells,loadCellsFrom]
  | some a =>
   obtain⟨v',w',p,k2,k3,k4⟩:=zQ (P:=prog) w 60 5 i (.int .u8 0) 1 1 underlying60 b q f m rfl (by decide) (.slice none 0 0) 0 [] (World.ownsRow_nil w 0 _ 1)
    a 0 cap [] rfl (by intro j u d;cases d) (by intro u d;cases d) (by unfold maxLen;omega) (by omega)
   exact⟨v',w',p,k2,(Mod.refl _ w).grown k3 (fun k hk=>by cases hk),fun g hg=>(k4 g hg).elim (fun x=>by cases x) id⟩
 ·obtain⟨g,o,rfl,_⟩:=h3 0 l[0] (List.getElem?_eq_getElem (by omega));obtain⟨v',w',p,k2,k3,k4⟩:=zQ (P:=prog) w 60 5 i (.int .u8 0) 1 1 underlying60 b q f m rfl (by decide) (.slice none 0 0) 0 [] (World.ownsRow_nil w 0 _ 1)
   ⟨g,o,none⟩ l.length cap (zP l) (by rw[zan,Nat.mul_one]) (by
    intro j u d;simp only[zP,List.getElem?_map,Option.map_eq_some_iff]at d;obtain⟨c,hc,rfl⟩:=d;obtain⟨g',o',e,hh⟩:=h3 j c hc;cases e;rw[zU];exact hh) (zdW l) (by unfold maxLen;omega) (by omega)
  refine⟨v',w',p,?_,(Mod.refl _ w).grown k3 (fun k hk=>by cases hk),fun g hg=>(k4 g hg).elim (fun x=>by cases x) id⟩;rw[Nat.zero_add,List.nil_append]at k2;exact k2
theorem zis.nil(w:World):zis w (.slice none 0 0) []:=⟨World.ownsRow_nil w 0 _ 10,fun x hx=>by cases hx⟩
def zfL(S:Nat→Prop)(w wr:World):Prop :=
 Mod S w wr∧∀k,S k→∀cs t,w.heap[k]?=some (.cells cs t (0,0))→∃cs',wr.heap[k]?=some (.cells cs' t (0,0))∧cs'.size=cs.size
theorem zfL.refl(S:Nat→Prop)(w:World):zfL S w w:=⟨Mod.refl _ _,fun _ _ cs _ h=>⟨cs,h,rfl⟩⟩
variable{S:Nat→Prop}{b:Nat}{w:World}
theorem zfL.set{wr:World}(h:zfL S w wr)(hb:S b)(i:Nat)(v:Value):zfL S w (wr.setCell ⟨b,i,none⟩ v):=by
 refine⟨h.1.setCell (p:=⟨b,i,none⟩) (.inl hb) v,fun k hk cs t hc=>?_⟩;obtain⟨a,h1,h2⟩:=h.2 k hk cs t hc;by_cases e:k=b
 ·subst e;exact⟨_,zc h1,by simpa using h2⟩
 ·exact⟨a,((Mod.refl (fun x=>x=b) wr).setCell (p:=⟨b,i,none⟩) (.inl rfl) v).obj e h1,h2⟩
variable{cs:Array Value}{i t:Nat}
theorem zfL.cell{wr:World}(h:zfL S w wr)(hb:S b)(hc:w.heap[b]?=some (.cells cs t (0,0)))(hi:i<cs.size):(∃v,wr.cell? ⟨b,i,none⟩=some v)∧wr.frozen? ⟨b,i,none⟩=false:=by
 obtain⟨a,h1,h2⟩:=h.2 b hb cs t hc;exact⟨⟨a[i],za h1 (Array.getElem?_eq_getElem (by omega))⟩,zf h1⟩
def Lists(v:Value)(a:List (Frm×Value)):Nat→Prop:=fun k=>v.ownBlock=some k∨∃x∈a,x.2.ownBlock=some k
def zgd(W:World)(g:Nat)(v:Value)(a:List (Frm×Value))(k:Nat)(wr:World):Prop :=
 zfL (Lists v a) W wr∧∀j x,k≤j→a[j]?=some x→wr.cell? ⟨g,j*10+9,none⟩=some x.2
variable{W:World}{g k:Nat}{v:Value}
theorem zgd.more{wr:World}{a:List (Frm×Value)}(h:zgd W g v a k wr):zgd W g v a (k+1) wr:=⟨h.1,fun j x hj=>h.2 j x (by omega)⟩
theorem zgd.set{wr:World}{a:List (Frm×Value)}(h:zgd W g v a (k+1) wr)(hg:Lists v a g)(hi:i<k*10+10)(u:Value):zgd W g v a (k+1) (wr.setCell ⟨g,i,none⟩ u):=by
 refine⟨h.1.set hg i u,fun j x hj hx=>?_⟩;rw[World.cell?_setCell_other _ _ _ _ (by simp<;>omega)];exact h.2 j x hj hx
variable{cap e n sz:Nat}{xs:List Value}
theorem zrt(h:w.ownsRow 0 e sz (.slice (some ⟨g,0,none⟩) n cap) n xs):∃cur,w.heap[g]?=some (.cells cur e (0,0))∧cur.size=cap*sz∧n≤cap:=by
 rcases h.2 with⟨a,_⟩|⟨g',b,cur,a,_,hg,h1,_,h3,_⟩
 ·cases a
 ·cases a;exact⟨cur,hg,h3,h1⟩
end Go.Proofs.YtddfdpbaiedcjaaGreatDoor
namespace Go.Proofs.YtddfdpbaiedcjaaGreatDoor
open Go.Proofs.Tryz
variable{P:Program}
theorem zew(m:Machine)(w:World)(t:Trace)(h:aloneAtReturn P m w t):leavingAtReturn P m w t:=by
 obtain⟨a,hh,he⟩:=h;refine⟨hh,⟨fun g hg=>⟨0,?_⟩,a.2⟩,he⟩;have h1:(m.gs.toList.drop 1).all (fun g=>g.status == .finished)=true:=a.1;rw[List.all_eq_true]at h1;have:=h1 g hg;simpa [Goroutine.LeavesIn]using this
theorem holds_leaving{p:Pinned}{s:OpenSpec}{c:OpenClaim}(b:c.start = .entering)(a:c.stops=[])(d:c.wf s=true)(h:({ c with leaving:=false }:OpenClaim).holds p s)(hl:c.leaving=true):c.holds p s:=by
 obtain⟨h1,h2,h3,h4,h5,h6,h7,h8,f,fn,h9,e,g,i,j,k,l,n,o,q,r,u,v,x,y,z,A,B,C,k1,k2,L,D,E⟩:=h;refine⟨d,h2,h3,h4,h5,h6,h7,h8,f,fn,h9,e,g,i,j,k,l,n,o,q,r,u,v,x,y,z,A,B,C,k1,k2,L,D,fun os hw hq H enc inj=>?_⟩;have hf:=E os hw hq H enc inj;unfold OpenClaim.form at hf ⊢;have e1:({ c with leaving:=false }:OpenClaim).start = .entering:=b;have e2:({ c with leaving:=false }:OpenClaim).stops=[]:=a;rw[e1,e2]at hf;rw[b,a];intro F;have hF:=hf F;have e4:c.atReturn p.checked.prog=leavingAtReturn p.checked.prog:=by unfold OpenClaim.atReturn;rw[hl]
 rw[e4];exact ReturnsInOpen.mono (atReturn:=aloneAtReturn p.checked.prog) (fun m w t h=>zew m w t h) (fun m h=>h) hF
theorem card_going(g:Looks){p:Pinned}{s:OpenSpec}{c:OpenClaim}(kinds:List LaidKind)(a:Bool)(b:Bool×String)(e:Bool)
  (hc:c.holds p s) (hw:c.wfByText s=true) (d:c.laidByTextAt g p kinds a)
  (i:c.start = .entering) (k:c.noBlocks=false∧c.again=false) (hm:p.checked.prog.mainIs=some (b.1,b.2.toList)) (hn:(!b.1&&b.2.isEmpty && !e)=false)
  (hl:∀f fn,p.checked.prog.funcNamed c.func=some f→p.checked.prog.funcs[f]?=some fn→e=p.checked.prog.looks []∧∀(j:Nat) t,fn.params[j]?=some t→p.checked.prog.wantsStandIn t=false)
  (hg:true=c.goesBy p.checked.prog) :
  Claim7.holds p (.plain s) { stood:={ row:=c,standIns:=[],harness:=b,looks:=e },kinds:=[],alts:=[],laidByText:=true,laidKinds:=kinds,laidTests:=a,laidLooks:=g,goes:=true } :=
 ⟨Claim7.tied_new_at g kinds a (Claim7.new_of_sixth hc b e i k hm (by simpa [Claim7.isSixth]using hn) hl) hw,(fun D hD=>by cases hD),d,(fun h=>by cases h),hg⟩
end Go.Proofs.YtddfdpbaiedcjaaGreatDoor
