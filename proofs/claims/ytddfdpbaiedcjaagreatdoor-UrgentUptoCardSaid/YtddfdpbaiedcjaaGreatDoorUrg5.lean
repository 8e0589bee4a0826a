/- A part of Urgent's proof. Conditions: none. Part 5 of 32. -/
import Derived.Test.YtddfdpbaiedcjaaGreatDoorUrg1
import Derived.Lib.Overlaps
set_option maxRecDepth 100000
set_option maxHeartbeats 16000000
set_option linter.all false
namespace Go.Proofs.YtddfdpbaiedcjaaGreatDoor
open Go.RowKit
theorem zf7:(Tryz.prog.info? 214).map (fun i=>(i.zero,i.size,i.bytes))=some (some (.agg #[.int .u64 0,.int .u64 0]),2,16):=by kernel_rfl
theorem zce:(Tryz.prog.info? 214).map (·.size)=some 2:=by kernel_rfl
theorem zf8(w:World):(zeroValue 214).run Tryz.prog w = .ok (.agg #[.int .u64 0,.int .u64 0]) w:=by kernel_rfl
theorem zii(w:World)(g f o i j lb cb:Nat)(b a:List Value)(hg:w.heap[g]?=some (.cells b.toArray 214 (0,0)))(c:w.heap[f]?=some (.cells a.toArray 214 (0,0)))
  (h:f≠g) (d:b.length≠0) :
  (callFunc 202 #[.slice (some ⟨f,0,none⟩) i j,.slice (some ⟨g,o,none⟩) lb cb]).run Tryz.prog w = .ok (.value (.bool false)) w:=by
 rw[run_callFunc_extern Tryz.func202 (by kernel_rfl) (by kernel_rfl) (by kernel_rfl) (e:=Extern.SlicesOverlaps.overlaps #[63,63] #[4]) (by kernel_rfl),
  Lib.run_overlaps_apart w 63 4 214 Tryz.underlying63 2 (fun w=>zd3 zce w) ⟨f,0,none⟩ ⟨g,o,none⟩ i j lb cb h 214 214 a.length b.length
   (by simp[World.shape?,c]) (by simp[World.shape?,hg]) d (by simp[World.frozen?,c]) (by simp[World.frozen?,c])]
 rfl
def zfB(a:List Value)(i n:Nat)(r:List Value):List Value:=splice (splice a ((i+1)*2) ((a.drop (i*2)).take ((n-i)*2))) (i*2) r
theorem znW(g c i n cap:Nat)(a:List Value)(r:Nat×Nat)(w:World)(hi:i<n)(hn:n+1≤cap)(p:cap≤9223372036854775807)
  (hg:w.heap[g]?=some (.cells a.toArray 214 (0,0))) (f:a.length=cap*2) (l:∀v∈(a.drop (i*2)).take ((n-i)*2),v.oneCell'=true) (h:w.heap[c]?=some (.cells [.int .u64 r.1,.int .u64 r.2].toArray 214 (0,0))) (j:c≠g) :
  Calls Tryz.prog 201 #[.slice (some ⟨g,0,none⟩) n cap,.int .i64 i,.slice (some ⟨c,0,none⟩) 1 1] w fun e w'=>e = .returned (.slice (some ⟨g,0,none⟩) (n+1) cap) ∧
   w'=(w.setRow g (zfB a i n [.int .u64 r.1,.int .u64 r.2]).toArray).drew:=by
 have h1:(i:Int)<n:=by omega
 have h2:decide ((i:Int)=n)=false:=by simp;omega
 have h3:((i:Int)==n)=false:=by simp;omega
 have h4:i+1<cap:=by omega
 have hov:=zii w g c ((i+1)*2) 1 1 (n-i) (cap-(i+1)) a _ hg h j (by omega);have m:∀ty,(Builtin.copy_ #[63,63] ty #[.slice (some ⟨g,(i+1)*2,none⟩) (n-i) (cap-(i+1)),.slice (some ⟨g,i*2,none⟩) (n+1-i) (cap-i)]).run Tryz.prog w.drew =
   .ok (goInt (n-i:Nat)) (w.setRow g (splice a ((i+1)*2) ((a.drop (i*2)).take ((n-i)*2))).toArray).drew:=fun ty =>
  zaV (P:=Tryz.prog) w.drew 63 63 ty 214 2 Tryz.underlying63 zce g ((i+1)*2) (n-i) (cap-(i+1)) g (i*2) (n+1-i) (cap-i) (n-i) a a _ _ _ hg hg
   (by omega) (by omega) (by omega) (by omega) (by omega) l
 obtain⟨k,b⟩:=nm (splice a ((i+1)*2) ((a.drop (i*2)).take ((n-i)*2)));rw[b]at m;have q:k.length=cap*2:=by rw[←b,length_splice _ _ _ (by simp;omega)];exact f
 obtain⟨o,d⟩:=nm (splice k (i*2) [Value.int .u64 (r.1:Int),Value.int .u64 (r.2:Int)]);have hc2:∀ty,(Builtin.copy_ #[63,63] ty #[.slice (some ⟨g,i*2,none⟩) (n+1-i) (cap-i),.slice (some ⟨c,0,none⟩) 1 1]).run Tryz.prog (w.setRow g k.toArray).drew =
   .ok (goInt (1:Nat)) (w.setRow g o.toArray).drew:=fun ty=>by
  rw[zaV (P:=Tryz.prog) (w.setRow g k.toArray).drew 63 63 ty 214 2 Tryz.underlying63 zce g (i*2) (n+1-i) (cap-i) c 0 1 1 1 k _ _ _ _ (setRow_heap w g _ _ _ _ hg)
   ((setRow_other w g c _ j).trans h) (by omega) (by omega) (by omega) (by simp) (by omega) (by simp[Value.oneCell'])]
  simp only[List.drop_zero,List.take_succ_cons,List.take_zero,Nat.one_mul,d]
  congr 1
  exact congrArg World.drew (setRow_setRow w g _ _)
 have HC:Hid (zfB a i n [.int .u64 r.1,.int .u64 r.2]=o):=by
  show splice (splice _ _ _) _ _=o;rw[b,d]
 clear b d;go_enter Tryz.func201,Tryz.ntmps201;go_wp2_with fail
 go_region
 go_wp2_with fail;go_ret;exact⟨rfl,by rw[HC.out]⟩
theorem zpJ(c n cap:Nat)(a:Option Addr)(v':Value)(w d:World)(f:n≤cap)(b:cap≤9223372036854775807)
  (happ:∀ty,(Builtin.append_ #[63,63] ty #[.slice a n cap,.slice (some ⟨c,0,none⟩) 1 1]).run Tryz.prog w = .ok v' d) :
  Calls Tryz.prog 201 #[.slice a n cap,.int .i64 n,.slice (some ⟨c,0,none⟩) 1 1] w fun e w'=>e = .returned v'∧w'=d:=by
 by_cases hc:n=cap
 ·subst hc;cases a;all_goals
   go_enter Tryz.func201,Tryz.ntmps201;go_wp2_with (at_builtin;refine zm rfl _ _ _ _ rfl _ _ _ rfl rfl happ ?_);go_ret;exact⟨rfl,rfl⟩
 ·have h1:n<cap:=by omega
  cases a;all_goals
   go_enter Tryz.func201,Tryz.ntmps201;go_wp2_with (at_builtin;refine zm rfl _ _ _ _ rfl _ _ _ rfl rfl happ ?_);go_ret;exact⟨rfl,rfl⟩
def zdT(C0 a:List Value)(i n:Nat)(r:List Value):List Value:=splice (splice C0 (i*2) r) ((i+1)*2) ((a.drop (i*2)).take ((n-i)*2))
theorem znX(g l h i n cap c:Nat)(a j:List Value)(r:Nat×Nat)(w b:World)(hi:i<n)(hnc:n≤cap)(hn:cap<n+1)(t:cap≤9223372036854775807)
  (u:a.length=cap*2) (o:∀v∈(a.drop (i*2)).take ((n-i)*2),v.oneCell'=true)
  (happ:∀ty,(Builtin.append_ #[63,3] ty #[.slice (some ⟨g,0,none⟩) i cap,.int .i64 ((n:Int)+1-i)]).run Tryz.prog w = .ok (.slice (some ⟨h,0,none⟩) (n+1) c) b)
  (hg:b.heap[g]?=some (.cells a.toArray 214 (0,0))) (p:b.heap[l]?=some (.cells [.int .u64 r.1,.int .u64 r.2].toArray 214 (0,0)))
  (x:b.heap[h]?=some (.cells j.toArray 214 (0,0))) (q:j.length=c*2) (y:n+1≤c) (z:c≤9223372036854775807) (_hne:l≠h) (m:g≠h) :
  Calls Tryz.prog 201 #[.slice (some ⟨g,0,none⟩) n cap,.int .i64 i,.slice (some ⟨l,0,none⟩) 1 1] w fun e w'=>e = .returned (.slice (some ⟨h,0,none⟩) (n+1) c) ∧
   w'=(b.setRow h (zdT j a i n [.int .u64 r.1,.int .u64 r.2]).toArray).drew:=by
 have h1:(i:Int)<n:=by omega
 have h3:((i:Int)==n)=false:=by simp;omega
 have h4:i<cap:=by omega
 have h5:i+1<c:=by omega
 obtain⟨k,d⟩:=nm (splice j (i*2) [Value.int .u64 (r.1:Int),Value.int .u64 (r.2:Int)]);have A:k.length=c*2:=by rw[←d,length_splice _ _ _ (by simp;omega)];exact q
 have hc1:∀ty,(Builtin.copy_ #[63,63] ty #[.slice (some ⟨h,i*2,none⟩) (n+1-i) (c-i),.slice (some ⟨l,0,none⟩) 1 1]).run Tryz.prog b =
   .ok (goInt (1:Nat)) (b.setRow h k.toArray):=fun ty=>by
  rw[zaV (P:=Tryz.prog) b 63 63 ty 214 2 Tryz.underlying63 zce h (i*2) (n+1-i) (c-i) l 0 1 1 1 j _ _ _ _ x
   p (by omega) (by omega) (by omega) (by simp) (by omega) (by simp[Value.oneCell'])]
  simp only[List.drop_zero,List.take_succ_cons,List.take_zero,Nat.one_mul,d]
 obtain⟨s,f⟩:=nm (splice k ((i+1)*2) ((a.drop (i*2)).take ((n-i)*2)));have hc2:∀ty,(Builtin.copy_ #[63,63] ty #[.slice (some ⟨h,(i+1)*2,none⟩) (n-i) (c-(i+1)),.slice (some ⟨g,i*2,none⟩) (n-i) (cap-i)]).run Tryz.prog (b.setRow h k.toArray).drew =
   .ok (goInt (n-i:Nat)) (b.setRow h s.toArray).drew:=fun ty=>by
  rw[zaV (P:=Tryz.prog) (b.setRow h k.toArray).drew 63 63 ty 214 2 Tryz.underlying63 zce h ((i+1)*2) (n-i) (c-(i+1)) g (i*2) (n-i) (cap-i) (n-i) k a _ _ _ (setRow_heap b h _ _ _ _ x)
   ((setRow_other b h g _ m).trans hg) (by omega) (by omega) (by omega) (by omega) (by omega) o]
  rw[f]
  congr 1
  exact congrArg World.drew (setRow_setRow b h _ _)
 have HC:Hid (zdT j a i n [.int .u64 r.1,.int .u64 r.2]=s):=by
  show splice (splice _ _ _) _ _=s;rw[d,f]
 clear d f;go_enter Tryz.func201,Tryz.ntmps201;go_wp2_with (at_builtin;refine zm rfl _ _ _ _ rfl _ _ _ rfl rfl happ ?_)
 go_region
 go_wp2_with fail;go_ret;exact⟨rfl,by rw[HC.out]⟩
theorem zdq{α : Type}(A B cs:List α)(o:Nat)(ho:o=A.length):splice (A++B) o cs=A++(cs++B.drop cs.length):=by
 subst ho;simp[splice,←List.drop_drop]
theorem zeF{α : Type}(a X:List α)(n:Nat)(ht:a.take n=X):∃Y,a=X++Y:=⟨a.drop n,by rw[←ht,List.take_append_drop]⟩
theorem zlu(A X Y:List Value)(a b:Value)(hY:2≤Y.length) :
  splice (splice (A++X++Y) (A.length+2) X) A.length [a,b]=A++[a,b]++X++Y.drop 2:=by
 have h1:splice (A++X++Y) (A.length+2) X=A++((X++Y).take 2++(X++Y.drop 2)):=by
  have e:(A++X++Y)=(A++(X++Y).take 2)++(X++Y).drop 2:=by simp[List.append_assoc,List.take_append_drop]
  have c:((X++Y).take 2).length=2:=by simp;omega
  rw[e,zdq _ _ _ _ (by simp[c]),List.drop_drop,Nat.add_comm,List.append_assoc]
  congr 1
  congr 1
  congr 1
  rw[List.drop_append];simp
 rw[h1,zdq _ _ _ _ rfl];have c:((X++Y).take 2).length=2:=by simp;omega
 have:List.drop [a,b].length (List.take 2 (X++Y)++(X++List.drop 2 Y))=X++Y.drop 2:=by
  have e2:[a,b].length=((X++Y).take 2).length:=by rw[c];rfl
  rw[e2,List.drop_left]
 rw[this];simp
theorem zij(a:List Value)(i n cap:Nat)(rs:zD)(r:Nat×Nat)(hi:i≤n)(hn:n+1≤cap)(b:a.length=cap*2)(hrs:rs.length=n)(ht:a.take (n*2)=zn rs) :
  (zfB a i n [.int .u64 r.1,.int .u64 r.2]).take ((n+1)*2)=zn (rs.take i++r::rs.drop i):=by
 obtain⟨Y,rfl⟩:=zeF _ _ _ ht;have d:(zn (rs.take i)).length=i*2:=by rw[zM];simp;omega
 have e:(zn (rs.drop i)).length=(n-i)*2:=by rw[zM];simp;omega
 have c:zn rs=zn (rs.take i)++zn (rs.drop i):=by rw[←zaw,List.take_append_drop]
 have hY:2≤Y.length:=by
  simp only[List.length_append,zM]at b;omega
 have h1:((zn rs++Y).drop (i*2)).take ((n-i)*2)=zn (rs.drop i):=by
  rw[c,←d,List.append_assoc,List.drop_left,←e,List.take_left]
 unfold zfB;rw[h1,c,show(i+1)*2=(zn (rs.take i)).length+2 by omega,show i*2=(zn (rs.take i)).length by omega,zlu _ _ _ _ _ hY,zaw,zn];have hl:(zn (rs.take i)++[Value.int .u64 (r.1:Int),Value.int .u64 (r.2:Int)]++zn (rs.drop i)).length=(n+1)*2:=by simp[d,e];omega
 rw[←hl,List.take_left];simp
theorem zgQ(d a:List Value)(i n cap f:Nat)(rs:zD)(r:Nat×Nat)(hi:i≤n)(hn:n+1≤f)(_hcap:n≤cap)(j:a.length=cap*2)(g:d.length=f*2)(h0:d.take (i*2)=a.take (i*2))(hrs:rs.length=n)(ht:a.take (n*2)=zn rs) :
  (zdT d a i n [.int .u64 r.1,.int .u64 r.2]).take ((n+1)*2)=zn (rs.take i++r::rs.drop i):=by
 obtain⟨Y,rfl⟩:=zeF _ _ _ ht;have b:(zn (rs.take i)).length=i*2:=by rw[zM];simp;omega
 have k:(zn (rs.drop i)).length=(n-i)*2:=by rw[zM];simp;omega
 have c:zn rs=zn (rs.take i)++zn (rs.drop i):=by rw[←zaw,List.take_append_drop]
 have h1:((zn rs++Y).drop (i*2)).take ((n-i)*2)=zn (rs.drop i):=by
  rw[c,←b,List.append_assoc,List.drop_left,←k,List.take_left]
 have h2:(zn rs++Y).take (i*2)=zn (rs.take i):=by rw[c,←b,List.append_assoc,List.take_left]
 obtain⟨Z,rfl⟩:=zeF _ _ _ (h0.trans h2);have hZ:Z.length=f*2-i*2:=by simp[b]at g;omega
 unfold zdT;rw[h1,zdq _ _ _ _ b.symm];have e:zn (rs.take i)++([Value.int .u64 (r.1:Int),Value.int .u64 (r.2:Int)]++Z.drop 2)=(zn (rs.take i)++[Value.int .u64 (r.1:Int),Value.int .u64 (r.2:Int)])++Z.drop 2:=by simp
 have h:[Value.int .u64 (r.1:Int),Value.int .u64 (r.2:Int)].length=2:=rfl;rw[h,e,zdq _ _ _ _ (by simp[b];omega),←List.append_assoc,zaw,zn];have hl:(zn (rs.take i)++[Value.int .u64 (r.1:Int),Value.int .u64 (r.2:Int)]++zn (rs.drop i)).length=(n+1)*2:=by simp[b,k];omega
 rw[←hl,List.take_left];simp
theorem zf9(a:List Value)(i n cap:Nat)(r:Nat×Nat)(hi:i≤n)(hn:n+1≤cap)(b:a.length=cap*2):(zfB a i n [.int .u64 r.1,.int .u64 r.2]).length=cap*2:=by
 unfold zfB;have h1:(splice a ((i+1)*2) ((a.drop (i*2)).take ((n-i)*2))).length=cap*2:=by
  rw[length_splice _ _ _ (by simp;omega)];exact b
 rw[length_splice _ _ _ (by simp;omega)];exact h1
theorem zfl(c a:List Value)(i n b cap:Nat)(r:Nat×Nat)(hi:i≤n)(hn:n+1≤b)(e:n≤cap)(f:a.length=cap*2)(d:c.length=b*2):(zdT c a i n [.int .u64 r.1,.int .u64 r.2]).length=b*2:=by
 unfold zdT;have h1:(splice c (i*2) [Value.int .u64 (r.1:Int),Value.int .u64 (r.2:Int)]).length=b*2:=by
  rw[length_splice _ _ _ (by simp;omega)];exact d
 rw[length_splice _ _ _ (by simp;omega)];exact h1
theorem zdU(rs:zD):∀v∈zn rs,v.oneCell'=true:=by
 induction rs with
 | nil=>intro v h;cases h
 | cons r rs ih =>
  intro v h;simp only[zn,List.mem_cons]at h;rcases h with rfl|rfl|h
  ·rfl
  ·rfl
  ·exact ih v h
theorem zga{w:World}{g:Nat}{cs:List Value}{t:Nat}{fz:Nat×Nat}(hg:w.heap[g]?=some (.cells cs.toArray t fz)):∀j u,cs[j]?=some u→w.cell? ((⟨g,0,none⟩:Addr).add j)=some u:=by
 intro j u h;rw[addr_add];simpa [World.cell?,hg]using h
theorem zgb{w:World}{base e sz:Nat}{v:Value}{n:Nat}{xs:List Value}(h:w.ownsRow base e sz v n xs)(hn:0<n) :
  ∃g cap cur,v = .slice (some ⟨g,0,none⟩) n cap∧w.heap[g]?=some (.cells (cur:List Value).toArray e (0,0))∧n≤cap∧cap≤maxLen∧cur.length=cap*sz∧cur.take (n*sz)=xs:=by
 rcases h.2 with⟨_,h0⟩|⟨g,cap,cur,rfl,_,hg,h1,h2,h3,h4⟩
 ·omega
 ·exact⟨g,cap,cur.toList,rfl,by simpa using hg,h1,h2,by simpa using h3,h4⟩
theorem zkf(v:Value)(rs:zD)(i:Nat)(r:Nat×Nat)(l:Nat)(w:World)(hi:i≤rs.length)(I:rs.length≤1099511627776)(d:w.ownsRow 0 214 2 v rs.length (zn rs))
  (m:w.heap[l]?=some (.cells [.int .u64 r.1,.int .u64 r.2].toArray 214 (0,0))) (C:v.ownBlock≠some l) :
  Calls Tryz.prog 201 #[v,.int .i64 i,.slice (some ⟨l,0,none⟩) 1 1] w fun e w'=>∃v',e = .returned v'∧w'.ownsRow 0 214 2 v' (rs.length+1) (zn (rs.take i++r::rs.drop i))∧w.grownBy w' v.ownBlock∧zaG w v v':=by
 obtain⟨J,n,t,p,x⟩:=info_parts zf7;by_cases D:i=rs.length
 ·obtain⟨a,cap,rfl,h1,h2,h3⟩:=zj d;obtain⟨v',w1,happ,ho,E,F⟩:=zH (P:=Tryz.prog) w 63 214 J _ 2 16 Tryz.underlying63 n t p x rfl (by decide) _ _ _ d ⟨l,0,none⟩ 1 1 [.int .u64 r.1,.int .u64 r.2] rfl (zga m) (by simp[Value.oneCell']) (by unfold maxLen;omega) (by omega);subst D;unfold maxLen at h2;refine(zpJ l _ cap a v' w w1 h1 (by omega) happ).mono ?_;rintro e w' ⟨rfl,rfl⟩;refine⟨v',rfl,?_,E,F⟩;simpa [zaw,zn]using ho
 ·obtain⟨g,cap,b,rfl,hg,h1,h2,h3,h4⟩:=zgb d (by omega);have G:l≠g:=fun e=>C (by simp[Value.ownBlock,e])
  unfold maxLen at h2;have o:∀v∈(b.drop (i*2)).take ((rs.length-i)*2),v.oneCell'=true:=by
   intro v K;refine zdU rs v ?_;rw[←h4];have e:(b.drop (i*2)).take ((rs.length-i)*2)=(b.take (rs.length*2)).drop (i*2):=by
    rw[List.drop_take]
    congr 1
    omega
   rw[e]at K;exact List.mem_of_mem_drop K
  by_cases c:rs.length+1≤cap
  ·refine(znW g l i rs.length cap b r w (by omega) c (by omega) hg h3 o m G).mono ?_;rintro e w' ⟨rfl,rfl⟩;refine⟨_,rfl,⟨by simp[zM];omega,.inr ⟨g,cap,_,rfl,Nat.zero_le _,setRow_heap w g _ _ _ _ hg,c,by unfold maxLen;omega,?_,?_⟩⟩,⟨rfl,rfl,rfl,by simp,fun k _ hk=>setRow_other w g k _ (fun e=>hk (by simp[Value.ownBlock,e]))⟩,fun k hk=>.inl hk⟩
   ·simpa using zf9 b i rs.length cap r hi c h3
   ·simpa using zij b i rs.length cap rs r hi c h3 rfl h4
  ·have happ:=fun ty=>zeA (P:=Tryz.prog) w 63 3 ty 214 .i64 J _ Tryz.underlying63 Tryz.underlying3 n t ⟨g,0,none⟩ i cap (rs.length+1-i) (zn (rs.take i)) (by rw[zM,p];simp;omega)
    (fun j u B=>zga hg j u (by
     rw[←zcc,←h4,List.take_take,List.getElem?_take]at B;split at B
     ·exact B
     ·cases B)) (by omega) (by omega) (by rw[x];omega) (by rw[p];omega)
   rw[show i+(rs.length+1-i)=rs.length+1 by omega,show((rs.length+1-i:Nat):Int)=(rs.length:Int)+1-i by omega]at happ;have f:=grownCap_ge w (rs.length+1) cap 214;have y:grownCap w (rs.length+1) cap 214≤maxLen:=grownCap_le_maxLen w _ cap _ (by unfold maxLen;omega);unfold maxLen at y;generalize grownCap w (rs.length+1) cap 214=nc at happ f y;have H:=(Array.getElem?_eq_some_iff.1 hg).1;have z:=(Array.getElem?_eq_some_iff.1 m).1;obtain⟨q,s⟩:∃q:List Value,(zn (rs.take i)).toArray++Builtin.zeroCells (Value.agg #[Value.int .u64 0,Value.int .u64 0]).cells (rs.length+1-i)++Builtin.zeroCells (Value.agg #[Value.int .u64 0,Value.int .u64 0]).cells (nc-(rs.length+1))=q.toArray∧q.length=nc*2∧q.take (i*2)=b.take (i*2):=by
    refine⟨zn (rs.take i)++(Builtin.zeroCells (Value.agg #[Value.int .u64 0,Value.int .u64 0]).cells (rs.length+1-i)).toList++(Builtin.zeroCells (Value.agg #[Value.int .u64 0,Value.int .u64 0]).cells (nc-(rs.length+1))).toList,by simp,?_,?_⟩
    ·simp[size_zeroCells,zM,Value.cells];omega
    ·have L:(zn (rs.take i)).length=i*2:=by rw[zM];simp;omega
     rw[List.append_assoc,←L,List.take_left,L,←zcc,←h4,List.take_take]
     congr 1
     omega
   obtain⟨s,h,A⟩:=s;rw[s]at happ;refine(znX g l w.heap.size i rs.length cap nc b q r w _ (by omega) h1 (by omega) (by omega) h3 o happ ((Below.heap_alloc w.drew _ g H).trans hg) ((Below.heap_alloc w.drew _ l z).trans m) (heap_alloc_new w.drew _) h f (by omega) (by omega) (by omega)).mono ?_;rintro e w' ⟨rfl,rfl⟩;refine⟨_,rfl,⟨by simp[zM];omega,.inr ⟨w.heap.size,nc,_,rfl,Nat.zero_le _,setRow_heap _ _ _ _ _ _ (heap_alloc_new w.drew _),f,by unfold maxLen;omega,?_,?_⟩⟩,⟨rfl,rfl,rfl,by simp,fun k hk _=>?_⟩,fun k hk=>by simp[Value.ownBlock]at hk;omega⟩
   ·simpa using zfl q b i rs.length nc cap r hi f h1 h3 h
   ·simpa using zgQ q b i rs.length cap nc rs r hi f h1 h3 h A rfl h4
   ·exact(setRow_other _ _ _ _ (by omega)).trans (Below.heap_alloc w.drew _ k hk)
def zgR(a:List Value)(n:Nat):List Value:=splice (splice a 0 ((a.drop 2).take ((n-1)*2))) ((n-1)*2) [.int .u64 0,.int .u64 0]
theorem znY(g n cap:Nat)(a:List Value)(w:World)(hn:2≤n)(o:n≤cap)(j:cap≤9223372036854775807)
  (hg:w.heap[g]?=some (.cells a.toArray 214 (0,0))) (d:a.length=cap*2) (k:∀v∈(a.drop 2).take ((n-1)*2),v.oneCell'=true) :
  Calls Tryz.prog 157 #[.slice (some ⟨g,0,none⟩) n cap,.int .i64 0,.int .i64 1] w fun e w'=>e = .returned (.slice (some ⟨g,0,none⟩) (n-1) cap) ∧
   w'=(w.setRow g (zgR a n).toArray).drew:=by
 obtain⟨i0,f,hz0,l,hz2⟩:=info_parts zf7;have i:((a.drop 2).take ((n-1)*2)).length=(n-1)*2:=by simp;omega
 have happ:∀ty,(Builtin.append_ #[63,63] ty #[.slice (some ⟨g,0,none⟩) 0 cap,.slice (some ⟨g,2,none⟩) (n-1) (cap-1)]).run Tryz.prog w.drew =
   .ok (.slice (some ⟨g,0,none⟩) (n-1) cap) (w.setRow g (splice a 0 ((a.drop 2).take ((n-1)*2))).toArray).drew:=fun ty=>by
  have:=run_append_room (P:=Tryz.prog) w.drew 63 ty 214 i0 Tryz.underlying63 f g 0 cap a.toArray hg ⟨g,2,none⟩ (n-1) (cap-1) _ (by rw[i,l]) (zgG hg 2 ((n-1)*2)) k (by omega) (by rw[i];simp;omega);rw[this];simp[splice];rfl
 obtain⟨h,b⟩:=nm (splice a 0 ((a.drop 2).take ((n-1)*2)));have p:h.length=cap*2:=by rw[←b,length_splice _ _ _ (by rw[i];omega)];exact d
 rw[b]at happ;obtain⟨m,c⟩:=nm (splice h ((n-1)*2) [Value.int .u64 0,Value.int .u64 0]);have hcl:∀ty,(Builtin.clear_ #[63] ty #[.slice (some ⟨g,(n-1)*2,none⟩) (n-(n-1)) (cap-(n-1))]).run Tryz.prog (w.setRow g h.toArray).drew = .ok (.tuple #[]) (w.setRow g m.toArray).drew:=fun ty=>by
  rw[show n-(n-1)=1 by omega,zaJ (P:=Tryz.prog) (w.setRow g h.toArray).drew 63 ty 214 (.agg #[.int .u64 0,.int .u64 0]) 2 Tryz.underlying63 zf8 rfl (by simp[Value.cells,Value.oneCell']) g ((n-1)*2) 1 _ h _ (setRow_heap w g _ _ _ _ hg) (by omega)];rw[show(Builtin.zeroCells (Value.agg #[Value.int .u64 0,Value.int .u64 0]).cells 1).toList=[Value.int .u64 0,Value.int .u64 0]by kernel_rfl,c]
  congr 1
  exact congrArg World.drew (setRow_setRow w g _ _)
 have HC:Hid (zgR a n=m):=by
  show splice (splice _ _ _) _ _=m;rw[b,c]
 have h1:1<cap:=by omega
 have h2:(1:Int)≤n:=by omega
 have h3:n-1<cap:=by omega
 clear b c i;go_enter Tryz.func157,Tryz.ntmps157;go_wp2_with fail;have h5:¬cap=1:=by omega
 go_region_law (refine zF rfl (.tmp 22) (.tmp 25) 63 63 rfl (.slice (some ⟨g,0,none⟩) 0 cap) (.slice (some ⟨g,2,none⟩) (n-1) (cap-1)) (.slice (some ⟨g,0,none⟩) (n-1) cap) (by simp[Act.eval,Act.put]) (by simp[Act.eval,Act.put]) happ ?_)
 go_wp2_with fail;go_ret;exact⟨rfl,by rw[HC.out]⟩
theorem zpK(a:Option Addr)(f i n cap:Nat)(R:Ending→World→Prop)(w:World)(hi:i≤n)(g:n≤cap)(c:cap≤9223372036854775807)
  (b:Calls Tryz.prog 201 #[.slice a n cap,.int .i64 i,.slice (some ⟨f,0,none⟩) 1 1] w fun e w'=>∃v',e = .returned v'∧R (.returned v') w') :
  Calls Tryz.prog 156 #[.slice a n cap,.int .i64 i,.int .i64 i,.slice (some ⟨f,0,none⟩) 1 1] w R:=by
 by_cases hc:i=cap
 ·obtain rfl:n=i:=by omega
  subst hc;cases a;all_goals
   go_enter Tryz.func156,Tryz.ntmps156;go_wp2_with (go_at_call 201;refine b.mono ?_;rintro e w' ⟨v',rfl,d⟩);exact d
 ·have h1:i<cap:=by omega
  cases a;all_goals
   go_enter Tryz.func156,Tryz.ntmps156;go_wp2_with (go_at_call 201;refine b.mono ?_;rintro e w' ⟨v',rfl,d⟩);exact d
def zfC(a:List Value)(i n:Nat)(r:List Value):List Value:=splice (splice a (i*2) r) ((i+1)*2) (Builtin.zeroCells #[.int .u64 0,.int .u64 0] (n-(i+1))).toList
theorem zpL(g m i n cap:Nat)(b:List Value)(r:Nat×Nat)(w:World)(hi:i<n)(s:n≤cap)(_hcap2:cap≤9223372036854775807)
  (hg:w.heap[g]?=some (.cells b.toArray 214 (0,0))) (j:b.length=cap*2) (o:w.heap[m]?=some (.cells [.int .u64 r.1,.int .u64 r.2].toArray 214 (0,0))) :
  Calls Tryz.prog 156 #[.slice (some ⟨g,0,none⟩) n cap,.int .i64 i,.int .i64 n,.slice (some ⟨m,0,none⟩) 1 1] w fun e w'=>e = .returned (.slice (some ⟨g,0,none⟩) (i+1) cap) ∧
   w'=w.setRow g (zfC b i n [.int .u64 r.1,.int .u64 r.2]).toArray:=by
 obtain⟨i0,k,hz0,f,hz2⟩:=info_parts zf7;have happ:∀ty,(Builtin.append_ #[63,63] ty #[.slice (some ⟨g,0,none⟩) i cap,.slice (some ⟨m,0,none⟩) 1 1]).run Tryz.prog w =
   .ok (.slice (some ⟨g,0,none⟩) (i+1) cap) (w.setRow g (splice b (i*2) [Value.int .u64 (r.1:Int),Value.int .u64 (r.2:Int)]).toArray):=fun ty=>by
  have:=run_append_room (P:=Tryz.prog) w 63 ty 214 i0 Tryz.underlying63 k g i cap b.toArray hg ⟨m,0,none⟩ 1 1 [Value.int .u64 (r.1:Int),Value.int .u64 (r.2:Int)] (by rw[f];rfl) (zga o) (by simp[Value.oneCell']) (by omega) (by rw[f];simp;omega);rw[this,f];simp[splice]
 obtain⟨h,c⟩:=nm (splice b (i*2) [Value.int .u64 (r.1:Int),Value.int .u64 (r.2:Int)]);have t:h.length=cap*2:=by rw[←c,length_splice _ _ _ (by simp;omega)];exact j
 rw[c]at happ;obtain⟨l,d⟩:=nm (splice h ((i+1)*2) (Builtin.zeroCells #[Value.int .u64 0,Value.int .u64 0] (n-(i+1))).toList);have p:∀ty,(Builtin.clear_ #[63] ty #[.slice (some ⟨g,(i+1)*2,none⟩) (n-(i+1)) (cap-(i+1))]).run Tryz.prog (w.setRow g h.toArray) = .ok (.tuple #[]) (w.setRow g l.toArray):=fun ty=>by
  rw[zaJ (P:=Tryz.prog) (w.setRow g h.toArray) 63 ty 214 (.agg #[.int .u64 0,.int .u64 0]) 2 Tryz.underlying63 zf8 rfl (by simp[Value.cells,Value.oneCell']) g ((i+1)*2) (n-(i+1)) _ h _ (setRow_heap w g _ _ _ _ hg) (by omega)];rw[show(Value.agg #[Value.int .u64 0,Value.int .u64 0]).cells=#[Value.int .u64 0,Value.int .u64 0]from rfl,d]
  congr 1
  exact setRow_setRow w g _ _
 have u:Hid (zfC b i n [.int .u64 r.1,.int .u64 r.2]=l):=by
  show splice (splice _ _ _) _ _=l;rw[c,d]
 have q:Hid (i+1=n→h=l):=by
  intro e;rw[←d];subst e;simp[splice,Builtin.zeroCells]
 have h1:(i:Int)<n:=by omega
 have h2:((i:Int)==n)=false:=by simp;omega
 have h3:i<cap:=by omega
 clear c d;by_cases a:i+1=n
 ·have h4:decide ((i:Int)+1<n)=false:=by simp;omega
  have v:=q.out a;have HE:Hid (h=l):=v;clear v p;have h5:¬((i:Int)+1<n):=by omega
  go_enter Tryz.func156,Tryz.ntmps156;have Hl:=zb a;clear a;go_wp2_with (at_builtin;refine zm rfl _ _ _ _ rfl _ _ _ rfl rfl happ ?_);go_ret;exact⟨rfl,by rw[u.out,HE.out]⟩
 ·have h5:(i:Int)+1<n:=by omega
  have h6:i+1<cap:=by omega
  clear a;go_enter Tryz.func156,Tryz.ntmps156;go_wp2_with (at_builtin;refine zm rfl _ _ _ _ rfl _ _ _ rfl rfl happ ?_);go_ret;exact⟨rfl,by rw[u.out]⟩
def zgS(a:List Value)(i j n:Nat)(r:List Value):List Value :=
 splice (splice (splice a (i*2) r) ((i+1)*2) (((splice a (i*2) r).drop (j*2)).take ((n-j)*2))) ((i+1+(n-j))*2) (Builtin.zeroCells #[.int .u64 0,.int .u64 0] (n-(i+1+(n-j)))).toList
theorem za1{α : Type}(L:List α)(o k n:Nat)(h:n=o+k):(L.take n).drop o=(L.drop o).take k:=by
 subst h;rw[List.drop_take]
 congr 1
 omega
theorem zpM(g t i j n cap:Nat)(a:List Value)(r:Nat×Nat)(w:World)(hi:i<j)(hj:j<n)(F:n≤cap)(B:cap≤9223372036854775807)
  (hg:w.heap[g]?=some (.cells a.toArray 214 (0,0))) (u:a.length=cap*2) (y:∀v∈a.take (n*2),v.oneCell'=true) (C:w.heap[t]?=some (.cells [.int .u64 r.1,.int .u64 r.2].toArray 214 (0,0))) (_hne:t≠g) :
  Calls Tryz.prog 156 #[.slice (some ⟨g,0,none⟩) n cap,.int .i64 i,.int .i64 j,.slice (some ⟨t,0,none⟩) 1 1] w fun e w'=>e = .returned (.slice (some ⟨g,0,none⟩) (i+1+(n-j)) cap) ∧
   ∃k,w'=(w.setRow g (zgS a i j n [.int .u64 r.1,.int .u64 r.2]).toArray).drewN k:=by
 obtain⟨d,f⟩:=nm (splice a (i*2) [Value.int .u64 (r.1:Int),Value.int .u64 (r.2:Int)]);have z:d.length=cap*2:=by rw[←f,length_splice _ _ _ (by simp;omega)];exact u
 have hc1:∀ty nq,(Builtin.copy_ #[63,63] ty #[.slice (some ⟨g,i*2,none⟩) (i+1+(n-j)-i) (cap-i),.slice (some ⟨t,0,none⟩) 1 1]).run Tryz.prog (w.drewN nq) = .ok (goInt (1:Nat)) ((w.setRow g d.toArray).drewN nq):=fun ty nq=>by
  rw[zaV (P:=Tryz.prog) (w.drewN nq) 63 63 ty 214 2 Tryz.underlying63 zce g (i*2) (i+1+(n-j)-i) (cap-i) t 0 1 1 1 a _ _ _ _ hg C (by omega) (by omega) (by omega) (by simp) (by omega) (by simp[Value.oneCell'])];simp only[List.drop_zero,List.take_succ_cons,List.take_zero,Nat.one_mul,f];rfl
 obtain⟨h,l⟩:=nm (splice d ((i+1)*2) ((d.drop (j*2)).take ((n-j)*2)));have G:h.length=cap*2:=by rw[←l,length_splice _ _ _ (by simp;omega)];exact z
 have q:∀v∈(d.drop (j*2)).take ((n-j)*2),v.oneCell'=true:=by
  intro v H;have e:d.drop (j*2)=a.drop (j*2):=by
   rw[←f];simp only[splice];rw[List.drop_append,List.drop_eq_nil_of_le (by simp;omega),List.nil_append,List.drop_append,List.drop_eq_nil_of_le (by simp;omega),List.nil_append,List.drop_drop]
   congr 1
   simp;omega
  rw[e,←za1 a (j*2) ((n-j)*2) (n*2) (by omega)]at H;exact y v (List.mem_of_mem_drop H)
 have hc2:∀ty nq,(Builtin.copy_ #[63,63] ty #[.slice (some ⟨g,(i+1)*2,none⟩) (n-j) (cap-(i+1)),.slice (some ⟨g,j*2,none⟩) (n-j) (cap-j)]).run Tryz.prog ((w.setRow g d.toArray).drewN nq) =
   .ok (goInt (n-j:Nat)) ((w.setRow g h.toArray).drewN nq):=fun ty nq=>by
  have s:=setRow_heap w g _ d.toArray _ _ hg;rw[zaV (P:=Tryz.prog) ((w.setRow g d.toArray).drewN nq) 63 63 ty 214 2 Tryz.underlying63 zce g ((i+1)*2) (n-j) (cap-(i+1)) g (j*2) (n-j) (cap-j) (n-j) d d _ _ _ s s (by omega) (by omega) (by omega) (by omega) (by omega) q];rw[l]
  congr 1
  exact congrArg (fun x=>World.drewN x nq) (setRow_setRow w g _ _)
 obtain⟨A,m⟩:=nm (splice h ((i+1+(n-j))*2) (Builtin.zeroCells #[Value.int .u64 0,Value.int .u64 0] (n-(i+1+(n-j)))).toList);have D:∀ty nq,(Builtin.clear_ #[63] ty #[.slice (some ⟨g,(i+1+(n-j))*2,none⟩) (n-(i+1+(n-j))) (cap-(i+1+(n-j)))]).run Tryz.prog ((w.setRow g h.toArray).drewN nq) = .ok (.tuple #[]) ((w.setRow g A.toArray).drewN nq):=fun ty nq=>by
  rw[zaJ (P:=Tryz.prog) ((w.setRow g h.toArray).drewN nq) 63 ty 214 (.agg #[.int .u64 0,.int .u64 0]) 2 Tryz.underlying63 zf8 rfl (by simp[Value.cells,Value.oneCell']) g ((i+1+(n-j))*2) (n-(i+1+(n-j))) _ h _ (setRow_heap w g _ _ _ _ hg) (by omega)];rw[show(Value.agg #[Value.int .u64 0,Value.int .u64 0]).cells=#[Value.int .u64 0,Value.int .u64 0]from rfl,m]
  congr 1
  exact congrArg (fun x=>World.drewN x nq) (setRow_setRow w g _ _)
 have I:Hid (zgS a i j n [.int .u64 r.1,.int .u64 r.2]=A):=by
  show splice (splice (splice _ _ _) _ _) _ _=A;rw[f,l,m]
 have E:Hid (i+1+(n-j)=n→h=A):=by
  intro e;rw[←m,e];simp[splice,Builtin.zeroCells]
 clear f l m q y;have h1:(i:Int)<j:=by omega
 have h2:((i:Int)==j)=false:=by simp;omega
 have h3:((j:Int)==n)=false:=by simp;omega
 have h4:(j:Int)<n:=by omega
 have h5:i<cap:=by omega
 have h6:i+1<cap:=by omega
 have h7:j<cap:=by omega
 have h8:¬cap=i+1:=by omega
 have h9:¬cap=j:=by omega
 by_cases b:i+1+(n-j)=cap
 ·have HL:=zb b;have p:n-(i+1+(n-j))=0:=by omega
  have HE:Hid (h=A):=E.out (by omega);have H10:=zb p;have J:∀ty o c nq,(Builtin.clear_ #[63] ty #[.slice (some ⟨g,o,none⟩) (n-(i+1+(n-j))) c]).run Tryz.prog ((w.setRow g h.toArray).drewN nq) = .ok (.tuple #[]) ((w.setRow g h.toArray).drewN nq):=fun ty o c nq=>by
   rw[p];simp[Builtin.clear_,run_underlying Tryz.underlying63]
  clear b p D;go_enter Tryz.func156,Tryz.ntmps156;go_wp2_with fail;go_quiet (fail);go_wp2_with fail
  go_region
  go_wp2_with fail;all_goals
   go_ret;refine⟨?_,_,by rw[I.out,HE.out]⟩
   first|rfl|(rw[←HL.out];rfl)
 ·have p:i+1+(n-j)<cap:=by omega
  clear b;go_enter Tryz.func156,Tryz.ntmps156;go_wp2_with fail;go_quiet (fail);go_wp2_with fail
  go_region
  go_wp2_with fail;go_ret;exact⟨rfl,_,by rw[I.out]⟩
theorem zc7{α : Type}(L:List α)(o:Nat)(cs:List α)(h:o≤L.length):(splice L o cs).take o=L.take o:=by
 simp only[splice];rw[List.take_append_of_le_length (by simp;omega),List.take_take]
 congr 1
 omega
theorem zik{α : Type}(L:List α)(o:Nat)(cs:List α)(k:Nat)(h:o+cs.length≤L.length)(hk:o+cs.length≤k):(splice L o cs).drop k=L.drop k:=by
 simp only[splice];rw[List.drop_append,List.drop_eq_nil_of_le (by simp;omega),List.nil_append,List.drop_append,List.drop_eq_nil_of_le (by simp;omega),List.nil_append,List.drop_drop]
 congr 1
 simp;omega
theorem zbi{α : Type}(L:List α)(o:Nat)(cs:List α)(h:o+cs.length≤L.length):(splice L o cs).take (o+cs.length)=L.take o++cs:=by
 simp only[splice];rw[←List.append_assoc];have:(L.take o++cs).length=o+cs.length:=by simp;omega
 rw[←this,List.take_left]
theorem zil(a:List Value)(i n cap:Nat)(rs:zD)(r:Nat×Nat)(hi:i<n)(hn:n≤cap)(b:a.length=cap*2)(hrs:rs.length=n)(ht:a.take (n*2)=zn rs) :
  (zfC a i n [.int .u64 r.1,.int .u64 r.2]).take ((i+1)*2)=zn (rs.take i++[r]):=by
 have h1:(splice a (i*2) [Value.int .u64 (r.1:Int),Value.int .u64 (r.2:Int)]).length=cap*2:=by rw[length_splice _ _ _ (by simp;omega)];exact b
 unfold zfC;rw[zc7 _ _ _ (by omega)];have e:(i+1)*2=i*2 + [Value.int .u64 (r.1:Int),Value.int .u64 (r.2:Int)].length:=by simp;omega
 rw[e,zbi _ _ _ (by simp;omega),zaw,←zcc,←ht,List.take_take,Nat.min_eq_left (by omega)];rfl
theorem zgc(a:List Value)(i n cap:Nat)(r:Nat×Nat)(hi:i<n)(hn:n≤cap)(b:a.length=cap*2):(zfC a i n [.int .u64 r.1,.int .u64 r.2]).length=cap*2:=by
 have h1:(splice a (i*2) [Value.int .u64 (r.1:Int),Value.int .u64 (r.2:Int)]).length=cap*2:=by rw[length_splice _ _ _ (by simp;omega)];exact b
 unfold zfC;rw[length_splice _ _ _ (by simp[size_zeroCells];omega)];exact h1
theorem zgT(a:List Value)(i j n cap:Nat)(rs:zD)(r:Nat×Nat)(hi:i<j)(hj:j<n)(hn:n≤cap)(b:a.length=cap*2)(hrs:rs.length=n)(c:a.take (n*2)=zn rs) :
  (zgS a i j n [.int .u64 r.1,.int .u64 r.2]).take ((i+1+(n-j))*2)=zn (rs.take i++r::rs.drop j)∧(zgS a i j n [.int .u64 r.1,.int .u64 r.2]).length=cap*2:=by
 have h1:(splice a (i*2) [Value.int .u64 (r.1:Int),Value.int .u64 (r.2:Int)]).length=cap*2:=by rw[length_splice _ _ _ (by simp;omega)];exact b
 have hX:((splice a (i*2) [Value.int .u64 (r.1:Int),Value.int .u64 (r.2:Int)]).drop (j*2)).take ((n-j)*2)=zn (rs.drop j):=by
  rw[zik _ _ _ _ (by simp;omega) (by simp;omega),←za1 a (j*2) ((n-j)*2) (n*2) (by omega),c,zez]
 have hXl:(zn (rs.drop j)).length=(n-j)*2:=by rw[zM];simp;omega
 have h2:(splice (splice a (i*2) [Value.int .u64 (r.1:Int),Value.int .u64 (r.2:Int)]) ((i+1)*2) (zn (rs.drop j))).length=cap*2:=by rw[length_splice _ _ _ (by omega)];exact h1
 unfold zgS;rw[hX];constructor
 ·rw[zc7 _ _ _ (by omega),show(i+1+(n-j))*2=(i+1)*2+(zn (rs.drop j)).length by omega,zbi _ _ _ (by omega)];have e:(i+1)*2=i*2 + [Value.int .u64 (r.1:Int),Value.int .u64 (r.2:Int)].length:=by simp;omega
  rw[e,zbi _ _ _ (by simp;omega),zaw,zn,←zcc,←c,List.take_take,Nat.min_eq_left (by omega)];simp
 ·rw[length_splice _ _ _ (by simp[size_zeroCells];omega)];exact h2
theorem zim(v:Value)(rs:zD)(i j:Nat)(r:Nat×Nat)(d:Nat)(w:World)(hij:i≤j)(hj:j≤rs.length)(l:rs.length≤1099511627776)(b:w.ownsRow 0 214 2 v rs.length (zn rs))
  (f:w.heap[d]?=some (.cells [.int .u64 r.1,.int .u64 r.2].toArray 214 (0,0))) (m:v.ownBlock≠some d) :
  Calls Tryz.prog 156 #[v,.int .i64 i,.int .i64 j,.slice (some ⟨d,0,none⟩) 1 1] w fun e w'=>∃v',e = .returned v'∧w'.ownsRow 0 214 2 v' (rs.take i++r::rs.drop j).length (zn (rs.take i++r::rs.drop j))∧w.grownBy w' v.ownBlock∧zaG w v v':=by
 by_cases o:i=j
 ·subst o;have n:(rs.take i++r::rs.drop i).length=rs.length+1:=by simp;omega
  rw[n];obtain⟨a,cap,rfl,h1,h2,_⟩:=zj b;unfold maxLen at h2;refine zpK a d i _ cap _ w (by omega) h1 (by omega) ?_;refine(zkf _ rs i r d w hj l b f m).mono ?_;rintro e w' ⟨v',rfl,h⟩;exact⟨v',rfl,v',rfl,h⟩
 ·obtain⟨g,cap,c,rfl,hg,h1,h2,h3,h4⟩:=zgb b (by omega);unfold maxLen at h2;have p:d≠g:=fun e=>m (by simp[Value.ownBlock,e])
  by_cases q:j=rs.length
  ·have n:(rs.take i++r::rs.drop j).length=i+1:=by simp;omega
   rw[n];have e0:rs.drop j=[]:=by simp;omega
   rw[e0];subst q;refine(zpL g d i rs.length cap c r w (by omega) h1 (by omega) hg h3 f).mono ?_;rintro e w' ⟨rfl,rfl⟩;refine⟨_,rfl,⟨by simp[zM];omega,.inr ⟨g,cap,_,rfl,Nat.zero_le _,setRow_heap w g _ _ _ _ hg,by omega,by unfold maxLen;omega,?_,?_⟩⟩,⟨rfl,rfl,rfl,by simp,fun k _ hk=>setRow_other w g k _ (fun e=>hk (by simp[Value.ownBlock,e]))⟩,fun k hk=>.inl hk⟩
   ·simpa using zgc c i rs.length cap r (by omega) h1 h3
   ·simpa using zil c i rs.length cap rs r (by omega) h1 h3 rfl h4
  ·have n:(rs.take i++r::rs.drop j).length=i+1+(rs.length-j):=by simp;omega
   rw[n];have s:=zgT c i j rs.length cap rs r (by omega) (by omega) h1 h3 rfl h4;refine(zpM g d i j rs.length cap c r w (by omega) (by omega) h1 (by omega) hg h3 (by rw[h4];exact zdU rs) f p).mono ?_;rintro e w' ⟨rfl,k,rfl⟩;refine⟨_,rfl,⟨by simp[zM];omega,.inr ⟨g,cap,_,rfl,Nat.zero_le _,setRow_heap w g _ _ _ _ hg,by omega,by unfold maxLen;omega,?_,?_⟩⟩,⟨rfl,rfl,rfl,by simp,fun k _ hk=>setRow_other w g k _ (fun e=>hk (by simp[Value.ownBlock,e]))⟩,fun k hk=>.inl hk⟩
   ·simpa using s.2
   ·simpa using s.1
theorem zgU(a:List Value)(n cap:Nat)(rs:zD)(hn:2≤n)(d:n≤cap)(b:a.length=cap*2)(hrs:rs.length=n)(ht:a.take (n*2)=zn rs) :
  (zgR a n).take ((n-1)*2)=zn (rs.drop 1)∧(zgR a n).length=cap*2:=by
 have hX:(a.drop 2).take ((n-1)*2)=zn (rs.drop 1):=by
  rw[←za1 a 2 ((n-1)*2) (n*2) (by omega),ht];exact zez rs 1
 have c:(zn (rs.drop 1)).length=(n-1)*2:=by rw[zM];simp;omega
 have h1:(splice a 0 (zn (rs.drop 1))).length=cap*2:=by rw[length_splice _ _ _ (by omega)];exact b
 unfold zgR;rw[hX];constructor
 ·rw[zc7 _ _ _ (by omega)];have:=zbi a 0 (zn (rs.drop 1)) (by omega);rw[c,Nat.zero_add,List.take_zero,List.nil_append]at this;exact this
 ·rw[length_splice _ _ _ (by rw[h1,show [Value.int IntKind.u64 0,Value.int IntKind.u64 0].length=2 from rfl];omega)];exact h1
theorem zkg(v:Value)(rs:zD)(w:World)(d:2≤rs.length)(b:w.ownsRow 0 214 2 v rs.length (zn rs)) :
  Calls Tryz.prog 157 #[v,.int .i64 0,.int .i64 1] w fun e w'=>∃v',e = .returned v'∧w'.ownsRow 0 214 2 v' (rs.drop 1).length (zn (rs.drop 1))∧w.grownBy w' v.ownBlock∧zaG w v v':=by
 obtain⟨g,cap,a,rfl,hg,h1,h2,h3,h4⟩:=zgb b (by omega);unfold maxLen at h2;have f:=zgU a rs.length cap rs d h1 h3 rfl h4;have c:∀v∈(a.drop 2).take ((rs.length-1)*2),v.oneCell'=true:=by
  intro v h;rw[←za1 a 2 ((rs.length-1)*2) (rs.length*2) (by omega),h4]at h;exact zdU rs v (List.mem_of_mem_drop h)
 refine(znY g rs.length cap a w d h1 (by omega) hg h3 c).mono ?_;rintro e w' ⟨rfl,rfl⟩;have i:(rs.drop 1).length=rs.length-1:=by simp
 rw[i];refine⟨_,rfl,⟨by rw[zM,i],.inr ⟨g,cap,_,rfl,Nat.zero_le _,setRow_heap w g _ _ _ _ hg,by omega,by unfold maxLen;omega,?_,?_⟩⟩,⟨rfl,rfl,rfl,by simp,fun k _ hk=>setRow_other w g k _ (fun e=>hk (by simp[Value.ownBlock,e]))⟩,fun k hk=>.inl hk⟩
 ·simpa using f.2
 ·simpa using f.1
def zel(rs:zD)(lo i:Nat):Bool:=decide (lo≤hiAt rs i+1)
def zaH(rs:zD)(hi i:Nat):Bool:=decide (hi+1<loAt rs i)
theorem zin:zjo 154:=fun args w=>zdn Tryz.func154 (by kernel_rfl) rfl args w
theorem zio:zjo 155:=fun args w=>zdn Tryz.func155 (by kernel_rfl) rfl args w
theorem znZ(rs:zD)(i b o d f lo:Nat)(v:Value)(w:World)
  (hs:w.cell? ⟨d,0,none⟩=some (.pointer (some ⟨b,o,none⟩))) (hn:w.cell? ⟨f,0,none⟩=some (.int .u64 (lo:Int))) (hlo:lo<18446744073709551616)
  (hl:w.cell? ⟨b,o,none⟩=some v) (c:w.ownsRow 0 214 2 v rs.length (zn rs)) (hi:i<rs.length) :
  Calls Tryz.prog 154 #[.int .i64 i,.pointer (some ⟨d,0,none⟩),.pointer (some ⟨f,0,none⟩)] w fun e w'=>e = .returned (.bool (zel rs lo i))∧∃k,w'=w.drewN k:=by
 obtain⟨a,cap,rfl,h1,h2,h3⟩:=zj c;obtain⟨g,rfl⟩:=h3 (by omega);have hr:=(zaI c i hi).2;have hi1:(i:Int)<rs.length:=by omega
 have hi0:0≤(i:Int):=by omega
 unfold maxLen at h2;clear h3;by_cases hc:lo≤hiAt rs i
 ·have hd:decide ((lo:Int)≤hiAt rs i)=true:=by simp;omega
  have hf:zel rs lo i=true:=by simp[zel];omega
  go_enter Tryz.func154,Tryz.ntmps154;go_wp2_with fail;go_quiet (fail);go_wp2_with fail;go_ret;exact⟨by rw[hf];rfl,_,rfl⟩
 ·have hd:decide ((lo:Int)≤hiAt rs i)=false:=by simp;omega
  have hb:0≤(lo:Int)-hiAt rs i:=by omega
  have hb2:(lo:Int)-hiAt rs i<18446744073709551616:=by omega
  have HF:Hid (zel rs lo i=decide ((lo:Int)-hiAt rs i=1)):=by
   show _=_;simp only[zel]
   congr 1
   apply propext;omega
  go_enter Tryz.func154,Tryz.ntmps154;go_wp2_with fail;go_quiet (fail);go_wp2_with fail;go_ret;exact⟨by rw[HF.out];rfl,_,rfl⟩
theorem zn0(rs:zD)(i b o h j c:Nat)(v:Value)(w:World)
  (hs:w.cell? ⟨h,0,none⟩=some (.pointer (some ⟨b,o,none⟩))) (hn:w.cell? ⟨j,0,none⟩=some (.int .u64 (c:Int))) (hb:∀i,i<rs.length→loAt rs i<18446744073709551616)
  (hl:w.cell? ⟨b,o,none⟩=some v) (d:w.ownsRow 0 214 2 v rs.length (zn rs)) (hi:i<rs.length) :
  Calls Tryz.prog 155 #[.int .i64 i,.pointer (some ⟨h,0,none⟩),.pointer (some ⟨j,0,none⟩)] w fun e w'=>e = .returned (.bool (zaH rs c i))∧∃k,w'=w.drewN k:=by
 obtain⟨a,cap,rfl,h1,h2,h3⟩:=zj d;obtain⟨g,rfl⟩:=h3 (by omega);have hr:=(zaI d i hi).1;have hlt:=hb i hi;clear hb;have hi1:(i:Int)<rs.length:=by omega
 have l:0≤(i:Int):=by omega
 unfold maxLen at h2;clear h3;by_cases hc:c<loAt rs i
 ·have hd:decide ((c:Int)<loAt rs i)=true:=by simp;omega
  have hb:0≤(loAt rs i:Int)-c:=by omega
  have hb2:(loAt rs i:Int)-c<18446744073709551616:=by omega
  have f:Hid (zaH rs c i=decide (1<(loAt rs i:Int)-c)):=by
   show _=_;simp only[zaH]
   congr 1
   apply propext;omega
  go_enter Tryz.func155,Tryz.ntmps155;go_wp2_with fail;go_quiet (fail);go_wp2_with fail;go_ret;exact⟨by rw[f.out];rfl,_,rfl⟩
 ·have hd:decide ((c:Int)<loAt rs i)=false:=by simp;omega
  have f:Hid (zaH rs c i=false):=by
   show _=_;simp only[zaH,decide_eq_false_iff_not];omega
  go_enter Tryz.func155,Tryz.ntmps155;go_wp2_with fail;go_quiet (fail);go_wp2_with fail;go_ret;exact⟨by rw[f.out];rfl,_,rfl⟩
end Go.Proofs.YtddfdpbaiedcjaaGreatDoor
