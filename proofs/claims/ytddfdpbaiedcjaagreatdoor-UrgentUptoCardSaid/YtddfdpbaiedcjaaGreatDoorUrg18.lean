/- A part of Urgent's proof. Conditions: none. Part 18 of 32. -/
import Derived.Test.YtddfdpbaiedcjaaGreatDoorUrg17
set_option maxRecDepth 100000
set_option maxHeartbeats 16000000
set_option linter.all false
namespace Go.Proofs.YtddfdpbaiedcjaaGreatDoor
open Go.RowKit
theorem zhq(c:CS)(f:Frm):(c.again f).flight=c.flight:=by
 unfold CS.again;split
 ·rfl
 ·split
  ·rfl
  ·split
   ·rfl
   ·split<;>rfl
theorem zcn:∀(fs:List Frm) (c:CS),(c.agains fs).flight=c.flight
 | [],_=>rfl
 | f::fs,c=>by
  show((c.again f).agains fs).flight=_;rw[zcn fs,zhq]
theorem zeS{c:CS}{fs:List Frm}{k:Nat}{f:Frm}(h:fs[k]?=some f):c.agains (fs.take (k+1))=(c.agains (fs.take k)).again f:=by
 unfold CS.agains;rw[List.take_add_one,h,List.foldl_append];rfl
def zco(tag:Nat→Nat×Nat)(i b:Nat)(W0:World)(V0:CV)(c:CS)(p:Fly)(e:Ending)(W':World):Prop :=
 e = .returned (.bool (c.late p))∧∃tag' V',zt tag i b W0 V0 (if c.late p then c.agains p.fs else c) tag' V' W'
theorem zkx{tag:Nat→Nat×Nat}{i b:Nat}{A:World}{K:CV}{c:CS}{k:Nat→Nat×Nat}{V:CV}{W:World}(h:zt tag i b A K c k V W)(cb:Nat)(q:A.cell? ⟨cb,0,none⟩=some (.pointer (some ⟨b,0,none⟩)))(B:¬zaf i tag cb)
  (p:Fly) (v:Value) (M:(p,v)∈c.flight.zip K.fts) (C:p.n≤zA) (D:p.at_≤zA) (h1:¬p.at_+6≤c.now) (h2:¬p.n+3≤c.largest) :
  Calls Tryz.prog 79 #[.agg #[.int .u64 (p.n:Int),.int .u64 (p.at_:Int),v],.pointer (some ⟨cb,0,none⟩)] W (zco tag i b A K c p):=by
 have f:c.late p=false:=by
  unfold CS.late;simp[h1,h2]
 unfold zco;rw[f];simp only[Bool.false_eq_true,if_false];have HH:=zb h;have E:cb<A.heap.size:=zk q;have N:Hid (∀{c':CS} {tag':Nat→Nat×Nat} {V':CV} {W':World},zt tag i b A K c' tag' V' W'→W'.cell? ⟨cb,0,none⟩=some (.pointer (some ⟨b,0,none⟩))):=zb (fun r=>r.m.cell (a:=⟨cb,0,none⟩) B q);have HP:=zb M;obtain⟨y,d⟩:=nm p.n;obtain⟨z,e⟩:=nm p.at_;obtain⟨fs,F⟩:=nm p.fs;obtain⟨nw,s⟩:=nm c.now;obtain⟨O,t⟩:=nm c.largest;rw[e,s]at h1;rw[d]at C;rw[e]at D;unfold zA at C D;rw[d,t]at h2;rw[d,e];have FT:=h.c.fs (p,v) (by rw[h.ft.2];exact M);obtain⟨l,L,G,-,-⟩:=FT;simp only at L G;rw[F]at L;obtain⟨a,cap,rfl,U,q2,-⟩:=G;have u:l.length=fs.length:=by rw[←L,List.length_map]
 rw[u]at HP U ⊢;have c3:W.cell? ⟨b,3,none⟩=some (.int .u64 (nw:Int)):=by rw[←s];exact h.c.hd (j:=3) rfl
 have H:W.cell? ⟨b,237,none⟩=some (.int .u64 (O:Int)):=by rw[←t];exact h.c.tl (j:=4) rfl
 have I:=N.out h;obtain⟨W1,g⟩:=nm (W.alloc (.cells #[.int .u64 (y:Int),.int .u64 (z:Int),.slice a fs.length cap] 173));have m1:Mod NoB W W1:=by rw[←g];exact(Mod.refl _ _).alloc _
 have R1:=zb (h.mod0 m1);have o1:W1.heap[W.heap.size]?=some (.cells #[.int .u64 (y:Int),.int .u64 (z:Int),.slice a fs.length cap] 173 (0,0)):=by rw[←g];exact heap_alloc_new W _
 obtain⟨P,w⟩:=nm W.heap.size;rw[w]at o1;have z0:=za (o:=0) o1 rfl;have z1:=za (o:=1) o1 rfl;have z2:W1.cell? ⟨P,2,none⟩=some (.slice a fs.length cap):=za (o:=2) o1 rfl;have x3:=m1.cell (a:=⟨b,_,none⟩) (fun x=>x) c3;have Q:=m1.cell (a:=⟨b,_,none⟩) (fun x=>x) H;have R:=m1.cell (a:=⟨cb,_,none⟩) (fun x=>x) I;have S:=zb g;have T:=zb w;have HLL:=zb u;have d1:¬(z:Int)+6≤nw:=by omega
 have y1:IntKind.u64.wrap ((z:Int)+6)=(z:Int)+6:=by rw[IntKind.wrap_u64];omega
 have y2:IntKind.u64.wrap ((y:Int)+3)=(y:Int)+3:=by rw[IntKind.wrap_u64];omega
 have d2:¬(y:Int)+3≤O:=by omega
 clear h M d e F s t h1 f m1 o1 c3 H I g w L u U q2 q B E h2;go_enter Tryz.func79,Tryz.ntmps79;go_upto_region 1 with fail;rw[S.out,T.out];refine zB ?_;refine zl 19 (fun w'=>w'.cell? ⟨P,0,none⟩=some (.int .u64 (y:Int))∧w'.cell? ⟨P,1,none⟩=some (.int .u64 (z:Int))∧w'.cell? ⟨cb,0,none⟩=some (.pointer (some ⟨b,0,none⟩))∧w'.cell? ⟨b,3,none⟩=some (.int .u64 (nw:Int))∧w'.cell? ⟨b,237,none⟩=some (.int .u64 (O:Int))) (⟨z0,z1,R,x3,Q⟩) ?_;refine GI 0 ?_;iterate 19
  refine GS rfl ?_ ?_ ?_;rotate_left
  ·(intro wx J;(try dsimp only at J);obtain⟨f0,f1,fc,f3,f37⟩:=J;go_simp)<;>(try with_reducible rfl)
  try simp only[PS]
 refine zo ?_;refine⟨rfl,?_⟩;go_wp2_with fail;go_ret;exact⟨rfl,k,V,R1.out.mod0 (Mod.refl NoB _).drew⟩
theorem zky{tag:Nat→Nat×Nat}{i b:Nat}{C:World}{M:CV}{c:CS}{z:Nat→Nat×Nat}{V:CV}{W:World}(h:zt tag i b C M c z V W)(cb:Nat)(D:C.cell? ⟨cb,0,none⟩=some (.pointer (some ⟨b,0,none⟩)))(P:¬zaf i tag cb)
  (p:Fly) (v:Value) (hp:(p,v)∈c.flight.zip M.fts) (Q:p.n≤zA) (R:p.at_≤zA) (E:∀k f,p.fs[k]?=some f→zho (c.agains (p.fs.take k)) f) (aj:p.fs.length≤1099511627776) (h1:p.at_+6≤c.now) :
  Calls Tryz.prog 79 #[.agg #[.int .u64 (p.n:Int),.int .u64 (p.at_:Int),v],.pointer (some ⟨cb,0,none⟩)] W (zco tag i b C M c p):=by
 have q:c.late p=true:=by
  unfold CS.late;simp[h1]
 unfold zco;rw[q];simp only[if_true];have HH:=zb h;have S:cb<C.heap.size:=zk D;have T:Hid (∀{c':CS} {tag':Nat→Nat×Nat} {V':CV} {W':World},zt tag i b C M c' tag' V' W'→W'.cell? ⟨cb,0,none⟩=some (.pointer (some ⟨b,0,none⟩))):=zb (fun r=>r.m.cell (a:=⟨cb,0,none⟩) P D);have HP:=zb hp;obtain⟨U,s⟩:=nm p.n;obtain⟨N,d⟩:=nm p.at_;obtain⟨fs,t⟩:=nm p.fs;obtain⟨nw,F⟩:=nm c.now;obtain⟨lg,X⟩:=nm c.largest;rw[d,F]at h1;rw[s]at Q;rw[d]at R;unfold zA at Q R;rw[t]at E aj;rw[s,d,t];have FT:=h.c.fs (p,v) (by rw[h.ft.2];exact hp);obtain⟨l,hl,Z,-,-⟩:=FT;simp only at hl Z;rw[t]at hl;obtain⟨a,cap,rfl,q1,q2,-⟩:=Z;have G:l.length=fs.length:=by rw[←hl,List.length_map]
 rw[G]at HP q1 ⊢;have c3:W.cell? ⟨b,3,none⟩=some (.int .u64 (nw:Int)):=by rw[←F];exact h.c.hd (j:=3) rfl
 have aa:W.cell? ⟨b,237,none⟩=some (.int .u64 (lg:Int)):=by rw[←X];exact h.c.tl (j:=4) rfl
 have ab:=T.out h;obtain⟨W1,y⟩:=nm (W.alloc (.cells #[.int .u64 (U:Int),.int .u64 (N:Int),.slice a fs.length cap] 173));have m1:Mod NoB W W1:=by rw[←y];exact(Mod.refl _ _).alloc _
 have R1:=zb (h.mod0 m1);have o1:W1.heap[W.heap.size]?=some (.cells #[.int .u64 (U:Int),.int .u64 (N:Int),.slice a fs.length cap] 173 (0,0)):=by rw[←y];exact heap_alloc_new W _
 obtain⟨pb,H⟩:=nm W.heap.size;rw[H]at o1;have z0:=za (o:=0) o1 rfl;have z1:=za (o:=1) o1 rfl;have z2:W1.cell? ⟨pb,2,none⟩=some (.slice a fs.length cap):=za (o:=2) o1 rfl;have x3:=m1.cell (a:=⟨b,_,none⟩) (fun x=>x) c3;have ac:=m1.cell (a:=⟨b,_,none⟩) (fun x=>x) aa;have I:=m1.cell (a:=⟨cb,_,none⟩) (fun x=>x) ab;have ak:=zb y;have al:=zb H;have HLL:=zb G;have am:=zb E;have ao:=zb t;have d1:(N:Int)+6≤nw:=by omega
 have y1:IntKind.u64.wrap ((N:Int)+6)=(N:Int)+6:=by rw[IntKind.wrap_u64];omega
 have y2:IntKind.u64.wrap ((U:Int)+3)=(U:Int)+3:=by rw[IntKind.wrap_u64];omega
 clear h hp s d t F X h1 q m1 o1 c3 aa ab y H hl G q1 q2 D P S E;go_enter Tryz.func79,Tryz.ntmps79;go_upto_region 1 with fail;rw[ak.out,al.out];refine zB ?_;refine zl 19 (fun w'=>w'.cell? ⟨pb,0,none⟩=some (.int .u64 (U:Int))∧w'.cell? ⟨pb,1,none⟩=some (.int .u64 (N:Int))∧w'.cell? ⟨cb,0,none⟩=some (.pointer (some ⟨b,0,none⟩))∧w'.cell? ⟨b,3,none⟩=some (.int .u64 (nw:Int))∧w'.cell? ⟨b,237,none⟩=some (.int .u64 (lg:Int))) (⟨z0,z1,I,x3,ac⟩) ?_;refine GI 0 ?_;iterate 9
  refine GS rfl ?_ ?_ ?_;rotate_left
  ·(intro wx u;(try dsimp only at u);obtain⟨f0,f1,fc,f3,ap⟩:=u;go_simp)<;>(try with_reducible rfl)
  try simp only[PS]
 refine GI 9 ?_;iterate 8
  refine GU rfl (fun _ _ _ h=>nomatch h.1) ?_;try simp only[PS]
 refine GI 17 ?_;iterate 2
  refine GS rfl ?_ ?_ ?_;rotate_left
  ·(intro wx u;(try dsimp only at u);obtain⟨f0,f1,fc,f3,ap⟩:=u;go_simp)<;>(try with_reducible rfl)
  try simp only[PS]
 refine zo ?_;refine⟨rfl,?_⟩;go_wp2_with fail
 go_loopw [29] (fun iv wr=>∃(k:Nat) (tag':Nat→Nat×Nat) (V':CV),k≤fs.length∧iv = .int .i64 (k:Int)∧Hid (zt tag i b C M (c.agains (fs.take k)) tag' V' wr)) (fun iv _=>fs.length-(intOf iv).toNat)
 case atStart=>exact⟨0,z,V,Nat.zero_le _,rfl,zb (R1.out.mod0 (Mod.refl NoB _).drew)⟩
 case round =>
  clear z0 z1 z2 x3 ac I R1;obtain⟨k,A,V1,hk,rfl,HR⟩:=hrel;by_cases hlt:k<fs.length
  ·obtain⟨l1,w,B,-,-⟩:=HR.out.c.fs (p,.slice a fs.length cap) (by rw[zcn,HR.out.ft.2];exact HP.out);simp only at w B;rw[ao.out]at w;obtain⟨a',au,ad,_,_,h3⟩:=B;have ae:l1.length=fs.length:=by rw[←w,List.length_map]
   rw[ae]at ad;cases ad;obtain⟨⟨f,rv⟩,J⟩:∃fr,l1[k]?=some fr:=⟨l1[k],List.getElem?_eq_getElem (by omega)⟩;have K:fs[k]?=some f:=by rw[←w,List.getElem?_map,J];rfl
   obtain⟨⟨g,o,rfl,hc⟩,L⟩:=h3 k (f,rv) J;simp only at hc L;obtain⟨ra,rc,rfl,_⟩:=id L;obtain⟨hc0,hc1,hc2,hc3,hc4,hc5,hc6,hc7,hc8,aq⟩:=zbG hc;obtain⟨Y,O⟩:=nm (wr.alloc (.cells (zh f (.slice ra f.rngs.length rc)) 65));have mY:Mod NoB wr Y:=by rw[←O];exact(Mod.refl _ _).alloc _
   have af:zi Y wr.heap.size f (.slice ra f.rngs.length rc):=by rw[←O];exact heap_alloc_new wr _
   obtain⟨y0,y1,y2,y3,y4,y5,y6,y7,y8,y9⟩:=af.cells;have ka:=zhp (HR.out.mod0 mY) f (.slice ra f.rngs.length rc) (am.out k f K) ⟨_,_,_,rfl⟩;have HT:=zb (zeS (c:=c) K);rw[←HT.out]at ka;have I:=T.out (HR.out.mod0 mY);obtain⟨RL,ah⟩:=nm f.rngs.length;rw[ah]at aq O y9 ka;unfold zh at O ka;have KA:=zb ka;clear h3 J hc L mY af ka K w ah;go_upto_region 6 with fail;try rw[O]
   clear O;go_wp2_with fail;refine(KA.out).mono ?_;rintro e w6 ⟨rfl,ai,V6,r6⟩;have R6:=zb r6;clear r6;go_wp2_with fail;go_roundw
   case rel=>exact⟨k+1,ai,V6,by omega,by go_num,R6⟩
   case measure=>simp[intOf];omega
  ·have hk2:fs.length=k:=by omega
   have ar:Hid (zt tag i b C M (c.agains fs) A V1 wr):=zb (by have:=HR.out;rwa [List.take_of_length_le (by omega)]at this);go_wp2_with fail;go_ret;exact⟨rfl,A,V1,ar.out⟩
theorem zkz{tag:Nat→Nat×Nat}{i b:Nat}{B:World}{M:CV}{c:CS}{y:Nat→Nat×Nat}{V:CV}{W:World}(h:zt tag i b B M c y V W)(cb:Nat)(C:B.cell? ⟨cb,0,none⟩=some (.pointer (some ⟨b,0,none⟩)))(Q:¬zaf i tag cb)
  (p:Fly) (v:Value) (hp:(p,v)∈c.flight.zip M.fts) (R:p.n≤zA) (S:p.at_≤zA) (D:∀k f,p.fs[k]?=some f→zho (c.agains (p.fs.take k)) f) (aj:p.fs.length≤1099511627776) (h1:¬p.at_+6≤c.now) (h2:p.n+3≤c.largest) :
  Calls Tryz.prog 79 #[.agg #[.int .u64 (p.n:Int),.int .u64 (p.at_:Int),v],.pointer (some ⟨cb,0,none⟩)] W (zco tag i b B M c p):=by
 have s:c.late p=true:=by
  unfold CS.late;simp[h1,h2]
 unfold zco;rw[s];simp only[if_true];have HH:=zb h;have T:cb<B.heap.size:=zk C;have U:Hid (∀{c':CS} {tag':Nat→Nat×Nat} {V':CV} {W':World},zt tag i b B M c' tag' V' W'→W'.cell? ⟨cb,0,none⟩=some (.pointer (some ⟨b,0,none⟩))):=zb (fun r=>r.m.cell (a:=⟨cb,0,none⟩) Q C);have HP:=zb hp;obtain⟨N,d⟩:=nm p.n;obtain⟨O,q⟩:=nm p.at_;obtain⟨fs,t⟩:=nm p.fs;obtain⟨nw,E⟩:=nm c.now;obtain⟨lg,F⟩:=nm c.largest;rw[q,E]at h1;rw[d]at R;rw[q]at S;unfold zA at R S;rw[d,F]at h2;rw[t]at D aj;rw[d,q,t];have FT:=h.c.fs (p,v) (by rw[h.ft.2];exact hp);obtain⟨l,hl,X,-,-⟩:=FT;simp only at hl X;rw[t]at hl;obtain⟨a,cap,rfl,q1,q2,-⟩:=X;have G:l.length=fs.length:=by rw[←hl,List.length_map]
 rw[G]at HP q1 ⊢;have c3:W.cell? ⟨b,3,none⟩=some (.int .u64 (nw:Int)):=by rw[←E];exact h.c.hd (j:=3) rfl
 have Z:W.cell? ⟨b,237,none⟩=some (.int .u64 (lg:Int)):=by rw[←F];exact h.c.tl (j:=4) rfl
 have aa:=U.out h;obtain⟨W1,w⟩:=nm (W.alloc (.cells #[.int .u64 (N:Int),.int .u64 (O:Int),.slice a fs.length cap] 173));have m1:Mod NoB W W1:=by rw[←w];exact(Mod.refl _ _).alloc _
 have R1:=zb (h.mod0 m1);have o1:W1.heap[W.heap.size]?=some (.cells #[.int .u64 (N:Int),.int .u64 (O:Int),.slice a fs.length cap] 173 (0,0)):=by rw[←w];exact heap_alloc_new W _
 obtain⟨pb,H⟩:=nm W.heap.size;rw[H]at o1;have z0:=za (o:=0) o1 rfl;have z1:=za (o:=1) o1 rfl;have z2:W1.cell? ⟨pb,2,none⟩=some (.slice a fs.length cap):=za (o:=2) o1 rfl;have x3:=m1.cell (a:=⟨b,_,none⟩) (fun x=>x) c3;have ab:=m1.cell (a:=⟨b,_,none⟩) (fun x=>x) Z;have I:=m1.cell (a:=⟨cb,_,none⟩) (fun x=>x) aa;have ak:=zb w;have al:=zb H;have HLL:=zb G;have am:=zb D;have ao:=zb t;have d1:¬(O:Int)+6≤nw:=by omega
 have y1:IntKind.u64.wrap ((O:Int)+6)=(O:Int)+6:=by rw[IntKind.wrap_u64];omega
 have y2:IntKind.u64.wrap ((N:Int)+3)=(N:Int)+3:=by rw[IntKind.wrap_u64];omega
 have d2:(N:Int)+3≤lg:=by omega
 clear h hp d q t E F h1 s m1 o1 c3 Z aa w H hl G q1 q2 C Q T h2 D;go_enter Tryz.func79,Tryz.ntmps79;go_upto_region 1 with fail;rw[ak.out,al.out];refine zB ?_;refine zl 19 (fun w'=>w'.cell? ⟨pb,0,none⟩=some (.int .u64 (N:Int))∧w'.cell? ⟨pb,1,none⟩=some (.int .u64 (O:Int))∧w'.cell? ⟨cb,0,none⟩=some (.pointer (some ⟨b,0,none⟩))∧w'.cell? ⟨b,3,none⟩=some (.int .u64 (nw:Int))∧w'.cell? ⟨b,237,none⟩=some (.int .u64 (lg:Int))) (⟨z0,z1,I,x3,ab⟩) ?_;refine GI 0 ?_;iterate 19
  refine GS rfl ?_ ?_ ?_;rotate_left
  ·(intro wx ac;(try dsimp only at ac);obtain⟨f0,f1,fc,f3,f37⟩:=ac;go_simp)<;>(try with_reducible rfl)
  try simp only[PS]
 refine zo ?_;refine⟨rfl,?_⟩;go_wp2_with fail
 go_loopw [29] (fun iv wr=>∃(k:Nat) (tag':Nat→Nat×Nat) (V':CV),k≤fs.length∧iv = .int .i64 (k:Int)∧Hid (zt tag i b B M (c.agains (fs.take k)) tag' V' wr)) (fun iv _=>fs.length-(intOf iv).toNat)
 case atStart=>exact⟨0,y,V,Nat.zero_le _,rfl,zb (R1.out.mod0 (Mod.refl NoB _).drew)⟩
 case round =>
  clear z0 z1 z2 x3 ab I R1;obtain⟨k,z,V1,hk,rfl,HR⟩:=hrel;by_cases hlt:k<fs.length
  ·obtain⟨l1,u,A,-,-⟩:=HR.out.c.fs (p,.slice a fs.length cap) (by rw[zcn,HR.out.ft.2];exact HP.out);simp only at u A;rw[ao.out]at u;obtain⟨a',ar,ad,_,_,h3⟩:=A;have ae:l1.length=fs.length:=by rw[←u,List.length_map]
   rw[ae]at ad;cases ad;obtain⟨⟨f,rv⟩,J⟩:∃fr,l1[k]?=some fr:=⟨l1[k],List.getElem?_eq_getElem (by omega)⟩;have K:fs[k]?=some f:=by rw[←u,List.getElem?_map,J];rfl
   obtain⟨⟨g,o,rfl,hc⟩,L⟩:=h3 k (f,rv) J;simp only at hc L;obtain⟨ra,rc,rfl,_⟩:=id L;obtain⟨hc0,hc1,hc2,hc3,hc4,hc5,hc6,hc7,hc8,ap⟩:=zbG hc;obtain⟨Y,P⟩:=nm (wr.alloc (.cells (zh f (.slice ra f.rngs.length rc)) 65));have mY:Mod NoB wr Y:=by rw[←P];exact(Mod.refl _ _).alloc _
   have af:zi Y wr.heap.size f (.slice ra f.rngs.length rc):=by rw[←P];exact heap_alloc_new wr _
   obtain⟨y0,y1,y2,y3,y4,y5,y6,y7,y8,y9⟩:=af.cells;have ka:=zhp (HR.out.mod0 mY) f (.slice ra f.rngs.length rc) (am.out k f K) ⟨_,_,_,rfl⟩;have HT:=zb (zeS (c:=c) K);rw[←HT.out]at ka;have I:=U.out (HR.out.mod0 mY);obtain⟨RL,ah⟩:=nm f.rngs.length;rw[ah]at ap P y9 ka;unfold zh at P ka;have KA:=zb ka;clear h3 J hc L mY af ka K u ah;go_upto_region 6 with fail;try rw[P]
   clear P;go_wp2_with fail;refine(KA.out).mono ?_;rintro e w6 ⟨rfl,ai,V6,r6⟩;have R6:=zb r6;clear r6;go_wp2_with fail;go_roundw
   case rel=>exact⟨k+1,ai,V6,by omega,by go_num,R6⟩
   case measure=>simp[intOf];omega
  ·have hk2:fs.length=k:=by omega
   have aq:Hid (zt tag i b B M (c.agains fs) z V1 wr):=zb (by have:=HR.out;rwa [List.take_of_length_le (by omega)]at this);go_wp2_with fail;go_ret;exact⟨rfl,z,V1,aq.out⟩
theorem zmr{tag:Nat→Nat×Nat}{i b:Nat}{o:World}{q:CV}{c:CS}{j:Nat→Nat×Nat}{V:CV}{W:World}(h:zt tag i b o q c j V W)(cb:Nat)(a:o.cell? ⟨cb,0,none⟩=some (.pointer (some ⟨b,0,none⟩)))(d:¬zaf i tag cb)
  (p:Fly) (v:Value) (r:(p,v)∈c.flight.zip q.fts) (e:p.n≤zA) (g:p.at_≤zA) (l:c.late p=true→∀k f,p.fs[k]?=some f→zho (c.agains (p.fs.take k)) f) (m:p.fs.length≤1099511627776) :
  Calls Tryz.prog 79 #[.agg #[.int .u64 (p.n:Int),.int .u64 (p.at_:Int),v],.pointer (some ⟨cb,0,none⟩)] W (zco tag i b o q c p):=by
 by_cases h1:p.at_+6≤c.now
 ·exact zky h cb a d p v r e g (l (by simp[CS.late,h1])) m h1
 ·by_cases h2:p.n+3≤c.largest
  ·exact zkz h cb a d p v r e g (l (by simp[CS.late,h2])) m h1 h2
  ·exact zkx h cb a d p v r e g h1 h2
structure zqN(J:Nat→List (Fly×Value)→World→Prop)(N g:Nat):Prop where
 box:∀k R w w',J k R w→Mod NoB w w'→J k R w'
 len:∀k R w,J k R w→R.length=N
 rd:∀k R w,J k R w→∀(j:Nat) (x:Fly×Value),R[j]?=some x→w.cell? ⟨g,j*3,none⟩=some (.int .u64 (x.1.n:Int))∧w.cell? ⟨g,j*3+1,none⟩=some (.int .u64 (x.1.at_:Int))∧w.cell? ⟨g,j*3+2,none⟩=some x.2
def zps(J:Nat→List (Fly×Value)→World→Prop)(del:Fly→Bool)(L:List (Fly×Value))(e:Ending)(w':World):Prop :=
 (∃k:Nat,e = .returned (.int .i64 (k:Int))∧k<L.length∧(∀x∈L.take k,del x.1=false)∧(∀x,L[k]?=some x→del x.1=true)∧J (k+1) L w') ∨
 (e = .returned (.int .i64 (-1))∧(∀x∈L,del x.1=false)∧J L.length L w')
theorem zkA(J:Nat→List (Fly×Value)→World→Prop)(del:Fly→Bool)(L:List (Fly×Value))(N g cap cb:Nat)(a:Option Addr)(u:L.length=N)(hNb:N≤1099511627776)(y:0<N→a=some ⟨g,0,none⟩)(z:zqN J N g)
  (c:∀k w x,J k L w→L[k]?=some x→Calls Tryz.prog 79 #[.agg #[.int .u64 (x.1.n:Int),.int .u64 (x.1.at_:Int),x.2],.pointer (some ⟨cb,0,none⟩)] w (fun e w'=>e = .returned (.bool (del x.1))∧J (k+1) L w'))
  (w:World) (h0:J 0 L w) :
  Calls Tryz.prog 139 #[.slice a N cap,.func (.func 79) #[] #[.pointer (some ⟨cb,0,none⟩)]] w (zps J del L):=by
 have HJ:=zb z;have HC:=zb c;have H0:=zb h0;have HA:=zb y;have i:=zb u;clear z c h0 y u;go_enter Tryz.func139,Tryz.ntmps139;go_wp2_with fail
 go_loopw [8] (fun o wr=>∃k:Nat,k≤N∧o = .int .i64 (k:Int)∧Hid (J k L wr∧∀x∈L.take k,del x.1=false)) (fun o _=>N-(intOf o).toNat)
 case atStart=>exact⟨0,Nat.zero_le _,rfl,zb ⟨H0.out,fun x b=>by simp at b⟩⟩
 case round =>
  obtain⟨k,hk,rfl,h⟩:=hrel;by_cases d:k<N
  ·obtain⟨x,b⟩:∃x,L[k]?=some x:=⟨L[k]'(by rw[i.out];exact d),List.getElem?_eq_getElem (by rw[i.out];exact d)⟩;obtain⟨x0,x1,x2⟩:=HJ.out.rd k L wr h.out.1 k x b;have p:=HA.out (by omega);subst p;have m:=HC.out k wr x h.out.1 b;have A:=zb b;obtain⟨⟨fn,q,r⟩,v⟩:=x;simp only at x0 x1 x2 m;obtain⟨dv,f⟩:=nm (del ⟨fn,q,r⟩);rw[f]at m;have j:=zb f;have B:=zb m;clear m b f;cases dv with
   | true =>
    go_wp2_with (go_at_call 79;with_reducible refine(B.out).mono ?_;rintro e w6 ⟨rfl,l⟩;have s:=zb l;clear l);go_ret;exact .inl ⟨k,rfl,by rw[i.out];exact d,h.out.2,fun x b=>by rw[A.out]at b;cases b;exact j.out,s.out⟩
   | false =>
    go_wp2_with (go_at_call 79;with_reducible refine(B.out).mono ?_;rintro e w6 ⟨rfl,l⟩;have s:=zb l;clear l);go_roundw
    case rel =>
     refine⟨k+1,by omega,by go_num,zb ⟨s.out,fun x b=>?_⟩⟩;rw[List.take_add_one,A.out]at b;rcases List.mem_append.1 b with b|b
     ·exact h.out.2 x b
     ·simp at b;subst b;exact j.out
    case measure=>simp[intOf];omega
  ·have t:k=N:=by omega
   go_wp2_with fail;go_ret;exact .inr ⟨rfl,fun x b=>h.out.2 x (by rwa [List.take_of_length_le (by rw[i.out];omega)]),by rw[i.out,←t];exact h.out.1⟩
theorem ziX(J:Nat→List (Fly×Value)→World→Prop)(del:Fly→Bool)(L:List (Fly×Value))(N g cap lb cb:Nat)(a:Option Addr)(u:L.length=N)(hNb:N≤1099511627776)(y:0<N→a=some ⟨g,0,none⟩)(z:zqN J N g)
  (c:∀k w x,J k L w→L[k]?=some x→Calls Tryz.prog 205 #[.agg #[.int .u64 (x.1.n:Int),.int .u64 (x.1.at_:Int),x.2],.pointer (some ⟨lb,0,none⟩),.pointer (some ⟨cb,0,none⟩)] w (fun e w'=>e = .returned (.bool (del x.1))∧J (k+1) L w'))
  (w:World) (h0:J 0 L w) :
  Calls Tryz.prog 139 #[.slice a N cap,.func (.func 205) #[] #[.pointer (some ⟨lb,0,none⟩),.pointer (some ⟨cb,0,none⟩)]] w (zps J del L):=by
 have HJ:=zb z;have HC:=zb c;have H0:=zb h0;have HA:=zb y;have i:=zb u;clear z c h0 y u;go_enter Tryz.func139,Tryz.ntmps139;go_wp2_with fail
 go_loopw [8] (fun o wr=>∃k:Nat,k≤N∧o = .int .i64 (k:Int)∧Hid (J k L wr∧∀x∈L.take k,del x.1=false)) (fun o _=>N-(intOf o).toNat)
 case atStart=>exact⟨0,Nat.zero_le _,rfl,zb ⟨H0.out,fun x b=>by simp at b⟩⟩
 case round =>
  obtain⟨k,hk,rfl,h⟩:=hrel;by_cases d:k<N
  ·obtain⟨x,b⟩:∃x,L[k]?=some x:=⟨L[k]'(by rw[i.out];exact d),List.getElem?_eq_getElem (by rw[i.out];exact d)⟩;obtain⟨x0,x1,x2⟩:=HJ.out.rd k L wr h.out.1 k x b;have p:=HA.out (by omega);subst p;have m:=HC.out k wr x h.out.1 b;have A:=zb b;obtain⟨⟨fn,q,r⟩,v⟩:=x;simp only at x0 x1 x2 m;obtain⟨dv,f⟩:=nm (del ⟨fn,q,r⟩);rw[f]at m;have j:=zb f;have B:=zb m;clear m b f;cases dv with
   | true =>
    go_wp2_with (go_at_call 205;with_reducible refine(B.out).mono ?_;rintro e w6 ⟨rfl,l⟩;have s:=zb l;clear l);go_ret;exact .inl ⟨k,rfl,by rw[i.out];exact d,h.out.2,fun x b=>by rw[A.out]at b;cases b;exact j.out,s.out⟩
   | false =>
    go_wp2_with (go_at_call 205;with_reducible refine(B.out).mono ?_;rintro e w6 ⟨rfl,l⟩;have s:=zb l;clear l);go_roundw
    case rel =>
     refine⟨k+1,by omega,by go_num,zb ⟨s.out,fun x b=>?_⟩⟩;rw[List.take_add_one,A.out]at b;rcases List.mem_append.1 b with b|b
     ·exact h.out.2 x b
     ·simp at b;subst b;exact j.out
    case measure=>simp[intOf];omega
  ·have t:k=N:=by omega
   go_wp2_with fail;go_ret;exact .inr ⟨rfl,fun x b=>h.out.2 x (by rwa [List.take_of_length_le (by rw[i.out];omega)]),by rw[i.out,←t];exact h.out.1⟩
structure DelK(J:Nat→List (Fly×Value)→World→Prop)(N g cap:Nat):Prop where
 obj:∀k R w,0<N→J k R w→∃cur,w.heap[g]?=some (.cells cur 173 (0,0))
 sl:∀k R w (x:Fly×Value),J k R w→x∈R→∃a n c,x.2 = .slice a n c
 st:∀k R w (i:Nat) (x:Fly×Value),J k R w→i<N→x∈R→J k (R.set i x) (((w.setCell ⟨g,i*3,none⟩ (.int .u64 (x.1.n:Int))).setCell ⟨g,i*3+1,none⟩ (.int .u64 (x.1.at_:Int))).setCell ⟨g,i*3+2,none⟩ x.2)
 cl:∀k R w (i:Nat),J k R w→i<N→∃w2 R2,(∀ty,(Builtin.clear_ #[123] ty #[.slice (some ⟨g,i*3,none⟩) (N-i) (cap-i)]).run Tryz.prog w = .ok (.tuple #[]) w2)∧J k R2 w2∧R2.take i=R.take i
def zjM(J:Nat→List (Fly×Value)→World→Prop)(del:Fly→Bool)(L:List (Fly×Value))(a:Option Addr)(cap:Nat)(e:Ending)(w':World):Prop :=
 ∃(i:Nat) (R:List (Fly×Value)),e = .returned (.slice a i cap)∧i≤L.length∧J L.length R w'∧R.take i=L.filter (fun x => !del x.1)
theorem zcp{del:Fly→Bool}{l:List (Fly×Value)}(h:∀x∈l,del x.1=false):l.filter (fun x => !del x.1)=l :=
 List.filter_eq_self.2 (fun x hx=>by rw[h x hx];rfl)
theorem zde{α : Type}{l:List α}{i:Nat}{x : α}(h:i<l.length):(l.set i x).take (i+1)=l.take i++[x]:=by
 rw[List.take_add_one,List.take_set_of_le (by omega),List.getElem?_set_self h];rfl
theorem zdf{α : Type}{l:List α}{i j:Nat}{x : α}(h:i<j):(l.set i x).drop j=l.drop j:=by
 rw[List.drop_set,if_pos h]
theorem ziY(J:Nat→List (Fly×Value)→World→Prop)(del:Fly→Bool)(L:List (Fly×Value))(N g cap cb:Nat)(a:Option Addr)(hN:L.length=N)(aa:N≤1099511627776)(al:N≤cap)(ab:cap≤maxLen)(ha:0<N→a=some ⟨g,0,none⟩)(hJ:zqN J N g)(hK:DelK J N g cap)
  (d:∀k w x,J k L w→L[k]?=some x→Calls Tryz.prog 79 #[.agg #[.int .u64 (x.1.n:Int),.int .u64 (x.1.at_:Int),x.2],.pointer (some ⟨cb,0,none⟩)] w (fun e w'=>e = .returned (.bool (del x.1))∧J (k+1) L w'))
  (b:∀k R w o x,J k R w→R[k]?=some x→L[k]?=some x→Calls Tryz.prog 79 #[.agg #[.int .u64 (x.1.n:Int),.int .u64 (x.1.at_:Int),x.2],.pointer (some ⟨cb,0,none⟩)] (w.alloc o) (fun e w'=>e = .returned (.bool (del x.1))∧J (k+1) R w'∧w'.heap[w.heap.size]?=(w.alloc o).heap[w.heap.size]?))
  (w:World) (h0:J 0 L w) :
  Calls Tryz.prog 78 #[.slice a N cap,.func (.func 79) #[] #[.pointer (some ⟨cb,0,none⟩)]] w (zjM J del L a cap):=by
 have ki:=zkA J del L N g cap cb a hN aa ha hJ d w h0;unfold maxLen at ab;have U:=zb hJ;have H:=zb hK;have HC:=zb b;have HA:=zb ha;have V:=zb hN;have KI:=zb ki;clear hJ hK d b h0 ha hN ki;go_enter Tryz.func78,Tryz.ntmps78;go_wp2_with fail;refine(KI.out).mono ?_;clear KI;rintro e w1 (⟨k,rfl,z,f,h,I⟩|⟨rfl,f,h⟩)
 ·have ac:k<N:=by rw[←V.out];exact z
  have ad:=HA.out (by omega);subst ad;have r:=zb I;have K:Hid (L.take k=(L.take (k+1)).filter (fun x => !del x.1)):=zb (by
   obtain⟨x,s⟩:∃x,L[k]?=some x:=⟨L[k],List.getElem?_eq_getElem z⟩;rw[List.take_add_one,s,List.filter_append,zcp f];simp[h x s])
  have d1:((k:Int) == -1)=false:=by rw[beq_eq_false_iff_ne];omega
  clear z f h I;go_wp2_with fail
  go_loopw [5,6] (fun iv jv wr=>∃(i j:Nat) (R:List (Fly×Value)),iv = .int .i64 (i:Int)∧jv = .int .i64 (j:Int)∧i<j∧j≤N∧Hid (J j R wr∧R.take i=(L.take j).filter (fun x => !del x.1)∧R.drop j=L.drop j)) (fun _ jv _=>N-(intOf jv).toNat)
  case atStart=>exact⟨k,k+1,L,rfl,by go_num,by omega,by omega,zb ⟨r.out,K.out,rfl⟩⟩
  case round =>
   clear r K d1 ac;obtain⟨i,j,R,rfl,rfl,ae,hj,q⟩:=hrel;have M:=U.out.len j R wr q.out.1;by_cases hlt:j<N
   ·obtain⟨x,s⟩:∃x,R[j]?=some x:=⟨R[j]'(by omega),List.getElem?_eq_getElem (by omega)⟩;have A:L[j]?=some x:=by
     have h1:=congrArg (fun l=>l[0]?) q.out.2.2;simp only[List.getElem?_drop,Nat.add_zero]at h1;rw[←h1];exact s
    obtain⟨x0,x1,x2⟩:=U.out.rd j R wr q.out.1 j x s;obtain⟨Y,W⟩:=nm (wr.alloc (.cells #[.int .u64 (x.1.n:Int),.int .u64 (x.1.at_:Int),x.2] 173));have E:=HC.out j R wr (.cells #[.int .u64 (x.1.n:Int),.int .u64 (x.1.at_:Int),x.2] 173) x q.out.1 s A;have F:(wr.alloc (.cells #[.int .u64 (x.1.n:Int),.int .u64 (x.1.at_:Int),x.2] 173)).heap[wr.heap.size]?=some (.cells #[.int .u64 (x.1.n:Int),.int .u64 (x.1.at_:Int),x.2] 173 (0,0)):=heap_alloc_new wr _;rw[F]at E;rw[W]at E F;have y0:Y.cell? ⟨wr.heap.size,0,none⟩=some (.int .u64 (x.1.n:Int)):=za F rfl;have y1:Y.cell? ⟨wr.heap.size,1,none⟩=some (.int .u64 (x.1.at_:Int)):=za F rfl;have y2:Y.cell? ⟨wr.heap.size,2,none⟩=some x.2:=za F rfl;have HX:=zb (And.intro s A);obtain⟨X,Z,vc,hv⟩:=H.out.sl _ _ _ x q.out.1 (List.mem_of_getElem? s);obtain⟨⟨fn,m,t⟩,v⟩:=x;simp only at hv;subst hv;simp only at x0 x1 x2 E y0 y1 y2 W;obtain⟨dv,B⟩:=nm (del ⟨fn,m,t⟩);rw[B]at E;have af:=zb B;have KC:=zb E;have C:=zb M;obtain⟨yb,D⟩:=nm wr.heap.size;rw[D]at y0 y1 y2 KC;clear E s A B F M;go_upto_region 8 with fail;try rw[W]
    try rw[D]
    clear W D;go_wp2_with fail;refine(KC.out).mono ?_;rintro e y ⟨rfl,G,o6⟩;have z0:y.cell? ⟨yb,0,none⟩=some (.int .u64 (fn:Int)):=za o6 rfl;have z1:y.cell? ⟨yb,1,none⟩=some (.int .u64 (m:Int)):=za o6 rfl;have z2:y.cell? ⟨yb,2,none⟩=some (.slice X Z vc):=za o6 rfl;have J6:=zb G;have u:i<N:=by omega
    have O:Hid ((L.take (j+1)).filter (fun x => !del x.1)=(L.take j).filter (fun x => !del x.1)++(if dv then []else [(⟨fn,m,t⟩,.slice X Z vc)])):=zb (by
     rw[List.take_add_one,HX.out.2,List.filter_append]
     congr 1
     have:=af.out;cases dv<;>simp[this])
    have P:Hid (R.drop (j+1)=L.drop (j+1)):=zb (by
     have h1:=congrArg (List.drop 1) q.out.2.2;simpa [List.drop_drop]using h1)
    clear KC y0 y1 y2 x0 x1 x2 o6;cases dv with
    | true =>
     clear G;go_wp2_with fail;go_roundw
     case rel=>exact⟨i,j+1,R,rfl,by go_num,by omega,by omega,zb ⟨J6.out,by rw[O.out,q.out.2.1];simp,P.out⟩⟩
     case measure=>simp[intOf];omega
    | false =>
     obtain⟨cur,c⟩:=H.out.obj _ _ _ (by omega) G;obtain⟨xi,Q⟩:∃xi,R[i]?=some xi:=⟨R[i]'(by rw[C.out];exact u),List.getElem?_eq_getElem (by rw[C.out];exact u)⟩;obtain⟨w0,w1',w2'⟩:=U.out.rd _ R y G i xi Q;have f1:∀p,y.frozen? ⟨g,p,none⟩=false:=fun p=>zd c
     have f2:∀p1 v1 p,(y.setCell ⟨g,p1,none⟩ v1).frozen? ⟨g,p,none⟩=false:=fun p1 v1 p=>zd (zc c)
     have f3:∀p1 v1 p2 v2 p,((y.setCell ⟨g,p1,none⟩ v1).setCell ⟨g,p2,none⟩ v2).frozen? ⟨g,p,none⟩=false:=fun p1 v1 p2 v2 p=>zd (zc (zc c))
     have J7:=zb (H.out.st _ R y i (⟨fn,m,t⟩,.slice X Z vc) G u (List.mem_of_getElem? HX.out.1));clear G c Q;go_wp2_with fail;go_roundw
     case rel =>
      refine⟨i+1,j+1,R.set i (⟨fn,m,t⟩,.slice X Z vc),by go_num,by go_num,by omega,by omega,zb ⟨J7.out,?_,?_⟩⟩
      ·rw[zde (by rw[C.out];exact u),O.out,q.out.2.1];rfl
      ·rw[zdf (by omega),P.out]
     case measure=>simp[intOf];omega
   ·have ah:j=N:=by omega
    subst ah;obtain⟨w2,R2,kcl,j2,t2⟩:=H.out.cl j R wr i q.out.1 ae;have ai:=zb j2;have aj:=zb t2;have e1:¬cap=i:=by omega
    have d1:i≤cap:=by omega
    clear j2 t2;have HL:=V.out;have S:R2.take i=L.filter (fun x => !del x.1):=by
     rw[aj.out,q.out.2.1,List.take_of_length_le (by omega)]
    have ak:=zb S;have T:=zb HL;clear HL S;go_wp2_with fail;go_ret;exact⟨i,R2,rfl,by rw[T.out];omega,by rw[T.out];exact ai.out,ak.out⟩
 ·clear HC U H;have r:=zb h;have HF:=zb (zcp f);clear f h;go_wp2_with fail;go_ret;exact⟨N,L,rfl,by rw[V.out];exact Nat.le_refl _,r.out,by rw[HF.out,←V.out,List.take_of_length_le (Nat.le_refl _)]⟩
theorem zhr(J:Nat→List (Fly×Value)→World→Prop)(del:Fly→Bool)(L:List (Fly×Value))(N g cap lb cb:Nat)(a:Option Addr)(hN:L.length=N)(aa:N≤1099511627776)(al:N≤cap)(ab:cap≤maxLen)(ha:0<N→a=some ⟨g,0,none⟩)(hJ:zqN J N g)(hK:DelK J N g cap)
  (d:∀k w x,J k L w→L[k]?=some x→Calls Tryz.prog 205 #[.agg #[.int .u64 (x.1.n:Int),.int .u64 (x.1.at_:Int),x.2],.pointer (some ⟨lb,0,none⟩),.pointer (some ⟨cb,0,none⟩)] w (fun e w'=>e = .returned (.bool (del x.1))∧J (k+1) L w'))
  (b:∀k R w o x,J k R w→R[k]?=some x→L[k]?=some x→Calls Tryz.prog 205 #[.agg #[.int .u64 (x.1.n:Int),.int .u64 (x.1.at_:Int),x.2],.pointer (some ⟨lb,0,none⟩),.pointer (some ⟨cb,0,none⟩)] (w.alloc o) (fun e w'=>e = .returned (.bool (del x.1))∧J (k+1) R w'∧w'.heap[w.heap.size]?=(w.alloc o).heap[w.heap.size]?))
  (w:World) (h0:J 0 L w) :
  Calls Tryz.prog 78 #[.slice a N cap,.func (.func 205) #[] #[.pointer (some ⟨lb,0,none⟩),.pointer (some ⟨cb,0,none⟩)]] w (zjM J del L a cap):=by
 have ki:=ziX J del L N g cap lb cb a hN aa ha hJ d w h0;unfold maxLen at ab;have U:=zb hJ;have H:=zb hK;have HC:=zb b;have HA:=zb ha;have V:=zb hN;have KI:=zb ki;clear hJ hK d b h0 ha hN ki;go_enter Tryz.func78,Tryz.ntmps78;go_wp2_with fail;refine(KI.out).mono ?_;clear KI;rintro e w1 (⟨k,rfl,z,f,h,I⟩|⟨rfl,f,h⟩)
 ·have ac:k<N:=by rw[←V.out];exact z
  have ad:=HA.out (by omega);subst ad;have r:=zb I;have K:Hid (L.take k=(L.take (k+1)).filter (fun x => !del x.1)):=zb (by
   obtain⟨x,s⟩:∃x,L[k]?=some x:=⟨L[k],List.getElem?_eq_getElem z⟩;rw[List.take_add_one,s,List.filter_append,zcp f];simp[h x s])
  have d1:((k:Int) == -1)=false:=by rw[beq_eq_false_iff_ne];omega
  clear z f h I;go_wp2_with fail
  go_loopw [5,6] (fun iv jv wr=>∃(i j:Nat) (R:List (Fly×Value)),iv = .int .i64 (i:Int)∧jv = .int .i64 (j:Int)∧i<j∧j≤N∧Hid (J j R wr∧R.take i=(L.take j).filter (fun x => !del x.1)∧R.drop j=L.drop j)) (fun _ jv _=>N-(intOf jv).toNat)
  case atStart=>exact⟨k,k+1,L,rfl,by go_num,by omega,by omega,zb ⟨r.out,K.out,rfl⟩⟩
  case round =>
   clear r K d1 ac;obtain⟨i,j,R,rfl,rfl,ae,hj,q⟩:=hrel;have M:=U.out.len j R wr q.out.1;by_cases hlt:j<N
   ·obtain⟨x,s⟩:∃x,R[j]?=some x:=⟨R[j]'(by omega),List.getElem?_eq_getElem (by omega)⟩;have A:L[j]?=some x:=by
     have h1:=congrArg (fun l=>l[0]?) q.out.2.2;simp only[List.getElem?_drop,Nat.add_zero]at h1;rw[←h1];exact s
    obtain⟨x0,x1,x2⟩:=U.out.rd j R wr q.out.1 j x s;obtain⟨Y,W⟩:=nm (wr.alloc (.cells #[.int .u64 (x.1.n:Int),.int .u64 (x.1.at_:Int),x.2] 173));have E:=HC.out j R wr (.cells #[.int .u64 (x.1.n:Int),.int .u64 (x.1.at_:Int),x.2] 173) x q.out.1 s A;have F:(wr.alloc (.cells #[.int .u64 (x.1.n:Int),.int .u64 (x.1.at_:Int),x.2] 173)).heap[wr.heap.size]?=some (.cells #[.int .u64 (x.1.n:Int),.int .u64 (x.1.at_:Int),x.2] 173 (0,0)):=heap_alloc_new wr _;rw[F]at E;rw[W]at E F;have y0:Y.cell? ⟨wr.heap.size,0,none⟩=some (.int .u64 (x.1.n:Int)):=za F rfl;have y1:Y.cell? ⟨wr.heap.size,1,none⟩=some (.int .u64 (x.1.at_:Int)):=za F rfl;have y2:Y.cell? ⟨wr.heap.size,2,none⟩=some x.2:=za F rfl;have HX:=zb (And.intro s A);obtain⟨X,Z,vc,hv⟩:=H.out.sl _ _ _ x q.out.1 (List.mem_of_getElem? s);obtain⟨⟨fn,m,t⟩,v⟩:=x;simp only at hv;subst hv;simp only at x0 x1 x2 E y0 y1 y2 W;obtain⟨dv,B⟩:=nm (del ⟨fn,m,t⟩);rw[B]at E;have af:=zb B;have KC:=zb E;have C:=zb M;obtain⟨yb,D⟩:=nm wr.heap.size;rw[D]at y0 y1 y2 KC;clear E s A B F M;go_upto_region 8 with fail;try rw[W]
    try rw[D]
    clear W D;go_wp2_with fail;refine(KC.out).mono ?_;rintro e y ⟨rfl,G,o6⟩;have z0:y.cell? ⟨yb,0,none⟩=some (.int .u64 (fn:Int)):=za o6 rfl;have z1:y.cell? ⟨yb,1,none⟩=some (.int .u64 (m:Int)):=za o6 rfl;have z2:y.cell? ⟨yb,2,none⟩=some (.slice X Z vc):=za o6 rfl;have J6:=zb G;have u:i<N:=by omega
    have O:Hid ((L.take (j+1)).filter (fun x => !del x.1)=(L.take j).filter (fun x => !del x.1)++(if dv then []else [(⟨fn,m,t⟩,.slice X Z vc)])):=zb (by
     rw[List.take_add_one,HX.out.2,List.filter_append]
     congr 1
     have:=af.out;cases dv<;>simp[this])
    have P:Hid (R.drop (j+1)=L.drop (j+1)):=zb (by
     have h1:=congrArg (List.drop 1) q.out.2.2;simpa [List.drop_drop]using h1)
    clear KC y0 y1 y2 x0 x1 x2 o6;cases dv with
    | true =>
     clear G;go_wp2_with fail;go_roundw
     case rel=>exact⟨i,j+1,R,rfl,by go_num,by omega,by omega,zb ⟨J6.out,by rw[O.out,q.out.2.1];simp,P.out⟩⟩
     case measure=>simp[intOf];omega
    | false =>
     obtain⟨cur,c⟩:=H.out.obj _ _ _ (by omega) G;obtain⟨xi,Q⟩:∃xi,R[i]?=some xi:=⟨R[i]'(by rw[C.out];exact u),List.getElem?_eq_getElem (by rw[C.out];exact u)⟩;obtain⟨w0,w1',w2'⟩:=U.out.rd _ R y G i xi Q;have f1:∀p,y.frozen? ⟨g,p,none⟩=false:=fun p=>zd c
     have f2:∀p1 v1 p,(y.setCell ⟨g,p1,none⟩ v1).frozen? ⟨g,p,none⟩=false:=fun p1 v1 p=>zd (zc c)
     have f3:∀p1 v1 p2 v2 p,((y.setCell ⟨g,p1,none⟩ v1).setCell ⟨g,p2,none⟩ v2).frozen? ⟨g,p,none⟩=false:=fun p1 v1 p2 v2 p=>zd (zc (zc c))
     have J7:=zb (H.out.st _ R y i (⟨fn,m,t⟩,.slice X Z vc) G u (List.mem_of_getElem? HX.out.1));clear G c Q;go_wp2_with fail;go_roundw
     case rel =>
      refine⟨i+1,j+1,R.set i (⟨fn,m,t⟩,.slice X Z vc),by go_num,by go_num,by omega,by omega,zb ⟨J7.out,?_,?_⟩⟩
      ·rw[zde (by rw[C.out];exact u),O.out,q.out.2.1];rfl
      ·rw[zdf (by omega),P.out]
     case measure=>simp[intOf];omega
   ·have ah:j=N:=by omega
    subst ah;obtain⟨w2,R2,kcl,j2,t2⟩:=H.out.cl j R wr i q.out.1 ae;have ai:=zb j2;have aj:=zb t2;have e1:¬cap=i:=by omega
    have d1:i≤cap:=by omega
    clear j2 t2;have HL:=V.out;have S:R2.take i=L.filter (fun x => !del x.1):=by
     rw[aj.out,q.out.2.1,List.take_of_length_le (by omega)]
    have ak:=zb S;have T:=zb HL;clear HL S;go_wp2_with fail;go_ret;exact⟨i,R2,rfl,by rw[T.out];omega,by rw[T.out];exact ai.out,ak.out⟩
 ·clear HC U H;have r:=zb h;have HF:=zb (zcp f);clear f h;go_wp2_with fail;go_ret;exact⟨N,L,rfl,by rw[V.out];exact Nat.le_refl _,r.out,by rw[HF.out,←V.out,List.take_of_length_le (Nat.le_refl _)]⟩
theorem zt.refl{tag:Nat→Nat×Nat}{i b:Nat}{W0:World}{V0:CV}{c:CS}{tag':Nat→Nat×Nat}{a:CV}{W':World}(h:zt tag i b W0 V0 c tag' a W'):zt tag' i b W' a c tag' a W' :=
 ⟨h.c,Ext.same h.e.out (Mod.refl NoB W'),Mod.refl _ _,h.p,⟨rfl,rfl⟩⟩
theorem zt.trans{tag:Nat→Nat×Nat}{i b:Nat}{d:World}{V0 V1:CV}{c c2:CS}{tag' tag2:Nat→Nat×Nat}{V' a:CV}{W' W2:World}(h:zt tag i b d V0 c tag' V' W')(k:zt tag' i b W' V1 c2 tag2 a W2):zt tag i b d a c2 tag2 a W2 :=
 ⟨k.c,h.e.trans k.e h.m.size,zan h.e h.m k.m,h.p,⟨rfl,rfl⟩⟩
theorem zay{α β : Type}:∀(l:List (α × β)),(l.map (·.1)).zip (l.map (·.2))=l
 | []=>rfl
 | x::l=>by simp[zay l]
theorem zaF(x:Fly×Value)(l:List (Fly×Value)):zu (x::l)=(.int .u64 (x.1.n:Int))::(.int .u64 (x.1.at_:Int))::x.2::zu l:=rfl
theorem zms:∀(R:List (Fly×Value)) (i:Nat) (x:Fly×Value),i<R.length→zu (R.set i x)=(((zu R).set (i*3) (.int .u64 (x.1.n:Int))).set (i*3+1) (.int .u64 (x.1.at_:Int))).set (i*3+2) x.2
 | [],_,_,h=>by simp at h
 | y::R,0,x,_=>by simp[zaF]
 | y::R,i+1,x,h=>by
  have ih:=zms R i x (by simpa using h);rw[List.set_cons_succ,zaF,zaF,ih,show(i+1)*3=i*3+3 by omega];simp[List.set_cons_succ]
theorem zmt:∀(R:List (Fly×Value)) (j:Nat) (x:Fly×Value),R[j]?=some x→(zu R)[j*3]?=some (.int .u64 (x.1.n:Int))∧(zu R)[j*3+1]?=some (.int .u64 (x.1.at_:Int))∧(zu R)[j*3+2]?=some x.2
 | [],j,x,h=>by simp at h
 | y::R,0,x,h=>by
  simp at h;subst h;simp[zaF]
 | y::R,j+1,x,h=>by
  have ih:=zmt R j x (by simpa using h);rw[zaF,show(j+1)*3=j*3+3 by omega];simpa using ih
theorem zX(R:List (Fly×Value)):(zu R).length=R.length*3:=by
 induction R with
 | nil=>rfl
 | cons x R ih =>
  rw[zaF];simp only[List.length_cons,ih];omega
theorem zbS(A B:List (Fly×Value)):zu (A++B)=zu A++zu B:=by simp[zu]
theorem zdF{w:World}{N g cap:Nat}{xs:List Value}(h:w.ownsRow 0 173 3 (.slice (some ⟨g,0,none⟩) N cap) N xs):∃cur,w.heap[g]?=some (.cells cur 173 (0,0))∧N≤cap∧cap≤maxLen∧cur.size=cap*3∧cur.toList.take (N*3)=xs:=by
 rcases h.2 with⟨e,_⟩|⟨g',a,cur,e,_,h1,h2,h3,h4,h5⟩
 ·cases e
 ·cases e;exact⟨cur,h1,h2,h3,h4,h5⟩
theorem zjN{w:World}{N g cap i:Nat}{R:List (Fly×Value)}(x:Fly×Value)(h:w.ownsRow 0 173 3 (.slice (some ⟨g,0,none⟩) N cap) N (zu R))(hR:R.length=N)(hi:i<N) :
  (((w.setCell ⟨g,i*3,none⟩ (.int .u64 (x.1.n:Int))).setCell ⟨g,i*3+1,none⟩ (.int .u64 (x.1.at_:Int))).setCell ⟨g,i*3+2,none⟩ x.2).ownsRow 0 173 3 (.slice (some ⟨g,0,none⟩) N cap) N (zu (R.set i x)):=by
 obtain⟨cur,h1,h2,h3,h4,h5⟩:=zdF h;refine⟨by rw[zX,List.length_set,hR],.inr ⟨g,cap,_,rfl,Nat.zero_le _,zc (zc (zc h1)),h2,h3,by simp[h4],?_⟩⟩;rw[zms R i x (by omega),←h5];simp[List.take_set]
theorem zfJ{w:World}{N g cap:Nat}{R:List (Fly×Value)}(h:w.ownsRow 0 173 3 (.slice (some ⟨g,0,none⟩) N cap) N (zu R))(hR:R.length=N)(j:Nat)(x:Fly×Value)(e:R[j]?=some x) :
  w.cell? ⟨g,j*3,none⟩=some (.int .u64 (x.1.n:Int))∧w.cell? ⟨g,j*3+1,none⟩=some (.int .u64 (x.1.at_:Int))∧w.cell? ⟨g,j*3+2,none⟩=some x.2:=by
 obtain⟨d,h1,h2,h3,h4,h5⟩:=zdF h;have hj:j<N:=by
  have:=(List.getElem?_eq_some_iff.1 e).1;omega
 obtain⟨a,b,c⟩:=zmt R j x e;have hc:∀q v,q<N*3→(zu R)[q]?=some v→d[q]?=some v:=fun q v hq f=>by
  rw[←h5,List.getElem?_take_of_lt hq,Array.getElem?_toList]at f;exact f
 exact⟨za h1 (hc _ _ (by omega) a),za h1 (hc _ _ (by omega) b),za h1 (hc _ _ (by omega) c)⟩
theorem zeT{w:World}{N g cap n:Nat}{R:List (Fly×Value)}(h:w.ownsRow 0 173 3 (.slice (some ⟨g,0,none⟩) N cap) N (zu R))(b:R.length=N)(c:n≤N) :
  w.ownsRow 0 173 3 (.slice (some ⟨g,0,none⟩) n cap) n (zu (R.take n)):=by
 obtain⟨a,h1,h2,h3,h4,h5⟩:=zdF h;refine⟨by rw[zX,List.length_take,b,Nat.min_eq_left c],.inr ⟨g,cap,a,rfl,Nat.zero_le _,h1,by omega,h3,h4,?_⟩⟩;have h6:zu R=zu (R.take n)++zu (R.drop n):=by rw[←zbS,List.take_append_drop]
 have h7:(zu (R.take n)).length=n*3:=by rw[zX,List.length_take,b,Nat.min_eq_left c]
 have h8:a.toList.take (n*3)=(a.toList.take (N*3)).take (n*3):=by rw[List.take_take,Nat.min_eq_left (by omega)]
 rw[h8,h5,h6,List.take_append_of_le_length (by omega),List.take_of_length_le (by omega)]
theorem zg.fly{tag:Nat→Nat×Nat}{i b g:Nat}{c:CS}{V:CV}{W W':World}{R':List (Fly×Value)}(h:zg tag i b c V W)(m:Mod (fun q=>q=g) W W')(hg:V.ft.ownBlock=some g)(d:W'.ownsRow 0 173 3 V.ft R'.length (zu R'))(f:∀p∈R',zjz tag (i,5) W p.2 p.1.fs) :
  zg tag i b { c with flight:=R'.map (·.1) } { V with fts:=R'.map (·.2) } W':=by
 have a:=h.tft g hg;have j:b≠g:=fun e=>by
  rw[←e,h.tb]at a;simp at a
 refine h.build (R:=fun r=>r=4) m (fun q l=>⟨4,rfl,by rw[show q=g from l];exact a⟩) (fun _ _=>rfl) ?_ (.inl ⟨rfl,rfl,rfl,by omega,by omega⟩) (fun k hk=>.inl ⟨rfl,rfl,by omega⟩) (fun k hk=>.inl ⟨rfl,rfl,by omega⟩) (fun k hk=>.inl ⟨rfl,rfl,by omega⟩) (fun k hk=>.inl ⟨rfl,rfl,by omega⟩) (fun k hk=>.inl ⟨rfl,rfl,by omega⟩) (.inr ⟨?_,?_,?_,?_⟩) (.inl ⟨rfl,rfl,by omega⟩) (.inl ⟨rfl,rfl,by omega⟩) (.inl ⟨rfl,rfl,by omega⟩)
 ·exact(m.obj j h.obj)
 ·simp only[List.length_map,zay];exact d
 ·simp
 ·simp only[zay];intro p hp;exact(f p hp).mod m (fun q l e=>by rw[show q=g from l,a]at e;simp at e) (fun _ e=>e)
 ·exact h.tft
def CS.fly(c:CS)(l:List Fly):CS:={ c with flight:=l }
theorem zmu(c:CS)(l:List Fly)(f:Frm):(c.fly l).again f=(c.again f).fly l:=by
 unfold CS.again CS.fly;split
 ·rfl
 ·split
  ·rfl
  ·split
   ·rfl
   ·split<;>rfl
theorem zd0:∀(fs:List Frm) (c:CS) (l:List Fly),(c.fly l).agains fs=(c.agains fs).fly l
 | [],_,_=>rfl
 | f::fs,c,l=>by
  show((c.fly l).again f).agains fs=((c.again f).agains fs).fly l;rw[zmu,zd0 fs]
theorem zkB(c:CS)(f:Frm)(p:Fly):(c.again f).late p=c.late p:=by
 unfold CS.again CS.late;split
 ·rfl
 ·split
  ·rfl
  ·split
   ·rfl
   ·split<;>rfl
theorem zdg:∀(fs:List Frm) (c:CS) (p:Fly),(c.agains fs).late p=c.late p
 | [],_,_=>rfl
 | f::fs,c,p=>by
  show((c.again f).agains fs).late p=_;rw[zdg fs,zkB]
def CS.lose1(c:CS)(p:Fly):CS:=if c.late p then c.agains p.fs else c
def CS.loses(c:CS)(l:List Fly):CS:=l.foldl CS.lose1 c
theorem zkC(c:CS)(p q:Fly):(c.lose1 p).late q=c.late q:=by
 unfold CS.lose1;split
 ·exact zdg _ _ _
 ·rfl
theorem zfK:∀(l:List Fly) (c:CS) (q:Fly),(c.loses l).late q=c.late q
 | [],_,_=>rfl
 | p::l,c,q=>by
  show((c.lose1 p).loses l).late q=_;rw[zfK l,zkC]
theorem zmv(c:CS)(l:List Fly)(p:Fly):(c.fly l).lose1 p=(c.lose1 p).fly l:=by
 unfold CS.lose1;rw[show(c.fly l).late p=c.late p from rfl];split
 ·exact zd0 _ _ _
 ·rfl
theorem zkD(c:CS)(l:List Fly)(k:Nat)(p:Fly)(h:l[k]?=some p):c.loses (l.take (k+1))=(c.loses (l.take k)).lose1 p:=by
 unfold CS.loses;rw[List.take_add_one,h,List.foldl_append];rfl
theorem ziZ(c:CS):c.lose=(c.loses c.flight).fly (c.flight.filter fun p => !c.late p):=by
 have h:∀(l:List Fly) (d:CS),(∀q,d.late q=c.late q)→l.foldl (fun c p=>if c.late p then c.agains p.fs else c) d=d.loses l:=by
  intro l
  induction l with
  | nil=>intro d _;rfl
  | cons p l ih =>
   intro d hd;show l.foldl _ (if d.late p then d.agains p.fs else d)=(d.lose1 p).loses l;exact ih _ (fun q=>by
    split
    ·rw[zdg,hd]
    ·exact hd q)
 unfold CS.lose;rw[h c.flight c (fun _=>rfl)];rfl
theorem zho.fly{c:CS}{f:Frm}(h:zho c f)(l:List Fly):zho (c.fly l) f :=
 ⟨fun e=>⟨(h.k4 e).lt,(h.k4 e).st,(h.k4 e).sent,(h.k4 e).came,(h.k4 e).end_,(h.k4 e).dl⟩,h.k3,h.k6⟩
theorem zoE(c:CS)(l:List Fly)(f:Frm):(c.fly l).ackF f=(c.ackF f).fly l:=by
 unfold CS.ackF CS.fly;split<;>rfl
theorem zeU:∀(fs:List Frm) (c:CS) (l:List Fly),fs.foldl CS.ackF (c.fly l)=(fs.foldl CS.ackF c).fly l
 | [],_,_=>rfl
 | f::fs,c,l=>by
  show fs.foldl CS.ackF ((c.fly l).ackF f)=(fs.foldl CS.ackF (c.ackF f)).fly l;rw[zoE,zeU fs]
theorem zoF(c:CS)(rs:zD)(l:List Fly)(p:Fly):(c.fly l).ackP rs p=(c.ackP rs p).fly l:=by
 unfold CS.ackP;split
 ·exact zeU _ _ _
 ·rfl
def CS.ackPs(c:CS)(rs:zD)(l:List Fly):CS:=l.foldl (fun c p=>c.ackP rs p) c
theorem zmw(c:CS)(rs:zD)(l:List Fly)(k:Nat)(p:Fly)(h:l[k]?=some p):c.ackPs rs (l.take (k+1))=(c.ackPs rs (l.take k)).ackP rs p:=by
 unfold CS.ackPs;rw[List.take_add_one,h,List.foldl_append];rfl
theorem zi0(c:CS)(f:Frm):(c.ackF f).flight=c.flight:=by
 unfold CS.ackF;split<;>rfl
theorem zed:∀(fs:List Frm) (c:CS),(fs.foldl CS.ackF c).flight=c.flight
 | [],_=>rfl
 | f::fs,c=>by
  show(fs.foldl CS.ackF (c.ackF f)).flight=_;rw[zed fs,zi0]
theorem zkE{c:CS}{fs:List Frm}{k:Nat}{f:Frm}(h:fs[k]?=some f):(fs.take (k+1)).foldl CS.ackF c=((fs.take k).foldl CS.ackF c).ackF f:=by
 rw[List.take_add_one,h,List.foldl_append];rfl
theorem zoG(c:CS)(rs:zD)(h:¬c.next≤hiAt rs 0):c.acked rs=(0,(((({ c with largest:=max c.largest (hiAt rs 0) }:CS).ackPs rs c.flight).fly (c.flight.filter fun p => !zb9 rs p)).lose)):=by
 unfold CS.acked;rw[if_neg h];rfl
structure zeV(c:CS):Prop where
 sz:∀p∈c.flight,p.n≤zA∧p.at_≤zA∧p.fs.length≤1099511627776
 ag:∀(k:Nat) p,c.flight[k]?=some p→c.late p=true→∀(j:Nat) f,p.fs[j]?=some f→zho ((c.loses (c.flight.take k)).agains (p.fs.take j)) f
def zbV(tag:Nat→Nat×Nat)(i b:Nat)(W0:World)(c:CS)(a:Option Addr)(N cap:Nat)(k:Nat)(R:List (Fly×Value))(w:World):Prop :=
 R.length=N∧∃tag' V',zt tag i b W0 V' ((c.loses (c.flight.take k)).fly (R.map (·.1))) tag' V' w∧V'.ft = .slice a N cap∧V'.fts=R.map (·.2)
theorem zbV.row{tag:Nat→Nat×Nat}{i b:Nat}{W0:World}{c:CS}{a:Option Addr}{N cap k:Nat}{R:List (Fly×Value)}{w:World}(h:zbV tag i b W0 c a N cap k R w):w.ownsRow 0 173 3 (.slice a N cap) N (zu R):=by
 obtain⟨hl,tag',V',r,h1,h2⟩:=h;have:=r.c.ft;rw[h1,h2]at this;simp only[CS.fly,List.length_map,zay,hl]at this;exact this
theorem zbV.mod0{tag:Nat→Nat×Nat}{i b:Nat}{d:World}{c:CS}{a:Option Addr}{N cap k:Nat}{R:List (Fly×Value)}{w w':World}(h:zbV tag i b d c a N cap k R w)(m:Mod NoB w w'):zbV tag i b d c a N cap k R w':=by
 obtain⟨hl,tag',V',r,h1,h2⟩:=h;exact⟨hl,tag',V',r.mod0 m,h1,h2⟩
theorem zbV.del{tag:Nat→Nat×Nat}{i b:Nat}{W0:World}{c:CS}{a:Option Addr}{N cap g:Nat}(ha:0<N→a=some ⟨g,0,none⟩):zqN (zbV tag i b W0 c a N cap) N g:=by
 refine⟨fun k R w w' h m=>h.mod0 m,fun k R w h=>h.1,fun k R w h j x d=>?_⟩;have hj:0<N:=by
  have:=(List.getElem?_eq_some_iff.1 d).1;have:=h.1;omega
 have e:=h.row;rw[ha hj]at e;exact zfJ e h.1 j x d
theorem zbV.ask{tag:Nat→Nat×Nat}{i b cb:Nat}{y:World}{c:CS}{a:Option Addr}{N cap k:Nat}{R:List (Fly×Value)}{w o:World}(h:zbV tag i b y c a N cap k R w)(ok:zeV c)(s:y.cell? ⟨cb,0,none⟩=some (.pointer (some ⟨b,0,none⟩)))(d:¬zaf i tag cb)(m:Mod NoB w o)(x:Fly×Value)(hx:R[k]?=some x)(z:c.flight[k]?=some x.1) :
  Calls Tryz.prog 79 #[.agg #[.int .u64 (x.1.n:Int),.int .u64 (x.1.at_:Int),x.2],.pointer (some ⟨cb,0,none⟩)] o (fun e w'=>e = .returned (.bool (c.late x.1))∧zbV tag i b y c a N cap (k+1) R w'∧∀q,w.heap.size≤q→q<o.heap.size→w'.heap[q]?=o.heap[q]?):=by
 obtain⟨hl,tag',V',r,h1,h2⟩:=h;have A:=r.mod0 m;have B:cb<y.heap.size:=zk s;have t:o.cell? ⟨cb,0,none⟩=some (.pointer (some ⟨b,0,none⟩)):=A.m.cell (a:=⟨cb,0,none⟩) d s;have u:¬zaf i tag' cb:=by unfold zaf at d ⊢;rw[r.e.old cb B];exact d
 have v:x.1∈c.flight:=List.mem_of_getElem? z;obtain⟨s1,s2,s3⟩:=ok.sz _ v;have g:∀q,((c.loses (c.flight.take k)).fly (R.map (·.1))).late q=c.late q:=fun q=>zfK (c.flight.take k) c q
 have kc:=zmr A.refl cb t u x.1 x.2 (by rw[h2];simp only[CS.fly,zay];exact List.mem_of_getElem? hx) s1 s2 (fun e j f hf=>by
  rw[g]at e;rw[zd0];exact(ok.ag k x.1 z e j f hf).fly _) s3
 refine kc.mono ?_;rintro e w' ⟨rfl,tag2,V2,l⟩;rw[g]at l ⊢;have C:(if c.late x.1=true then((c.loses (c.flight.take k)).fly (R.map (·.1))).agains x.1.fs else(c.loses (c.flight.take k)).fly (R.map (·.1)))=(c.loses (c.flight.take (k+1))).fly (R.map (·.1)):=by
  rw[zkD c c.flight k x.1 z,←zmv];unfold CS.lose1;rw[g]
 rw[C]at l;refine⟨rfl,⟨hl,tag2,V2,A.trans l,l.ft.1.trans h1,l.ft.2.trans h2⟩,fun q hq D=>?_⟩;refine l.m.block q D (fun hc=>?_);have:=hc.1;rw[r.e.out q hq]at this;have z:=r.p;simp at this;omega
theorem zjO(w:World):(zeroValue 173).run Tryz.prog w = .ok (.agg #[.int .u64 0,.int .u64 0,.slice none 0 0]) w:=by kernel_rfl
def zi2:Fly×Value:=(⟨0,0,[]⟩,.slice none 0 0)
theorem zjz.none(tag:Nat→Nat×Nat)(t:Nat×Nat)(w:World):zjz tag t w (.slice none 0 0) [] :=
 ⟨[],rfl,⟨Option.none,0,rfl,Nat.le_refl _,by unfold maxLen;omega,fun i fr h=>by simp at h⟩,fun g h=>by simp[Value.blk]at h,fun fr h=>by simp at h⟩
theorem zfL(n:Nat):(Builtin.zeroCells (Value.agg #[.int .u64 0,.int .u64 0,.slice none 0 0]).cells n).toList=zu (List.replicate n zi2):=by
 have h:∀n,(Builtin.zeroCells (Value.agg #[.int .u64 0,.int .u64 0,.slice none 0 0]).cells n).toList=(List.range (n*3)).map (fun i=>(#[Value.int .u64 0,Value.int .u64 0,Value.slice none 0 0]:Array Value)[i % 3]!):=fun n=>by
  simp[Builtin.zeroCells,Value.cells]
 rw[h];clear h
 induction n with
 | zero=>rfl
 | succ n ih =>
  rw[List.replicate_succ,zaF,←ih,show(n+1)*3=3+n*3 by omega,List.range_add,List.map_append,List.map_map];have e:((fun i=>(#[Value.int .u64 0,Value.int .u64 0,Value.slice none 0 0]:Array Value)[i % 3]!) ∘ fun x=>3+x)=fun i=>(#[Value.int .u64 0,Value.int .u64 0,Value.slice none 0 0]:Array Value)[i % 3]!:=by
   funext q;simp only[Function.comp,Nat.add_mod_left]
  rw[e];rfl
theorem zcQ(w:World)(g:Nat)(cs:Array Value):Mod (fun q=>q=g) w (w.setRow g cs):=by
 refine⟨rfl,rfl,rfl,by simp[World.setRow],fun q hq a=>?_⟩;have a:¬g=q:=fun e=>a e.symm
 simp[World.setRow,Array.getElem?_modify,a]
theorem zbV.turn{tag:Nat→Nat×Nat}{i b:Nat}{j:World}{c:CS}{N cap k g:Nat}{R R':List (Fly×Value)}{w w':World}(h:zbV tag i b j c (some ⟨g,0,none⟩) N cap k R w)(m:Mod (fun q=>q=g) w w')(l:R'.length=N)(a:w'.ownsRow 0 173 3 (.slice (some ⟨g,0,none⟩) N cap) N (zu R'))(hs:∀p∈R',p∈R∨p=zi2):zbV tag i b j c (some ⟨g,0,none⟩) N cap k R' w':=by
 obtain⟨hl0,tag',n,r,h1,h2⟩:=h;have hg:n.ft.ownBlock=some g:=by rw[h1];rfl
 have d:=r.c.tft g hg;have f:∀p∈R',zjz tag' (i,5) w p.2 p.1.fs:=fun p hp=>by
  rcases hs p hp with x|x
  ·exact r.c.fs p (by rw[h2];simp only[CS.fly,zay];exact x)
  ·subst x;exact zjz.none _ _ _
 have c1:=r.c.fly m hg (R':=R') (by rw[h1,l];exact a) f;exact⟨l,tag',{ n with fts:=R'.map (·.2) },⟨c1,⟨r.e.old,r.e.new,r.e.out.mod m⟩,zan r.e r.m (m.mono (fun q hq=>.inl (zbk (r:=4) (by rw[show q=g from hq];exact d) (by decide)))),r.p,⟨rfl,rfl⟩⟩,h1,rfl⟩
theorem zbV.delK{tag:Nat→Nat×Nat}{i b:Nat}{W0:World}{c:CS}{a:Option Addr}{N cap g:Nat}(v:0<N→a=some ⟨g,0,none⟩)(hcm:N≤cap):DelK (zbV tag i b W0 c a N cap) N g cap:=by
 refine⟨fun k R w t h=>?_,fun k R w x h z=>?_,fun k R w j x h C z=>?_,fun k R w j h C=>?_⟩
 ·have D:=h.row;rw[v t]at D;obtain⟨d,h1,_⟩:=zdF D;exact⟨d,h1⟩
 ·obtain⟨hl,tag',V',r,h1,h2⟩:=h;obtain⟨l,_,⟨a',E,e,_⟩,_,_⟩:=r.c.fs x (by rw[h2];simp only[CS.fly,zay];exact z);exact⟨_,_,_,e⟩
 ·have t:0<N:=by omega
  have m:=v t;subst m;have u:=zjN x h.row h.1 C;refine h.turn ?_ (by rw[List.length_set];exact h.1) u (fun p A=>?_)
  ·exact(((Mod.refl (fun q=>q=g) w).setCell (p:=⟨g,_,none⟩) (.inl rfl) _).setCell (p:=⟨g,_,none⟩) (.inl rfl) _).setCell (p:=⟨g,_,none⟩) (.inl rfl) _
  ·rcases List.mem_or_eq_of_mem_set A with y|y
   ·exact .inl y
   ·exact .inl (y ▸ z)
 ·have t:0<N:=by omega
  have m:=v t;subst m;obtain⟨d,h1,h2,h3,h4,h5⟩:=zdF h.row;have B:w.heap[g]?=some (.cells d.toList.toArray 173 (0,0)):=by simpa using h1
  have f:d.toList.length=cap*3:=by simpa using h4
  have o:(zu (List.replicate (N-j) zi2)).length=(N-j)*3:=by rw[zX,List.length_replicate]
  refine⟨_,R.take j++List.replicate (N-j) zi2,fun ty=>zaJ (P:=Tryz.prog) w 123 ty 173 (.agg #[.int .u64 0,.int .u64 0,.slice none 0 0]) 3 Tryz.underlying123 zjO rfl (by simp[Value.cells,Value.oneCell']) g (j*3) (N-j) _ d.toList _ B (by rw[f];omega),?_,?_⟩
  ·rw[zfL];have s:(R.take j).length=j:=by rw[List.length_take,h.1];omega
   refine h.turn ?_ (by rw[List.length_append,s,List.length_replicate];omega) ?_ (fun p A=>?_)
   ·exact zcQ w g _
   ·refine⟨by rw[zX,List.length_append,s,List.length_replicate];omega,.inr ⟨g,cap,_,rfl,Nat.zero_le _,setRow_heap w g _ _ _ _ h1,h2,h3,?_,?_⟩⟩
    ·rw[List.size_toArray,length_splice _ _ _ (by rw[o,f];omega),f]
    ·have h6:d.toList.take (j*3)=zu (R.take j):=by
      have:=(zeT h.row h.1 (n:=j) (by omega));obtain⟨F,g1,_,_,_,g5⟩:=zdF this;rw[h1]at g1;cases g1;exact g5
     unfold splice;rw[h6,zbS];have G:(zu (R.take j)).length=j*3:=by rw[zX,s]
     rw[←List.append_assoc];simp only[List.toList_toArray];rw[List.take_append_of_le_length (by rw[List.length_append,G,o];omega),List.take_of_length_le (by rw[List.length_append,G,o];omega)]
   ·rcases List.mem_append.1 A with y|y
    ·exact .inl (List.mem_of_mem_take y)
    ·exact .inr (List.eq_of_mem_replicate y)
  ·rw[List.take_append_of_le_length (by rw[List.length_take,h.1];omega),List.take_take,Nat.min_self]
theorem zmy{w:World}{a:Option Addr}{N n cap:Nat}{R:List (Fly×Value)}(h:w.ownsRow 0 173 3 (.slice a N cap) N (zu R))(hR:R.length=N)(hn:n≤N):w.ownsRow 0 173 3 (.slice a n cap) n (zu (R.take n)):=by
 by_cases h0:N=0
 ·have b:n=N:=by omega
  rw[b,List.take_of_length_le (by omega)];exact h
 ·obtain⟨a',c,e,_,_,hg⟩:=zj h;cases e;obtain⟨g,rfl⟩:=hg (by omega);exact zeT h hR hn
theorem zbV.done{tag:Nat→Nat×Nat}{i b:Nat}{t:World}{c:CS}{a:Option Addr}{N cap n:Nat}{R:List (Fly×Value)}{w:World}(h:zbV tag i b t c a N cap N R w)(hN:c.flight.length=N)(hn:n≤N)(hR:(R.take n).map (·.1)=c.flight.filter fun p => !c.late p) :
  ∃tag' V',zt tag i b t V' c.lose tag' V' (w.setCell ⟨b,236,none⟩ (.slice a n cap)):=by
 have f:=zmy h.row h.1 hn;obtain⟨hl,tag',V',r,h1,h2⟩:=h;rw[List.take_of_length_le (by omega)]at r;have m:Mod (fun q=>q=b) w (w.setCell ⟨b,236,none⟩ (.slice a n cap)):=(Mod.refl (fun q=>q=b) w).setCell (p:=⟨b,_,none⟩) (.inl rfl) _;have d:∀g,(Value.slice a n cap).ownBlock=some g→tag' g=(i,4):=fun g hg=>r.c.tft g (by rw[h1];cases a<;>exact hg)
 have s:∀g,(Value.slice a n cap).ownBlock=some g→¬g=b:=fun g hg e=>by
  have h3:=d g hg;rw[e,r.c.tb]at h3;simp at h3
 have l:(R.take n).length=n:=by rw[List.length_take,hl];omega
 rw[ziZ,←hR];refine⟨tag',{ V' with ft:=.slice a n cap,fts:=(R.take n).map (·.2) },⟨?_,⟨r.e.old,r.e.new,r.e.out.mod m⟩,zan r.e r.m (m.mono (fun q o=>.inl (zbk (r:=1) (by rw[show q=b from o];exact r.c.tb) (by decide)))),r.p,⟨rfl,rfl⟩⟩⟩;refine r.c.build (R:=fun r=>r=1) m (fun q o=>⟨1,rfl,by rw[show q=b from o];exact r.c.tb⟩) (fun _ _=>rfl) ?_ (.inl ⟨rfl,rfl,rfl,by omega,by omega⟩) (fun k hk=>.inl ⟨rfl,rfl,by omega⟩) (fun k hk=>.inl ⟨rfl,rfl,by omega⟩) (fun k hk=>.inl ⟨rfl,rfl,by omega⟩) (fun k hk=>.inl ⟨rfl,rfl,by omega⟩) (fun k hk=>.inl ⟨rfl,rfl,by omega⟩) (.inr ⟨?_,?_,?_,?_⟩) (.inl ⟨rfl,rfl,by omega⟩) (.inl ⟨rfl,rfl,by omega⟩) (.inl ⟨rfl,rfl,by omega⟩)
 ·rw[zc r.c.obj];simp only[List.setIfInBounds_toArray];rw[show(236:Nat)=233+3 from rfl,zV (j:=3) ((c.loses c.flight).fly (R.map (·.1))) ((c.loses c.flight).fly ((R.take n).map (·.1))) V' { V' with ft:=.slice a n cap,fts:=(R.take n).map (·.2) } (.slice a n cap) rfl rfl rfl rfl]
 ·simp only[CS.fly,List.length_map,zay,l];exact m.owns f s
 ·simp[CS.fly]
 ·simp only[CS.fly,zay];intro p hp;refine(r.c.fs p (by rw[h2];simp only[CS.fly,zay];exact List.mem_of_mem_take hp)).mod m (fun q o e=>?_) (fun _ e=>e);rw[show q=b from o,r.c.tb]at e;simp at e
 ·exact d
theorem zoJ{tag:Nat→Nat×Nat}{i b cb N cap:Nat}{a:Option Addr}{c:CS}{V:CV}{W W1:World}(h:zg tag i b c V W)(ht:zP tag W)(hi:0<i)(ok:zeV c)(hb:c.flight.length≤1099511627776)(j:W.cell? ⟨cb,0,none⟩=some (.pointer (some ⟨b,0,none⟩)))(n:¬zaf i tag cb)(m:Mod NoB W W1)(v:V.ft = .slice a N cap)(y:c.flight.length=N) :
  Calls Tryz.prog 78 #[.slice a N cap,.func (.func 79) #[] #[.pointer (some ⟨cb,0,none⟩)]] W1 (zjM (zbV tag i b W c a N cap) c.late (c.flight.zip V.fts) a cap):=by
 have q:(c.flight.zip V.fts).length=N:=by rw[List.length_zip,h.fl,Nat.min_self,y]
 have r:(c.flight.zip V.fts).map (·.1)=c.flight:=List.map_fst_zip (Nat.le_of_eq h.fl.symm);have s:(c.flight.zip V.fts).map (·.2)=V.fts:=List.map_snd_zip (Nat.le_of_eq h.fl);have d:=h.ft;rw[v,y]at d;obtain⟨a',z,e,A,q2,q3⟩:=zj d;cases e;have B:∀(k:Nat) (x:Fly×Value),(c.flight.zip V.fts)[k]?=some x→c.flight[k]?=some x.1:=fun k x f=>by
  have:=congrArg (fun l=>l[k]?) r;simp only[List.getElem?_map,f]at this;exact this.symm
 have r0:zt tag i b W V c tag V W:=⟨h,Ext.same ht (Mod.refl NoB W),Mod.refl _ _,hi,⟨rfl,rfl⟩⟩;have j0:zbV tag i b W c a N cap 0 (c.flight.zip V.fts) W:=⟨q,tag,V,by rw[r];exact r0,v,s.symm⟩;obtain⟨g,hg⟩:∃g,0<N→a=some ⟨g,0,none⟩:=by
  by_cases h0:0<N
  ·obtain⟨g,hg⟩:=q3 h0;exact⟨g,fun _=>hg⟩
  ·exact⟨0,fun x=>absurd x h0⟩
 refine ziY (zbV tag i b W c a N cap) c.late (c.flight.zip V.fts) N g cap cb a q (by omega) A q2 hg (zbV.del hg) (zbV.delK hg A) (fun k w x t f=>?_) (fun k R w o x t f u=>?_) W1 (j0.mod0 m)
 ·exact(t.ask ok j n (Mod.refl NoB w) x f (B k x f)).mono (fun e w' p=>⟨p.1,p.2.1⟩)
 ·exact(t.ask ok j n ((Mod.refl NoB w).alloc o) x f (B k x u)).mono (fun e w' p=>⟨p.1,p.2.1,p.2.2 _ (Nat.le_refl _) (by simp)⟩)
theorem zaT{i:Nat}{tag tag':Nat→Nat×Nat}{W a W':World}(ht:zP tag W)(m:Mod NoB W a)(h:Ext i tag tag' a W'):Ext i tag tag' W W':=by
 refine⟨fun g hg=>h.old g (Nat.lt_of_lt_of_le hg m.size),fun g hg=>?_,h.out⟩;by_cases q:g<a.heap.size
 ·exact .inr (by rw[h.old g q];exact ht g hg)
 ·exact h.new g (by omega)
theorem zjP{tag:Nat→Nat×Nat}{i b:Nat}{c:CS}{V:CV}{W:World}(h:zg tag i b c V W)(y:zP tag W)(hi:0<i)(ok:zeV c)(hb:c.flight.length≤1099511627776) :
  Calls Tryz.prog 49 #[.pointer (some ⟨b,0,none⟩)] W (zbd tag i b W (.tuple #[]) c.lose):=by
 obtain⟨a,cap,B,_⟩:=zj h.ft;obtain⟨N,t⟩:=nm c.flight.length;rw[t]at B;obtain⟨W1,k⟩:=nm (W.alloc (.cells #[.pointer (some ⟨b,0,none⟩)] 69));have m1:Mod NoB W W1:=by rw[←k];exact(Mod.refl _ _).alloc _
 have l:W1.cell? ⟨W.heap.size,0,none⟩=some (.pointer (some ⟨b,0,none⟩)):=by rw[←k];exact za (heap_alloc_new W _) rfl
 have o:¬zaf i tag W.heap.size:=fun x=>by
  have h1:=x.1;rw[y _ (Nat.le_refl _)]at h1;simp at h1;omega
 have h1:=h.mod0 m1;have u:zP tag W1:=y.mod m1;have z:=zoJ h1 u hi ok hb l o (Mod.refl NoB W1).drew B t;have q:(c.flight.zip V.fts).length=N:=by rw[List.length_zip,h.fl,Nat.min_self,t]
 have s:(c.flight.zip V.fts).map (·.1)=c.flight:=List.map_fst_zip (Nat.le_of_eq h.fl.symm);obtain⟨L,J⟩:=nm (c.flight.zip V.fts);rw[J]at z q s;obtain⟨cb,d⟩:=nm W.heap.size;rw[d]at z l o;have C:W1.cell? ⟨b,236,none⟩=some (.slice a N cap):=by rw[←B];exact h1.tl (j:=3) rfl
 have fz:W1.frozen? ⟨b,236,none⟩=false:=h1.fz 236;have KD:=zb z;have HT:=zb y;have HI:=zb hi;have v:=zb m1;have D:=zb o;have E:=zb l;have M:=zb (And.intro q s);have HN:=zb t;have F:=zb k;have G:=zb d;clear z y hi m1 o q s t h h1 u ok hb J k d;go_enter Tryz.func49,Tryz.ntmps49;go_upto_region 1 with fail;try rw[F.out]
 try rw[G.out]
 refine zB ?_;refine zl 9 (fun w'=>w'.cell? ⟨cb,0,none⟩=some (.pointer (some ⟨b,0,none⟩))∧w'.cell? ⟨b,236,none⟩=some (.slice a N cap)∧w'.frozen? ⟨b,236,none⟩=false) (⟨l,C,fz⟩) ?_;refine GI 0 ?_;iterate 6
  refine GS rfl ?_ ?_ ?_;rotate_left
  ·(intro wx f;(try dsimp only at f);obtain⟨f0,f1,f2⟩:=f;go_simp)<;>(try with_reducible rfl)
  try simp only[PS]
 refine zx 6 rfl (fun K w=>?_);go_simp
 with_reducible refine(KD.out).mono ?_
 rintro e H ⟨n,R,rfl,O,I,A⟩;have HJ:=zb (And.intro O (And.intro I A));have P:H.cell? ⟨cb,0,none⟩=some (.pointer (some ⟨b,0,none⟩))∧H.cell? ⟨b,236,none⟩=some (.slice a N cap)∧H.frozen? ⟨b,236,none⟩=false:=by
  obtain⟨hl,tag',Q,r,g1,g2⟩:=I;exact⟨r.m.cell (a:=⟨cb,0,none⟩) D.out E.out,by rw[←g1];exact r.c.tl (j:=3) rfl,r.c.fz 236⟩
 clear I O A;go_simp;refine w.out _ _ P ?_;obtain⟨p0,p1,p2⟩:=P;clear w K;try simp only[PS]
 refine GI 7 ?_;iterate 2
  refine GS rfl ?_ ?_ ?_;rotate_left
  ·(intro wx f;(try dsimp only at f);obtain⟨f0,f1,f2⟩:=f;go_simp)<;>(try with_reducible rfl)
  try simp only[PS]
 refine zQ rfl (fun K w=>?_);go_simp;refine w.out _ _ ?_;clear w K;try simp only[PS]
 refine zo ?_;refine⟨rfl,?_⟩;go_wp2_with fail
 go_end0
 refine⟨rfl,?_⟩;obtain⟨h1,h2,h3⟩:=HJ.out;rw[M.out.1]at h1 h2;have A:(R.take n).map (·.1)=c.flight.filter fun p => !c.late p:=by
  rw[h3,←M.out.2,List.filter_map];rfl
 obtain⟨tag',Q,r⟩:=h2.done HN.out h1 A;exact⟨tag',Q,r.c,zaT HT.out v.out r.e,(v.out.mono (fun _ x=>x.elim)).then r.m.ofC (fun g hg=>.inl hg)⟩
end Go.Proofs.YtddfdpbaiedcjaaGreatDoor
