/- A part of Urgent's proof. Conditions: none. Part 22 of 32. -/
import Derived.Test.YtddfdpbaiedcjaaGreatDoorUrg18
import Derived.Test.YtddfdpbaiedcjaaGreatDoorUrg21
set_option maxRecDepth 100000
set_option maxHeartbeats 16000000
set_option linter.all false
namespace Go.Proofs.YtddfdpbaiedcjaaGreatDoor
open Go.RowKit
theorem zhB(f:Frm)(l:Value)(b cb now:Nat)(W:World)(i:W.cell? ⟨cb,0,none⟩=some (.pointer (some ⟨b,0,none⟩)))(d:W.cell? ⟨b,3,none⟩=some (.int .u64 (now:Int))) :
  Calls Tryz.prog 48 #[.agg (zh f l),.pointer (some ⟨cb,0,none⟩)] W (fun e w'=>e = .returned (.bool (decide (f.dl<now)))∧w'=(W.alloc (.cells (zh f l) 65)).drew):=by
 obtain⟨W1,c⟩:=nm (W.alloc (.cells (zh f l) 65));have m1:Mod NoB W W1:=by rw[←c];exact(Mod.refl _ _).alloc _
 have g:zi W1 W.heap.size f l:=by rw[←c];exact heap_alloc_new W _
 obtain⟨fb,h⟩:=nm W.heap.size;rw[h]at g;obtain⟨y0,y1,y2,y3,y4,y5,y6,o,y8,y9⟩:=g.cells;have c1:=m1.cell (a:=⟨cb,0,none⟩) (fun x=>x) i;have c3:=m1.cell (a:=⟨b,3,none⟩) (fun x=>x) d;obtain⟨dl,j⟩:=nm f.dl;rw[j]at o ⊢;have hd:decide ((dl:Int)<(now:Int))=decide (dl<now):=by simp
 have m:=zb c;have n:=zb h;have HD:=zb hd;rw[c];clear i d m1 g y0 y1 y2 y3 y4 y5 y6 y8 y9 j c h hd;go_enter Tryz.func48,Tryz.ntmps48;go_upto_region 1 with fail;rw[m.out,n.out];refine zB ?_;refine zl 8 (fun w'=>w'.cell? ⟨fb,7,none⟩=some (.int .u64 (dl:Int))∧w'.cell? ⟨cb,0,none⟩=some (.pointer (some ⟨b,0,none⟩))∧w'.cell? ⟨b,3,none⟩=some (.int .u64 (now:Int))) (⟨o,c1,c3⟩) ?_;refine GI 0 ?_;iterate 8
  refine GS rfl ?_ ?_ ?_;rotate_left
  ·(intro wx k;(try dsimp only at k);obtain⟨f7,f0,f3⟩:=k;go_simp)<;>(try with_reducible rfl)
  try simp only[PS]
 refine zo ?_;refine⟨rfl,?_⟩;go_wp2_with fail;go_ret;exact⟨by rw[←HD.out];rfl,rfl⟩
structure FrmJ(J:List Frm→World→Prop)(N g o b cb now:Nat):Prop where
 box:∀R w w',J R w→Mod NoB w w'→J R w'
 len:∀R w,J R w→R.length=N
 cb:∀R w,J R w→w.cell? ⟨cb,0,none⟩=some (.pointer (some ⟨b,0,none⟩))
 now:∀R w,J R w→w.cell? ⟨b,3,none⟩=some (.int .u64 (now:Int))
 rd:∀R w,J R w→∀(j:Nat) (f:Frm),R[j]?=some f→∀q x,(zh f (.slice none 0 0))[q]?=some x→w.cell? ⟨g,o+j*10+q,none⟩=some x
def IfPost(J:List Frm→World→Prop)(now:Nat)(L:List Frm)(e:Ending)(w':World):Prop :=
 (∃k:Nat,e = .returned (.int .i64 (k:Int))∧k<L.length∧(∀x∈L.take k,decide (x.dl<now)=false)∧(∀x,L[k]?=some x→decide (x.dl<now)=true)∧J L w') ∨
 (e = .returned (.int .i64 (-1))∧(∀x∈L,decide (x.dl<now)=false)∧J L w')
theorem zkJ(J:List Frm→World→Prop)(L:List Frm)(N g o cap b cb now:Nat)(a:Option Addr)(r:L.length=N)(hNb:N≤1099511627776)(s:0<N→a=some ⟨g,o,none⟩)(t:FrmJ J N g o b cb now)
  (w:World) (h0:J L w) :
  Calls Tryz.prog 77 #[.slice a N cap,.func (.func 48) #[] #[.pointer (some ⟨cb,0,none⟩)]] w (IfPost J now L):=by
 have l:=zb t;have H0:=zb h0;have HA:=zb s;have m:=zb r;clear t h0 s r;go_enter Tryz.func77,Tryz.ntmps77;go_wp2_with fail
 go_loopw [8] (fun p wr=>∃k:Nat,k≤N∧p = .int .i64 (k:Int)∧Hid (J L wr∧∀x∈L.take k,decide (x.dl<now)=false)) (fun p _=>N-(intOf p).toNat)
 case atStart=>exact⟨0,Nat.zero_le _,rfl,zb ⟨H0.out,fun x c=>by simp at c⟩⟩
 case round =>
  obtain⟨k,hk,rfl,d⟩:=hrel;by_cases f:k<N
  ·obtain⟨x,c⟩:∃x,L[k]?=some x:=⟨L[k]'(by rw[m.out];exact f),List.getElem?_eq_getElem (by rw[m.out];exact f)⟩;obtain⟨hc0,hc1,hc2,hc3,hc4,hc5,hc6,hc7,hc8,hc9⟩:=zbG (l.out.rd L wr d.out.1 k x c);have q:=HA.out (by omega);subst q;have n:=zhB x (.slice none 0 0) b cb now wr (l.out.cb L wr d.out.1) (l.out.now L wr d.out.1);unfold zh at n;have u:=zb c;obtain⟨dv,h⟩:=nm (decide (x.dl<now));rw[h]at n;have i:=zb h;have v:=zb n;clear n c h;go_wp2_with fail;refine(v.out).mono ?_;rintro e w6 ⟨rfl,j⟩;have y:Hid (J L w6):=zb (by rw[j];exact l.out.box _ _ _ d.out.1 (((Mod.refl NoB wr).alloc _).drew));clear j v;cases dv with
   | true =>
    go_wp2_with fail;go_ret;exact .inl ⟨k,rfl,by rw[m.out];exact f,d.out.2,fun x c=>by rw[u.out]at c;cases c;exact i.out,y.out⟩
   | false =>
    go_wp2_with fail;go_roundw
    case rel =>
     refine⟨k+1,by omega,by go_num,zb ⟨y.out,fun x c=>?_⟩⟩;rw[List.take_add_one,u.out]at c;rcases List.mem_append.1 c with c|c
     ·exact d.out.2 x c
     ·simp at c;subst c;exact i.out
    case measure=>simp[intOf];omega
  ·have hk2:k=N:=by omega
   go_wp2_with fail;go_ret;exact .inr ⟨rfl,fun x c=>d.out.2 x (by rwa [List.take_of_length_le (by rw[m.out];omega)]),d.out.1⟩
structure FrmK(J:List Frm→World→Prop)(N g o cap:Nat):Prop where
 obj:∀R w,0<N→J R w→∃cur,w.heap[g]?=some (.cells cur 65 (0,0))
 st:∀R w (i:Nat) (f:Frm),J R w→i<N→f∈R→J (R.set i f) ((((((((((w.setCell ⟨g,o+i*10,none⟩ (.int .i64 f.kind)).setCell ⟨g,o+i*10+1,none⟩ (.int .i64 f.stream)).setCell ⟨g,o+i*10+2,none⟩ (.int .u64 (f.off:Int))).setCell ⟨g,o+i*10+3,none⟩ (.int .u64 (f.rel:Int))).setCell ⟨g,o+i*10+4,none⟩ (.int .u64 (f.lim:Int))).setCell ⟨g,o+i*10+5,none⟩ (.bool f.fin)).setCell ⟨g,o+i*10+6,none⟩ (.int .u64 (f.id:Int))).setCell ⟨g,o+i*10+7,none⟩ (.int .u64 (f.dl:Int))).setCell ⟨g,o+i*10+8,none⟩ (.string (zq f.data))).setCell ⟨g,o+i*10+9,none⟩ (.slice none 0 0))
 cl:∀R w (i:Nat),J R w→i<N→∃w2 R2,(∀ty,(Builtin.clear_ #[54] ty #[.slice (some ⟨g,o+i*10,none⟩) (N-i) (cap-i)]).run Tryz.prog w = .ok (.tuple #[]) w2)∧J R2 w2∧R2.take i=R.take i
def DtPost(J:List Frm→World→Prop)(now:Nat)(L:List Frm)(a:Option Addr)(cap:Nat)(e:Ending)(w':World):Prop :=
 ∃(i:Nat) (R:List Frm),e = .returned (.slice a i cap)∧i≤L.length∧J R w'∧R.take i=L.filter (fun x => !decide (x.dl<now))
theorem zee{now:Nat}{l:List Frm}(h:∀x∈l,decide (x.dl<now)=false):l.filter (fun x => !decide (x.dl<now))=l :=
 List.filter_eq_self.2 (fun x hx=>by rw[h x hx];rfl)
theorem zi3(J:List Frm→World→Prop)(L:List Frm)(N g o cap b cb now:Nat)(a:Option Addr)(W:L.length=N)(X:N≤1099511627776)(ay:N≤cap)(Z:cap≤maxLen)(ha:0<N→a=some ⟨g,o,none⟩)(hJ:FrmJ J N g o b cb now)(hK:FrmK J N g o cap)
  (w:World) (h0:J L w) :
  Calls Tryz.prog 47 #[.slice a N cap,.func (.func 48) #[] #[.pointer (some ⟨cb,0,none⟩)]] w (DtPost J now L a cap):=by
 have ki:=zkJ J L N g o cap b cb now a W X ha hJ w h0;unfold maxLen at Z;have s:=zb hJ;have S:=zb hK;have HA:=zb ha;have T:=zb W;have KI:=zb ki;clear hJ hK h0 ha W ki;go_enter Tryz.func47,Tryz.ntmps47;go_wp2_with fail;refine(KI.out).mono ?_;clear KI;rintro e w1 (⟨k,rfl,t,h,m,D⟩|⟨rfl,h,m⟩)
 ·have aa:k<N:=by rw[←T.out];exact t
  have ab:=HA.out (by omega);subst ab;have n:=zb D;have E:Hid (L.take k=(L.take (k+1)).filter (fun x => !decide (x.dl<now))):=zb (by
   obtain⟨x,u⟩:∃x,L[k]?=some x:=⟨L[k],List.getElem?_eq_getElem t⟩;have h9:=m x u;rw[List.take_add_one,u,List.filter_append,zee h];simp only[Option.toList_some,List.filter_cons,h9];simp)
  have d1:((k:Int) == -1)=false:=by rw[beq_eq_false_iff_ne];omega
  clear t h m D;go_wp2_with fail
  go_loopw [5,6] (fun iv jv wr=>∃(i j:Nat) (R:List Frm),iv = .int .i64 (i:Int)∧jv = .int .i64 (j:Int)∧i<j∧j≤N∧Hid (J R wr∧R.take i=(L.take j).filter (fun x => !decide (x.dl<now))∧R.drop j=L.drop j)) (fun _ jv _=>N-(intOf jv).toNat)
  case atStart=>exact⟨k,k+1,L,rfl,by go_num,by omega,by omega,zb ⟨n.out,E.out,rfl⟩⟩
  case round =>
   clear n E d1 aa;obtain⟨i,j,R,rfl,rfl,ac,hj,q⟩:=hrel;have F:=s.out.len R wr q.out.1;by_cases hlt:j<N
   ·obtain⟨f,u⟩:∃x,R[j]?=some x:=⟨R[j]'(by omega),List.getElem?_eq_getElem (by omega)⟩;have G:L[j]?=some f:=by
     have h1:=congrArg (fun l=>l[0]?) q.out.2.2;simp only[List.getElem?_drop,Nat.add_zero]at h1;rw[←h1];exact u
    obtain⟨ad,ae,af,ah,ai,aj,ak,al,am,ao⟩:=zbG (s.out.rd R wr q.out.1 j f u);obtain⟨Y,H⟩:=nm (wr.alloc (.cells (zh f (.slice none 0 0)) 65));have mY:Mod NoB wr Y:=by rw[←H];exact(Mod.refl _ _).alloc _
    have v:zi Y wr.heap.size f (.slice none 0 0):=by rw[←H];exact heap_alloc_new wr _
    have U:=s.out.box _ _ _ q.out.1 mY;have V:=zhB f (.slice none 0 0) b cb now Y (s.out.cb R Y U) (s.out.now R Y U);obtain⟨y0,y1,y2,y3,y4,y5,y6,y7,y8,y9⟩:=v.cells;unfold zh at V H;have HX:=zb (And.intro u G);obtain⟨dv,y⟩:=nm (decide (f.dl<now));rw[y]at V;have ap:=zb y;have KC:=zb V;have z:=zb F;have JY:=zb U;have A:=zb v;obtain⟨yb,B⟩:=nm wr.heap.size;rw[B]at y0 y1 y2 y3 y4 y5 y6 y7 y8 y9 A;have HY:=zb H;have aq:=zb B;clear V u G y F U v mY H B;go_upto_region 8 with fail;rw[aq.out,HY.out];go_wp2_with fail;refine(KC.out).mono ?_;rintro e d ⟨rfl,I⟩;have m6:Mod NoB Y d:=by rw[I];exact((Mod.refl NoB Y).alloc _).drew
    have K:zi d yb f (.slice none 0 0):=m6.obj (fun x=>x) A.out;have C:J R d:=s.out.box _ _ _ JY.out m6;obtain⟨z0,z1,z2,z3,z4,z5,z6,z7,z8,z9⟩:=K.cells;have J6:=zb C;have r:i<N:=by omega
    have M:Hid ((L.take (j+1)).filter (fun x => !decide (x.dl<now))=(L.take j).filter (fun x => !decide (x.dl<now))++(if dv then []else [f])):=zb (by
     rw[List.take_add_one,HX.out.2,List.filter_append]
     congr 1
     have h9:=ap.out;simp only[Option.toList_some,List.filter_cons,h9];cases dv<;>simp)
    have O:Hid (R.drop (j+1)=L.drop (j+1)):=zb (by
     have h1:=congrArg (List.drop 1) q.out.2.2;simpa [List.drop_drop]using h1)
    clear KC y0 y1 y2 y3 y4 y5 y6 y7 y8 y9 ad ae af ah ai aj ak al am ao I m6 K JY A;cases dv with
    | true =>
     clear C;go_wp2_with fail;go_roundw
     case rel=>exact⟨i,j+1,R,rfl,by go_num,by omega,by omega,zb ⟨J6.out,by rw[M.out,q.out.2.1];simp,O.out⟩⟩
     case measure=>simp[intOf];omega
    | false =>
     obtain⟨cur,c⟩:=S.out.obj _ _ (by omega) C;obtain⟨xi,P⟩:∃xi,R[i]?=some xi:=⟨R[i]'(by rw[z.out];exact r),List.getElem?_eq_getElem (by rw[z.out];exact r)⟩;obtain⟨w0,w1',w2',w3',w4',w5',w6',w7',w8',w9'⟩:=zbG (s.out.rd R d C i xi P);have f0:∀p,d.frozen? ⟨g,p,none⟩=false:=fun p=>zd c
     have f1:∀p1 v1 p,(d.setCell ⟨g,p1,none⟩ v1).frozen? ⟨g,p,none⟩=false:=fun p1 v1 p=>zd (zc c)
     have f2:∀p1 v1 p2 v2 p,((d.setCell ⟨g,p1,none⟩ v1).setCell ⟨g,p2,none⟩ v2).frozen? ⟨g,p,none⟩=false:=fun p1 v1 p2 v2 p=>zd (zc (zc c))
     have f3:∀p1 v1 p2 v2 p3 v3 p,(((d.setCell ⟨g,p1,none⟩ v1).setCell ⟨g,p2,none⟩ v2).setCell ⟨g,p3,none⟩ v3).frozen? ⟨g,p,none⟩=false:=fun p1 v1 p2 v2 p3 v3 p=>zd (zc (zc (zc c)))
     have f4:∀p1 v1 p2 v2 p3 v3 p4 v4 p,((((d.setCell ⟨g,p1,none⟩ v1).setCell ⟨g,p2,none⟩ v2).setCell ⟨g,p3,none⟩ v3).setCell ⟨g,p4,none⟩ v4).frozen? ⟨g,p,none⟩=false:=fun p1 v1 p2 v2 p3 v3 p4 v4 p=>zd (zc (zc (zc (zc c))))
     have f5:∀p1 v1 p2 v2 p3 v3 p4 v4 p5 v5 p,(((((d.setCell ⟨g,p1,none⟩ v1).setCell ⟨g,p2,none⟩ v2).setCell ⟨g,p3,none⟩ v3).setCell ⟨g,p4,none⟩ v4).setCell ⟨g,p5,none⟩ v5).frozen? ⟨g,p,none⟩=false:=fun p1 v1 p2 v2 p3 v3 p4 v4 p5 v5 p=>zd (zc (zc (zc (zc (zc c)))))
     have f6:∀p1 v1 p2 v2 p3 v3 p4 v4 p5 v5 p6 v6 p,((((((d.setCell ⟨g,p1,none⟩ v1).setCell ⟨g,p2,none⟩ v2).setCell ⟨g,p3,none⟩ v3).setCell ⟨g,p4,none⟩ v4).setCell ⟨g,p5,none⟩ v5).setCell ⟨g,p6,none⟩ v6).frozen? ⟨g,p,none⟩=false:=fun p1 v1 p2 v2 p3 v3 p4 v4 p5 v5 p6 v6 p=>zd (zc (zc (zc (zc (zc (zc c))))))
     have f7:∀p1 v1 p2 v2 p3 v3 p4 v4 p5 v5 p6 v6 p7 v7 p,(((((((d.setCell ⟨g,p1,none⟩ v1).setCell ⟨g,p2,none⟩ v2).setCell ⟨g,p3,none⟩ v3).setCell ⟨g,p4,none⟩ v4).setCell ⟨g,p5,none⟩ v5).setCell ⟨g,p6,none⟩ v6).setCell ⟨g,p7,none⟩ v7).frozen? ⟨g,p,none⟩=false:=fun p1 v1 p2 v2 p3 v3 p4 v4 p5 v5 p6 v6 p7 v7 p=>zd (zc (zc (zc (zc (zc (zc (zc c)))))))
     have f8:∀p1 v1 p2 v2 p3 v3 p4 v4 p5 v5 p6 v6 p7 v7 p8 v8 p,((((((((d.setCell ⟨g,p1,none⟩ v1).setCell ⟨g,p2,none⟩ v2).setCell ⟨g,p3,none⟩ v3).setCell ⟨g,p4,none⟩ v4).setCell ⟨g,p5,none⟩ v5).setCell ⟨g,p6,none⟩ v6).setCell ⟨g,p7,none⟩ v7).setCell ⟨g,p8,none⟩ v8).frozen? ⟨g,p,none⟩=false:=fun p1 v1 p2 v2 p3 v3 p4 v4 p5 v5 p6 v6 p7 v7 p8 v8 p=>zd (zc (zc (zc (zc (zc (zc (zc (zc c))))))))
     have f9:∀p1 v1 p2 v2 p3 v3 p4 v4 p5 v5 p6 v6 p7 v7 p8 v8 p9 v9 p,(((((((((d.setCell ⟨g,p1,none⟩ v1).setCell ⟨g,p2,none⟩ v2).setCell ⟨g,p3,none⟩ v3).setCell ⟨g,p4,none⟩ v4).setCell ⟨g,p5,none⟩ v5).setCell ⟨g,p6,none⟩ v6).setCell ⟨g,p7,none⟩ v7).setCell ⟨g,p8,none⟩ v8).setCell ⟨g,p9,none⟩ v9).frozen? ⟨g,p,none⟩=false:=fun p1 v1 p2 v2 p3 v3 p4 v4 p5 v5 p6 v6 p7 v7 p8 v8 p9 v9 p=>zd (zc (zc (zc (zc (zc (zc (zc (zc (zc c)))))))))
     have J7:=zb (S.out.st R d i f C r (List.mem_of_getElem? HX.out.1));clear C c P;go_wp2_with fail;go_roundw
     case rel =>
      refine⟨i+1,j+1,R.set i f,by go_num,by go_num,by omega,by omega,zb ⟨J7.out,?_,?_⟩⟩
      ·rw[zde (by rw[z.out];exact r),M.out,q.out.2.1];rfl
      ·rw[zdf (by omega),O.out]
     case measure=>simp[intOf];omega
   ·have ar:j=N:=by omega
    subst ar;obtain⟨w2,R2,kcl,j2,t2⟩:=S.out.cl R wr i q.out.1 ac;have au:=zb j2;have av:=zb t2;have e1:¬cap=i:=by omega
    have d1:i≤cap:=by omega
    clear j2 t2;have HL:=T.out;have Q:R2.take i=L.filter (fun x => !decide (x.dl<now)):=by
     rw[av.out,q.out.2.1,List.take_of_length_le (by omega)]
    have aw:=zb Q;have ax:=zb HL;clear HL Q;go_wp2_with fail;go_ret;exact⟨i,R2,rfl,by rw[ax.out];omega,au.out,aw.out⟩
 ·clear s S;have n:=zb m;have HF:=zb (zee h);clear h m;go_wp2_with fail;go_ret;exact⟨N,L,rfl,by rw[T.out];exact Nat.le_refl _,n.out,by rw[HF.out,←T.out,List.take_of_length_le (Nat.le_refl _)]⟩
def zqi(w:World)(g off n sz:Nat)(xs:List Value):Prop:=∃cur,w.heap[g]?=some (.cells cur 65 (0,0))∧(cur.toList.drop off).take n=xs∧cur.size=sz
theorem zqi.set{w:World}{g off n sz:Nat}{xs:List Value}(h:zqi w g off n sz xs)(m:Nat)(v:Value):zqi (w.setCell ⟨g,off+m,none⟩ v) g off n sz (xs.set m v):=by
 obtain⟨cur,h1,h2,h3⟩:=h;refine⟨_,zc h1,?_,by simp[h3]⟩;rw[←h2,Array.toList_setIfInBounds,List.drop_set,if_neg (by omega),List.take_set,show off+m-off=m by omega]
theorem zb5(f:Frm)(l:List Frm):zp (f::l)=(.int .i64 f.kind)::(.int .i64 f.stream)::(.int .u64 (f.off:Int))::(.int .u64 (f.rel:Int))::(.int .u64 (f.lim:Int))::(.bool f.fin)::(.int .u64 (f.id:Int))::(.int .u64 (f.dl:Int))::(.string (zq f.data))::(.slice none 0 0)::zp l:=rfl
theorem zjT:∀(R:List Frm) (i:Nat) (f:Frm),i<R.length→zp (R.set i f)=((((((((((zp R).set (i*10) (.int .i64 f.kind)).set (i*10+1) (.int .i64 f.stream)).set (i*10+2) (.int .u64 (f.off:Int))).set (i*10+3) (.int .u64 (f.rel:Int))).set (i*10+4) (.int .u64 (f.lim:Int))).set (i*10+5) (.bool f.fin)).set (i*10+6) (.int .u64 (f.id:Int))).set (i*10+7) (.int .u64 (f.dl:Int))).set (i*10+8) (.string (zq f.data))).set (i*10+9) (.slice none 0 0)
 | [],_,_,h=>by simp at h
 | y::R,0,f,_=>by simp[zb5]
 | y::R,i+1,f,h=>by
  have ih:=zjT R i f (by simpa using h);rw[List.set_cons_succ,zb5,zb5,ih,show(i+1)*10=i*10+10 by omega];simp[List.set_cons_succ]
theorem zjU:∀(R:List Frm) (j:Nat) (f:Frm),R[j]?=some f→∀q x,(zh f (.slice none 0 0))[q]?=some x→(zp R)[j*10+q]?=some x
 | [],j,f,h=>by simp at h
 | y::R,0,f,h=>by
  simp at h;subst h;intro q x a;have hq:q<10:=(Array.getElem?_eq_some_iff.1 a).1;have e:zp (y::R)=(zh y (.slice none 0 0)).toList++zp R:=rfl;rw[e,Nat.zero_mul,Nat.zero_add,List.getElem?_append_left (by exact hq),Array.getElem?_toList];exact a
 | y::R,j+1,f,h=>by
  intro q x a;have ih:=zjU R j f (by simpa using h) q x a;have e:zp (y::R)=(zh y (.slice none 0 0)).toList++zp R:=rfl;have b:(zh y (.slice none 0 0)).toList.length=10:=rfl;rw[e,List.getElem?_append_right (by rw[b];omega),b,show(j+1)*10+q-10=j*10+q by omega];exact ih
theorem zc8.rowO{w:World}{g o N cap:Nat}{xs:List Value}(h:zc8 w 65 10 (.slice (some ⟨g,o,none⟩) N cap) N xs):∃sz,zqi w g o (N*10) sz xs∧N≤cap∧cap≤maxLen∧∃o',o=o'*10∧(o'+cap)*10≤sz:=by
 rcases h.2 with⟨e,_⟩|⟨g',o',b,a,e,h1,h2,h3,h4,h5⟩
 ·cases e
 ·cases e;exact⟨a.size,⟨a,h1,h5,rfl⟩,h2,h3,o',rfl,h4⟩
theorem zqi.own{w:World}{g o N cap sz:Nat}{xs:List Value}(h:zqi w g (o*10) (N*10) sz xs)(hl:xs.length=N*10)(h2:N≤cap)(h3:cap≤maxLen)(h4:(o+cap)*10≤sz):zc8 w 65 10 (.slice (some ⟨g,o*10,none⟩) N cap) N xs:=by
 obtain⟨d,a,b,c⟩:=h;exact⟨hl,.inr ⟨g,o,cap,d,rfl,a,h2,h3,by rw[c];exact h4,b⟩⟩
theorem zg.wait{tag:Nat→Nat×Nat}{i b g:Nat}{c:CS}{V:CV}{W W':World}{R':List Frm}(h:zg tag i b c V W)(m:Mod (fun q=>q=g) W W')(hg:Value.blk V.wt=some g)(d:zc8 W' 65 10 V.wt R'.length (zp R')):zg tag i b { c with waits:=R' } V W':=by
 have a:=h.twt g hg;have f:b≠g:=fun e=>by
  rw[←e,h.tb]at a;simp at a
 refine h.build (R:=fun r=>r=6) m (fun q hq=>⟨6,rfl,by rw[show q=g from hq];exact a⟩) (fun _ _=>rfl) (m.obj f h.obj) (.inl ⟨rfl,rfl,rfl,by omega,by omega⟩) (fun k hk=>.inl ⟨rfl,rfl,by omega⟩) (fun k hk=>.inl ⟨rfl,rfl,by omega⟩) (fun k hk=>.inl ⟨rfl,rfl,by omega⟩) (fun k hk=>.inl ⟨rfl,rfl,by omega⟩) (fun k hk=>.inl ⟨rfl,rfl,by omega⟩) (.inl ⟨rfl,rfl,rfl,by omega,by omega⟩) (.inr ⟨d,h.twt⟩) (.inl ⟨rfl,rfl,by omega⟩) (.inl ⟨rfl,rfl,by omega⟩)
def zdH(tag:Nat→Nat×Nat)(i b:Nat)(W0:World)(c:CS)(V:CV)(N:Nat)(R:List Frm)(w:World):Prop:=R.length=N∧zg tag i b { c with waits:=R } V w∧zP tag w∧Mod (zaf i tag) W0 w
theorem zdH.turn{tag:Nat→Nat×Nat}{i b g:Nat}{d:World}{c:CS}{V:CV}{N:Nat}{R R':List Frm}{w w':World}(h:zdH tag i b d c V N R w)(m:Mod (fun q=>q=g) w w')(hg:Value.blk V.wt=some g)(e:R'.length=N)(a:zc8 w' 65 10 V.wt N (zp R')):zdH tag i b d c V N R' w':=by
 obtain⟨_,h1,h2,h3⟩:=h;refine⟨e,h1.wait m hg (by rw[e];exact a),h2.mod m,h3.trans (m.mono (fun q hq=>.inl (zbk (r:=6) (by rw[show q=g from hq];exact h1.twt g hg) (by decide))))⟩
theorem zdH.row{tag:Nat→Nat×Nat}{i b:Nat}{W0:World}{c:CS}{V:CV}{N:Nat}{R:List Frm}{w:World}(h:zdH tag i b W0 c V N R w):zc8 w 65 10 V.wt N (zp R):=by
 have:=h.2.1.wt;simp only[h.1]at this;exact this
theorem zdH.frm{tag:Nat→Nat×Nat}{i b cb N g o cap now:Nat}{l:World}{c:CS}{V:CV}(e:l.cell? ⟨cb,0,none⟩=some (.pointer (some ⟨b,0,none⟩)))(k:¬zaf i tag cb)(d:c.now=now)(hv:0<N→V.wt = .slice (some ⟨g,o,none⟩) N cap):FrmJ (zdH tag i b l c V N) N g o b cb now:=by
 refine⟨fun R w w' h m=>⟨h.1,h.2.1.mod0 m,h.2.2.1.mod m,h.2.2.2.trans (m.mono (fun _ x=>x.elim))⟩,fun R w h=>h.1,fun R w h=>h.2.2.2.cell (a:=⟨cb,0,none⟩) k e,fun R w h=>by rw[←d];exact h.2.1.hd (j:=3) rfl,fun R w h j f n q x hx=>?_⟩;have hN:0<N:=by
  have:=(List.getElem?_eq_some_iff.1 n).1;have:=h.1;omega
 have:=h.row.cells (hv hN) (j*10+q) x (zjU R j f n q x hx);rw[←Nat.add_assoc]at this;exact this
def zdh:Frm:={ kind:=0,stream:=0,off:=0,rel:=0,lim:=0,fin:=false,id:=0,dl:=0,data:=[],rngs:=[] }
theorem zoQ(w:World):(zeroValue 65).run Tryz.prog w = .ok (.agg (zh zdh (.slice none 0 0))) w:=by kernel_rfl
theorem zi6(n:Nat):(Builtin.zeroCells (Value.agg (zh zdh (.slice none 0 0))).cells n).toList=zp (List.replicate n zdh):=by
 have h:∀n,(Builtin.zeroCells (Value.agg (zh zdh (.slice none 0 0))).cells n).toList=(List.range (n*10)).map (fun i=>(zh zdh (.slice none 0 0))[i % 10]!):=fun n=>by
  simp[Builtin.zeroCells,Value.cells,zh]
 rw[h];clear h
 induction n with
 | zero=>rfl
 | succ n ih =>
  have e0:zp (List.replicate (n+1) zdh)=(zh zdh (.slice none 0 0)).toList++zp (List.replicate n zdh):=by rw[List.replicate_succ];rfl
  rw[e0,←ih,show(n+1)*10=10+n*10 by omega,List.range_add,List.map_append,List.map_map];have e:((fun i=>(zh zdh (.slice none 0 0))[i % 10]!) ∘ fun x=>10+x)=fun i=>(zh zdh (.slice none 0 0))[i % 10]!:=by
   funext q;simp only[Function.comp,Nat.add_mod_left]
  rw[e];rfl
theorem zcr(A B:List Frm):zp (A++B)=zp A++zp B:=by simp[zp]
theorem zdH.frmK{tag:Nat→Nat×Nat}{i b N g o cap:Nat}{W0:World}{c:CS}{V:CV}(n:0<N→V.wt = .slice (some ⟨g,o,none⟩) N cap):FrmK (zdH tag i b W0 c V N) N g o cap:=by
 refine⟨fun R w l h=>?_,fun R w j f h y hf=>?_,fun R w j h y=>?_⟩
 ·have m:=h.row;rw[n l]at m;obtain⟨sz,⟨a,h1,_⟩,_⟩:=m.rowO;exact⟨a,h1⟩
 ·have l:0<N:=by omega
  have m:=h.row;rw[n l]at m;obtain⟨sz,ro,t,u,e,rfl,v⟩:=m.rowO;have r1:=ro.set (j*10) (.int .i64 f.kind);have r2:=r1.set (j*10+1) (.int .i64 f.stream);have r3:=r2.set (j*10+2) (.int .u64 (f.off:Int));have r4:=r3.set (j*10+3) (.int .u64 (f.rel:Int));have r5:=r4.set (j*10+4) (.int .u64 (f.lim:Int));have r6:=r5.set (j*10+5) (.bool f.fin);have r7:=r6.set (j*10+6) (.int .u64 (f.id:Int));have r8:=r7.set (j*10+7) (.int .u64 (f.dl:Int));have r9:=r8.set (j*10+8) (.string (zq f.data));have r:=r9.set (j*10+9) (.slice none 0 0);rw[←zjT R j f (by rw[h.1];exact y)]at r;simp only[←Nat.add_assoc]at r;refine h.turn (g:=g) ?_ (by rw[n l];rfl) (by rw[List.length_set];exact h.1) ?_
  ·refine((((((((((Mod.refl (fun q=>q=g) w).setCell (p:=⟨g,_,none⟩) (.inl rfl) _).setCell (p:=⟨g,_,none⟩) (.inl rfl) _).setCell (p:=⟨g,_,none⟩) (.inl rfl) _).setCell (p:=⟨g,_,none⟩) (.inl rfl) _).setCell (p:=⟨g,_,none⟩) (.inl rfl) _).setCell (p:=⟨g,_,none⟩) (.inl rfl) _).setCell (p:=⟨g,_,none⟩) (.inl rfl) _).setCell (p:=⟨g,_,none⟩) (.inl rfl) _).setCell (p:=⟨g,_,none⟩) (.inl rfl) _).setCell (p:=⟨g,_,none⟩) (.inl rfl) _
  ·rw[n l];exact r.own (by rw[zZ,List.length_set,h.1]) t u v
 ·have l:0<N:=by omega
  have m:=h.row;rw[n l]at m;obtain⟨sz,⟨a,h1,h2,h3⟩,t,u,e,rfl,v⟩:=m.rowO;have x:w.heap[g]?=some (.cells a.toList.toArray 65 (0,0)):=by simpa using h1
  have d:a.toList.length=sz:=by simpa using h3
  have hb:e*10+N*10≤sz:=by omega
  have k:(R.take j).length=j:=by rw[List.length_take,h.1];omega
  have s:(zp (List.replicate (N-j) zdh)).length=(N-j)*10:=by rw[zZ,List.length_replicate]
  refine⟨_,R.take j++List.replicate (N-j) zdh,fun ty=>zaJ (P:=Tryz.prog) w 54 ty 65 (.agg (zh zdh (.slice none 0 0))) 10 Tryz.underlying54 zoQ rfl (by simp[Value.cells,Value.oneCell',zh]) g (e*10+j*10) (N-j) _ a.toList _ x (by rw[d];omega),?_,?_⟩
  ·rw[zi6];refine h.turn (g:=g) (zcQ w g _) (by rw[n l];rfl) (by rw[List.length_append,k,List.length_replicate];omega) ?_;rw[n l];have hs:(splice a.toList (e*10+j*10) (zp (List.replicate (N-j) zdh))).length=sz:=by rw[length_splice _ _ _ (by rw[s,d];omega),d]
   refine zqi.own (sz:=sz) ⟨_,setRow_heap w g _ _ _ _ h1,?_,by rw[List.size_toArray,hs]⟩ (by rw[zZ,List.length_append,k,List.length_replicate];omega) t u v;have h6:(a.toList.drop (e*10)).take (j*10)=zp (R.take j):=by
    have h7:zp R=zp (R.take j)++zp (R.drop j):=by rw[←zcr,List.take_append_drop]
    have h8:(a.toList.drop (e*10)).take (j*10)=((a.toList.drop (e*10)).take (N*10)).take (j*10):=by rw[List.take_take,Nat.min_eq_left (by omega)]
    rw[h8,h2,h7,List.take_append_of_le_length (by rw[zZ,k];omega),List.take_of_length_le (by rw[zZ,k];omega)]
   have h9:(a.toList.take (e*10+j*10)).drop (e*10)=zp (R.take j):=by
    rw[List.drop_take,show e*10+j*10-e*10=j*10 by omega,h6]
   unfold splice;simp only[List.toList_toArray];rw[List.drop_append_of_le_length (by rw[List.length_take,d];omega),h9,zcr,←List.append_assoc];have h10:(zp (R.take j)++zp (List.replicate (N-j) zdh)).length=N*10:=by rw[List.length_append,s,zZ,k];omega
   rw[List.take_append_of_le_length (by omega),List.take_of_length_le (by omega)]
  ·rw[List.take_append_of_le_length (by omega),List.take_take,Nat.min_self]
theorem zkK{w:World}{a:Option Addr}{N n cap:Nat}{R:List Frm}(h:zc8 w 65 10 (.slice a N cap) N (zp R))(c:R.length=N)(d:n≤N):zc8 w 65 10 (.slice a n cap) n (zp (R.take n)):=by
 by_cases h0:n=N
 ·rw[h0,List.take_of_length_le (by omega)];exact h
 ·rcases h.2 with⟨e,e2⟩|⟨g,o,f,b,e,h1,h2,h3,h4,h5⟩
  ·omega
  ·cases e;refine⟨by rw[zZ,List.length_take,c,Nat.min_eq_left d],.inr ⟨g,o,cap,b,rfl,h1,by omega,h3,h4,?_⟩⟩;have h7:zp R=zp (R.take n)++zp (R.drop n):=by rw[←zcr,List.take_append_drop]
   have hl:(zp (R.take n)).length=n*10:=by rw[zZ,List.length_take,c,Nat.min_eq_left d]
   have h8:(b.toList.drop (o*10)).take (n*10)=((b.toList.drop (o*10)).take (N*10)).take (n*10):=by rw[List.take_take,Nat.min_eq_left (by omega)]
   rw[h8,h5,h7,List.take_append_of_le_length (by omega),List.take_of_length_le (by omega)]
theorem zdH.done{tag:Nat→Nat×Nat}{i b:Nat}{W0:World}{c:CS}{V:CV}{a:Option Addr}{N cap n:Nat}{R:List Frm}{w:World}(h:zdH tag i b W0 c V N R w)(s:V.wt = .slice a N cap)(hn:n≤N) :
  zg tag i b { c with waits:=R.take n } { V with wt:=.slice a n cap } (w.setCell ⟨b,238,none⟩ (.slice a n cap)):=by
 have d:=h.row;rw[s]at d;have d:=zkK d h.1 hn;obtain⟨hl,h1,h2,h3⟩:=h;have m:Mod (fun q=>q=b) w (w.setCell ⟨b,238,none⟩ (.slice a n cap)):=(Mod.refl (fun q=>q=b) w).setCell (p:=⟨b,_,none⟩) (.inl rfl) _;have f:∀g,Value.blk (.slice a n cap)=some g→tag g=(i,6):=fun g hg=>h1.twt g (by rw[s];cases a<;>exact hg)
 have o:∀g,Value.blk (.slice a n cap)=some g→¬g=b:=fun g hg e=>by
  have h4:=f g hg;rw[e,h1.tb]at h4;simp at h4
 have l:(R.take n).length=n:=by rw[List.length_take,hl];omega
 refine h1.build (R:=fun r=>r=1) m (fun q hq=>⟨1,rfl,by rw[show q=b from hq];exact h1.tb⟩) (fun _ _=>rfl) ?_ (.inl ⟨rfl,rfl,rfl,by omega,by omega⟩) (fun k hk=>.inl ⟨rfl,rfl,by omega⟩) (fun k hk=>.inl ⟨rfl,rfl,by omega⟩) (fun k hk=>.inl ⟨rfl,rfl,by omega⟩) (fun k hk=>.inl ⟨rfl,rfl,by omega⟩) (fun k hk=>.inl ⟨rfl,rfl,by omega⟩) (.inl ⟨rfl,rfl,rfl,by omega,by omega⟩) (.inr ⟨?_,f⟩) (.inl ⟨rfl,rfl,by omega⟩) (.inl ⟨rfl,rfl,by omega⟩)
 ·rw[zc h1.obj];simp only[List.setIfInBounds_toArray];rw[show(238:Nat)=233+5 from rfl,zV (j:=5) { c with waits:=R } { c with waits:=R.take n } V { V with wt:=.slice a n cap } (.slice a n cap) rfl rfl rfl rfl]
 ·simp only[l];exact d.mod m o
def CS.ticked(c:CS):CS:={ c with now:=c.now+1,waits:=c.waits.filter (fun f => !decide (f.dl<c.now+1)) }
theorem zoR{tag:Nat→Nat×Nat}{i b:Nat}{c:CS}{V:CV}{W:World}(h:zg tag i b c V W)(L:zP tag W)(hi:0<i)(hn:c.now≤zA)(hw:c.waits.length≤1099511627776)(hb:c.flight.length≤1099511627776)(ok:zeV c.ticked) :
  Calls Tryz.prog 26 #[.pointer (some ⟨b,0,none⟩)] W (zbd tag i b W (.tuple #[]) c.tick):=by
 obtain⟨N,y⟩:=nm c.waits.length;obtain⟨a,cap,z,q1,q2,g,o,s⟩:∃a cap,V.wt = .slice a N cap∧N≤cap∧cap≤maxLen∧∃g o,0<N→a=some ⟨g,o,none⟩:=by
  rcases h.wt.2 with⟨e,e2⟩|⟨g,o,cap,cur,e,_,h2,h3,_⟩
  ·have Q:N=0:=by omega
   exact⟨none,0,by rw[e,Q],by omega,by unfold maxLen;omega,0,0,fun x=>by omega⟩
  ·exact⟨_,cap,by rw[e,y],by omega,h3,g,o*10,fun _=>rfl⟩
 obtain⟨nw,d⟩:=nm c.now;rw[d]at hn;unfold zA at hn;obtain⟨W1,t⟩:=nm (W.alloc (.cells #[.pointer (some ⟨b,0,none⟩)] 69));have m1:Mod NoB W W1:=by rw[←t];exact(Mod.refl _ _).alloc _
 have f:W1.cell? ⟨W.heap.size,0,none⟩=some (.pointer (some ⟨b,0,none⟩)):=by rw[←t];exact za (heap_alloc_new W _) rfl
 have k:¬zaf i tag W.heap.size:=fun x=>by
  have h1:=x.1;rw[L _ (Nat.le_refl _)]at h1;simp at h1;omega
 have h1:=h.mod0 m1;obtain⟨cb,l⟩:=nm W.heap.size;rw[l]at f k;have A:cb≠b:=fun e=>k (by rw[e];exact zbk h.tb (by decide))
 obtain⟨W2,u⟩:=nm (W1.setCell ⟨b,3,none⟩ (.int .u64 ((nw:Int)+1)));have M:Mod (fun q=>q=b) W1 W2:=by rw[←u];exact(Mod.refl (fun q=>q=b) W1).setCell (p:=⟨b,_,none⟩) (.inl rfl) _
 have h2:zg tag i b { c with now:=c.now+1 } V W2:=by
  have:=h1.store 3 _ (za4 c { c with now:=c.now+1 } V V (j:=3) _ (by decide) rfl rfl rfl rfl) ⟨rfl,fun _ _=>⟨rfl,rfl,rfl⟩,fun _ _=>⟨rfl,rfl⟩,rfl,rfl,rfl,rfl⟩;rw[←u,←d];exact this
 have B:zP tag W2:=(L.mod m1).mod M;have v:W2.cell? ⟨cb,0,none⟩=some (.pointer (some ⟨b,0,none⟩)):=M.cell (a:=⟨cb,0,none⟩) A f;have kd:=zi3 (zdH tag i b W2 { c with now:=c.now+1 } V N) c.waits N g o cap b cb (nw+1) a y (by omega) q1 q2 s (zdH.frm (cap:=cap) v k (by rw[d]) (fun x=>by rw[z,s x])) (zdH.frmK (fun x=>by rw[z,s x])) W2.drew ⟨y,h2.mod0 (Mod.refl NoB W2).drew,B.mod (Mod.refl NoB W2).drew,(Mod.refl _ W2).drew⟩;have c3:W1.cell? ⟨b,3,none⟩=some (.int .u64 (nw:Int)):=by rw[←d];exact h1.hd (j:=3) rfl
 have S:W1.frozen? ⟨b,3,none⟩=false:=h1.fz 3;have C:W2.cell? ⟨b,238,none⟩=some (.slice a N cap):=by rw[←z];exact h2.tl (j:=5) rfl
 have fz:W2.frozen? ⟨b,238,none⟩=false:=h2.fz 238;have yw:IntKind.u64.wrap ((nw:Int)+1)=(nw:Int)+1:=by rw[IntKind.wrap_u64];omega
 have T:Hid (Mod (zaf i tag) W W2):=zb ((m1.mono (fun _ x=>x.elim)).trans (M.mono (fun q D=>.inl (zbk (r:=1) (by rw[show q=b from D];exact h.tb) (by decide)))));have KD:=zb kd;have HT:=zb L;have HI:=zb hi;have E:=zb k;have U:=zb v;have HN:=zb y;have X:=zb t;have Y:=zb u;have aa:=zb l;have ab:=zb ok;have HB:=zb hb;have HV:=zb z;have ac:=zb d;clear kd L hi m1 M k y h h1 h2 B ok hb hw t u l A z d s q1 q2;go_enter Tryz.func26,Tryz.ntmps26;go_upto_region 1 with fail;rw[X.out,aa.out];go_upto_region 2 with fail;rw[Y.out];clear c3 S f;refine zB ?_;refine zl 9 (fun w'=>w'.cell? ⟨cb,0,none⟩=some (.pointer (some ⟨b,0,none⟩))∧w'.cell? ⟨b,238,none⟩=some (.slice a N cap)∧w'.frozen? ⟨b,238,none⟩=false) (⟨v,C,fz⟩) ?_;refine GI 0 ?_;iterate 6
  refine GS rfl ?_ ?_ ?_;rotate_left
  ·(intro wx m;(try dsimp only at m);obtain⟨f0,f1,f2⟩:=m;go_simp)<;>(try with_reducible rfl)
  try simp only[PS]
 refine zx 6 rfl (fun K F=>?_);go_simp
 with_reducible refine(KD.out).mono ?_
 rintro e w ⟨n,R,rfl,G,hj,hR⟩;have H:=zb (And.intro G (And.intro hj hR));have hF:w.cell? ⟨cb,0,none⟩=some (.pointer (some ⟨b,0,none⟩))∧w.cell? ⟨b,238,none⟩=some (.slice a N cap)∧w.frozen? ⟨b,238,none⟩=false:=by
  obtain⟨hl,h1,h2,h3⟩:=hj;exact⟨h3.cell (a:=⟨cb,0,none⟩) E.out U.out,by rw[←HV.out];exact h1.tl (j:=5) rfl,h1.fz 238⟩
 clear hj G hR;go_simp;refine F.out _ _ hF ?_;obtain⟨p0,p1,p2⟩:=hF;clear F K;try simp only[PS]
 refine GI 7 ?_;iterate 2
  refine GS rfl ?_ ?_ ?_;rotate_left
  ·(intro wx m;(try dsimp only at m);obtain⟨f0,f1,f2⟩:=m;go_simp)<;>(try with_reducible rfl)
  try simp only[PS]
 refine zQ rfl (fun K F=>?_);go_simp;refine F.out _ _ ?_;clear F K;try simp only[PS]
 refine zo ?_;refine⟨rfl,?_⟩;obtain⟨Z,hZ⟩:=nm (w.setCell ⟨b,238,none⟩ (.slice a n cap));have O:Mod (fun q=>q=b) w Z:=by rw[←hZ];exact(Mod.refl (fun q=>q=b) w).setCell (p:=⟨b,_,none⟩) (.inl rfl) _
 have P:zg tag i b c.ticked { V with wt:=.slice a n cap } Z:=by
  obtain⟨j1,j2,j3⟩:=H.out;have:=j2.done HV.out (by rw[←HN.out];exact j1);rw[hZ,j3,←ac.out]at this;exact this
 have I:zP tag Z:=H.out.2.1.2.2.1.mod O;have kl:=zjP P I HI.out ab.out HB.out;have zcb:Z.cell? ⟨cb,0,none⟩=some (.pointer (some ⟨b,0,none⟩)):=O.cell (a:=⟨cb,0,none⟩) (fun e=>E.out (by rw[show cb=b from e];exact zbk P.tb (by decide))) p0;have KL:=zb kl;have MZ:=zb O;have HC:=zb P;clear kl O P I p0 p1 p2 v C fz;try rw[hZ]
 go_wp2_with fail;refine(KL.out).mono ?_;rintro e w9 ⟨rfl,J,V9,r1,r2,r3⟩;have R9:=zb (And.intro r1 (And.intro r2 r3));clear r1 r2 r3;go_wp2_with fail
 go_end0
 refine⟨rfl,J,V9,R9.out.1,?_,?_⟩
 ·exact(Ext.same HT.out ((T.out.trans H.out.2.1.2.2.2).trans (MZ.out.mono (fun q D=>.inl (zbk (r:=1) (by rw[show q=b from D];exact HC.out.tb) (by decide)))))).trans R9.out.2.1 (by have h1:=T.out.size;have h2:=H.out.2.1.2.2.2.size;have h3:=MZ.out.size;omega)
 ·exact((T.out.trans H.out.2.1.2.2.2).trans (MZ.out.mono (fun q D=>.inl (zbk (r:=1) (by rw[show q=b from D];exact HC.out.tb) (by decide))))).ofC.trans R9.out.2.2
end Go.Proofs.YtddfdpbaiedcjaaGreatDoor
