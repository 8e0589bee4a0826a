/- A part of Carried's proof. Conditions: none. Part 11 of 13. -/
import Derived.Test.YtddfdpbaiedcjaaGreatDoorCar10
import Derived.Test.YtddfdpbaiedcjaaGreatDoorCar9
set_option maxRecDepth 100000
set_option maxHeartbeats 16000000
set_option linter.all false
namespace Go.Proofs.YtddfdpbaiedcjaaGreatDoor
open Go.RowKit Go.Proofs.Tryz
structure FrmK(J:List Frm→World→Prop)(N g o cap:Nat):Prop where
 obj:∀R w,0<N→J R w→∃cur,w.heap[g]?=some (.cells cur 65 (0,0))
 st:∀R w (i:Nat) (f:Frm),J R w→i<N→f∈R→J (R.set i f) ((((((((((w.setCell ⟨g,o+i*10,none⟩ (.int .i64 f.kind)).setCell ⟨g,o+i*10+1,none⟩ (.int .i64 f.stream)).setCell ⟨g,o+i*10+2,none⟩ (.int .u64 (f.off:Int))).setCell ⟨g,o+i*10+3,none⟩ (.int .u64 (f.rel:Int))).setCell ⟨g,o+i*10+4,none⟩ (.int .u64 (f.lim:Int))).setCell ⟨g,o+i*10+5,none⟩ (.bool f.fin)).setCell ⟨g,o+i*10+6,none⟩ (.int .u64 (f.id:Int))).setCell ⟨g,o+i*10+7,none⟩ (.int .u64 (f.dl:Int))).setCell ⟨g,o+i*10+8,none⟩ (.string (zq f.data))).setCell ⟨g,o+i*10+9,none⟩ (.slice none 0 0))
 cl:∀R w (i:Nat),J R w→i<N→∃w2 R2,(∀ty,(Builtin.clear_ #[54] ty #[.slice (some ⟨g,o+i*10,none⟩) (N-i) (cap-i)]).run prog w = .ok (.tuple #[]) w2)∧J R2 w2∧R2.take i=R.take i
def DtPost(J:List Frm→World→Prop)(now:Nat)(L:List Frm)(a:Option Addr)(cap:Nat)(e:Ending)(w':World):Prop :=
 ∃(i:Nat) (R:List Frm),e = .returned (.slice a i cap)∧i≤L.length∧J R w'∧R.take i=L.filter (fun x => !decide (x.dl<now))
variable{now:Nat}
theorem zeo{l:List Frm}(h:∀x∈l,decide (x.dl<now)=false):l.filter (fun x => !decide (x.dl<now))=l :=
 List.filter_eq_self.2 (fun x hx=>by rw[h x hx];rfl)
theorem zjk(J:List Frm→World→Prop)(L:List Frm)(N g o cap b cb now:Nat)(a:Option Addr)(W:L.length=N)(X:N≤1099511627776)(ax:N≤cap)(Z:cap≤maxLen)(ha:0<N→a=some ⟨g,o,none⟩)(hJ:FrmJ J N g o b cb now)(hK:FrmK J N g o cap)
  (w:World) (h0:J L w) :
  Calls prog 47 #[.slice a N cap,.func (.func 48) #[] #[.pointer (some ⟨cb,0,none⟩)]] w (DtPost J now L a cap):=by
 have ki:=zli J L N g o cap b cb now a W X ha hJ w h0;unfold maxLen at Z;have s:=zb hJ;have S:=zb hK;have HA:=zb ha;have T:=zb W;have KI:=zb ki;clear hJ hK h0 ha W ki;go_enter func47,ntmps47;go_wp2_with fail;refine(KI.out).mono ?_;clear KI;rintro e w1 (⟨k,rfl,t,h,m,D⟩|⟨rfl,h,m⟩)
 ·have aa:k<N:=by rw[←T.out];exact t
  have ab:=HA.out (by omega);subst ab;have n:=zb D;have E:Hid (L.take k=(L.take (k+1)).filter (fun x => !decide (x.dl<now))):=zb (by
   obtain⟨x,u⟩:∃x,L[k]?=some x:=⟨L[k],List.getElem?_eq_getElem t⟩;have h9:=m x u;rw[List.take_add_one,u,List.filter_append,zeo h];simp only[Option.toList_some,List.filter_cons,h9];simp)
  have d1:((k:Int) == -1)=false:=by rw[beq_eq_false_iff_ne];omega
  clear t h m D;go_wp2_with fail
  go_loopw [5,6] (fun iv jv wr=>∃(i j:Nat) (R:List Frm),iv = .int .i64 (i:Int)∧jv = .int .i64 (j:Int)∧i<j∧j≤N∧Hid (J R wr∧R.take i=(L.take j).filter (fun x => !decide (x.dl<now))∧R.drop j=L.drop j)) (fun _ jv _=>N-(intOf jv).toNat)
  case atStart=>exact⟨k,k+1,L,rfl,by go_num,by omega,by omega,zb ⟨n.out,E.out,rfl⟩⟩
  case round =>
   clear n E d1 aa;obtain⟨i,j,R,rfl,rfl,ac,hj,q⟩:=hrel;have F:=s.out.len R wr q.out.1;by_cases hlt:j<N
   ·obtain⟨f,u⟩:∃x,R[j]?=some x:=⟨R[j]'(by omega),List.getElem?_eq_getElem (by omega)⟩;have G:L[j]?=some f:=by
     have h1:=congrArg (fun l=>l[0]?) q.out.2.2;simp only[List.getElem?_drop,Nat.add_zero]at h1;rw[←h1];exact u
    obtain⟨ad,ae,af,ah,ai,aj,ak,al,am,an⟩:=zbX (s.out.rd R wr q.out.1 j f u);obtain⟨Y,H⟩:=nm (wr.alloc (.cells (zj f (.slice none 0 0)) 65));have mY:Mod NoB wr Y:=by rw[←H];exact(Mod.refl _ _).alloc _
    have v:zh Y wr.heap.size f (.slice none 0 0):=by rw[←H];exact heap_alloc_new wr _
    have U:=s.out.box _ _ _ q.out.1 mY;have V:=zhP f (.slice none 0 0) b cb now Y (s.out.cb R Y U) (s.out.now R Y U);obtain⟨y0,y1,y2,y3,y4,y5,y6,y7,y8,y9⟩:=v.cells;unfold zj at V H;have HX:=zb (And.intro u G);obtain⟨dv,y⟩:=nm (decide (f.dl<now));rw[y]at V;have ao:=zb y;have KC:=zb V;have z:=zb F;have JY:=zb U;have A:=zb v;obtain⟨yb,B⟩:=nm wr.heap.size;rw[B]at y0 y1 y2 y3 y4 y5 y6 y7 y8 y9 A;have HY:=zb H;have ap:=zb B;clear V u G y F U v mY H B;go_upto_region 8 with fail;rw[ap.out,HY.out];go_wp2_with fail;refine(KC.out).mono ?_;rintro e d ⟨rfl,I⟩;have m6:Mod NoB Y d:=by rw[I];exact((Mod.refl NoB Y).alloc _).drew
    have K:zh d yb f (.slice none 0 0):=m6.obj (fun x=>x) A.out;have C:J R d:=s.out.box _ _ _ JY.out m6;obtain⟨z0,z1,z2,z3,z4,z5,z6,z7,z8,z9⟩:=K.cells;have J6:=zb C;have r:i<N:=by omega
    have M:Hid ((L.take (j+1)).filter (fun x => !decide (x.dl<now))=(L.take j).filter (fun x => !decide (x.dl<now))++(if dv then []else [f])):=zb (by
     rw[List.take_add_one,HX.out.2,List.filter_append]
     congr 1
     have h9:=ao.out;simp only[Option.toList_some,List.filter_cons,h9];cases dv<;>simp)
    have O:Hid (R.drop (j+1)=L.drop (j+1)):=zb (by
     have h1:=congrArg (List.drop 1) q.out.2.2;simpa [List.drop_drop]using h1)
    clear KC y0 y1 y2 y3 y4 y5 y6 y7 y8 y9 ad ae af ah ai aj ak al am an I m6 K JY A;cases dv with
    | true =>
     clear C;go_wp2_with fail;go_roundw
     case rel=>exact⟨i,j+1,R,rfl,by go_num,by omega,by omega,zb ⟨J6.out,by rw[M.out,q.out.2.1];simp,O.out⟩⟩
     case measure=>simp[intOf];omega
    | false =>
     obtain⟨cur,c⟩:=S.out.obj _ _ (by omega) C;obtain⟨xi,P⟩:∃xi,R[i]?=some xi:=⟨R[i]'(by rw[z.out];exact r),List.getElem?_eq_getElem (by rw[z.out];exact r)⟩;obtain⟨w0,w1',w2',w3',w4',w5',w6',w7',w8',w9'⟩:=zbX (s.out.rd R d C i xi P);have f0:∀p,d.frozen? ⟨g,p,none⟩=false:=fun p=>zf c
     have f1:∀p1 v1 p,(d.setCell ⟨g,p1,none⟩ v1).frozen? ⟨g,p,none⟩=false:=fun p1 v1 p=>zf (zc c)
     have f2:∀p1 v1 p2 v2 p,((d.setCell ⟨g,p1,none⟩ v1).setCell ⟨g,p2,none⟩ v2).frozen? ⟨g,p,none⟩=false:=fun p1 v1 p2 v2 p=>zf (zc (zc c))
     have f3:∀p1 v1 p2 v2 p3 v3 p,(((d.setCell ⟨g,p1,none⟩ v1).setCell ⟨g,p2,none⟩ v2).setCell ⟨g,p3,none⟩ v3).frozen? ⟨g,p,none⟩=false:=fun p1 v1 p2 v2 p3 v3 p=>zf (zc (zc (zc c)))
     have f4:∀p1 v1 p2 v2 p3 v3 p4 v4 p,((((d.setCell ⟨g,p1,none⟩ v1).setCell ⟨g,p2,none⟩ v2).setCell ⟨g,p3,none⟩ v3).setCell ⟨g,p4,none⟩ v4).frozen? ⟨g,p,none⟩=false:=fun p1 v1 p2 v2 p3 v3 p4 v4 p=>zf (zc (zc (zc (zc c))))
     have f5:∀p1 v1 p2 v2 p3 v3 p4 v4 p5 v5 p,(((((d.setCell ⟨g,p1,none⟩ v1).setCell ⟨g,p2,none⟩ v2).setCell ⟨g,p3,none⟩ v3).setCell ⟨g,p4,none⟩ v4).setCell ⟨g,p5,none⟩ v5).frozen? ⟨g,p,none⟩=false:=fun p1 v1 p2 v2 p3 v3 p4 v4 p5 v5 p=>zf (zc (zc (zc (zc (zc c)))))
     have f6:∀p1 v1 p2 v2 p3 v3 p4 v4 p5 v5 p6 v6 p,((((((d.setCell ⟨g,p1,none⟩ v1).setCell ⟨g,p2,none⟩ v2).setCell ⟨g,p3,none⟩ v3).setCell ⟨g,p4,none⟩ v4).setCell ⟨g,p5,none⟩ v5).setCell ⟨g,p6,none⟩ v6).frozen? ⟨g,p,none⟩=false:=fun p1 v1 p2 v2 p3 v3 p4 v4 p5 v5 p6 v6 p=>zf (zc (zc (zc (zc (zc (zc c))))))
     have f7:∀p1 v1 p2 v2 p3 v3 p4 v4 p5 v5 p6 v6 p7 v7 p,(((((((d.setCell ⟨g,p1,none⟩ v1).setCell ⟨g,p2,none⟩ v2).setCell ⟨g,p3,none⟩ v3).setCell ⟨g,p4,none⟩ v4).setCell ⟨g,p5,none⟩ v5).setCell ⟨g,p6,none⟩ v6).setCell ⟨g,p7,none⟩ v7).frozen? ⟨g,p,none⟩=false:=fun p1 v1 p2 v2 p3 v3 p4 v4 p5 v5 p6 v6 p7 v7 p=>zf (zc (zc (zc (zc (zc (zc (zc c)))))))
     have f8:∀p1 v1 p2 v2 p3 v3 p4 v4 p5 v5 p6 v6 p7 v7 p8 v8 p,((((((((d.setCell ⟨g,p1,none⟩ v1).setCell ⟨g,p2,none⟩ v2).setCell ⟨g,p3,none⟩ v3).setCell ⟨g,p4,none⟩ v4).setCell ⟨g,p5,none⟩ v5).setCell ⟨g,p6,none⟩ v6).setCell ⟨g,p7,none⟩ v7).setCell ⟨g,p8,none⟩ v8).frozen? ⟨g,p,none⟩=false:=fun p1 v1 p2 v2 p3 v3 p4 v4 p5 v5 p6 v6 p7 v7 p8 v8 p=>zf (zc (zc (zc (zc (zc (zc (zc (zc c))))))))
     have f9:∀p1 v1 p2 v2 p3 v3 p4 v4 p5 v5 p6 v6 p7 v7 p8 v8 p9 v9 p,(((((((((d.setCell ⟨g,p1,none⟩ v1).setCell ⟨g,p2,none⟩ v2).setCell ⟨g,p3,none⟩ v3).setCell ⟨g,p4,none⟩ v4).setCell ⟨g,p5,none⟩ v5).setCell ⟨g,p6,none⟩ v6).setCell ⟨g,p7,none⟩ v7).setCell ⟨g,p8,none⟩ v8).setCell ⟨g,p9,none⟩ v9).frozen? ⟨g,p,none⟩=false:=fun p1 v1 p2 v2 p3 v3 p4 v4 p5 v5 p6 v6 p7 v7 p8 v8 p9 v9 p=>zf (zc (zc (zc (zc (zc (zc (zc (zc (zc c)))))))))
     have J7:=zb (S.out.st R d i f C r (List.mem_of_getElem? HX.out.1));clear C c P;go_wp2_with fail;go_roundw
     case rel =>
      refine⟨i+1,j+1,R.set i f,by go_num,by go_num,by omega,by omega,zb ⟨J7.out,?_,?_⟩⟩
      ·rw[zdm (by rw[z.out];exact r),M.out,q.out.2.1];rfl
      ·rw[zdn (by omega),O.out]
     case measure=>simp[intOf];omega
   ·have aq:j=N:=by omega
    subst aq;obtain⟨w2,R2,kcl,j2,t2⟩:=S.out.cl R wr i q.out.1 ac;have ar:=zb j2;have au:=zb t2;have e1:¬cap=i:=by omega
    have d1:i≤cap:=by omega
    clear j2 t2;have HL:=T.out;have Q:R2.take i=L.filter (fun x => !decide (x.dl<now)):=by
     rw[au.out,q.out.2.1,List.take_of_length_le (by omega)]
    have av:=zb Q;have aw:=zb HL;clear HL Q;go_wp2_with fail;go_ret;exact⟨i,R2,rfl,by rw[aw.out];omega,ar.out,av.out⟩
 ·clear s S;have n:=zb m;have HF:=zb (zeo h);clear h m;go_wp2_with fail;go_ret;exact⟨N,L,rfl,by rw[T.out];exact Nat.le_refl _,n.out,by rw[HF.out,←T.out,List.take_of_length_le (Nat.le_refl _)]⟩
def zre(w:World)(g off n sz:Nat)(xs:List Value):Prop:=∃cur,w.heap[g]?=some (.cells cur 65 (0,0))∧(cur.toList.drop off).take n=xs∧cur.size=sz
variable{g n sz:Nat}{w:World}{xs:List Value}
theorem zre.set{off:Nat}(h:zre w g off n sz xs)(m:Nat)(v:Value):zre (w.setCell ⟨g,off+m,none⟩ v) g off n sz (xs.set m v):=by
 obtain⟨cur,h1,h2,h3⟩:=h;refine⟨_,zc h1,?_,by simp[h3]⟩;rw[←h2,Array.toList_setIfInBounds,List.drop_set,if_neg (by omega),List.take_set,show off+m-off=m by omega]
theorem zb6(f:Frm)(l:List Frm):zp (f::l)=(.int .i64 f.kind)::(.int .i64 f.stream)::(.int .u64 (f.off:Int))::(.int .u64 (f.rel:Int))::(.int .u64 (f.lim:Int))::(.bool f.fin)::(.int .u64 (f.id:Int))::(.int .u64 (f.dl:Int))::(.string (zq f.data))::(.slice none 0 0)::zp l:=rfl
theorem zkg:∀(R:List Frm) (i:Nat) (f:Frm),i<R.length→zp (R.set i f)=((((((((((zp R).set (i*10) (.int .i64 f.kind)).set (i*10+1) (.int .i64 f.stream)).set (i*10+2) (.int .u64 (f.off:Int))).set (i*10+3) (.int .u64 (f.rel:Int))).set (i*10+4) (.int .u64 (f.lim:Int))).set (i*10+5) (.bool f.fin)).set (i*10+6) (.int .u64 (f.id:Int))).set (i*10+7) (.int .u64 (f.dl:Int))).set (i*10+8) (.string (zq f.data))).set (i*10+9) (.slice none 0 0)
 | [],_,_,h=>by simp at h
 | y::R,0,f,_=>by simp[zb6]
 | y::R,i+1,f,h=>by
  have ih:=zkg R i f (by simpa using h);rw[List.set_cons_succ,zb6,zb6,ih,show(i+1)*10=i*10+10 by omega];simp[List.set_cons_succ]
theorem zkh:∀(R:List Frm) (j:Nat) (f:Frm),R[j]?=some f→∀q x,(zj f (.slice none 0 0))[q]?=some x→(zp R)[j*10+q]?=some x
 | [],j,f,h=>by simp at h
 | y::R,0,f,h=>by
  simp at h;subst h;intro q x a;have hq:q<10:=(Array.getElem?_eq_some_iff.1 a).1;have e:zp (y::R)=(zj y (.slice none 0 0)).toList++zp R:=rfl;rw[e,Nat.zero_mul,Nat.zero_add,List.getElem?_append_left (by exact hq),Array.getElem?_toList];exact a
 | y::R,j+1,f,h=>by
  intro q x a;have ih:=zkh R j f (by simpa using h) q x a;have e:zp (y::R)=(zj y (.slice none 0 0)).toList++zp R:=rfl;have hl:(zj y (.slice none 0 0)).toList.length=10:=rfl;rw[e,List.getElem?_append_right (by rw[hl];omega),hl,show(j+1)*10+q-10=j*10+q by omega];exact ih
variable{N cap o:Nat}
theorem zez.rowO(h:zez w 65 10 (.slice (some ⟨g,o,none⟩) N cap) N xs):∃sz,zre w g o (N*10) sz xs∧N≤cap∧cap≤maxLen∧∃o',o=o'*10∧(o'+cap)*10≤sz:=by
 rcases h.2 with⟨e,_⟩|⟨g',o',b,a,e,h1,h2,h3,h4,h5⟩
 ·cases e
 ·cases e;exact⟨a.size,⟨a,h1,h5,rfl⟩,h2,h3,o',rfl,h4⟩
theorem zre.own(h:zre w g (o*10) (N*10) sz xs)(hl:xs.length=N*10)(h2:N≤cap)(h3:cap≤maxLen)(h4:(o+cap)*10≤sz):zez w 65 10 (.slice (some ⟨g,o*10,none⟩) N cap) N xs:=by
 obtain⟨d,a,b,c⟩:=h;exact⟨hl,.inr ⟨g,o,cap,d,rfl,a,h2,h3,by rw[c];exact h4,b⟩⟩
variable{V:CV}{W W':World}{b i:Nat}{c:CS}{tag:Nat→Nat×Nat}
theorem zg.wait{R':List Frm}(h:zg tag i b c V W)(m:Mod (fun q=>q=g) W W')(hg:Value.blk V.wt=some g)(d:zez W' 65 10 V.wt R'.length (zp R')):zg tag i b { c with waits:=R' } V W':=by
 have a:=h.twt g hg;have f:b≠g:=fun e=>by
  rw[←e,h.tb]at a;simp at a
 refine h.build (R:=fun r=>r=6) m (fun q hq=>⟨6,rfl,by rw[show q=g from hq];exact a⟩) (fun _ _=>rfl) (m.obj f h.obj) (.inl ⟨rfl,rfl,rfl,by omega,by omega⟩) (fun k hk=>.inl ⟨rfl,rfl,by omega⟩) (fun k hk=>.inl ⟨rfl,rfl,by omega⟩) (fun k hk=>.inl ⟨rfl,rfl,by omega⟩) (fun k hk=>.inl ⟨rfl,rfl,by omega⟩) (fun k hk=>.inl ⟨rfl,rfl,by omega⟩) (.inl ⟨rfl,rfl,rfl,by omega,by omega⟩) (.inr ⟨d,h.twt⟩) (.inl ⟨rfl,rfl,by omega⟩) (.inl ⟨rfl,rfl,by omega⟩)
def zdN(tag:Nat→Nat×Nat)(i b:Nat)(W0:World)(c:CS)(V:CV)(N:Nat)(R:List Frm)(w:World):Prop:=R.length=N∧zg tag i b { c with waits:=R } V w∧zR tag w∧Mod (zai i tag) W0 w
variable{W0 w':World}
theorem zdN.turn{R R':List Frm}(h:zdN tag i b W0 c V N R w)(m:Mod (fun q=>q=g) w w')(hg:Value.blk V.wt=some g)(hl:R'.length=N)(a:zez w' 65 10 V.wt N (zp R')):zdN tag i b W0 c V N R' w':=by
 obtain⟨_,h1,h2,h3⟩:=h;refine⟨hl,h1.wait m hg (by rw[hl];exact a),h2.mod m,h3.trans (m.mono (fun q hq=>.inl (zbk (r:=6) (by rw[show q=g from hq];exact h1.twt g hg) (by decide))))⟩
theorem zdN.row{R:List Frm}(h:zdN tag i b W0 c V N R w):zez w 65 10 V.wt N (zp R):=by
 have:=h.2.1.wt;simp only[h.1]at this;exact this
variable{cb:Nat}
theorem zdN.frm(e:W0.cell? ⟨cb,0,none⟩=some (.pointer (some ⟨b,0,none⟩)))(k:¬zai i tag cb)(d:c.now=now)(hv:0<N→V.wt = .slice (some ⟨g,o,none⟩) N cap):FrmJ (zdN tag i b W0 c V N) N g o b cb now:=by
 refine⟨fun R w w' h m=>⟨h.1,h.2.1.mod0 m,h.2.2.1.mod m,h.2.2.2.trans (m.mono (fun _ x=>x.elim))⟩,fun R w h=>h.1,fun R w h=>h.2.2.2.cell (a:=⟨cb,0,none⟩) k e,fun R w h=>by rw[←d];exact h.2.1.hd (j:=3) rfl,fun R w h j f hf q x hx=>?_⟩;have hN:0<N:=by
  have:=(List.getElem?_eq_some_iff.1 hf).1;have:=h.1;omega
 have:=h.row.cells (hv hN) (j*10+q) x (zkh R j f hf q x hx);rw[←Nat.add_assoc]at this;exact this
def zdp:Frm:={ kind:=0,stream:=0,off:=0,rel:=0,lim:=0,fin:=false,id:=0,dl:=0,data:=[],rngs:=[] }
theorem zpy(w:World):(zeroValue 65).run prog w = .ok (.agg (zj zdp (.slice none 0 0))) w:=by kernel_rfl
theorem zjl(n:Nat):(Builtin.zeroCells (Value.agg (zj zdp (.slice none 0 0))).cells n).toList=zp (List.replicate n zdp):=by
 have h:∀n,(Builtin.zeroCells (Value.agg (zj zdp (.slice none 0 0))).cells n).toList=(List.range (n*10)).map (fun i=>(zj zdp (.slice none 0 0))[i % 10]!):=fun n=>by
  simp[Builtin.zeroCells,Value.cells,zj]
 rw[h];clear h
 induction n with
 | zero=>rfl
 | succ n ih =>
  have e0:zp (List.replicate (n+1) zdp)=(zj zdp (.slice none 0 0)).toList++zp (List.replicate n zdp):=by rw[List.replicate_succ];rfl
  rw[e0,←ih,show(n+1)*10=10+n*10 by omega,List.range_add,List.map_append,List.map_map];have e:((fun i=>(zj zdp (.slice none 0 0))[i % 10]!) ∘ fun x=>10+x)=fun i=>(zj zdp (.slice none 0 0))[i % 10]!:=by
   funext q;simp only[Function.comp,Nat.add_mod_left]
  rw[e];rfl
theorem zcw(A B:List Frm):zp (A++B)=zp A++zp B:=by simp[zp]
theorem zdN.frmK(n:0<N→V.wt = .slice (some ⟨g,o,none⟩) N cap):FrmK (zdN tag i b W0 c V N) N g o cap:=by
 refine⟨fun R w l h=>?_,fun R w j f h y hf=>?_,fun R w j h y=>?_⟩
 ·have m:=h.row;rw[n l]at m;obtain⟨sz,⟨a,h1,_⟩,_⟩:=m.rowO;exact⟨a,h1⟩
 ·have l:0<N:=by omega
  have m:=h.row;rw[n l]at m;obtain⟨sz,ro,t,u,e,rfl,v⟩:=m.rowO;have r1:=ro.set (j*10) (.int .i64 f.kind);have r2:=r1.set (j*10+1) (.int .i64 f.stream);have r3:=r2.set (j*10+2) (.int .u64 (f.off:Int));have r4:=r3.set (j*10+3) (.int .u64 (f.rel:Int));have r5:=r4.set (j*10+4) (.int .u64 (f.lim:Int));have r6:=r5.set (j*10+5) (.bool f.fin);have r7:=r6.set (j*10+6) (.int .u64 (f.id:Int));have r8:=r7.set (j*10+7) (.int .u64 (f.dl:Int));have r9:=r8.set (j*10+8) (.string (zq f.data));have r:=r9.set (j*10+9) (.slice none 0 0);rw[←zkg R j f (by rw[h.1];exact y)]at r;simp only[←Nat.add_assoc]at r;refine h.turn (g:=g) ?_ (by rw[n l];rfl) (by rw[List.length_set];exact h.1) ?_
  ·refine((((((((((Mod.refl (fun q=>q=g) w).setCell (p:=⟨g,_,none⟩) (.inl rfl) _).setCell (p:=⟨g,_,none⟩) (.inl rfl) _).setCell (p:=⟨g,_,none⟩) (.inl rfl) _).setCell (p:=⟨g,_,none⟩) (.inl rfl) _).setCell (p:=⟨g,_,none⟩) (.inl rfl) _).setCell (p:=⟨g,_,none⟩) (.inl rfl) _).setCell (p:=⟨g,_,none⟩) (.inl rfl) _).setCell (p:=⟨g,_,none⟩) (.inl rfl) _).setCell (p:=⟨g,_,none⟩) (.inl rfl) _).setCell (p:=⟨g,_,none⟩) (.inl rfl) _
  ·rw[n l];exact r.own (by rw[zaa,List.length_set,h.1]) t u v
 ·have l:0<N:=by omega
  have m:=h.row;rw[n l]at m;obtain⟨sz,⟨a,h1,h2,h3⟩,t,u,e,rfl,v⟩:=m.rowO;have x:w.heap[g]?=some (.cells a.toList.toArray 65 (0,0)):=by simpa using h1
  have d:a.toList.length=sz:=by simpa using h3
  have hb:e*10+N*10≤sz:=by omega
  have k:(R.take j).length=j:=by rw[List.length_take,h.1];omega
  have s:(zp (List.replicate (N-j) zdp)).length=(N-j)*10:=by rw[zaa,List.length_replicate]
  refine⟨_,R.take j++List.replicate (N-j) zdp,fun ty=>zaK (P:=prog) w 54 ty 65 (.agg (zj zdp (.slice none 0 0))) 10 underlying54 zpy rfl (by simp[Value.cells,Value.oneCell',zj]) g (e*10+j*10) (N-j) _ a.toList _ x (by rw[d];omega),?_,?_⟩
  ·rw[zjl];refine h.turn (g:=g) (zcZ w g _) (by rw[n l];rfl) (by rw[List.length_append,k,List.length_replicate];omega) ?_;rw[n l];have hs:(splice a.toList (e*10+j*10) (zp (List.replicate (N-j) zdp))).length=sz:=by rw[length_splice _ _ _ (by rw[s,d];omega),d]
   refine zre.own (sz:=sz) ⟨_,setRow_heap w g _ _ _ _ h1,?_,by rw[List.size_toArray,hs]⟩ (by rw[zaa,List.length_append,k,List.length_replicate];omega) t u v;have h6:(a.toList.drop (e*10)).take (j*10)=zp (R.take j):=by
    have h7:zp R=zp (R.take j)++zp (R.drop j):=by rw[←zcw,List.take_append_drop]
    have h8:(a.toList.drop (e*10)).take (j*10)=((a.toList.drop (e*10)).take (N*10)).take (j*10):=by rw[List.take_take,Nat.min_eq_left (by omega)]
    rw[h8,h2,h7,List.take_append_of_le_length (by rw[zaa,k];omega),List.take_of_length_le (by rw[zaa,k];omega)]
   have h9:(a.toList.take (e*10+j*10)).drop (e*10)=zp (R.take j):=by
    rw[List.drop_take,show e*10+j*10-e*10=j*10 by omega,h6]
   unfold splice;simp only[List.toList_toArray];rw[List.drop_append_of_le_length (by rw[List.length_take,d];omega),h9,zcw,←List.append_assoc];have h10:(zp (R.take j)++zp (List.replicate (N-j) zdp)).length=N*10:=by rw[List.length_append,s,zaa,k];omega
   rw[List.take_append_of_le_length (by omega),List.take_of_length_le (by omega)]
  ·rw[List.take_append_of_le_length (by omega),List.take_take,Nat.min_self]
variable{a:Option Addr}
theorem zlj{R:List Frm}(h:zez w 65 10 (.slice a N cap) N (zp R))(c:R.length=N)(d:n≤N):zez w 65 10 (.slice a n cap) n (zp (R.take n)):=by
 by_cases h0:n=N
 ·rw[h0,List.take_of_length_le (by omega)];exact h
 ·rcases h.2 with⟨e,e2⟩|⟨g,o,f,b,e,h1,h2,h3,h4,h5⟩
  ·omega
  ·cases e;refine⟨by rw[zaa,List.length_take,c,Nat.min_eq_left d],.inr ⟨g,o,cap,b,rfl,h1,by omega,h3,h4,?_⟩⟩;have h7:zp R=zp (R.take n)++zp (R.drop n):=by rw[←zcw,List.take_append_drop]
   have hl:(zp (R.take n)).length=n*10:=by rw[zaa,List.length_take,c,Nat.min_eq_left d]
   have h8:(b.toList.drop (o*10)).take (n*10)=((b.toList.drop (o*10)).take (N*10)).take (n*10):=by rw[List.take_take,Nat.min_eq_left (by omega)]
   rw[h8,h5,h7,List.take_append_of_le_length (by omega),List.take_of_length_le (by omega)]
theorem zdN.done{R:List Frm}(h:zdN tag i b W0 c V N R w)(s:V.wt = .slice a N cap)(hn:n≤N):zg tag i b { c with waits:=R.take n } { V with wt:=.slice a n cap } (w.setCell ⟨b,238,none⟩ (.slice a n cap)):=by
 have d:=h.row;rw[s]at d;have d:=zlj d h.1 hn;obtain⟨hl,h1,h2,h3⟩:=h;have m:Mod (fun q=>q=b) w (w.setCell ⟨b,238,none⟩ (.slice a n cap)):=(Mod.refl (fun q=>q=b) w).setCell (p:=⟨b,_,none⟩) (.inl rfl) _;have f:∀g,Value.blk (.slice a n cap)=some g→tag g=(i,6):=fun g hg=>h1.twt g (by rw[s];cases a<;>exact hg)
 have o:∀g,Value.blk (.slice a n cap)=some g→¬g=b:=fun g hg e=>by
  have h4:=f g hg;rw[e,h1.tb]at h4;simp at h4
 have l:(R.take n).length=n:=by rw[List.length_take,hl];omega
 refine h1.build (R:=fun r=>r=1) m (fun q hq=>⟨1,rfl,by rw[show q=b from hq];exact h1.tb⟩) (fun _ _=>rfl) ?_ (.inl ⟨rfl,rfl,rfl,by omega,by omega⟩) (fun k hk=>.inl ⟨rfl,rfl,by omega⟩) (fun k hk=>.inl ⟨rfl,rfl,by omega⟩) (fun k hk=>.inl ⟨rfl,rfl,by omega⟩) (fun k hk=>.inl ⟨rfl,rfl,by omega⟩) (fun k hk=>.inl ⟨rfl,rfl,by omega⟩) (.inl ⟨rfl,rfl,rfl,by omega,by omega⟩) (.inr ⟨?_,f⟩) (.inl ⟨rfl,rfl,by omega⟩) (.inl ⟨rfl,rfl,by omega⟩)
 ·rw[zc h1.obj];simp only[List.setIfInBounds_toArray];rw[show(238:Nat)=233+5 from rfl,zaj (j:=5) { c with waits:=R } { c with waits:=R.take n } V { V with wt:=.slice a n cap } (.slice a n cap) rfl rfl rfl rfl]
 ·simp only[l];exact d.mod m o
def CS.ticked(c:CS):CS:={ c with now:=c.now+1,waits:=c.waits.filter (fun f => !decide (f.dl<c.now+1)) }
theorem zpz(h:zg tag i b c V W)(L:zR tag W)(hi:0<i)(hn:c.now≤zD)(hw:c.waits.length≤1099511627776)(hb:c.flight.length≤1099511627776)(ok:ze7 c.ticked):Calls prog 26 #[.pointer (some ⟨b,0,none⟩)] W (zbC tag i b W (.tuple #[]) c.tick):=by
 obtain⟨N,y⟩:=nm c.waits.length;obtain⟨a,cap,z,q1,q2,g,o,m⟩:∃a cap,V.wt = .slice a N cap∧N≤cap∧cap≤maxLen∧∃g o,0<N→a=some ⟨g,o,none⟩:=by
  rcases h.wt.2 with⟨e,e2⟩|⟨g,o,cap,cur,e,_,h2,h3,_⟩
  ·have Q:N=0:=by omega
   exact⟨none,0,by rw[e,Q],by omega,by unfold maxLen;omega,0,0,fun x=>by omega⟩
  ·exact⟨_,cap,by rw[e,y],by omega,h3,g,o*10,fun _=>rfl⟩
 obtain⟨nw,d⟩:=nm c.now;rw[d]at hn;unfold zD at hn;obtain⟨W1,s⟩:=nm (W.alloc (.cells #[.pointer (some ⟨b,0,none⟩)] 69));have m1:Mod NoB W W1:=by rw[←s];exact(Mod.refl _ _).alloc _
 have f:W1.cell? ⟨W.heap.size,0,none⟩=some (.pointer (some ⟨b,0,none⟩)):=by rw[←s];exact za (heap_alloc_new W _) rfl
 have k:¬zai i tag W.heap.size:=fun x=>by
  have h1:=x.1;rw[L _ (Nat.le_refl _)]at h1;simp at h1;omega
 have h1:=h.mod0 m1;obtain⟨cb,l⟩:=nm W.heap.size;rw[l]at f k;have A:cb≠b:=fun e=>k (by rw[e];exact zbk h.tb (by decide))
 obtain⟨W2,t⟩:=nm (W1.setCell ⟨b,3,none⟩ (.int .u64 ((nw:Int)+1)));have M:Mod (fun q=>q=b) W1 W2:=by rw[←t];exact(Mod.refl (fun q=>q=b) W1).setCell (p:=⟨b,_,none⟩) (.inl rfl) _
 have h2:zg tag i b { c with now:=c.now+1 } V W2:=by
  have:=h1.store 3 _ (za7 c { c with now:=c.now+1 } V V (j:=3) _ (by decide) rfl rfl rfl rfl) ⟨rfl,fun _ _=>⟨rfl,rfl,rfl⟩,fun _ _=>⟨rfl,rfl⟩,rfl,rfl,rfl,rfl⟩;rw[←t,←d];exact this
 have B:zR tag W2:=(L.mod m1).mod M;have u:=M.cell (a:=⟨cb,0,none⟩) A f;have kd:=zjk (zdN tag i b W2 { c with now:=c.now+1 } V N) c.waits N g o cap b cb (nw+1) a y (by omega) q1 q2 m (zdN.frm (cap:=cap) u k (by rw[d]) (fun x=>by rw[z,m x])) (zdN.frmK (fun x=>by rw[z,m x])) W2.drew ⟨y,h2.mod0 (Mod.refl NoB W2).drew,B.mod (Mod.refl NoB W2).drew,(Mod.refl _ W2).drew⟩;have c3:W1.cell? ⟨b,3,none⟩=some (.int .u64 (nw:Int)):=by rw[←d];exact h1.hd (j:=3) rfl
 have S:W1.frozen? ⟨b,3,none⟩=false:=h1.fz 3;have C:W2.cell? ⟨b,238,none⟩=some (.slice a N cap):=by rw[←z];exact h2.tl (j:=5) rfl
 have fz:W2.frozen? ⟨b,238,none⟩=false:=h2.fz 238;have yw:=wu ((nw:Int)+1) (by omega);have T:Hid (Mod (zai i tag) W W2):=zb ((m1.mono (fun _ x=>x.elim)).trans (M.mono (fun q D=>.inl (zbk (r:=1) (by rw[show q=b from D];exact h.tb) (by decide)))));have KD:=zb kd;have HT:=zb L;have HI:=zb hi;have E:=zb k;have U:=zb u;have HN:=zb y;have X:=zb s;have Y:=zb t;have aa:=zb l;have ab:=zb ok;have HB:=zb hb;have HV:=zb z;have ac:=zb d;clear kd L hi m1 M k y h h1 h2 B ok hb hw s t l A z d m q1 q2;go_enter func26,ntmps26;go_upto_region 1 with fail;rw[X.out,aa.out];go_upto_region 2 with fail;rw[Y.out];clear c3 S f;refine zB ?_;refine zm 9 (fun w'=>w'.cell? ⟨cb,0,none⟩=some (.pointer (some ⟨b,0,none⟩))∧w'.cell? ⟨b,238,none⟩=some (.slice a N cap)∧w'.frozen? ⟨b,238,none⟩=false) (⟨u,C,fz⟩) ?_;refine GI 0 ?_;iterate 6
  refine GS rfl ?_ ?_ ?_;rotate_left
  ·(intro wx v;obtain⟨f0,f1,f2⟩:=v;go_simp;try with_reducible rfl)
  try simp only[PS]
 refine zz 6 rfl (fun K F=>?_);go_simp
 with_reducible refine(KD.out).mono ?_
 rintro e w ⟨n,R,rfl,G,hj,hR⟩;have H:=zb (And.intro G (And.intro hj hR));have hF:w.cell? ⟨cb,0,none⟩=some (.pointer (some ⟨b,0,none⟩))∧w.cell? ⟨b,238,none⟩=some (.slice a N cap)∧w.frozen? ⟨b,238,none⟩=false:=by
  obtain⟨hl,h1,h2,h3⟩:=hj;exact⟨h3.cell (a:=⟨cb,0,none⟩) E.out U.out,by rw[←HV.out];exact h1.tl (j:=5) rfl,h1.fz 238⟩
 clear hj G hR;go_simp;refine F.out _ _ hF ?_;obtain⟨p0,p1,p2⟩:=hF;clear F K;try simp only[PS]
 refine GI 7 ?_;iterate 2
  refine GS rfl ?_ ?_ ?_;rotate_left
  ·(intro wx v;obtain⟨f0,f1,f2⟩:=v;go_simp;try with_reducible rfl)
  try simp only[PS]
 refine zW rfl (fun K F=>?_);go_simp;refine F.out _ _ ?_;clear F K;try simp only[PS]
 refine zo ?_;refine⟨rfl,?_⟩;obtain⟨Z,hZ⟩:=nm (w.setCell ⟨b,238,none⟩ (.slice a n cap));have O:Mod (fun q=>q=b) w Z:=by rw[←hZ];exact(Mod.refl (fun q=>q=b) w).setCell (p:=⟨b,_,none⟩) (.inl rfl) _
 have P:zg tag i b c.ticked { V with wt:=.slice a n cap } Z:=by
  obtain⟨j1,j2,j3⟩:=H.out;have:=j2.done HV.out (by rw[←HN.out];exact j1);rw[hZ,j3,←ac.out]at this;exact this
 have I:zR tag Z:=H.out.2.1.2.2.1.mod O;have kl:=zkc P I HI.out ab.out HB.out;have zcb:=O.cell (a:=⟨cb,0,none⟩) (fun e=>E.out (by rw[show cb=b from e];exact zbk P.tb (by decide))) p0;have KL:=zb kl;have MZ:=zb O;have HC:=zb P;clear kl O P I p0 p1 p2 u C fz;try rw[hZ]
 go_wp2_with fail;refine(KL.out).mono ?_;rintro e w9 ⟨rfl,J,V9,r1,r2,r3⟩;have R9:=zb (And.intro r1 (And.intro r2 r3));clear r1 r2 r3;go_wp2_with fail
 go_end0
 refine⟨rfl,J,V9,R9.out.1,?_,?_⟩
 ·exact(Ext.same HT.out ((T.out.trans H.out.2.1.2.2.2).trans (MZ.out.mono (fun q D=>.inl (zbk (r:=1) (by rw[show q=b from D];exact HC.out.tb) (by decide)))))).trans R9.out.2.1 (by have h1:=T.out.size;have h2:=H.out.2.1.2.2.2.size;have h3:=MZ.out.size;omega)
 ·exact((T.out.trans H.out.2.1.2.2.2).trans (MZ.out.mono (fun q D=>.inl (zbk (r:=1) (by rw[show q=b from D];exact HC.out.tb) (by decide))))).ofC.trans R9.out.2.2
def FS(f:Frm):Prop:=(∃k:Nat,k<8∧f.stream=(k:Int))∧(f.kind=4→f.off+f.data.length≤zD∧f.data.length≤1099511627776)
structure RS.Inv(G:Nat)(x:RS):Prop where
 came:x.came.Ok
 in_:∀j,j<x.came.rs.length→hiAt x.came.rs j<x.high
 bl:x.b.length=x.high
 rd:x.read≤x.high
 hg:x.high≤x.grant
 gr:x.grant≤G
 fin:x.fin≤zD
 keep:x.keep≤zD
 st:x.state=2→x.cut=true∧x.keep≤x.read
structure CS.Inv(T:Nat)(c:CS):Prop where
 mtu:64≤c.mtu∧c.mtu≤65536
 win:c.window≤4096
 tot:c.total≤4096
 grant:c.grant≤zD
 credit:c.credit≤zD
 ws:∀k,k<8→(c.ws k).Ok
 rs:∀k,k<8→(c.rs k).Inv (4096*(T+1))
 waits:(∀f∈c.waits,f.Fits)∧c.waits.length≤16
 fl:c.flight.length≤12
 fly:∀p∈c.flight,p.n≤zD∧p.at_≤zD∧p.fs.length≤1099511627776∧∀f∈p.fs,FS f
 now:c.now≤T
 next:c.next≤32*T
 got:c.got.Ok∧c.got.most≤8
 nd:(c.seen.map (·.1)).Nodup
 ids:∀p∈c.seen,p.1≤zD
 sl:c.seen.length≤T
 most:c.most≤zD
 cl:c.came.length≤T
def zaV:Nat:=268435455
theorem RS.Inv.mono{G a:Nat}{x:RS}(h:x.Inv G)(hG:G≤a):x.Inv a:=⟨h.came,h.in_,h.bl,h.rd,h.hg,Nat.le_trans h.gr hG,h.fin,h.keep,h.st⟩
variable{T:Nat}
theorem CS.Inv.mono{a:Nat}(h:c.Inv T)(hT:T≤a):c.Inv a :=
 ⟨h.mtu,h.win,h.tot,h.grant,h.credit,h.ws,fun k hk=>(h.rs k hk).mono (by omega),h.waits,h.fl,h.fly,by have:=h.now;omega,by have:=h.next;omega,h.got,h.nd,h.ids,by have:=h.sl;omega,h.most,by have:=h.cl;omega⟩
theorem RS.Inv.used{G:Nat}{x:RS}(h:x.Inv G)(hG:G≤1099511627776):(x.used≤zD∧x.grant≤zD)∧(x.hopes=true→x.used≤G):=by
 have h1:=h.rd;have h2:=h.hg;have h3:=h.gr;have h4:=h.fin;unfold zD at *;refine⟨⟨?_,by omega⟩,fun c=>?_⟩
 ·unfold RS.used;split<;>omega
 ·unfold RS.used;split
  ·rename_i e;obtain⟨a,b⟩:=h.st e;unfold RS.hopes at c;rw[a]at c;simp[e]at c;omega
  ·omega
theorem CS.Inv.ok(h:c.Inv T)(hT:T≤zaV):c.Ok:=by
 unfold zaV at hT;refine⟨h.mtu.2,h.win,h.tot,h.grant,h.credit,h.ws,fun k hk=>?_,h.waits.1⟩;obtain⟨a,b⟩:=(h.rs k hk).used (by omega);exact⟨a,fun hh=>by have:=b hh;omega⟩
variable{rs:zA}
theorem zhQ{r:Nat×Nat}(h:r∈rs):∃j,j<rs.length∧loAt rs j=r.1∧hiAt rs j=r.2:=by
 obtain⟨j,a,rfl⟩:=List.mem_iff_getElem.1 h;have e:rs.getD j (0,0)=rs[j]:=by simp[List.getD,a]
 exact⟨j,a,by unfold loAt;rw[e],by unfold hiAt;rw[e]⟩
variable{s:zaI}
theorem zaI.Ok.mem(h:s.Ok){r:Nat×Nat}(hr:r∈s.rs):r.2≤zD:=by
 obtain⟨j,hj,_,e⟩:=zhQ hr;rw[←e];exact h.hi j hj
theorem zaI.Ok.adds:∀(l:zA) {s:zaI},s.Ok→(∀r∈l,r.2≤zD)→(s.adds l).Ok
 | [],_,h,_=>h
 | r::l,s,h,hl=>zaI.Ok.adds l (h.add r.1 (hl r List.mem_cons_self)) (fun q hq=>hl q (List.mem_cons_of_mem _ hq))
variable{x:WS}
theorem WS.Ok.again(h:x.Ok)(f:Frm):(x.again f).Ok:=by
 refine⟨?_,h.came,h.cut,h.len,h.credit,h.high⟩;unfold WS.again;refine zaI.Ok.adds _ ?_ (fun r a=>h.came.mem (List.mem_reverse.1 a));exact zdl _ _ _ _ (fun r a=>h.sent.mem a) (zbf _ h.sent.most)
variable{f:Frm}
theorem WS.Ok.acked(h:x.Ok)(hf:f.off+f.data.length≤zD):(x.acked f).Ok :=
 ⟨h.sent.add _ (by omega),h.came.add _ (by omega),h.cut,h.len,h.credit,h.high⟩
structure zaq(c c':CS):Prop where
 hd:c'.mtu=c.mtu∧c'.window=c.window∧c'.total=c.total∧c'.now=c.now∧c'.closed=c.closed∧c'.said=c.said∧c'.next=c.next∧c'.got=c.got∧c'.answer=c.answer
 tl:c'.credit=c.credit∧c'.grant=c.grant∧c'.flight=c.flight∧c'.largest=c.largest∧c'.waits=c.waits∧c'.lastID=c.lastID∧c'.anyID=c.anyID∧c'.seen=c.seen∧c'.most=c.most∧c'.came=c.came
 rs:∀k,k<8→∃a,c'.rs k={ c.rs k with anew:=a }
theorem zaq.refl(c:CS):zaq c c:=⟨⟨rfl,rfl,rfl,rfl,rfl,rfl,rfl,rfl,rfl⟩,⟨rfl,rfl,rfl,rfl,rfl,rfl,rfl,rfl,rfl,rfl⟩,fun k _=>⟨(c.rs k).anew,rfl⟩⟩
variable{c':CS}
theorem zaq.trans{a:CS}(h:zaq c c')(k:zaq c' a):zaq c a:=by
 obtain⟨a1,a2,a3,a4,a5,a6,a7,a8,a9⟩:=h.hd;obtain⟨b1,b2,b3,b4,b5,b6,b7,b8,b9⟩:=k.hd;obtain⟨c1,c2,c3,c4,c5,c6,c7,c8,c9,b⟩:=h.tl;obtain⟨d1,d2,d3,d4,d5,d6,d7,d8,d9,d⟩:=k.tl;refine⟨⟨b1.trans a1,b2.trans a2,b3.trans a3,b4.trans a4,b5.trans a5,b6.trans a6,b7.trans a7,b8.trans a8,b9.trans a9⟩,⟨d1.trans c1,d2.trans c2,d3.trans c3,d4.trans c4,d5.trans c5,d6.trans c6,d7.trans c7,d8.trans c8,d9.trans c9,d.trans b⟩,fun q e=>?_⟩;obtain⟨x,hx⟩:=h.rs q e;obtain⟨y,hy⟩:=k.rs q e;exact⟨y,by rw[hy,hx]⟩
theorem RS.Inv.anew{G:Nat}{x:RS}(h:x.Inv G)(a:Bool):({ x with anew:=a }:RS).Inv G:=⟨h.came,h.in_,h.bl,h.rd,h.hg,h.gr,h.fin,h.keep,h.st⟩
theorem CS.Inv.but(h:c.Inv T)(s:zaq c c')(hw:∀k,k<8→(c'.ws k).Ok):c'.Inv T:=by
 obtain⟨a1,a2,a3,a4,a5,a6,a7,a8,a9⟩:=s.hd;obtain⟨c1,c2,c3,c4,c5,c6,c7,b,c9,d⟩:=s.tl;exact
  {mtu:=by rw[a1];exact h.mtu
   win:=by rw[a2];exact h.win
   tot:=by rw[a3];exact h.tot
   grant:=by rw[c2];exact h.grant
   credit:=by rw[c1];exact h.credit
   ws:=hw
   rs:=fun k hk=>by obtain⟨a,e⟩:=s.rs k hk;rw[e];exact(h.rs k hk).anew a
   waits:=by rw[c5];exact h.waits
   fl:=by rw[c3];exact h.fl
   fly:=by rw[c3];exact h.fly
   now:=by rw[a4];exact h.now
   next:=by rw[a7];exact h.next
   got:=by rw[a8];exact h.got
   nd:=by rw[b];exact h.nd
   ids:=by rw[b];exact h.ids
   sl:=by rw[b];exact h.sl
   most:=by rw[c9];exact h.most
   cl:=by rw[d];exact h.cl }
theorem znq(c:CS)(f:Frm):zaq c (c.again f):=by
 have rf:=zaq.refl c;unfold CS.again;split
 ·exact⟨rf.hd,rf.tl,rf.rs⟩
 ·split
  ·exact⟨rf.hd,rf.tl,rf.rs⟩
  ·split
   ·exact⟨rf.hd,rf.tl,rf.rs⟩
   ·split
    ·refine⟨rf.hd,rf.tl,fun k _=>?_⟩;by_cases e:k=f.stream.toNat
     ·subst e;exact⟨(c.rs f.stream.toNat).anew||f.lim==(c.rs f.stream.toNat).grant,by simp only[ze]⟩
     ·exact⟨(c.rs k).anew,by simp only[zd _ _ e]⟩
    ·exact rf
theorem zpA(f:Frm)(h:∀k,k<8→(c.ws k).Ok):∀k,k<8→((c.again f).ws k).Ok:=by
 intro k hk;unfold CS.again;split
 ·by_cases e:k=f.stream.toNat
  ·subst e;simp only[ze];exact(h _ hk).again f
  ·simp only[zd _ _ e];exact h k hk
 ·split
  ·by_cases e:k=f.stream.toNat
   ·subst e;simp only[ze];have w:=h _ hk;exact⟨w.sent,w.came,w.cut,w.len,w.credit,w.high⟩
   ·simp only[zd _ _ e];exact h k hk
  ·split
   ·exact h k hk
   ·split
    ·exact h k hk
    ·exact h k hk
theorem zf6:∀(fs:List Frm) (c:CS),zaq c (c.agains fs)
 | [],c=>zaq.refl c
 | f::fs,c=>(znq c f).trans (zf6 fs (c.again f))
theorem zfb:∀(fs:List Frm) {c:CS},(∀k,k<8→(c.ws k).Ok)→∀k,k<8→((c.agains fs).ws k).Ok
 | [],_,h=>h
 | f::fs,_,h=>zfb fs (zpA f h)
theorem znr(c:CS)(p:Fly):zaq c (c.lose1 p):=by
 unfold CS.lose1;split
 ·exact zf6 _ _
 ·exact zaq.refl c
theorem zpB(p:Fly)(h:∀k,k<8→(c.ws k).Ok):∀k,k<8→((c.lose1 p).ws k).Ok:=by
 unfold CS.lose1;split
 ·exact zfb _ h
 ·exact h
theorem zcQ:∀(l:List Fly) (c:CS),zaq c (c.loses l)
 | [],c=>zaq.refl c
 | p::l,c=>(znr c p).trans (zcQ l (c.lose1 p))
theorem zgP:∀(l:List Fly) {c:CS},(∀k,k<8→(c.ws k).Ok)→∀k,k<8→((c.loses l).ws k).Ok
 | [],_,h=>h
 | p::l,_,h=>zgP l (zpB p h)
theorem CS.Inv.loseOk(h:c.Inv T):ze7 c:=by
 refine⟨fun p a=>⟨(h.fly p a).1,(h.fly p a).2.1,(h.fly p a).2.2.1⟩,fun k p a _ j f hf=>?_⟩;obtain⟨⟨q,d,b⟩,h4⟩:=(h.fly p (List.mem_of_getElem? a)).2.2.2 f (List.mem_of_getElem? hf);have g:=zfb (p.fs.take j) (zgP (c.flight.take k) h.ws) q d;refine⟨fun e=>?_,fun _=>by omega,fun _=>by omega⟩;rw[b,Int.toNat_natCast];exact⟨d,b,g.sent,g.came,(h4 e).1,(h4 e).2⟩
theorem CS.Inv.sub(h:c.Inv T)(p:Fly→Bool):(c.fly (c.flight.filter p)).Inv T :=
 {mtu:=h.mtu,win:=h.win,tot:=h.tot,grant:=h.grant,credit:=h.credit,ws:=h.ws,rs:=h.rs,waits:=h.waits,now:=h.now,next:=h.next,got:=h.got,nd:=h.nd,ids:=h.ids,sl:=h.sl,most:=h.most,cl:=h.cl
  fl:=Nat.le_trans (List.length_filter_le _ _) h.fl
  fly:=fun q hq=>h.fly q (List.mem_filter.1 hq).1 }
theorem CS.Inv.lose(h:c.Inv T):c.lose.Inv T:=by
 have h1:=h.but (zcQ c.flight c) (zgP c.flight h.ws);rw[zgN];have h2:=h1.sub (fun p => !c.late p);rw[(zcQ c.flight c).tl.2.2.1]at h2;exact h2
theorem CS.Inv.ticked(h:c.Inv T):c.ticked.Inv (T+1):=by
 have a:=h.mono (show T≤T+1 by omega);exact
  {mtu:=h.mtu,win:=h.win,tot:=h.tot,grant:=h.grant,credit:=h.credit,ws:=h.ws,rs:=a.rs,fl:=h.fl,fly:=h.fly,next:=a.next,got:=h.got,nd:=h.nd,ids:=h.ids,sl:=a.sl,most:=h.most,cl:=a.cl
   now:=by have:=h.now;show c.now+1≤_;omega
   waits:=⟨fun f hf=>h.waits.1 f (List.mem_filter.1 hf).1,Nat.le_trans (List.length_filter_le _ _) h.waits.2⟩ }
theorem CS.Inv.tick(h:c.Inv T):c.tick.Inv (T+1):=h.ticked.lose
theorem zpC(c:CS)(f:Frm):zaq c (c.ackF f):=by
 have rf:=zaq.refl c;unfold CS.ackF;split
 ·exact⟨rf.hd,rf.tl,rf.rs⟩
 ·exact rf
theorem zrf(hf:FS f)(h:∀k,k<8→(c.ws k).Ok):∀k,k<8→((c.ackF f).ws k).Ok:=by
 intro k hk;unfold CS.ackF;split
 ·rename_i e;by_cases a:k=f.stream.toNat
  ·subst a;simp only[ze];exact(h _ hk).acked (hf.2 e.1).1
  ·simp only[zd _ _ a];exact h k hk
 ·exact h k hk
theorem zhR:∀(fs:List Frm) (c:CS),zaq c (fs.foldl CS.ackF c)
 | [],c=>zaq.refl c
 | f::fs,c=>(zpC c f).trans (zhR fs (c.ackF f))
theorem zgQ:∀(fs:List Frm) {c:CS},(∀f∈fs,FS f)→(∀k,k<8→(c.ws k).Ok)→∀k,k<8→((fs.foldl CS.ackF c).ws k).Ok
 | [],_,_,h=>h
 | f::fs,_,hf,h=>zgQ fs (fun g hg=>hf g (List.mem_cons_of_mem _ hg)) (zrf (hf f List.mem_cons_self) h)
theorem zpD(c:CS)(rs:zA)(p:Fly):zaq c (c.ackP rs p):=by
 unfold CS.ackP;split
 ·exact zhR _ _
 ·exact zaq.refl c
theorem zrg(rs:zA){p:Fly}(hp:∀f∈p.fs,FS f)(h:∀k,k<8→(c.ws k).Ok):∀k,k<8→((c.ackP rs p).ws k).Ok:=by
 unfold CS.ackP;split
 ·exact zgQ _ hp h
 ·exact h
theorem zcR(rs:zA):∀(l:List Fly) (c:CS),zaq c (c.ackPs rs l)
 | [],c=>zaq.refl c
 | p::l,c=>(zpD c rs p).trans (zcR rs l (c.ackP rs p))
theorem zgR(rs:zA):∀(l:List Fly) {c:CS},(∀p∈l,∀f∈p.fs,FS f)→(∀k,k<8→(c.ws k).Ok)→∀k,k<8→((c.ackPs rs l).ws k).Ok
 | [],_,_,h=>h
 | p::l,_,hp,h=>zgR rs l (fun q hq=>hp q (List.mem_cons_of_mem _ hq)) (zrg rs (hp p List.mem_cons_self) h)
theorem CS.Inv.large(h:c.Inv T)(n:Nat):({ c with largest:=n }:CS).Inv T :=
 {mtu:=h.mtu,win:=h.win,tot:=h.tot,grant:=h.grant,credit:=h.credit,ws:=h.ws,rs:=h.rs,waits:=h.waits,now:=h.now,next:=h.next,got:=h.got,nd:=h.nd,ids:=h.ids,sl:=h.sl,most:=h.most,cl:=h.cl,fl:=h.fl,fly:=h.fly }
theorem CS.Inv.ackedOk(h:c.Inv T)(rs:zA):ze8 c rs:=by
 refine⟨fun p d=>(h.fly p d).2.2.1,fun k p d _ j f hf=>?_⟩;have a:=List.mem_of_getElem? d;have e:=List.mem_of_getElem? hf;have b:=(h.fly p a).2.2.2 f e;refine⟨b.1,fun h4 _=>?_⟩;obtain⟨⟨q,l,i⟩,hb⟩:=b;have m:=zgQ (p.fs.take j) (fun g hg=>(h.fly p a).2.2.2 g (List.mem_of_mem_take hg)) (zgR rs (c.flight.take k) (fun r hr=>(h.fly r (List.mem_of_mem_take hr)).2.2.2) h.ws) q l;exact⟨q,l,i,m.sent,m.came,(hb h4).1,(hb h4).2⟩
theorem CS.Inv.ackedTo(h:c.Inv T)(rs:zA):(c.ackedTo rs).Inv T:=by
 have h0:=h.large (max c.largest (hiAt rs 0));have h1:=h0.but (zcR rs c.flight _) (zgR rs c.flight (fun p hp=>(h.fly p hp).2.2.2) h0.ws);have h2:=h1.sub (fun p => !zce rs p);rw[(zcR rs c.flight _).tl.2.2.1]at h2;exact h2
theorem CS.Inv.acked(h:c.Inv T)(rs:zA):(c.acked rs).2.Inv T:=by
 by_cases a:c.next≤hiAt rs 0
 ·unfold CS.acked;rw[if_pos a];exact h
 ·rw[zeE c rs a];exact(h.ackedTo rs).lose
structure FrR(f:Frm):Prop where
 sound:zS f=true
 dl:f.data.length≤1099511627776
 rl:f.rngs.length≤1099511627776
theorem FrR.ns(h:FrR f):f.off≤zD∧f.rel≤zD∧f.lim≤zD∧f.id≤zD∧f.dl≤zD:=by
 have h1:=h.sound;unfold zS zaC zir at h1;simp only[Bool.and_eq_true,List.all_cons,List.all_nil,decide_eq_true_eq]at h1;unfold zD;omega
theorem FrR.st(h:FrR f):∃k:Nat,k<8∧f.stream=(k:Int):=by
 have h1:=h.sound;unfold zS zbB at h1;simp only[Bool.and_eq_true,decide_eq_true_eq]at h1;exact⟨f.stream.toNat,by omega,by omega⟩
theorem FrR.end4(h:FrR f)(h4:f.kind=4):f.end_≤zD:=by
 have h1:=h.sound;unfold zS zK at h1;rw[h4]at h1;simp only[Bool.and_eq_true]at h1;have h2:=h1.2;simp at h2;unfold Frm.end_ zD;omega
theorem FrR.rngs2(h:FrR f)(h2:f.kind=2):0<f.rngs.length:=by
 have h1:=h.sound;unfold zS zK at h1;rw[h2]at h1;simp only[Bool.and_eq_true,if_true]at h1;have h3:=h1.2;unfold zaw at h3;simp only[Bool.and_eq_true,decide_eq_true_eq]at h3;exact h3.2
variable{hi lo:Nat}
theorem zkj(h:s.Ok){B:Nat}(hb:∀j,j<s.rs.length→hiAt s.rs j≤B)(hh:hi≤B)(hm:hi≤zD):∀j,j<(s.add lo hi).rs.length→hiAt (s.add lo hi).rs j≤B:=by
 unfold zaI.add;split
 ·exact hb
 ·have s1:=zaN (zdz s.rs (max lo s.fl)) s.rs.length;have s2:=zaN (zay s.rs hi) s.rs.length;have a:=zbL h.wf (by omega) s1 s2;have b:=zeT (m:=max lo s.fl) a s2.1 hb hh;split
  ·intro j hj;rw[(zbQ _ 1 j).2];exact b _ (by rw[List.length_drop]at hj;omega)
  ·exact b
theorem zpF(off:Nat)(data:List UInt8)(e H:Nat)(he:e≤H)(hm:e≤zD):∀n lo (b:List UInt8) (s:zaI),b.length=H→s.Ok→(∀j,j<s.rs.length→hiAt s.rs j<H) →
  (zfx off data e n lo b s).1.length=H∧(zfx off data e n lo b s).2.Ok∧∀j,j<(zfx off data e n lo b s).2.rs.length→hiAt (zfx off data e n lo b s).2.rs j<H:=by
 intro n
 induction n with
 | zero=>intro lo b s h1 h2 h3;exact⟨h1,h2,h3⟩
 | succ n ih =>
  intro lo b s h1 h2 h3;unfold zfx;split
  ·rename_i hlt;split
   ·exact⟨h1,h2,h3⟩
   ·rename_i hg;obtain⟨_,g2⟩:=ze9 s.rs lo e hlt (by omega);have g3:=zd6 s.rs lo e;refine ih _ _ _ ?_ (h2.add _ (by omega)) (fun j a=>?_)
    ·rw[zbz _ _ _ (by rw[List.length_take];omega)];exact h1
    ·have:=zkj h2 (B:=H-1) (lo:=(za1 s.rs lo e).1) (hi:=(za1 s.rs lo e).2-1) (fun j a=>by have:=h3 j a;omega) (by omega) (by omega) j a;omega
  ·exact⟨h1,h2,h3⟩
theorem RS.Inv.data{G:Nat}{x:RS}(h:x.Inv G)(a:f.end_≤zD)(hg:x.high<f.end_→f.end_≤x.grant):(x.data f).Inv G:=by
 have hb:=h.bl;have hh:=h.hg;have hl:=zpF f.off f.data f.end_ (max x.high f.end_) (Nat.le_max_right _ _) a (f.data.length+1) f.off (zhw x.b (max x.high f.end_)) x.came (by unfold zhw;simp;omega) h.came (fun j hj=>Nat.lt_of_lt_of_le (h.in_ j hj) (Nat.le_max_left _ _));refine⟨hl.2.1,hl.2.2,hl.1,Nat.le_trans h.rd (Nat.le_max_left _ _),?_,h.gr,?_,h.keep,h.st⟩
 ·show max x.high f.end_≤x.grant;by_cases q:x.high<f.end_
  ·have:=hg q;omega
  ·omega
 ·show(if f.fin then f.end_ else x.fin)≤zD;split
  ·exact a
  ·exact h.fin
theorem CS.Inv.upR(h:c.Inv T)(k:Nat){x:RS}(hx:x.Inv (4096*(T+1))):({ c with rs:=upd c.rs k x }:CS).Inv T :=
 {mtu:=h.mtu,win:=h.win,tot:=h.tot,grant:=h.grant,credit:=h.credit,ws:=h.ws,waits:=h.waits,now:=h.now,next:=h.next,got:=h.got,nd:=h.nd,ids:=h.ids,sl:=h.sl,most:=h.most,cl:=h.cl,fl:=h.fl,fly:=h.fly
  rs:=fun q hq=>by
   by_cases e:q=k
   ·subst e;simp only[ze];exact hx
   ·simp only[zd _ _ e];exact h.rs q hq }
theorem CS.Inv.upW(h:c.Inv T)(k:Nat)(hx:k<8→x.Ok):({ c with ws:=upd c.ws k x }:CS).Inv T :=
 {mtu:=h.mtu,win:=h.win,tot:=h.tot,grant:=h.grant,credit:=h.credit,rs:=h.rs,waits:=h.waits,now:=h.now,next:=h.next,got:=h.got,nd:=h.nd,ids:=h.ids,sl:=h.sl,most:=h.most,cl:=h.cl,fl:=h.fl,fly:=h.fly
  ws:=fun q a=>by
   by_cases e:q=k
   ·subst e;simp only[ze];exact hx a
   ·simp only[zd _ _ e];exact h.ws q a }
theorem CS.Inv.data(h:c.Inv T)(hf:FrR f)(h4:f.kind=4):(c.data f).2.Inv T:=by
 obtain⟨k,hk,a⟩:=hf.st;unfold CS.data;rw[a,Int.toNat_natCast];split
 ·exact h
 ·split
  ·exact h
  ·rename_i hn;exact h.upR k ((h.rs k hk).data (hf.end4 h4) (fun q=>Nat.le_of_not_lt (fun g=>hn ⟨q,.inl g⟩)))
theorem CS.Inv.resetAt(h:c.Inv T)(hf:FrR f):(c.resetAt f).2.Inv T:=by
 obtain⟨k,hk,d⟩:=hf.st;obtain⟨n1,n2,_⟩:=hf.ns;unfold CS.resetAt;rw[d,Int.toNat_natCast];split
 ·exact h
 ·have r:=h.rs k hk;refine h.upR k ⟨r.came,r.in_,r.bl,r.rd,r.hg,r.gr,n1,?_,fun e=>?_⟩
  ·unfold RS.resetAt;simp only;split
   ·exact n2
   ·exact r.keep
  ·obtain⟨a,b⟩:=r.st e;refine⟨rfl,?_⟩;unfold RS.resetAt;simp only[a];show(if (!true||decide (f.rel<(c.rs k).keep))=true then f.rel else(c.rs k).keep)≤(c.rs k).read;split
   ·rename_i q;simp at q;omega
   ·exact b
theorem CS.Inv.message(h:c.Inv T)(hf:FrR f):(c.message f).Inv (T+1):=by
 obtain⟨_,_,_,n4,n5⟩:=hf.ns;have g:=h.mono (show T≤T+1 by omega);unfold CS.message;split
 ·exact g
 ·rename_i hn;have i:¬f.id∈c.seen.map (·.1):=fun x=>by
   obtain⟨p,j,e⟩:=List.mem_map.1 x;refine hn ?_;have:(c.seen.any fun p=>p.1==f.id)=true:=List.any_eq_true.2 ⟨p,j,by simp[e]⟩;rw[this];rfl
  have d:((c.seen++[(f.id,f.dl)]).filter fun p => !old (max c.most f.id) p.1).Sublist (c.seen++[(f.id,f.dl)]):=List.filter_sublist;exact
   {mtu:=h.mtu,win:=h.win,tot:=h.tot,grant:=h.grant,credit:=h.credit,ws:=h.ws,rs:=g.rs,waits:=h.waits,now:=g.now,next:=g.next,got:=h.got,fl:=h.fl,fly:=h.fly
    nd:=by
     refine List.Nodup.sublist (d.map _) ?_;rw[List.map_append,List.nodup_append];refine⟨h.nd,by simp,fun a ha b hb e=>?_⟩;have:b=f.id:=by simpa using hb
     exact i (by rw[←this,←e];exact ha)
    ids:=fun p j=>by
     rcases List.mem_append.1 (d.subset j)with x|x
     ·exact h.ids p x
     ·have:p=(f.id,f.dl):=by simpa using x
      rw[this];exact n4
    sl:=by
     have:=d.length_le;have:=h.sl;simp only[List.length_append,List.length_singleton]at *;omega
    most:=by have:=h.most;show max c.most f.id≤zD;omega
    cl:=by have:=h.cl;simp only[List.length_append,List.length_singleton];omega }
theorem CS.Inv.takeOk(h:c.Inv T)(hT:T≤zaV)(hf:FrR f):zkf c f:=by
 unfold zaV at hT;obtain⟨n1,n2,n3,n4,n5⟩:=hf.ns;have i:∀j,j<8→(c.rs j).high≤1099511627776∧(c.rs j).grant≤1099511627776:=fun j d=>by
  have a:=(h.rs j d).hg;have b:=(h.rs j d).gr;exact⟨by omega,by omega⟩
 have hfl:=h.fl;have l:=h.now;have hsl:=h.sl;have hcl:=h.cl;refine⟨fun e=>⟨hf.rngs2 e,hf.rl,by omega,fun _=>⟨(h.large _).ackedOk _,(h.ackedTo _).loseOk⟩⟩,fun _=>hf.st,fun e=>?_,fun _=>hf.st,fun _=>⟨h.most,n4,n5,by unfold zD;omega,h.nd,h.ids,by omega,by omega⟩⟩;obtain⟨k,hk,g⟩:=hf.st;exact⟨k,hk,g,fun j d=>(i j d).1,(i k hk).2,h.grant,(h.rs k hk).fin,hf.end4 e,hf.dl,(h.rs k hk).came,Nat.le_of_eq (h.rs k hk).bl⟩
theorem CS.Inv.take(h:c.Inv T)(hf:FrR f):(c.take f).2.Inv (T+1):=by
 have up:∀{c':CS},c'.Inv T→c'.Inv (T+1):=fun x=>x.mono (by omega)
 obtain⟨n1,n2,n3,n4,n5⟩:=hf.ns;unfold CS.take;split
 ·exact up (h.acked _)
 ·split
  ·exact up (h.resetAt hf)
  ·split
   ·rename_i e;exact up (h.data hf e)
   ·split
    ·exact up
      {mtu:=h.mtu,win:=h.win,tot:=h.tot,grant:=h.grant,ws:=h.ws,rs:=h.rs,waits:=h.waits,now:=h.now,next:=h.next,got:=h.got,nd:=h.nd,ids:=h.ids,sl:=h.sl,most:=h.most,cl:=h.cl,fl:=h.fl,fly:=h.fly
       credit:=by have:=h.credit;show max c.credit f.lim≤zD;omega }
    ·split
     ·refine up (h.upW _ (fun hk=>?_));have w:=h.ws _ hk;exact⟨w.sent,w.came,w.cut,w.len,by have:=w.credit;show max _ f.lim≤zD;omega,w.high⟩
     ·split
      ·exact h.message hf
      ·split
       ·exact up h
       ·exact up h
theorem CS.Inv.misc(h:c.Inv T)(cl:Nat)(sd an:Bool):({ c with closed:=cl,said:=sd,answer:=an }:CS).Inv T :=
 {mtu:=h.mtu,win:=h.win,tot:=h.tot,grant:=h.grant,credit:=h.credit,ws:=h.ws,rs:=h.rs,waits:=h.waits,now:=h.now,next:=h.next,got:=h.got,nd:=h.nd,ids:=h.ids,sl:=h.sl,most:=h.most,cl:=h.cl,fl:=h.fl,fly:=h.fly }
theorem CS.Inv.takesOk:∀(fs:List Frm) {T:Nat} {c:CS},c.Inv T→T+fs.length≤zaV→(∀f∈fs,FrR f)→zfc fs c
 | [],_,_,_,_,_=>trivial
 | f::fs,T,c,h,hT,hf=>by
  simp only[List.length_cons]at hT;have h1:=hf f List.mem_cons_self;exact⟨h.takeOk (by omega) h1,fun _=>CS.Inv.takesOk fs ((h.take h1).misc (c.take f).2.closed (c.take f).2.said _) (by omega) (fun g hg=>hf g (List.mem_cons_of_mem _ hg))⟩
theorem CS.Inv.takes:∀(fs:List Frm) {T:Nat} {c:CS},c.Inv T→(∀f∈fs,FrR f)→(CS.takes fs c).2.Inv (T+fs.length)
 | [],_,_,h,_=>h
 | f::fs,T,c,h,hf=>by
  have h1:=h.take (hf f List.mem_cons_self);unfold CS.takes;split
  ·exact(h1.misc (c.take f).1 ((c.take f).1==13) (c.take f).2.answer).mono (by simp only[List.length_cons];omega)
  ·have:=CS.Inv.takes fs (h1.misc (c.take f).2.closed (c.take f).2.said ((c.take f).2.answer||f.kind != 2)) (fun g hg=>hf g (List.mem_cons_of_mem _ hg));rw[show T+(f::fs).length=T+1+fs.length by simp only[List.length_cons];omega];exact this
variable{bs:List UInt8}{pos:Nat}
theorem zlq{r:Frm×Nat}(hl:bs.length<1099511627776)(hp:pos<bs.length)(h:za8 bs pos=some r):FrR r.1∧pos<r.2∧r.2≤bs.length:=by
 unfold za8 at h;split at h
 ·cases h
 ·rename_i t _;rw[Option.bind_eq_some_iff]at h;obtain⟨k,hk,h⟩:=h;rw[Option.bind_eq_some_iff]at h;obtain⟨⟨f,p⟩,hb,h⟩:=h;simp only at h;split at h
  ·rename_i hs;cases h;obtain⟨_,a,b,c,d⟩:=zeP hk (by omega) hb;exact⟨⟨hs,by show f.data.length≤_;omega,by show f.rngs.length≤_;omega⟩,by show pos<p;omega,b⟩
  ·cases h
theorem zhU(bs:List UInt8)(hl:bs.length<1099511627776):∀fuel num pos (d:List Frm) n fs,pos≤bs.length→d.length≤pos→(∀f∈d,FrR f)→zc8 bs fuel num pos d = .ok n fs→n=num∧fs.length≤bs.length∧∀f∈fs,FrR f
 | 0,_,_,_,_,_,_,_,_,h=>by cases h
 | fuel+1,num,pos,d,n,fs,hp,ha,hf,h=>by
  unfold zc8 at h;split at h
  ·rename_i hlt;cases hr:za8 bs pos with
   | none=>rw[hr]at h;cases h
   | some r =>
    rw[hr]at h;obtain⟨a,b,c⟩:=zlq hl hlt hr;refine zhU bs hl fuel num r.2 _ n fs c ?_ (fun f hm=>?_) h
    ·rw[List.length_append,List.length_singleton];omega
    ·rcases List.mem_append.1 hm with x|x
     ·exact hf f x
     ·rw[List.mem_singleton.1 x];exact a
  ·cases h;exact⟨rfl,by omega,hf⟩
variable{fs:List Frm}
theorem zhV(hl:bs.length<1099511627776)(h:dec bs = .ok n fs):n≤zD∧fs.length≤bs.length∧∀f∈fs,FrR f:=by
 unfold dec at h;split at h
 ·cases h
 ·split at h
  ·unfold zaE at h;split at h
   ·cases h
   ·rename_i q hq;obtain⟨a,b,c⟩:=zT hq;split at h
    ·cases h
    ·obtain⟨d,e,g⟩:=zhU _ (by rw[List.length_take];omega) _ _ _ _ _ _ b (Nat.zero_le _) (fun f hf=>by cases hf) h;rw[List.length_take]at e;exact⟨by unfold zD;omega,by omega,g⟩
  ·cases h
theorem CS.Inv.gotAdd(h:c.Inv T)(hn:n≤zD):({ c with got:=c.got.add n n }:CS).Inv T :=
 {mtu:=h.mtu,win:=h.win,tot:=h.tot,grant:=h.grant,credit:=h.credit,ws:=h.ws,rs:=h.rs,waits:=h.waits,now:=h.now,next:=h.next,nd:=h.nd,ids:=h.ids,sl:=h.sl,most:=h.most,cl:=h.cl,fl:=h.fl,fly:=h.fly
  got:=⟨h.got.1.add n hn,by
   have:=h.got.2;unfold zaI.add;split
   ·exact this
   ·split<;>exact this⟩ }
theorem CS.Inv.recvOk(h:c.Inv T)(hT:T+bs.length≤zaV):zki c bs:=by
 intro _ n fs hd;obtain⟨a,b,g⟩:=zhV (by unfold zaV at hT;omega) hd;exact⟨h.got.1,a,fun _=>CS.Inv.takesOk fs (h.gotAdd a) (by omega) g⟩
theorem CS.Inv.receive(h:c.Inv T)(hT:T+bs.length≤zaV):(c.receive bs).2.Inv (T+bs.length):=by
 have up:∀{c':CS},c'.Inv T→c'.Inv (T+bs.length):=fun x=>x.mono (by omega)
 unfold CS.receive;split
 ·exact up h
 ·split
  ·exact up h
  ·exact up (h.misc 8 c.said c.answer)
  ·rename_i n fs hd;obtain⟨a,b,g⟩:=zhV (by unfold zaV at hT;omega) hd;split
   ·exact up h
   ·exact(CS.Inv.takes fs (h.gotAdd a) g).mono (by omega)
theorem CS.Inv.send(h:c.Inv T)(k:Int)(s:List UInt8):(c.send k s).2.Inv T:=by
 unfold CS.send;split
 ·exact h
 ·split
  ·exact h
  ·split
   ·exact h
   ·rename_i hs _ hl;obtain⟨k0,k8,_⟩:=zcN (show c.stream k=0 by omega);refine h.upW _ (fun hk=>?_);have w:=h.ws _ hk;have e:((c.ws k.toNat).b++s).length=(c.ws k.toNat).b.length+s.length:=List.length_append;have hh:=w.high;exact⟨w.sent,w.came,w.cut,by show((c.ws k.toNat).b++s).length≤_;omega,w.credit,by show(c.ws k.toNat).high≤((c.ws k.toNat).b++s).length;omega⟩
theorem CS.Inv.finish(h:c.Inv T)(k:Int):(c.finish k).2.Inv T:=by
 unfold CS.finish;split
 ·exact h
 ·split
  ·exact h
  ·refine h.upW _ (fun hk=>?_);have w:=h.ws _ hk;exact⟨w.sent,w.came,w.cut,w.len,w.credit,w.high⟩
theorem CS.Inv.reset(h:c.Inv T)(k keep:Int):(c.reset k keep).2.Inv T:=by
 unfold CS.reset;split
 ·exact h
 ·refine h.upW _ (fun hk=>?_);have w:=h.ws _ hk;have hl:=w.len;have hh:=w.high;have hc:=w.cut;have hn:min keep.toNat (c.ws k.toNat).b.length≤(c.ws k.toNat).b.length:=Nat.min_le_right _ _;generalize min keep.toNat (c.ws k.toNat).b.length=n at hn;refine⟨w.sent,w.came,?_,w.len,w.credit,w.high⟩;unfold WS.give;simp only;unfold zD at *;cases(c.ws k.toNat).cut with
  | true =>
   simp only[Bool.not_true,Bool.false_or,if_true,decide_eq_true_eq];split<;>omega
  | false =>
   simp only[Bool.not_false,Bool.true_or,if_true,Bool.false_eq_true,if_false];omega
theorem zrn{id dl:Nat}{s:List UInt8}(h1:id≤zD)(h2:dl≤zD)(hl:s.length≤1048576):(dgF id dl s).Fits:=by
 have hb:=zcd (dgF id dl s) rfl;have hd:(dgF id dl s).data.length=s.length:=rfl;refine⟨?_,rfl,by rw[hd];exact hl,by rw[hd]at hb;omega⟩;unfold zD at h1 h2;simp[zS,zaC,zir,zbB,zK,dgF];omega
theorem CS.Inv.datagram(h:c.Inv T)(id dl:Nat)(s:List UInt8):(c.datagram id dl s).2.Inv T:=by
 unfold CS.datagram;split
 ·exact h
 ·split
  ·exact h
  ·split
   ·exact h
   ·split
    ·exact h
    ·rename_i _ hb hm hw;have hmt:=h.mtu;exact
      {mtu:=h.mtu,win:=h.win,tot:=h.tot,grant:=h.grant,credit:=h.credit,ws:=h.ws,rs:=h.rs,now:=h.now,next:=h.next,got:=h.got,nd:=h.nd,ids:=h.ids,sl:=h.sl,most:=h.most,cl:=h.cl,fl:=h.fl,fly:=h.fly
       waits:=by
        have a:=h.waits;show(∀f∈(if c.now≤dl then c.waits++[dgF id dl s]else c.waits),f.Fits)∧(if c.now≤dl then c.waits++[dgF id dl s]else c.waits).length≤16;split
        ·refine⟨fun f hf=>?_,by rw[List.length_append,List.length_singleton];omega⟩;rcases List.mem_append.1 hf with x|x
         ·exact a.1 f x
         ·rw[List.mem_singleton.1 x];exact zrn (by omega) (by omega) (by omega)
        ·exact a }
theorem CS.Inv.datagramsOut(h:c.Inv T):c.datagramsOut.2.Inv T :=
 {mtu:=h.mtu,win:=h.win,tot:=h.tot,grant:=h.grant,credit:=h.credit,ws:=h.ws,rs:=h.rs,waits:=h.waits,now:=h.now,next:=h.next,got:=h.got,nd:=h.nd,ids:=h.ids,sl:=h.sl,most:=h.most,fl:=h.fl,fly:=h.fly
  cl:=Nat.zero_le _ }
theorem zhW(rs:zA):∀lo hi,lo≤(za1 rs lo hi).1:=by
 induction rs with
 | nil=>intro lo hi;exact Nat.le_refl _
 | cons r l ih =>
  intro lo hi;unfold za1;split
  ·exact ih lo hi
  ·split
   ·exact Nat.le_refl _
   ·have:=ih (r.2+1) hi;omega
variable{H:Nat}
theorem zkk(rs:zA):∀lo hi,lo≤H→(∀r∈rs,r.2<H)→(za1 rs lo hi).1≤H:=by
 induction rs with
 | nil=>intro lo hi h _;exact h
 | cons r l ih =>
  intro lo hi h a;have h0:=a r List.mem_cons_self;have h1:=fun x hx=>a x (List.mem_cons_of_mem _ hx)
  unfold za1;split
  ·exact ih lo hi h h1
  ·split
   ·exact h
   ·exact ih _ hi (by omega) h1
theorem RS.Inv.lead{G:Nat}{x:RS}(h:x.Inv G):x.read≤(za1 x.came.rs x.read x.high).1∧(za1 x.came.rs x.read x.high).1≤x.high :=
 ⟨zhW _ _ _,zkk _ _ _ h.rd (fun r hr=>by obtain⟨j,hj,_,e⟩:=zhQ hr;rw[←e];exact h.in_ j hj)⟩
theorem RS.Inv.readOk{G:Nat}{x:RS}(h:x.Inv G)(hG:G≤1099511627776):zf7 x:=by
 obtain⟨a,b⟩:=h.lead;have h1:=h.hg;have h2:=h.gr;have h3:=h.bl;have h4:=h.came.rl;have h5:=h.came.most;exact⟨by omega,a,by omega,fun k hk=>by have:=h.in_ k hk;omega,by omega,h.keep,h.fin⟩
theorem CS.Inv.readOk(h:c.Inv T)(hT:T≤zaV):∀k,k<8→zf7 (c.rs k):=fun k hk=>(h.rs k hk).readOk (by unfold zaV at hT;omega)
theorem RS.Inv.readTo{G:Nat}{x:RS}(h:x.Inv G)(n:Nat):x.readTo n≤x.high:=by
 obtain⟨a,b⟩:=h.lead;have:=h.rd;unfold RS.readTo;split<;>omega
theorem CS.Inv.read(h:c.Inv T)(k most:Int):(c.read k most).2.Inv T:=by
 unfold CS.read;split
 ·exact h
 ·split
  ·exact h
  ·rename_i hs _;obtain⟨k0,k8,_⟩:=zcN (show c.stream k=0 by omega);have x:=h.rs k.toNat (by omega);refine h.upR _ ⟨x.came,x.in_,x.bl,x.readTo _,x.hg,x.gr,x.fin,x.keep,fun e=>?_⟩;have a:(c.rs k.toNat).stateAt ((c.rs k.toNat).readTo most.toNat)=2:=e;unfold RS.stateAt at a;split at a
   ·rename_i hh;simp only[Bool.and_eq_true,decide_eq_true_eq]at hh;exact hh
   ·split at a<;>cases a
theorem CS.Inv.new{mtu window total:Nat}(h:64≤mtu∧mtu≤400)(hw:window≤4096)(ht:total≤4096):(CS.new mtu window total).Inv 0 :=
 {mtu:=⟨h.1,by show mtu≤_;omega⟩,win:=hw,tot:=ht
  grant:=by show total≤_;unfold zD;omega
  credit:=by show total≤_;unfold zD;omega
  ws:=fun _ _=>⟨zbf _ (by omega),zbf _ (by omega),⟨Nat.le_refl _,Nat.zero_le _,Nat.zero_le _⟩,Nat.zero_le _,by show window≤_;unfold zD;omega,Nat.le_refl _⟩
  rs:=fun _ _=>⟨zbf _ (by omega),fun j hj=>absurd hj (Nat.not_lt_zero j),rfl,Nat.le_refl _,Nat.zero_le _,by show window≤_;omega,Nat.zero_le _,Nat.zero_le _,fun e=>by cases e⟩
  waits:=⟨fun f hf=>(by cases hf),Nat.zero_le _⟩
  fl:=Nat.zero_le _
  fly:=fun p a=>(by cases a)
  now:=Nat.le_refl _
  next:=Nat.le_refl _
  got:=⟨zbf _ (by omega),Nat.le_refl _⟩
  nd:=List.nodup_nil
  ids:=fun p a=>(by cases a)
  sl:=Nat.le_refl _
  most:=Nat.zero_le _
  cl:=Nat.le_refl _ }
def HB(G:Nat)(c:CS):Prop:=∀k,k<8→(c.rs k).hopes=true→(c.rs k).used≤G
structure zad(G:Nat)(c c':CS):Prop where
 hd:c'.mtu=c.mtu∧c'.window=c.window∧c'.total=c.total∧c'.now=c.now∧c'.closed=c.closed∧c'.said=c.said∧c'.got=c.got∧c'.answer=c.answer
 tl:c'.credit=c.credit∧c'.largest=c.largest∧c'.lastID=c.lastID∧c'.anyID=c.anyID∧c'.seen=c.seen∧c'.most=c.most∧c'.came=c.came
 wl:c'.waits.length≤c.waits.length
 rs:∀k,k<8→∃g a,c'.rs k={ c.rs k with grant:=g,anew:=a }∧((g=(c.rs k).grant∧a=(c.rs k).anew)∨((c.rs k).used≤G∧g=max (c.rs k).grant ((c.rs k).used+c.window)))
theorem zad.refl(G:Nat)(c:CS):zad G c c:=⟨⟨rfl,rfl,rfl,rfl,rfl,rfl,rfl,rfl⟩,⟨rfl,rfl,rfl,rfl,rfl,rfl,rfl⟩,Nat.le_refl _,fun k _=>⟨(c.rs k).grant,(c.rs k).anew,rfl,.inl ⟨rfl,rfl⟩⟩⟩
theorem zkl(x:RS)(g:Nat)(a:Bool):({ x with grant:=g,anew:=a }:RS).used=x.used:=rfl
theorem zad.trans{G:Nat}{d:CS}(h:zad G c c')(k:zad G c' d):zad G c d:=by
 obtain⟨a1,f,a3,a4,a5,a6,a7,a8⟩:=h.hd;obtain⟨b1,b2,b3,b4,b5,b6,b7,b8⟩:=k.hd;obtain⟨c1,c2,c3,c4,c5,c6,c7⟩:=h.tl;obtain⟨d1,d2,d3,d4,d5,d6,d7⟩:=k.tl;refine⟨⟨b1.trans a1,b2.trans f,b3.trans a3,b4.trans a4,b5.trans a5,b6.trans a6,b7.trans a7,b8.trans a8⟩,⟨d1.trans c1,d2.trans c2,d3.trans c3,d4.trans c4,d5.trans c5,d6.trans c6,d7.trans c7⟩,Nat.le_trans k.wl h.wl,fun q i=>?_⟩;obtain⟨g,a,e,hg⟩:=h.rs q i;obtain⟨g',a',e',b⟩:=k.rs q i;refine⟨g',a',by rw[e',e],?_⟩;rw[e,zkl,f]at b;simp only at b;rcases hg with⟨rfl,rfl⟩|⟨u,rfl⟩
 ·exact b
 ·rcases b with⟨rfl,rfl⟩|⟨_,rfl⟩
  ·exact .inr ⟨u,rfl⟩
  ·exact .inr ⟨u,by omega⟩
theorem HB.but{G:Nat}(h:HB G c)(p:zad G c c'):HB G c':=by
 intro k hk b;obtain⟨g,a,e,hg⟩:=p.rs k hk;rw[e]at b ⊢;rw[zkl];rcases hg with⟨rfl,rfl⟩|⟨u,_⟩
 ·exact h k hk b
 ·exact u
variable{d:Drf}
theorem zpJ{G:Nat}(h:HB G c):∀n k t,n+k=8→∀x,(zgY c d n k t).1=some x→zad G c x.1:=by
 intro n
 induction n with
 | zero=>intro k t _ x a;cases a
 | succ n ih =>
  intro k t hk x a;have hk8:k<8:=by omega
  have b:=ih (k+1) (min (t+(c.rs k).used) zD) (by omega);unfold zgY at a;split at a
  ·rename_i hcond;simp only[Bool.and_eq_true]at hcond;split at a
   ·cases a;refine⟨⟨rfl,rfl,rfl,rfl,rfl,rfl,rfl,rfl⟩,⟨rfl,rfl,rfl,rfl,rfl,rfl,rfl⟩,Nat.le_refl _,fun j hj=>?_⟩;by_cases e:j=k
    ·subst e;refine⟨_,false,?_,.inr ⟨h j hj hcond.2,rfl⟩⟩;show upd c.rs j _ j=_;rw[ze]
    ·refine⟨(c.rs j).grant,(c.rs j).anew,?_,.inl ⟨rfl,rfl⟩⟩;show upd c.rs k _ j=_;rw[zd _ _ e]
   ·exact b x a
  ·exact b x a
theorem zkm{G:Nat}:∀n k x,zfw c d n k=some x→zad G c x.1:=by
 intro n
 induction n with
 | zero=>intro k x a;cases a
 | succ n ih =>
  intro k x a;unfold zfw at a;split at a
  ·split at a
   ·cases a;exact⟨⟨rfl,rfl,rfl,rfl,rfl,rfl,rfl,rfl⟩,⟨rfl,rfl,rfl,rfl,rfl,rfl,rfl⟩,Nat.le_refl _,(zad.refl G c).rs⟩
   ·exact ih _ x a
  ·exact ih _ x a
theorem zjq{G:Nat}(h:HB G c):∀x,c.control d=some x→zad G c x.1:=by
 intro x a;unfold CS.control at a;split at a
 ·rename_i y hy;cases a;exact zpJ h 8 0 c.total rfl _ hy
 ·unfold zrJ at a;split at a
  ·split at a
   ·cases a;exact⟨⟨rfl,rfl,rfl,rfl,rfl,rfl,rfl,rfl⟩,⟨rfl,rfl,rfl,rfl,rfl,rfl,rfl⟩,Nat.le_refl _,(zad.refl G c).rs⟩
   ·exact zkm 8 0 x a
  ·exact zkm 8 0 x a
variable{k:Nat}
theorem zep{G:Nat}{fin:Bool}:zad G c (c.bytesAdd d k lo hi fin).2.1:=by
 unfold CS.bytesAdd;split
 ·exact zad.refl G c
 ·exact⟨⟨rfl,rfl,rfl,rfl,rfl,rfl,rfl,rfl⟩,⟨rfl,rfl,rfl,rfl,rfl,rfl,rfl⟩,Nat.le_refl _,(zad.refl G c).rs⟩
theorem zf9{G:Nat}:zad G c (c.bytesR d k lo hi).2.1:=by
 unfold CS.bytesR;split
 ·split
  ·exact zad.refl G c
  ·exact zep
 ·exact zep
theorem zny{G:Nat}:zad G c (c.bytes d k).2.1:=by
 unfold CS.bytes;split
 ·exact zad.refl G c
 ·split
  ·split
   ·exact zad.refl G c
   ·exact zf9
  ·exact zf9
theorem zrp{G:Nat}(h:HB G c):∀q,zad G c (c.put d q).2.1
 | 0=>by
  show zad G c ((c.control d).getD (c,d)).1;cases hc:c.control d with
  | none=>exact zad.refl G c
  | some x=>exact zjq h x hc
 | 1=>by
  show zad G c ((c.datagrams d).getD (c,d)).1;unfold CS.datagrams;cases hw:c.waits with
  | nil=>exact zad.refl G c
  | cons f l =>
   cases hd:d.add f with
   | none=>simp only[hd,Option.map_none];exact zad.refl G c
   | some d' =>
    simp only[hd,Option.map_some];exact⟨⟨rfl,rfl,rfl,rfl,rfl,rfl,rfl,rfl⟩,⟨rfl,rfl,rfl,rfl,rfl,rfl,rfl⟩,by rw[hw];exact Nat.le_succ _,(zad.refl G c).rs⟩
 | k+2=>zny
variable{q:Nat}
theorem zkn{G:Nat}:∀n (c:CS) (d:Drf),HB G c→zad G c (CS.reps q n c d).1
 | 0,c,_,_=>zad.refl G c
 | n+1,c,d,h=>by
  have p:=zrp (d:=d) h q;unfold CS.reps;split
  ·exact p.trans (zkn n _ _ (h.but p))
  ·exact p
theorem zh0{G:Nat}:∀n (c:CS) (d:Drf),HB G c→zad G c (CS.fillN n c d).1
 | 0,c,_,_=>zad.refl G c
 | n+1,c,d,h=>by
  have p:=zkn (q:=9-n) (d.room+1) c d h;unfold CS.fillN;exact p.trans (zh0 n _ _ (h.but p))
structure DFr(d:Drf):Prop where
 fs:∀f∈d.fs,FS f
 fit:d.fs≠[]→d.b.length+4≤d.room
theorem FS.fits(h:f.Fits):FS f:=by
 have a:=h.sound;have hd:=h.data;unfold zS zbB at a;simp only[Bool.and_eq_true,decide_eq_true_eq]at a;refine⟨⟨f.stream.toNat,by omega,by omega⟩,fun e=>⟨?_,by omega⟩⟩;have h4:=a.2;unfold zK at h4;rw[e]at h4;simp at h4;unfold zD;omega
theorem FS.ack(l:zA):FS (ackF l):=⟨⟨0,by decide,rfl⟩,fun e=>absurd e (by simp[ackF])⟩
variable{d':Drf}
theorem DFr.add(h:DFr d)(hf:FS f)(ha:d.add f=some d'):DFr d':=by
 obtain⟨_,e2,e3,_,_,e6⟩:=Drf.add_some ha;refine⟨fun g hg=>?_,fun _=>by omega⟩;rw[e2]at hg;rcases List.mem_append.1 hg with x|x
 ·exact h.fs g x
 ·rw[List.mem_singleton.1 x];exact hf
theorem DFr.put{r:Bool}(h:DFr d)(p:zdH c d r c' d'):DFr d':=by
 cases r with
 | true =>
  obtain⟨f,hf,_,ha⟩:=p.yes rfl;exact h.add (FS.fits hf) ha
 | false =>
  obtain⟨_,e|e⟩:=p.no rfl
  ·rw[e];exact h
  ·rw[e];exact⟨h.fs,h.fit⟩
theorem DFr.reps(a:q<10):∀n (c:CS) (d:Drf),c.Ok→DFr d→DFr (CS.reps q n c d).2
 | 0,_,_,_,h=>h
 | n+1,c,d,hc,h=>by
  have p:=zhu (d:=d) hc a;unfold CS.reps;split
  ·exact DFr.reps a n _ _ p.ok (h.put p)
  ·exact h.put p
theorem DFr.fillN:∀n (c:CS) (d:Drf),n≤10→c.Ok→d.Ok→DFr d→DFr (CS.fillN n c d).2
 | 0,_,_,_,_,_,h=>h
 | n+1,c,d,hn,hc,hd,h=>by
  have r:=zi2 (q:=9-n) (by omega) (d.room+1) c d hc hd;unfold CS.fillN;exact DFr.fillN n _ _ (by omega) r.1 r.2.1 (h.reps (by omega) (d.room+1) c d hc)
theorem DFr.told(h:DFr d)(l:zA):DFr (zs d l).1:=by
 unfold zs;split
 ·exact h
 ·show DFr ((d.add _).getD d);cases ha:d.add (ackF (l.take (zcB d l l.length)))with
  | none=>exact h
  | some d'=>exact h.add (FS.ack _) ha
def znz(l:List Fly):Prop:=∀p∈l,p.n≤zD∧p.at_≤zD∧p.fs.length≤1099511627776∧∀f∈p.fs,FS f
structure znA(G:Nat)(c:CS)(l:zA)(n:Nat)(r:List (List UInt8)×CS):Prop where
 but:zad G c r.2
 ok:r.2.Ok
 fl:r.2.flight.length≤12
 fly:znz r.2.flight
 next:r.2.next≤c.next+zi3 c l
 out:r.1.length≤n∧∀x∈r.1,x.length≤c.mtu
theorem zko(n:Nat):(zdt n).length=4:=rfl
theorem zh1{G:Nat}:∀n (c:CS) (l:zA),zmV c l→HB G c→znz c.flight→c.now≤zD→znA G c l n (CS.pkts n c l)
 | 0,c,l,h,_,hf,_=>⟨zad.refl G c,h.ok,h.fl,hf,by show c.next≤_;omega,Nat.le_refl _,fun x d=>by cases d⟩
 | n+1,c,l,h,hb,hf,hn=>by
  obtain⟨m,r2,o,i,q,j,r7⟩:=h.round;have t:=zgK (zb2 h.ok) l;have g:zad G c (c.pkFill (zs c.pkDraft l).1).1:=by
   unfold CS.pkFill;split
   ·exact zh0 10 c _ hb
   ·exact zad.refl G c
  have df:DFr (c.pkFill (zs c.pkDraft l).1).2∧(c.pkFill (zs c.pkDraft l).1).2.room=c.mtu:=by
   have h0:DFr (zs c.pkDraft l).1:=DFr.told ⟨fun f hf=>(by cases hf),fun x=>absurd rfl x⟩ l;unfold CS.pkFill;split
   ·exact⟨h0.fillN 10 c _ (Nat.le_refl _) h.ok m,(zgJ 10 c _ (Nat.le_refl _) h.ok m).2.2.1.trans t.2.1⟩
   ·exact⟨h0,t.2.1⟩
  unfold CS.pkts;split
  ·exact⟨g,r2,by show(c.pkFill _).1.flight.length≤12;rw[j];exact h.fl,by show znz (c.pkFill _).1.flight;rw[j];exact hf,by show(c.pkFill _).1.next≤_;rw[i];omega,Nat.zero_le _,fun x d=>by cases d⟩
  ·rename_i hne;obtain⟨k1,k2⟩:=r7 hne;have k:zad G c ((c.pkFill (zs c.pkDraft l).1).1.pkDone (c.pkFill (zs c.pkDraft l).1).2):=⟨g.hd,g.tl,g.wl,g.rs⟩;have d:=h.next;have fd:znz ((c.pkFill (zs c.pkDraft l).1).1.pkDone (c.pkFill (zs c.pkDraft l).1).2).flight:=by
    show znz (if (c.pkFill (zs c.pkDraft l).1).2.wants then(c.pkFill (zs c.pkDraft l).1).1.flight++[⟨(c.pkFill (zs c.pkDraft l).1).1.next,(c.pkFill (zs c.pkDraft l).1).1.now,(c.pkFill (zs c.pkDraft l).1).2.fs⟩]else(c.pkFill (zs c.pkDraft l).1).1.flight);rw[i,q,j];split
    ·intro p hp;rcases List.mem_append.1 hp with x|x
     ·exact hf p x
     ·rw[List.mem_singleton.1 x];have:=o.fs;have:=o.b;exact⟨by show c.next≤_;omega,hn,by show(c.pkFill _).2.fs.length≤_;omega,df.1.fs⟩
    ·exact hf
   have a:=zh1 n _ _ k1 (hb.but k) fd (by show(c.pkFill _).1.now≤_;rw[q];exact hn);have e1:((c.pkFill (zs c.pkDraft l).1).1.pkDone (c.pkFill (zs c.pkDraft l).1).2).next=c.next+1:=by show(c.pkFill _).1.next+1=_;rw[i]
   have i1:=a.next;rw[e1]at i1;refine⟨k.trans a.but,a.ok,a.fl,a.fly,?_,?_,fun x d=>?_⟩
   ·show(CS.pkts n _ _).2.next≤_;omega
   ·show(CS.pkts n _ _).1.length+1≤_;have:=a.out.1;omega
   ·rcases List.mem_cons.1 d with e|e
    ·rw[e];have:=df.1.fit hne;have:=df.2;unfold zcq;rw[List.length_append,zko];omega
    ·have:=a.out.2 x e;have e2:((c.pkFill (zs c.pkDraft l).1).1.pkDone (c.pkFill (zs c.pkDraft l).1).2).mtu=c.mtu:=k.hd.1;omega
theorem RS.Inv.again{G b:Nat}{x:RS}(h:x.Inv G)(g:Nat)(a:Bool)(h1:x.grant≤g)(h2:g≤b):({ x with grant:=g,anew:=a }:RS).Inv b:=⟨h.came,h.in_,h.bl,h.rd,Nat.le_trans h.hg h1,h2,h.fin,h.keep,h.st⟩
theorem CS.Inv.acks(h:c.Inv T):c.acks.2.Inv T∧zmU c.acks.1∧c.acks.1.length≤8:=by
 unfold CS.acks;split
 ·refine⟨h.misc c.closed c.said false,h.got.1.desc,?_⟩;have:=h.got.1.rl;have:=h.got.2;show c.got.rs.reverse.length≤8;rw[List.length_reverse];omega
 ·exact⟨h,fun i hi=>absurd hi (Nat.not_lt_zero i),Nat.zero_le _⟩
theorem CS.Inv.pkOk(h:c.Inv T)(hT:T≤zaV):zmV c.acks.2 c.acks.1:=by
 obtain⟨a,b,d⟩:=h.acks;have hn:=a.next;have hf:=a.fl;unfold zaV at hT;exact⟨a.ok (by unfold zaV;omega),a.mtu.1,b,by omega,hf,by unfold zi3 zD;omega⟩
theorem CS.Inv.hb(h:c.Inv T)(hT:T≤zaV):HB (4096*(T+1)) c:=fun k hk hh=>((h.rs k hk).used (by unfold zaV at hT;omega)).2 hh
theorem CS.Inv.pkPost(h:c.Inv T)(e:T≤zaV):znA (4096*(T+1)) c.acks.2 c.acks.1 (12-c.flight.length+c.acks.1.length+1) c.packets:=by
 obtain⟨a,b,d⟩:=h.acks;exact zh1 _ _ _ (h.pkOk e) (a.hb e) a.fly (by have:=a.now;unfold zaV at e;unfold zD;omega)
theorem CS.Inv.packets(h:c.Inv T)(hT:T≤zaV):c.packets.2.Inv (T+1):=by
 have p:=h.pkPost hT;obtain⟨a,_,d⟩:=h.acks;obtain⟨a1,a2,a3,a4,a5,a6,a7,a8⟩:=p.but.hd;obtain⟨c1,c2,c3,c4,b,c6,c7⟩:=p.but.tl;have o:=p.ok;exact
  {mtu:=by rw[a1];exact a.mtu
   win:=o.win
   tot:=o.tot
   grant:=o.grant
   credit:=o.credit
   ws:=o.ws
   rs:=fun k hk=>by
    obtain⟨g,x,e,hg⟩:=p.but.rs k hk;rw[e];have r:=a.rs k hk;have hw:=a.win;have hgr:=r.gr;refine r.again g x ?_ ?_
    ·rcases hg with⟨rfl,_⟩|⟨_,rfl⟩<;>omega
    ·rcases hg with⟨rfl,_⟩|⟨u,rfl⟩<;>omega
   waits:=⟨o.waits,Nat.le_trans p.but.wl a.waits.2⟩
   fl:=p.fl
   fly:=p.fly
   now:=by rw[a4];have:=a.now;omega
   next:=by have:=p.next;have:=a.next;have:=a.fl;unfold zi3 at *;omega
   got:=by rw[a7];exact a.got
   nd:=by rw[b];exact a.nd
   ids:=by rw[b];exact a.ids
   sl:=by rw[b];have:=a.sl;omega
   most:=by rw[c6];exact a.most
   cl:=by rw[c7];have:=a.cl;omega }
def zbc(e:EN):Array Value:=#[.string (zq e.wrote),.bool e.fin,.bool e.cut,.int .i64 (e.keep:Int),.int .i64 (e.read:Int),.int .i64 (e.state:Int)]
def znB(s:SN):Array Value:=#[.int .u64 (s.id:Int),.int .u64 (s.dl:Int),.string (zq s.data),.bool s.came]
def zI(l:List (Nat×List UInt8)):List Value:=l.flatMap fun p=>[.int .i64 (p.1:Int),.string (zq p.2)]
def zbn(b:Nat):Value:=.pointer (some ⟨b,0,none⟩)
theorem zfd(l:List (Nat×List UInt8)):(zI l).length=l.length*2:=by
 induction l with
 | nil=>rfl
 | cons p l ih =>
  have e:zI (p::l)=[.int .i64 (p.1:Int),.string (zq p.2)]++zI l:=rfl;rw[e,List.length_append,ih];simp only[List.length_cons,List.length_nil];omega
structure NV where
 x:Value
 ev:Value
 gv:Value
 nx:Value
 bg:Value
 ct:Value
 b:Nat→Nat
 V:Nat→CV
 er:Nat→Value
 eb:Nat→Nat→Nat
 gr:Nat→Value
 gb:Nat→List Nat
def zc1(n:NS)(M:NV):Array Value:=#[M.x,M.ev,M.gv,M.nx,.int .u64 (n.now:Int),.int .i64 (n.mtu:Int),.int .i64 (n.window:Int),.int .i64 (n.total:Int),M.bg,M.ct]
structure zfy(tag:Nat→Nat×Nat)(r e sz:Nat)(v:Value)(n:Nat)(xs:List Value)(W:World):Prop where
 own:W.ownsRow 0 e sz v n xs
 tag:∀g,v.ownBlock=some g→tag g=(3,r)
structure zfe(tag:Nat→Nat×Nat)(r b:Nat)(cs:Array Value)(t:Nat)(W:World):Prop where
 obj:W.heap[b]?=some (.cells cs t (0,0))
 tag:tag b=(3,r)
section
variable {S:Nat→Prop} {tag tag':Nat→Nat×Nat} {W W':World}
variable{e r:Nat}{v:Value}
theorem zfy.mod(h:zfy tag r e sz v n xs W)(m:Mod S W W')(hS:∀g,S g→tag g≠(3,r))(ht:∀g,tag g≠(0,0)→tag' g=tag g):zfy tag' r e sz v n xs W' :=
 ⟨m.owns h.own (fun g hg x=>hS g x (h.tag g hg)),fun g hg=>by rw[ht g (by rw[h.tag g hg];simp),h.tag g hg]⟩
variable{cs:Array Value}{r t:Nat}
theorem zfe.mod(h:zfe tag r b cs t W)(m:Mod S W W')(hS:∀g,S g→tag g≠(3,r))(ht:∀g,tag g≠(0,0)→tag' g=tag g):zfe tag' r b cs t W' :=
 ⟨m.obj (fun x=>hS b x h.tag) h.obj,by rw[ht b (by rw[h.tag];simp),h.tag]⟩
variable{cs:Array Value}{j r t:Nat}{v:Value}
theorem zfe.cell(h:zfe tag r b cs t W)(hv:cs[j]?=some v):W.cell? ⟨b,j,none⟩=some v:=za h.obj hv
variable{cs:Array Value}{r t:Nat}
theorem zfe.fz(h:zfe tag r b cs t W)(j:Nat):W.frozen? ⟨b,j,none⟩=false:=zf h.obj
end
structure zcE(tag:Nat→Nat×Nat)(nb:Nat)(n:NS)(M:NV)(W:World):Prop where
 obj:zfe tag 0 nb (zc1 n M) 48 W
 x:zfy tag 1 69 1 M.x 2 [zbn (M.b 0),zbn (M.b 1)] W
 ev:zfy tag 2 87 1 M.ev 2 [M.er 0,M.er 1] W
 gv:zfy tag 3 49 1 M.gv 2 [M.gr 0,M.gr 1] W
 nx:zfy tag 4 43 1 M.nx 2 [.int .u64 (n.next 0:Int),.int .u64 (n.next 1:Int)] W
 ct:zfy tag 5 43 1 M.ct 2 [.int .u64 (n.count 0:Int),.int .u64 (n.count 1:Int)] W
 bg:zfy tag 6 62 2 M.bg n.bag.length (zI n.bag) W
 er:∀i,i<2→zfy tag (7+i) 86 1 (M.er i) 8 ((List.range 8).map fun k=>zbn (M.eb i k)) W
 en:∀i,i<2→∀k,k<8→zfe tag (20+8*i+k) (M.eb i k) (zbc (n.e i k)) 89 W
 gr:∀i,i<2→zfy tag (9+i) 52 1 (M.gr i) (M.gb i).length ((M.gb i).map zbn) W
 gl:∀i,i<2→(M.gb i).length=(n.g i).length
 gn:∀i,i<2→∀(j b:Nat) (s:SN),(M.gb i)[j]?=some b→(n.g i)[j]?=some s→zfe tag (40+2*j+i) b (znB s) 51 W
structure zjr(n n':NS):Prop where
 hd:n'.mtu=n.mtu∧n'.window=n.window∧n'.total=n.total∧n'.now=n.now∧n'.bag=n.bag
 e:∀i,i<2→n'.e i=n.e i
 g:∀i,i<2→n'.g i=n.g i
 ct:∀i,i<2→n'.next i=n.next i∧n'.count i=n.count i
theorem zjr.refl(n:NS):zjr n n:=⟨⟨rfl,rfl,rfl,rfl,rfl⟩,fun _ _=>rfl,fun _ _=>rfl,fun _ _=>⟨rfl,rfl⟩⟩
theorem zjr.setC(n:NS)(i:Nat)(c:CS):zjr n (n.setC i c):=⟨⟨rfl,rfl,rfl,rfl,rfl⟩,fun _ _=>rfl,fun _ _=>rfl,fun _ _=>⟨rfl,rfl⟩⟩
variable{M:NV}{nb:Nat}
theorem zcE.same{n n':NS}(h:zcE tag nb n M W)(s:zjr n n')(V:Nat→CV):zcE tag nb n' { M with V:=V } W:=by
 obtain⟨a1,a2,a3,a4,a5⟩:=s.hd;exact
  {obj:=by
    have e:zc1 n' { M with V:=V }=zc1 n M:=by unfold zc1;rw[a1,a2,a3,a4]
    rw[e];exact h.obj
   x:=h.x
   ev:=h.ev
   gv:=h.gv
   nx:=by rw[(s.ct 0 (by decide)).1,(s.ct 1 (by decide)).1];exact h.nx
   ct:=by rw[(s.ct 0 (by decide)).2,(s.ct 1 (by decide)).2];exact h.ct
   bg:=by rw[a5];exact h.bg
   er:=h.er
   en:=fun i hi k hk=>by rw[s.e i hi];exact h.en i hi k hk
   gr:=h.gr
   gl:=fun i hi=>by rw[s.g i hi];exact h.gl i hi
   gn:=fun i hi=>by rw[s.g i hi];exact h.gn i hi }
variable{S:Nat→Prop}{tag':Nat→Nat×Nat}
theorem zcE.mod{n:NS}(h:zcE tag nb n M W)(m:Mod S W W')(hS:∀g,S g→(tag g).1≠3)(a:∀g,tag g≠(0,0)→tag' g=tag g):zcE tag' nb n M W':=by
 have q:∀{r:Nat} g,S g→tag g≠(3,r):=fun g x e=>hS g x (by rw[e])
 exact
  {obj:=h.obj.mod m q a
   x:=h.x.mod m q a
   ev:=h.ev.mod m q a
   gv:=h.gv.mod m q a
   nx:=h.nx.mod m q a
   ct:=h.ct.mod m q a
   bg:=h.bg.mod m q a
   er:=fun i hi=>(h.er i hi).mod m q a
   en:=fun i hi k hk=>(h.en i hi k hk).mod m q a
   gr:=fun i hi=>(h.gr i hi).mod m q a
   gl:=h.gl
   gn:=fun i hi j b s hb hs=>(h.gn i hi j b s hb hs).mod m q a }
structure Net(w:World)(tag:Nat→Nat×Nat)(nb:Nat)(n:NS)(M:NV)(W:World):Prop where
 o:zcE tag nb n M W
 cn:∀i,i<2→zg tag (i+1) (M.b i) (n.c i) (M.V i) W
 env:Env 1 tag W
 nd:∀i,i<2→ziu (i+1) tag
 mod:Mod NoB w W
 t1:∀g,tag g≠(0,0)→w.heap.size≤g
def zx(w:World)(tag:Nat→Nat×Nat)(nb:Nat)(W:World)(n':NS)(W':World):Prop :=
 ∃tag' M',Net w tag' nb n' M' W'∧(∀g,g<W.heap.size→tag' g=tag g)∧Mod (fun g=>tag g≠(0,0)) W W'
variable{j:Nat}
theorem Env.to(h:Env i tag W)(hj:0<j):Env j tag W:=⟨h.ok,hj,h.err,h.tab,h.g0,h.g1⟩
theorem Net.left{n:NS}(h:Net w tag nb n M W):zx w tag nb W n W:=⟨tag,M,h,fun _ _=>rfl,Mod.refl _ _⟩
variable{W'':World}
theorem zx.trans{n':NS}(h1:∀g,g<W.heap.size→tag' g=tag g)(h2:Mod (fun g=>tag g≠(0,0)) W W')(h:zx w tag' nb W' n' W''):zx w tag nb W n' W'':=by
 obtain⟨t,M',a,b,c⟩:=h;refine⟨t,M',a,fun g hg=>(b g (Nat.lt_of_lt_of_le hg h2.size)).trans (h1 g hg),h2.then c (fun g hg=>?_)⟩;by_cases q:g<W.heap.size
 ·exact .inl (by rw[←h1 g q];exact hg)
 ·exact .inr (by omega)
theorem Net.free{n:NS}(h:Net w tag nb n M W)(m:Mod S W W')(b:∀g,S g→W.heap.size≤g):Net w tag nb n M W':=by
 have q:∀g,S g→tag g=(0,0):=fun g hg=>h.env.ok g (b g hg)
 have a:Mod NoB W W':=m.mono (fun g hg=>.inr (b g hg));exact⟨h.o.mod a (fun _ x=>x.elim) (fun _ _=>rfl),fun i hi=>(h.cn i hi).mod0 a,h.env.mod0 a,h.nd,h.mod.trans a,h.t1⟩
theorem zbo.nodr(L:zbo tag i b W c' W')(hi:0<i)(hn:ziu i tag):∃tag' V',zg tag' i b c' V' W'∧Ext i tag tag' W W'∧Mod (fun g=>(tag g).1=i) W W'∧ziu i tag':=by
 obtain⟨t,V',a,e,m⟩:=L;refine⟨fun g=>if (t g).1=i∧90≤(t g).2 then(0,0)else t g,V',a.retag (fun g r d hg=>?_),⟨fun g hg=>?_,fun g hg=>?_,fun g hg=>?_⟩,m,fun g r d=>?_⟩
 ·rw[if_neg (by rw[hg];simp only;omega),hg]
 ·show(if _ then _ else _)=_;rw[e.old g hg,if_neg];rintro⟨x,y⟩;exact hn g (tag g).2 y (by rw[←x])
 ·by_cases c:(t g).1=i∧90≤(t g).2
  ·exact .inr (if_pos c)
  ·have y:(if (t g).1=i∧90≤(t g).2 then((0,0):Nat×Nat)else t g)=t g:=if_neg c;simp only[y];exact e.new g hg
 ·show(if _ then _ else _)=_;split
  ·rfl
  ·exact e.out g hg
 ·show(if _ then _ else _)≠_;split
  ·intro x;have:=congrArg Prod.fst x;simp only at this;omega
  ·rename_i c;intro x;rw[x]at c;exact c ⟨rfl,d⟩
theorem ziu.other(h:ziu j tag)(e:Ext i tag tag' W W')(hj:0<j)(a:j≠i):ziu j tag':=by
 intro g r hr x;by_cases q:g<W.heap.size
 ·rw[e.old g q]at x;exact h g r hr x
 ·rcases e.new g (by omega)with y|y
  ·rw[x]at y;exact a y
  ·rw[x]at y;have:=congrArg Prod.fst y;simp only at this;omega
theorem Net.conn{n:NS}(h:Net w tag nb n M W)(hi:i<2)(hc:zbo tag (i+1) (M.b i) W c' W'):∃tag' V',Net w tag' nb (n.setC i c') { M with V:=V' } W'∧(∀g,g<W.heap.size→tag' g=tag g)∧Mod (fun g=>(tag g).1=i+1) W W':=by
 obtain⟨tag',V',a,e,m,d⟩:=hc.nodr (by omega) (h.nd i hi);have old:∀g,tag g≠(0,0)→tag' g=tag g:=fun g hg=>by
  by_cases q:g<W.heap.size
  ·exact e.old g q
  ·exact absurd (h.env.ok g (by omega)) hg
 refine⟨tag',upd M.V i V',⟨(h.o.mod m (fun g hg x=>by omega) old).same (zjr.setC n i c') _,fun j f=>?_,?_,fun j f=>?_,h.mod.then m (fun g hg=>?_),fun g hg=>?_⟩,e.old,m⟩
 ·by_cases q:j=i
  ·subst q;show zg tag' (j+1) (M.b j) (upd n.c j c' j) (upd M.V j V' j) W';rw[ze,ze];exact a
  ·show zg tag' (j+1) (M.b j) (upd n.c i c' j) (upd M.V i V' j) W';rw[zd _ _ q,zd _ _ q];exact(h.cn j f).mod m (fun g hg x=>by omega) (fun g hg=>old g (fun x=>by rw[x]at hg;simp at hg))
 ·exact((h.env.to (j:=i+1) (by omega)).left e m).to (by omega)
 ·by_cases q:j=i
  ·subst q;exact d
  ·exact(h.nd j f).other e (by omega) (by omega)
 ·refine .inr (h.t1 g (fun x=>?_));rw[x]at hg;simp at hg
 ·by_cases q:g<W.heap.size
  ·exact h.t1 g (by rw[←e.old g q];exact hg)
  ·have:=h.mod.size;omega
structure EN.Inv(e:EN):Prop where
 wl:e.wrote.length≤2048
 rd:e.read≤e.wrote.length
 keep:e.keep≤2048
structure NS.Inv(T:Nat)(n:NS):Prop where
 mtu:64≤n.mtu∧n.mtu≤400
 win:(16≤n.window∧n.window≤4096)∧(16≤n.total∧n.total≤4096)
 c:∀i,i<2→(n.c i).Inv T
 e:∀i,i<2→∀k,k<8→(n.e i k).Inv
 now:n.now≤T
 next:∀i,i<2→n.next i≤4*T
 count:∀i,i<2→n.count i≤32*T
 gl:∀i,i<2→(n.g i).length≤T
 g:∀i,i<2→∀s∈n.g i,s.id≤4*T∧s.dl≤T+8∧s.data.length≤400
 bl:n.bag.length≤32*T
 bag:∀p∈n.bag,p.1<2∧0<p.2.length∧p.2.length≤400
theorem NS.Inv.mono{b:Nat}{n:NS}(h:n.Inv T)(a:T≤b):n.Inv b :=
 ⟨h.mtu,h.win,fun i hi=>(h.c i hi).mono a,h.e,Nat.le_trans h.now a,fun i hi=>by have:=h.next i hi;omega,fun i hi=>by have:=h.count i hi;omega,fun i hi=>Nat.le_trans (h.gl i hi) a,fun i hi s hs=>by have:=h.g i hi s hs;omega,by have:=h.bl;omega,h.bag⟩
theorem NS.Inv.setC{n:NS}(h:n.Inv T)(i:Nat)(hc:i<2→c.Inv T):(n.setC i c).Inv T :=
 ⟨h.mtu,h.win,fun j a=>by
  show(upd n.c i c j).Inv T;by_cases q:j=i
  ·subst q;rw[ze];exact hc a
  ·rw[zd _ _ q];exact h.c j a,h.e,h.now,h.next,h.count,h.gl,h.g,h.bl,h.bag⟩
theorem NS.Inv.setE{n:NS}(h:n.Inv T)(i k:Nat){e:EN}(he:i<2→k<8→e.Inv):(n.setE i k e).Inv T :=
 ⟨h.mtu,h.win,h.c,fun j a q b=>by
  show(upd n.e i (upd (n.e i) k e) j q).Inv;by_cases x:j=i
  ·subst x;rw[ze];by_cases y:q=k
   ·subst y;rw[ze];exact he a b
   ·rw[zd _ _ y];exact h.e j a q b
  ·rw[zd _ _ x];exact h.e j a q b,h.now,h.next,h.count,h.gl,h.g,h.bl,h.bag⟩
theorem NS.Inv.send{n:NS}(h:n.Inv T)(i k:Nat)(s:List UInt8):(n.send i k s).2.Inv T:=by
 have hc:=h.setC i (c:=((n.c i).send k s).2) (fun hi=>(h.c i hi).send _ _);unfold NS.send;split
 ·exact hc
 ·split
  ·exact hc
  ·refine hc.setE i k (fun hi hk=>?_);have e:=h.e i hi k hk;exact⟨by show((n.e i k).wrote++s).length≤_;rw[List.length_append];omega,by have:=e.rd;show _≤((n.e i k).wrote++s).length;rw[List.length_append];show(n.e i k).read≤_;omega,e.keep⟩
theorem NS.Inv.finish{n:NS}(h:n.Inv T)(i k:Nat):(n.finish i k).2.Inv T:=by
 have hc:=h.setC i (c:=((n.c i).finish k).2) (fun hi=>(h.c i hi).finish _);unfold NS.finish;split
 ·exact hc
 ·refine hc.setE i k (fun hi hk=>?_);have e:=h.e i hi k hk;exact⟨e.wl,e.rd,e.keep⟩
theorem NS.Inv.reset{n:NS}(h:n.Inv T)(i k:Nat)(b:Int):(n.reset i k b).2.Inv T:=by
 unfold NS.reset NS.resetK;refine(h.setC i (fun hi=>(h.c i hi).reset _ _)).setE i k (fun hi hk=>?_);have e:=h.e i hi k hk;refine⟨e.wl,e.rd,?_⟩;have:=zae b ((n.e i k).wrote.length+1) (Nat.succ_pos _);have:=e.wl;have:=e.keep;show(if _ then _ else _)≤_;split<;>omega
theorem NS.Inv.datagram{n:NS}(h:n.Inv T)(i:Nat)(s:za5):(n.datagram i s).2.Inv (T+1):=by
 have k:=h.mono (Nat.le_succ T);unfold NS.datagram;split
 ·exact(h.setC i (fun hi=>(h.c i hi).datagram _ _ _)).mono (Nat.le_succ T)
 ·have hc:=(h.setC i (c:=((n.c i).datagram (n.next i) (n.now+pickN s.a 9) s.s).2) (fun hi=>(h.c i hi).datagram _ _ _)).mono (Nat.le_succ T);split
  ·exact hc
  ·split
   ·exact hc
   ·rename_i hm _ _;have p9:=zae s.a _ (show 0<9 by omega);have p3:=zae s.b _ (show 0<3 by omega);have hn:=h.now;have hmt:=h.mtu;refine⟨hc.mtu,hc.win,hc.c,hc.e,hc.now,fun j d=>?_,hc.count,fun j d=>?_,fun j d x hx=>?_,hc.bl,hc.bag⟩
    ·show upd n.next i _ j≤_;by_cases q:j=i
     ·subst q;have:=h.next j d;rw[ze];omega
     ·rw[zd _ _ q];exact k.next j d
    ·show(upd n.g i _ j).length≤_;by_cases q:j=i
     ·subst q;have:=h.gl j d;rw[ze,List.length_append,List.length_singleton];omega
     ·rw[zd _ _ q];exact k.gl j d
    ·have f:x∈upd n.g i (n.g i++[⟨n.next i,n.now+pickN s.a 9,s.s,false⟩]) j:=hx;by_cases q:j=i
     ·subst q;rw[ze]at f;rcases List.mem_append.1 f with y|y
      ·exact k.g j d x y
      ·rw[List.mem_singleton.1 y];have:=h.next j d;exact⟨by show n.next j≤_;omega,by show n.now+pickN s.a 9≤_;omega,by show s.s.length≤_;omega⟩
     ·rw[zd _ _ q]at f;exact k.g j d x f
theorem NS.Inv.tick{n:NS}(h:n.Inv T):n.tick.Inv (T+1):=by
 have a:=h.mono (Nat.le_succ T);refine⟨a.mtu,a.win,fun i hi=>?_,a.e,by have:=h.now;show n.now+1≤_;omega,a.next,a.count,a.gl,a.g,a.bl,a.bag⟩;show(upd (upd n.c 0 (n.c 0).tick) 1 (n.c 1).tick i).Inv _;by_cases q:i=1
 ·subst q;rw[ze];exact(h.c 1 hi).tick
 ·have:i=0:=by omega
  subst this;rw[zd _ _ q,ze];exact(h.c 0 hi).tick
theorem NS.Inv.drop{n:NS}(h:n.Inv T)(k:Nat):(n.drop k).Inv T:=by
 refine⟨h.mtu,h.win,h.c,h.e,h.now,h.next,h.count,h.gl,h.g,?_,fun p hp=>?_⟩
 ·have:=h.bl;show(n.bag.take k++n.bag.drop (k+1)).length≤_;rw[List.length_append,List.length_take,List.length_drop];omega
 ·rcases List.mem_append.1 hp with x|x
  ·exact h.bag p (List.mem_of_mem_take x)
  ·exact h.bag p (List.mem_of_mem_drop x)
theorem zrq{b:List UInt8}(h:dec b = .ok n fs):0<b.length:=by
 cases b with
 | nil=>revert h;unfold dec;simp
 | cons x l=>simp
theorem zb3(i:Nat):∀(l:List (List UInt8)) (n:NS),∃c' m,(NS.flushL i l n).2={ n with count:=upd n.count i c',bag:=n.bag++m }∧c'≤n.count i+l.length∧m.length≤l.length∧∀p∈m,p.1=1-i∧0<p.2.length∧p.2.length≤n.mtu
 | [],n=>⟨n.count i,[],by show n=_;rw[zaB,List.append_nil],Nat.le_refl _,Nat.le_refl _,fun p a=>(by cases a)⟩
 | b::l,n=>by
  have same:∃c' m,n={ n with count:=upd n.count i c',bag:=n.bag++m }∧c'≤n.count i+(b::l).length∧m.length≤(b::l).length∧∀p∈m,p.1=1-i∧0<p.2.length∧p.2.length≤n.mtu :=
   ⟨n.count i,[],by rw[zaB,List.append_nil],by omega,Nat.zero_le _,fun p a=>(by cases a)⟩
  unfold NS.flushL;cases hd:dec b with
  | sum=>exact same
  | bad p=>exact same
  | ok num fs =>
   simp only;split
   ·exact same
   ·rename_i hc;split
    ·exact⟨n.count i+1,[],by rw[List.append_nil],by simp,Nat.zero_le _,fun p a=>(by cases a)⟩
    ·obtain⟨c',m,h1,h2,h3,h4⟩:=zb3 i l { n with count:=upd n.count i (n.count i+1),bag:=n.bag++[(1-i,b)] };refine⟨c',(1-i,b)::m,?_,?_,by simp only[List.length_cons];omega,fun p a=>?_⟩
     ·rw[h1];have e:upd (upd n.count i (n.count i+1)) i c'=upd n.count i c':=by
       funext j;by_cases q:j=i
       ·subst q;rw[ze,ze]
       ·rw[zd _ _ q,zd _ _ q,zd _ _ q]
      simp only[e,List.append_assoc,List.singleton_append]
     ·simp only[ze]at h2;simp only[List.length_cons];omega
     ·rcases List.mem_cons.1 a with x|x
      ·rw[x];exact⟨rfl,zrq hd,by show b.length≤_;omega⟩
      ·exact h4 p x
theorem NS.Inv.flush(k:T≤zaV){n:NS}(h:n.Inv T)(hi:i<2):(n.flush i).2.Inv (T+1):=by
 have f:=(h.c i hi).pkPost k;have ha:=(h.c i hi).acks.2.2;have hl:(n.c i).packets.1.length≤21:=by have:=f.out.1;omega
 have hc:=(h.mono (Nat.le_succ T)).setC i (c:=(n.c i).packets.2) (fun _=>(h.c i hi).packets k);unfold NS.flush;obtain⟨c',m,h1,h2,h3,h4⟩:=zb3 i (n.c i).packets.1 (n.setC i (n.c i).packets.2);rw[h1];have hct:=h.count i hi;have hb:=h.bl;have hm:=h.mtu;have e1:(n.setC i (n.c i).packets.2).count=n.count:=rfl;have e2:(n.setC i (n.c i).packets.2).bag=n.bag:=rfl;have e3:(n.setC i (n.c i).packets.2).mtu=n.mtu:=rfl;rw[e1]at h2;rw[e3]at h4;refine⟨hc.mtu,hc.win,hc.c,hc.e,hc.now,hc.next,fun j hj=>?_,hc.gl,hc.g,?_,fun p f=>?_⟩
 ·show upd n.count i c' j≤_;by_cases q:j=i
  ·subst q;rw[ze];omega
  ·rw[zd _ _ q];have:=h.count j hj;omega
 ·show(n.bag++m).length≤_;rw[List.length_append];omega
 ·rcases List.mem_append.1 f with x|x
  ·exact h.bag p x
  ·obtain⟨a,b,d⟩:=h4 p x;exact⟨by omega,b,by omega⟩
theorem zcx(now id:Nat)(data:List UInt8):∀(l:List SN) (r:Bool),(zba now id data l r).2.length=l.length∧∀s∈(zba now id data l r).2,∃s'∈l,s.id=s'.id∧s.dl=s'.dl∧s.data=s'.data
 | [],r=>⟨rfl,fun s c=>(by cases c)⟩
 | g::l,r=>by
  unfold zba;split
  ·obtain⟨a,b⟩:=zcx now id data l (g.data==data && !g.came&&decide (now≤g.dl));refine⟨by simp only[List.length_cons,a],fun s c=>?_⟩;rcases List.mem_cons.1 c with x|x
   ·exact⟨g,List.mem_cons_self,by rw[x];exact⟨rfl,rfl,rfl⟩⟩
   ·obtain⟨s',h1,h2⟩:=b s x;exact⟨s',List.mem_cons_of_mem _ h1,h2⟩
  ·obtain⟨a,b⟩:=zcx now id data l r;refine⟨by simp only[List.length_cons,a],fun s c=>?_⟩;rcases List.mem_cons.1 c with x|x
   ·exact⟨g,List.mem_cons_self,by rw[x];exact⟨rfl,rfl,rfl⟩⟩
   ·obtain⟨s',h1,h2⟩:=b s x;exact⟨s',List.mem_cons_of_mem _ h1,h2⟩
theorem zff(now:Nat):∀(l:List (Nat×List UInt8)) (G:List SN),(zcD now l G).2.length=G.length∧∀s∈(zcD now l G).2,∃s'∈G,s.id=s'.id∧s.dl=s'.dl∧s.data=s'.data
 | [],G=>⟨rfl,fun s c=>⟨s,c,rfl,rfl,rfl⟩⟩
 | m::l,G=>by
  obtain⟨a,b⟩:=zcx now m.1 m.2 G false;unfold zcD;split
  ·obtain⟨a2,b2⟩:=zff now l (zba now m.1 m.2 G false).2;refine⟨a2.trans a,fun s c=>?_⟩;obtain⟨s',h1,h2,h3,h4⟩:=b2 s c;obtain⟨s2,k1,k2,k3,k4⟩:=b s' h1;exact⟨s2,k1,h2.trans k2,h3.trans k3,h4.trans k4⟩
  ·exact⟨a,b⟩
theorem NS.Inv.came{n:NS}(h:n.Inv T)(i:Nat):(n.came i).2.Inv T:=by
 have hc:=h.setC i (c:=(n.c i).datagramsOut.2) (fun hi=>(h.c i hi).datagramsOut);obtain⟨a,b⟩:=zff n.now (n.c i).datagramsOut.1 (n.g (1-i));refine⟨hc.mtu,hc.win,hc.c,hc.e,hc.now,hc.next,hc.count,fun j f=>?_,fun j f s hs=>?_,hc.bl,hc.bag⟩
 ·show(upd n.g (1-i) _ j).length≤_;by_cases q:j=1-i
  ·subst q;rw[ze,a];exact h.gl _ f
  ·rw[zd _ _ q];exact h.gl j f
 ·have d:s∈upd n.g (1-i) (zcD n.now (n.c i).datagramsOut.1 (n.g (1-i))).2 j:=hs;by_cases q:j=1-i
  ·subst q;rw[ze]at d;obtain⟨s',h1,h2,h3,h4⟩:=b s d;rw[h2,h3,h4];exact h.g _ f s' h1
  ·rw[zd _ _ q]at d;exact h.g j f s d
theorem NS.Inv.recv{n:NS}(h:n.Inv T)(i:Nat)(b:List UInt8)(hT:T+b.length≤zaV):(n.recv i b).2.2.Inv (T+b.length):=by
 unfold NS.recv;exact((h.mono (Nat.le_add_right T b.length)).setC i (fun hi=>(h.c i hi).receive hT)).came i
theorem zeq(b:List UInt8)(x:UInt8)(hk:k<b.length):(zeZ b k x).length=b.length:=by
 unfold zeZ;simp only[List.length_append,List.length_take,List.length_drop,List.length_singleton];omega
theorem NS.Inv.carry{n:NS}(h:n.Inv T)(s:za5)(hT:T+400≤zaV):(n.carry s).2.Inv (T+400):=by
 have c:=h.mono (show T≤T+400 by omega);unfold NS.carry;split
 ·exact c
 ·rename_i hb;have hk:pickN s.a n.bag.length<n.bag.length:=zae _ _ (List.length_pos_iff.2 hb);have hm:n.bag.getD (pickN s.a n.bag.length) (0,[])∈n.bag:=by simp[List.getD,hk]
  obtain⟨_,p1,p2⟩:=h.bag _ hm;generalize pickN s.a n.bag.length=k at *;generalize n.bag.getD k (0,[])=f at *;unfold NS.carryK;split
  ·have hx:(if pickN s.b 2=0 then n.drop k else n).Inv T:=by
    split
    ·exact h.drop k
    ·exact h
   exact(hx.recv f.1 f.2 (by omega)).mono (by omega)
  ·split
   ·exact c.drop k
   ·split
    ·have e:=zeq f.2 (zpj s.s) (zae s.b _ p1);exact(h.recv f.1 _ (by omega)).mono (by omega)
    ·exact c
theorem NS.Inv.read{n:NS}(h:n.Inv T)(i k most:Nat):(n.read i k most).2.Inv T:=by
 have hc:=h.setC i (c:=((n.c i).read k most).2) (fun hi=>(h.c i hi).read _ _);unfold NS.read;split
 ·exact hc
 ·rename_i hw;refine hc.setE (1-i) k (fun hi hk=>?_);have e:=h.e (1-i) hi k hk;unfold EN.wrong at hw;simp only[Bool.not_eq_true,Bool.or_eq_false_iff,decide_eq_false_iff_not]at hw;obtain⟨⟨⟨⟨_,_⟩,h3⟩,_⟩,_⟩:=hw;refine⟨e.wl,by show(n.e (1-i) k).read+((n.c i).read k most).1.1.length≤(n.e (1-i) k).wrote.length;omega,e.keep⟩
theorem zh2(c:Int):pickN c 2<2:=zae c 2 (by omega)
theorem NS.Inv.step{n:NS}(h:n.Inv T)(s:za5)(hT:T+401≤zaV):(n.step s).2.Inv (T+401):=by
 have up:∀{m:NS} {a:Nat},m.Inv a→a≤T+401→m.Inv (T+401):=fun x y=>x.mono y
 unfold NS.step;split
 ·exact up (h.send _ _ _) (by omega)
 ·split
  ·exact up (h.finish _ _) (by omega)
  ·split
   ·exact up (h.reset _ _ _) (by omega)
   ·split
    ·exact up (h.datagram _ _) (by omega)
    ·split
     ·exact up (h.tick.carry s (by omega)) (by omega)
     ·split
      ·exact up (h.flush (by omega) (zh2 _)) (by omega)
      ·split
       ·exact up (h.read _ _ _) (by omega)
       ·exact up (h.carry s (by omega)) (by omega)
def NS.Up(n:NS):Prop:=∀i,i<2→(n.c i).closed=0
theorem NS.Up.setC{n:NS}(h:n.Up)(i:Nat)(hc:i<2→c.closed=0):(n.setC i c).Up:=by
 intro j a;show(upd n.c i c j).closed=0;by_cases q:j=i
 ·subst q;rw[ze];exact hc a
 ·rw[zd _ _ q];exact h j a
theorem zjs(c:CS)(k:Int)(s:List UInt8):(c.send k s).2.closed=c.closed:=by
 unfold CS.send;split
 ·rfl
 ·split
  ·rfl
  ·split<;>rfl
theorem zgS(c:CS)(k:Int):(c.finish k).2.closed=c.closed:=by
 unfold CS.finish;split
 ·rfl
 ·split<;>rfl
theorem zh3(c:CS)(k n:Int):(c.reset k n).2.closed=c.closed:=by
 unfold CS.reset;split<;>rfl
theorem zcS(c:CS)(id dl:Nat)(s:List UInt8):(c.datagram id dl s).2.closed=c.closed:=by
 unfold CS.datagram;split
 ·rfl
 ·split
  ·rfl
  ·split
   ·rfl
   ·split<;>rfl
theorem zfg(c:CS):c.lose.closed=c.closed:=by
 rw[zgN];exact(zcQ c.flight c).hd.2.2.2.2.1
theorem zfh(c:CS):c.tick.closed=c.closed:=zfg c.ticked
theorem zh4(c:CS)(l:zA):(c.acked l).2.closed=c.closed:=by
 by_cases a:c.next≤hiAt l 0
 ·unfold CS.acked;rw[if_pos a]
 ·rw[zeE c l a];exact(zfg (c.ackedTo l)).trans (zcR l c.flight _).hd.2.2.2.2.1
theorem zjt(c:CS)(k n:Int):(c.read k n).2.closed=c.closed:=by
 unfold CS.read;split
 ·rfl
 ·split<;>rfl
theorem zju(c:CS)(f:Frm):(c.take f).2.closed=c.closed:=by
 unfold CS.take;split
 ·exact zh4 c _
 ·split
  ·unfold CS.resetAt;split<;>rfl
  ·split
   ·unfold CS.data;split
    ·rfl
    ·split<;>rfl
   ·split
    ·rfl
    ·split
     ·rfl
     ·split
      ·unfold CS.message;split<;>rfl
      ·split<;>rfl
theorem zcT:∀(fs:List Frm) (c:CS),(CS.takes fs c).1=0→(CS.takes fs c).2.closed=c.closed
 | [],_,_=>rfl
 | f::fs,c,h=>by
  unfold CS.takes at h ⊢;split at h
  ·rename_i hx;exact absurd h hx
  ·rename_i hx;rw[if_neg hx];exact(zcT fs _ h).trans (zju c f)
theorem zls(c:CS)(f:Frm):(c.take f).1≠7:=by
 unfold CS.take;split
 ·unfold CS.acked;split<;>simp
 ·split
  ·unfold CS.resetAt;split<;>simp
  ·split
   ·unfold CS.data;split
    ·simp
    ·split<;>simp
   ·split
    ·simp
    ·split
     ·simp
     ·split
      ·simp
      ·split<;>simp
theorem zfi:∀(fs:List Frm) (c:CS),(CS.takes fs c).1≠7
 | [],_=>by simp[CS.takes]
 | f::fs,c=>by
  unfold CS.takes;split
  ·exact zls c f
  ·exact zfi fs _
theorem zfK(c:CS)(bs:List UInt8)(h:(c.receive bs).1.1=0∨(c.receive bs).1.1=7)(h0:c.closed=0):(c.receive bs).2.closed=0:=by
 unfold CS.receive at h ⊢;rw[if_neg (by omega)]at h ⊢;cases hd:dec bs with
 | sum=>exact h0
 | bad p =>
  rw[hd]at h;simp at h
 | ok n fs =>
  rw[hd]at h;simp only at h ⊢;split at h
  ·rename_i hb;rw[if_pos hb];exact h0
  ·rename_i hb;rw[if_neg hb];rcases h with h|h
   ·exact(zcT fs _ h).trans h0
   ·exact absurd h (zfi fs _)
theorem NS.Up.packets(hT:T≤zaV){n:NS}(h:n.Inv T)(u:n.Up)(hi:i<2):(n.c i).packets.2.closed=0:=by
 have e:=((h.c i hi).pkPost hT).but.hd.2.2.2.2.1;rw[e];have a:(n.c i).acks.2.closed=(n.c i).closed:=by
  unfold CS.acks;split<;>rfl
 rw[a];exact u i hi
theorem NS.Up.flush(hT:T≤zaV){n:NS}(h:n.Inv T)(u:n.Up)(hi:i<2):(n.flush i).2.Up:=by
 unfold NS.flush;obtain⟨c',m,h1,_⟩:=zb3 i (n.c i).packets.1 (n.setC i (n.c i).packets.2);rw[h1];exact u.setC i (fun _=>u.packets hT h hi)
theorem NS.Up.send{n:NS}(u:n.Up)(i k:Nat)(s:List UInt8):(n.send i k s).2.Up:=by
 have hc:=u.setC i (c:=((n.c i).send k s).2) (fun hi=>(zjs _ _ _).trans (u i hi));unfold NS.send;split
 ·exact hc
 ·split<;>exact hc
theorem NS.Up.finish{n:NS}(u:n.Up)(i k:Nat):(n.finish i k).2.Up:=by
 have hc:=u.setC i (c:=((n.c i).finish k).2) (fun hi=>(zgS _ _).trans (u i hi));unfold NS.finish;split<;>exact hc
theorem NS.Up.reset{n:NS}(u:n.Up)(i k:Nat)(b:Int):(n.reset i k b).2.Up:=by
 unfold NS.reset NS.resetK;exact u.setC i (fun hi=>(zh3 _ _ _).trans (u i hi))
theorem NS.Up.datagram{n:NS}(u:n.Up)(i:Nat)(s:za5):(n.datagram i s).2.Up:=by
 unfold NS.datagram;split
 ·exact u.setC i (fun hi=>(zcS _ _ _ _).trans (u i hi))
 ·have hc:=u.setC i (c:=((n.c i).datagram (n.next i) (n.now+pickN s.a 9) s.s).2) (fun hi=>(zcS _ _ _ _).trans (u i hi));split
  ·exact hc
  ·split<;>exact hc
theorem NS.Up.tick{n:NS}(u:n.Up):n.tick.Up:=by
 intro i hi;show(upd (upd n.c 0 (n.c 0).tick) 1 (n.c 1).tick i).closed=0;by_cases q:i=1
 ·subst q;rw[ze];exact(zfh _).trans (u 1 hi)
 ·have:i=0:=by omega
  subst this;rw[zd _ _ q,ze];exact(zfh _).trans (u 0 hi)
theorem NS.Up.came{n:NS}(u:n.Up)(i:Nat):(n.came i).2.Up:=u.setC i (c:=(n.c i).datagramsOut.2) (fun hi=>u i hi)
theorem NS.Up.recv{n:NS}(u:n.Up)(i:Nat)(b:List UInt8)(h:(n.recv i b).1=0∨(n.recv i b).1=7):(n.recv i b).2.2.Up :=
 NS.Up.came (u.setC i (c:=((n.c i).receive b).2) (fun hi=>zfK _ _ h (u i hi))) i
theorem NS.Up.drop{n:NS}(u:n.Up)(k:Nat):(n.drop k).Up:=u
theorem NS.Up.carry{n:NS}(u:n.Up)(s:za5)(h:(n.carry s).1=true):(n.carry s).2.Up:=by
 unfold NS.carry at h ⊢;split at h
 ·rename_i hb;rw[if_pos hb];exact u
 ·rename_i hb;rw[if_neg hb];generalize pickN s.a n.bag.length=k at *;generalize n.bag.getD k (0,[])=f at *;unfold NS.carryK at h ⊢;split at h
  ·rename_i h7;rw[if_pos h7];have hx:(if pickN s.b 2=0 then n.drop k else n).Up:=by
    split
    ·exact u.drop k
    ·exact u
   simp only[Bool.and_eq_true,beq_iff_eq]at h;exact hx.recv f.1 f.2 (.inl h.1)
  ·rename_i h7;rw[if_neg h7];split at h
   ·rename_i h8;rw[if_pos h8];exact u.drop k
   ·rename_i h8;rw[if_neg h8];split at h
    ·rename_i h9;rw[if_pos h9];simp only[Bool.and_eq_true,beq_iff_eq]at h;exact u.recv f.1 _ (.inr h.1)
    ·rename_i h9;rw[if_neg h9];exact u
theorem NS.Up.read{n:NS}(u:n.Up)(i k most:Nat):(n.read i k most).2.Up:=by
 have hc:=u.setC i (c:=((n.c i).read k most).2) (fun hi=>(zjt _ _ _).trans (u i hi));unfold NS.read;split<;>exact hc
theorem NS.Up.step{n:NS}(h:n.Inv T)(u:n.Up)(s:za5)(hT:T+401≤zaV)(ok:(n.step s).1=true):(n.step s).2.Up:=by
 unfold NS.step at ok ⊢;split at ok
 ·rename_i e;rw[if_pos e];exact u.send _ _ _
 ·rename_i e;rw[if_neg e];split at ok
  ·rename_i e;rw[if_pos e];exact u.finish _ _
  ·rename_i e;rw[if_neg e];split at ok
   ·rename_i e;rw[if_pos e];exact u.reset _ _ _
   ·rename_i e;rw[if_neg e];split at ok
    ·rename_i e;rw[if_pos e];exact u.datagram _ _
    ·rename_i e;rw[if_neg e];split at ok
     ·rename_i e;rw[if_pos e];exact u.tick.carry s ok
     ·rename_i e;rw[if_neg e];split at ok
      ·rename_i e;rw[if_pos e];exact NS.Up.flush (by omega) h u (zh2 _)
      ·rename_i e;rw[if_neg e];split at ok
       ·rename_i e;rw[if_pos e];exact u.read _ _ _
       ·rename_i e;rw[if_neg e];exact u.carry s ok
section
variable {S:Nat→Prop} {tag tag':Nat→Nat×Nat} {w W W':World} {nb:Nat} {n n':NS} {M M':NV}
theorem Net.own(h:Net w tag nb n M W)(o:zcE tag' nb n' M' W')(hc:n'.c=n.c)(hb:M'.b=M.b)(hV:M'.V=M.V)(m:Mod S W W')(hS:∀g,S g→(tag g).1=3∨W.heap.size≤g)(e:Ext 3 tag tag' W W'):Net w tag' nb n' M' W':=by
 have old:∀g,tag g≠(0,0)→tag' g=tag g:=fun g hg=>by
  by_cases q:g<W.heap.size
  ·exact e.old g q
  ·exact absurd (h.env.ok g (by omega)) hg
 have a:Mod (fun g=>(tag g).1=3) W W':=m.mono hS;refine⟨o,fun i hi=>?_,((h.env.to (j:=3) (by omega)).left e a).to (by omega),fun i hi=>(h.nd i hi).other e (by omega) (by omega),h.mod.then a (fun g hg=>.inr (h.t1 g (fun x=>?_))),fun g hg=>?_⟩
 ·rw[hc,hb,hV];exact(h.cn i hi).mod a (fun g hg x=>by omega) (fun g hg=>old g (fun x=>by rw[x]at hg;simp at hg))
 ·rw[x]at hg;simp at hg
 ·by_cases q:g<W.heap.size
  ·exact h.t1 g (by rw[←e.old g q];exact hg)
  ·have:=h.mod.size;omega
variable{cs:Array Value}{r t:Nat}
theorem zfe.turn{a:Array Value}(h:zfe tag r b cs t W)(obj:W'.heap[b]?=some (.cells a t (0,0))):zfe tag r b a t W':=⟨obj,h.tag⟩
variable{e r:Nat}{v:Value}
theorem zfy.kept{a:Nat}(h:zfy tag r e sz v q xs W)(m:Mod (fun g=>g=b) W W')(hb:tag b=(3,a))(hr:r≠a):zfy tag r e sz v q xs W' :=
 h.mod m (fun g hg x=>by rw[show g=b from hg,hb]at x;simp at x;exact hr x.symm) (fun _ _=>rfl)
variable{cs:Array Value}{r t:Nat}
theorem zfe.kept{a c:Nat}(h:zfe tag r c cs t W)(m:Mod (fun g=>g=b) W W')(hb:tag b=(3,a))(hr:r≠a):zfe tag r c cs t W' :=
 h.mod m (fun g hg x=>by rw[show g=b from hg,hb]at x;simp at x;exact hr x.symm) (fun _ _=>rfl)
theorem zcE.endS(h:zcE tag nb n M W)(hi:i<2)(hk:k<8)(f:EN)(m:Mod (fun g=>g=M.eb i k) W W')(obj:W'.heap[M.eb i k]?=some (.cells (zbc f) 89 (0,0))):zcE tag nb (n.setE i k f) M W':=by
 have c:=(h.en i hi k hk).tag;exact
  {obj:=h.obj.kept m c (by omega)
   x:=h.x.kept m c (by omega)
   ev:=h.ev.kept m c (by omega)
   gv:=h.gv.kept m c (by omega)
   nx:=h.nx.kept m c (by omega)
   ct:=h.ct.kept m c (by omega)
   bg:=h.bg.kept m c (by omega)
   er:=fun j d=>(h.er j d).kept m c (by omega)
   en:=fun j d q l=>by
    show zfe tag (20+8*j+q) (M.eb j q) (zbc (upd n.e i (upd (n.e i) k f) j q)) 89 W';by_cases x:j=i
    ·subst x;rw[ze];by_cases y:q=k
     ·subst y;rw[ze];exact(h.en j d q l).turn obj
     ·rw[zd _ _ y];exact(h.en j d q l).kept m c (by omega)
    ·rw[zd _ _ x];exact(h.en j d q l).kept m c (by omega)
   gr:=fun j d=>(h.gr j d).kept m c (by omega)
   gl:=h.gl
   gn:=fun j d a b s hb hs=>(h.gn j d a b s hb hs).kept m c (by omega) }
theorem zcE.head(h:zcE tag nb n M W)(s:n'.mtu=n.mtu∧n'.window=n.window∧n'.total=n.total∧n'.bag=n.bag)(he:n'.e=n.e)(hg:n'.g=n.g)(f:n'.next=n.next∧n'.count=n.count)(m:Mod (fun g=>g=nb) W W')(obj:W'.heap[nb]?=some (.cells (zc1 n' M) 48 (0,0))):zcE tag nb n' M W':=by
 have c:=h.obj.tag;obtain⟨s1,s2,s3,s4⟩:=s;exact
  {obj:=h.obj.turn obj
   x:=h.x.kept m c (by omega)
   ev:=h.ev.kept m c (by omega)
   gv:=h.gv.kept m c (by omega)
   nx:=by rw[f.1];exact h.nx.kept m c (by omega)
   ct:=by rw[f.2];exact h.ct.kept m c (by omega)
   bg:=by rw[s4];exact h.bg.kept m c (by omega)
   er:=fun j d=>(h.er j d).kept m c (by omega)
   en:=fun j d q hq=>by rw[he];exact(h.en j d q hq).kept m c (by omega)
   gr:=fun j d=>(h.gr j d).kept m c (by omega)
   gl:=by rw[hg];exact h.gl
   gn:=fun j d a b s hb i=>by rw[hg]at i;exact(h.gn j d a b s hb i).kept m c (by omega) }
theorem zcE.bagS(h:zcE tag nb n M W)(v:Value)(l:List (Nat×List UInt8))(m:Mod S W W')(hS:∀g,S g→tag g=(3,0)∨tag g=(3,6)∨tag g=(0,0))(c:∀g,tag g≠(0,0)→tag' g=tag g)
  (obj:W'.heap[nb]?=some (.cells (zc1 { n with bag:=l } { M with bg:=v }) 48 (0,0))) (row:W'.ownsRow 0 62 2 v l.length (zI l)) (tg:∀g,v.ownBlock=some g→tag' g=(3,6)):zcE tag' nb { n with bag:=l } { M with bg:=v } W':=by
 have q:∀{r:Nat},r≠0→r≠6→∀g,S g→tag g≠(3,r):=fun r0 r6 g hg x=>by
  rcases hS g hg with y|y|y<;>rw[x]at y<;>simp at y
  ·exact r0 y
  ·exact r6 y
 exact
  {obj:=⟨obj,by rw[c nb (by rw[h.obj.tag];simp),h.obj.tag]⟩
   x:=h.x.mod m (q (by omega) (by omega)) c
   ev:=h.ev.mod m (q (by omega) (by omega)) c
   gv:=h.gv.mod m (q (by omega) (by omega)) c
   nx:=h.nx.mod m (q (by omega) (by omega)) c
   ct:=h.ct.mod m (q (by omega) (by omega)) c
   bg:=⟨row,tg⟩
   er:=fun j d=>(h.er j d).mod m (q (by omega) (by omega)) c
   en:=fun j d a ha=>(h.en j d a ha).mod m (q (by omega) (by omega)) c
   gr:=fun j d=>(h.gr j d).mod m (q (by omega) (by omega)) c
   gl:=h.gl
   gn:=fun j d a b s hb hs=>(h.gn j d a b s hb hs).mod m (q (by omega) (by omega)) c }
variable{e:Nat}
theorem zpK(v:Value)(h:W.ownsRow 0 e 1 (.slice (some ⟨g,0,none⟩) N cap) N xs):(W.setCell ⟨g,i,none⟩ v).ownsRow 0 e 1 (.slice (some ⟨g,0,none⟩) N cap) N (xs.set i v):=by
 have hl:=h.1;rcases h.2 with⟨e,_⟩|⟨g',a,cur,e,_,h1,h2,h3,h4,h5⟩
 ·cases e
 ·cases e;refine⟨by rw[List.length_set];exact hl,.inr ⟨g,cap,_,rfl,Nat.zero_le _,zc h1,h2,h3,by simp[h4],?_⟩⟩;rw[←h5];simp[List.take_set]
variable{e:Nat}{v:Value}
theorem zcy(h:W.ownsRow 0 e 1 (.slice (some ⟨g,0,none⟩) N cap) N xs)(a:xs[i]?=some v):W.cell? ⟨g,i,none⟩=some v∧W.frozen? ⟨g,i,none⟩=false:=by
 have hl:=h.1;rcases h.2 with⟨e,_⟩|⟨g',b,cur,e,_,h1,h2,h3,h4,h5⟩
 ·cases e
 ·cases e;have hi:=(List.getElem?_eq_some_iff.1 a).1;refine⟨za h1 ?_,zf h1⟩;rw[←h5,List.getElem?_take_of_lt (by omega),Array.getElem?_toList]at a;exact a
variable{e:Nat}{v:Value}
theorem zh5(h:W.ownsRow 0 e sz v N xs)(hN:0<N):∃g cap,v = .slice (some ⟨g,0,none⟩) N cap∧N≤cap∧cap≤maxLen:=by
 rcases h.2 with⟨_,e⟩|⟨g,cap,cur,rfl,_,_,h2,h3,_⟩
 ·omega
 ·exact⟨g,cap,rfl,h2,h3⟩
variable{e r:Nat}{v:Value}
theorem zfy.form(h:zfy tag r e sz v N xs W)(hN:0<N):∃g cap,v = .slice (some ⟨g,0,none⟩) N cap∧N≤cap∧cap≤maxLen∧tag g=(3,r):=by
 obtain⟨g,cap,a,e2,e3⟩:=zh5 h.own hN;exact⟨g,cap,a,e2,e3,h.tag g (by rw[a];rfl)⟩
theorem zcE.ctS(h:zcE tag nb n M W)(hi:i<2)(x:Nat)(hg:M.ct = .slice (some ⟨g,0,none⟩) 2 cap):zcE tag nb { n with count:=upd n.count i x } M (W.setCell ⟨g,i,none⟩ (.int .u64 (x:Int))):=by
 have c:tag g=(3,5):=h.ct.tag g (by rw[hg];rfl);have m:Mod (fun q=>q=g) W (W.setCell ⟨g,i,none⟩ (.int .u64 (x:Int))):=(Mod.refl (fun q=>q=g) W).setCell (p:=⟨g,i,none⟩) (.inl rfl) _;exact
  {obj:=h.obj.kept m c (by omega)
   x:=h.x.kept m c (by omega)
   ev:=h.ev.kept m c (by omega)
   gv:=h.gv.kept m c (by omega)
   nx:=h.nx.kept m c (by omega)
   ct:=by
    have a:=h.ct;rw[hg]at a;refine⟨?_,h.ct.tag⟩;rw[hg];have b:=zpK (i:=i) (.int .u64 (x:Int)) a.own;rcases(show i=0∨i=1 by omega)with rfl|rfl
    ·exact b
    ·exact b
   bg:=h.bg.kept m c (by omega)
   er:=fun j d=>(h.er j d).kept m c (by omega)
   en:=fun j d q hq=>(h.en j d q hq).kept m c (by omega)
   gr:=fun j d=>(h.gr j d).kept m c (by omega)
   gl:=h.gl
   gn:=fun j d a b s hb hs=>(h.gn j d a b s hb hs).kept m c (by omega) }
theorem zcE.gramS(h:zcE tag nb n M W)(hi:i<2)(hb:(M.gb i)[j]?=some b)(l:SN)(m:Mod (fun g=>g=b) W W')(obj:W'.heap[b]?=some (.cells (znB l) 51 (0,0))):zcE tag nb { n with g:=upd n.g i ((n.g i).set j l) } M W':=by
 have f:j<(n.g i).length:=by
  have:=(List.getElem?_eq_some_iff.1 hb).1;have:=h.gl i hi;omega
 have e:=(h.gn i hi j b _ hb (List.getElem?_eq_getElem f)).tag;exact
  {obj:=h.obj.kept m e (by omega)
   x:=h.x.kept m e (by omega)
   ev:=h.ev.kept m e (by omega)
   gv:=h.gv.kept m e (by omega)
   nx:=h.nx.kept m e (by omega)
   ct:=h.ct.kept m e (by omega)
   bg:=h.bg.kept m e (by omega)
   er:=fun j f=>(h.er j f).kept m e (by omega)
   en:=fun j f q k=>(h.en j f q k).kept m e (by omega)
   gr:=fun j f=>(h.gr j f).kept m e (by omega)
   gl:=fun q k=>by
    show _=(upd n.g i _ q).length;by_cases x:q=i
    ·subst x;rw[ze,List.length_set];exact h.gl q k
    ·rw[zd _ _ x];exact h.gl q k
   gn:=fun q k a c s hc hs=>by
    have d:(upd n.g i ((n.g i).set j l) q)[a]?=some s:=hs;by_cases x:q=i
    ·subst x;rw[ze]at d;by_cases y:a=j
     ·subst y;rw[hb]at hc;cases hc;rw[List.getElem?_set_self f]at d;cases d;exact⟨obj,e⟩
     ·rw[List.getElem?_set_ne (by omega)]at d;exact(h.gn q k a c s hc d).kept m e (by omega)
    ·rw[zd _ _ x]at d;exact(h.gn q k a c s hc d).kept m e (by omega) }
end
section
variable {tag:Nat→Nat×Nat} {W:World} {nb:Nat} {n:NS} {M:NV}
theorem zcE.endAt(h:zcE tag nb n M W)(hi:i<2)(hk:k<8):∃g cap q cap',W.cell? ⟨nb,1,none⟩=some (.slice (some ⟨g,0,none⟩) 2 cap)∧(2≤cap∧cap≤9223372036854775807)∧W.cell? ⟨g,i,none⟩=some (.slice (some ⟨q,0,none⟩) 8 cap')∧(8≤cap'∧cap'≤9223372036854775807)∧W.cell? ⟨q,k,none⟩=some (.pointer (some ⟨M.eb i k,0,none⟩)):=by
 obtain⟨g,cap,c,e2,e3,_⟩:=h.ev.form (by omega);obtain⟨q,cap',d,f2,f3,_⟩:=(h.er i hi).form (by omega);have c0:W.cell? ⟨nb,1,none⟩=some M.ev:=h.obj.cell (j:=1) rfl;rw[c]at c0;have a:=h.ev.own;rw[c]at a;have c1:W.cell? ⟨g,i,none⟩=some (M.er i):=(zcy a (i:=i) (by
  rcases(show i=0∨i=1 by omega)with rfl|rfl<;>rfl)).1
 rw[d]at c1;have b:=(h.er i hi).own;rw[d]at b;unfold maxLen at e3 f3;exact⟨g,cap,q,cap',c0,⟨e2,by omega⟩,c1,⟨f2,by omega⟩,(zcy b (i:=k) (by simp[hk,zbn])).1⟩
theorem zcE.connIs(h:zcE tag nb n M W)(hi:i<2):∃g cap,W.cell? ⟨nb,0,none⟩=some (.slice (some ⟨g,0,none⟩) 2 cap)∧(2≤cap∧cap≤9223372036854775807)∧W.cell? ⟨g,i,none⟩=some (.pointer (some ⟨M.b i,0,none⟩)):=by
 obtain⟨g,cap,c,e2,e3,_⟩:=h.x.form (by omega);have c0:W.cell? ⟨nb,0,none⟩=some M.x:=h.obj.cell (j:=0) rfl;rw[c]at c0;have a:=h.x.own;rw[c]at a;unfold maxLen at e3;exact⟨g,cap,c0,⟨e2,by omega⟩,(zcy a (i:=i) (by
  rcases(show i=0∨i=1 by omega)with rfl|rfl<;>rfl)).1⟩
structure EnAt(W:World)(eb:Nat)(o:EN):Prop where
 wrote:W.cell? ⟨eb,0,none⟩=some (.string (zq o.wrote))
 fin:W.cell? ⟨eb,1,none⟩=some (.bool o.fin)
 cut:W.cell? ⟨eb,2,none⟩=some (.bool o.cut)
 keep:W.cell? ⟨eb,3,none⟩=some (.int .i64 (o.keep:Int))
 read:W.cell? ⟨eb,4,none⟩=some (.int .i64 (o.read:Int))
 state:W.cell? ⟨eb,5,none⟩=some (.int .i64 (o.state:Int))
 fz:∀j,W.frozen? ⟨eb,j,none⟩=false
theorem zcE.enAt(h:zcE tag nb n M W)(hi:i<2)(hk:k<8):EnAt W (M.eb i k) (n.e i k) :=
 have a:=h.en i hi k hk
 ⟨a.cell (j:=0) rfl,a.cell (j:=1) rfl,a.cell (j:=2) rfl,a.cell (j:=3) rfl,a.cell (j:=4) rfl,a.cell (j:=5) rfl,fun j=>a.fz j⟩
def zb7(w:World)(tag:Nat→Nat×Nat)(nb:Nat)(W:World)(r:Bool×NS)(e:Ending)(W':World):Prop:=e = .returned (.bool r.1)∧zx w tag nb W r.2 W'
theorem Net.endS(h:Net w tag nb n M W)(hi:i<2)(hk:k<8)(a:EN)(m:Mod (fun g=>g=M.eb i k) W W')(obj:W'.heap[M.eb i k]?=some (.cells (zbc a) 89 (0,0))):Net w tag nb (n.setE i k a) M W' :=
 h.own (h.o.endS hi hk a m obj) rfl rfl rfl m (fun g hg=>.inl (by rw[show g=M.eb i k from hg,(h.o.en i hi k hk).tag])) (Ext.same h.env.ok m)
end
theorem zx.then0{n:NS}(h:zx w tag nb W n W')(m:Mod NoB W' W''):zx w tag nb W n W'':=by
 obtain⟨t,M,a,b,c⟩:=h;exact⟨t,M,a.free m (fun _ x=>x.elim),b,c.trans (m.mono (fun _ x=>x.elim))⟩
theorem zbE(a b:Nat):((a:Int)==(b:Int))=(a==b):=by
 by_cases h:a=b
 ·subst h;simp
 ·rw[beq_eq_false_iff_ne.2 h,beq_eq_false_iff_ne.2 (show(a:Int)≠(b:Int)by omega)]
theorem znC(a b:Nat):((a:Int) != (b:Int))=(a != b):=by
 unfold bne;rw[zbE]
theorem zpL:(prog.info? 62).map (fun i=>(i.zero,i.size,i.bytes))=some (some (.agg #[.int .i64 0,.string ⟨#[]⟩]),2,24):=by kernel_rfl
theorem zfj(a b:List (Nat×List UInt8)):zI (a++b)=zI a++zI b:=by simp[zI]
theorem zcz(p:Nat×List UInt8)(l:List (Nat×List UInt8)):zI (p::l)=(.int .i64 (p.1:Int))::(.string (zq p.2))::zI l:=rfl
theorem zer:∀(l:List (Nat×List UInt8)) (j:Nat) (p:Nat×List UInt8),l[j]?=some p→(zI l)[j*2]?=some (.int .i64 (p.1:Int))∧(zI l)[j*2+1]?=some (.string (zq p.2))
 | [],j,p,h=>by simp at h
 | q::l,0,p,h=>by
  simp at h;subst h;exact⟨rfl,rfl⟩
 | q::l,j+1,p,h=>by
  have ih:=zer l j p (by simpa using h);rw[zcz,show(j+1)*2=j*2+2 by omega];simpa using ih
theorem zdQ:∀(l:List (Nat×List UInt8)) (k:Nat),(zI l).take (k*2)=zI (l.take k)
 | [],k=>by simp[zI]
 | p::l,0=>by simp[zI]
 | p::l,k+1=>by
  rw[show(k+1)*2=k*2+1+1 by omega,zcz];simp only[List.take_succ_cons];rw[zdQ l k];rfl
theorem zdR:∀(l:List (Nat×List UInt8)) (k:Nat),(zI l).drop (k*2)=zI (l.drop k)
 | [],k=>by simp[zI]
 | p::l,0=>by simp
 | p::l,k+1=>by
  rw[show(k+1)*2=k*2+1+1 by omega,zcz];simp only[List.drop_succ_cons];exact zdR l k
theorem zh6(l:List (Nat×List UInt8)):∀u∈zI l,u.oneCell'=true:=by
 intro u a;unfold zI at a;rw[List.mem_flatMap]at a;obtain⟨p,_,b⟩:=a;simp at b;rcases b with rfl|rfl<;>rfl
theorem zjv(w:World)(v:Value)(l b:List (Nat×List UInt8))(a:Addr)(c:Nat)(h:w.ownsRow 0 62 2 v l.length (zI l))(hc:∀(j:Nat) u,(zI b)[j]?=some u→w.cell? (a.add j)=some u)(hl:l.length+b.length≤1099511627776):∃v' w',(∀ty,(Builtin.append_ #[46,46] ty #[v,.slice (some a) b.length c]).run prog w = .ok v' w')∧w'.ownsRow 0 62 2 v' (l++b).length (zI (l++b))∧w.grownBy w' v.ownBlock∧zaH w v v':=by
 obtain⟨i,d,hz,e,f⟩:=info_parts zpL;rw[zfj,List.length_append];exact zQ (P:=prog) w 46 62 i _ 2 24 underlying46 d hz e f rfl (by decide) v l.length (zI l) h a b.length c (zI b) (zfd b) hc (zh6 b) (by unfold maxLen;omega) (by omega)
theorem znD{l:List (Nat×List UInt8)}(h:w.ownsRow 0 62 2 (.slice (some ⟨g,0,none⟩) l.length cap) l.length (zI l))(o m:Nat):∀(j:Nat) u,(zI ((l.drop o).take m))[j]?=some u→w.cell? ((⟨g,o*2,none⟩:Addr).add j)=some u:=by
 intro j u a;rcases h.2 with⟨e,_⟩|⟨g',c,cur,e,_,h1,h2,h3,h4,h5⟩
 ·cases e
 ·cases e;rw[zU];refine za h1 ?_;rw[←zdQ,←zdR,←h5]at a;have hj:j<m*2:=by
   have:=(List.getElem?_eq_some_iff.1 a).1;simp at this;omega
  rw[List.getElem?_take_of_lt hj,List.getElem?_drop]at a;have b:o*2+j<l.length*2:=by
   have:=(List.getElem?_eq_some_iff.1 a).1;simp at this;omega
  rw[List.getElem?_take_of_lt b,Array.getElem?_toList]at a;exact a
variable{W1:World}{v:Value}
theorem Net.bagS{n:NS}(h:Net w tag nb n M W){l:List (Nat×List UInt8)}(m:Mod S W W1)(d:∀g,S g→tag g=(3,6)∨W.heap.size≤g)(row:W1.ownsRow 0 62 2 v l.length (zI l))(i:∀g,v.ownBlock=some g→tag g=(3,6)∨(W.heap.size≤g∧g<W1.heap.size)):zx w tag nb W { n with bag:=l } (W1.setCell ⟨nb,8,none⟩ v):=by
 obtain⟨tag',b⟩:=nm ((fun g=>if W.heap.size≤g∧v.ownBlock=some g∧g<W1.heap.size then(3,6)else tag g));have old:∀g,g<W.heap.size→tag' g=tag g:=fun g hg=>by
  rw[←b];exact if_neg (fun x=>by omega)
 have c:∀g,tag g≠(0,0)→tag' g=tag g:=fun g hg=>by
  by_cases q:g<W.heap.size
  ·exact old g q
  ·exact absurd (h.env.ok g (by omega)) hg
 have a:tag nb=(3,0):=h.o.obj.tag;have s1:¬S nb:=fun x=>by
  rcases d nb x with y|y
  ·rw[a]at y;simp at y
  ·have:=h.env.ok nb y;rw[a]at this;simp at this
 have e:v.ownBlock≠some nb:=fun x=>by
  rcases i nb x with y|⟨y,_⟩
  ·rw[a]at y;simp at y
  ·have:=h.env.ok nb y;rw[a]at this;simp at this
 have m1:Mod (fun g=>S g∨g=nb) W (W1.setCell ⟨nb,8,none⟩ v):=(m.mono (fun g hg=>.inl (.inl hg))).setCell (p:=⟨nb,8,none⟩) (.inl (.inr rfl)) v;have m2:Mod (fun g=>g=nb) W1 (W1.setCell ⟨nb,8,none⟩ v):=(Mod.refl (fun g=>g=nb) W1).setCell (p:=⟨nb,8,none⟩) (.inl rfl) v;have f:(W1.setCell ⟨nb,8,none⟩ v).heap.size=W1.heap.size:=by simp[World.setCell]
 have o':zcE tag' nb { n with bag:=l } { M with bg:=v } (W1.setCell ⟨nb,8,none⟩ v):=by
  refine h.o.bagS v l m1 (fun g hg=>?_) c ?_ (m2.owns row (fun g hg x=>e (by rw[hg,show g=nb from x]))) (fun g hg=>?_)
  ·rcases hg with x|x
   ·rcases d g x with y|y
    ·exact .inr (.inl y)
    ·exact .inr (.inr (h.env.ok g y))
   ·rw[x];exact .inl a
  ·rw[zc (m.obj s1 h.o.obj.obj)];rfl
  ·rcases i g hg with y|⟨y,z⟩
   ·rw[c g (by rw[y];simp),y]
   ·rw[←b];exact if_pos ⟨y,hg,z⟩
 refine⟨tag',_,h.own o' rfl rfl rfl m1 (fun g hg=>?_) ⟨old,fun g hg=>?_,fun g hg=>?_⟩,old,m1.mono (fun g hg=>?_)⟩
 ·rcases hg with x|x
  ·rcases d g x with y|y
   ·exact .inl (by rw[y])
   ·exact .inr y
  ·rw[x];exact .inl (by rw[a])
 ·by_cases q:W.heap.size≤g∧v.ownBlock=some g∧g<W1.heap.size
  ·exact .inl (by rw[←b];simp only[if_pos q])
  ·exact .inr (by rw[←b];simp only[if_neg q];exact h.env.ok g hg)
 ·rw[f]at hg;rw[←b];simp only;rw[if_neg (fun x=>by omega)];have:=m.size;exact h.env.ok g (by omega)
 ·rcases hg with x|x
  ·rcases d g x with y|y
   ·exact .inl (by rw[y];simp)
   ·exact .inr y
  ·rw[x];exact .inl (by rw[a];simp)
theorem zcE.gramAt{n:NS}(h:zcE tag nb n M W)(hi:i<2):∃g cap a cap',W.cell? ⟨nb,2,none⟩=some (.slice (some ⟨g,0,none⟩) 2 cap)∧(2≤cap∧cap≤9223372036854775807)∧W.cell? ⟨g,i,none⟩=some (.slice a (n.g i).length cap')∧((n.g i).length≤cap'∧cap'≤9223372036854775807)∧∀(j b:Nat),(M.gb i)[j]?=some b→∃q,a=some ⟨q,0,none⟩∧W.cell? ⟨q,j,none⟩=some (.pointer (some ⟨b,0,none⟩)):=by
 obtain⟨g,cap,c,e2,e3,_⟩:=h.gv.form (by omega);obtain⟨a,cap',d,f2,f3,f4⟩:=zi (h.gr i hi).own;have c0:W.cell? ⟨nb,2,none⟩=some M.gv:=h.obj.cell (j:=2) rfl;rw[c]at c0;have x:=h.gv.own;rw[c]at x;have c1:W.cell? ⟨g,i,none⟩=some (M.gr i):=(zcy x (i:=i) (by
  rcases(show i=0∨i=1 by omega)with rfl|rfl<;>rfl)).1
 have hl:=h.gl i hi;rw[d,hl]at c1;unfold maxLen at e3 f3;refine⟨g,cap,a,cap',c0,⟨e2,by omega⟩,c1,⟨by omega,by omega⟩,fun j b hb=>?_⟩;have hj:=(List.getElem?_eq_some_iff.1 hb).1;obtain⟨q,rfl⟩:=f4 (by omega);have y:=(h.gr i hi).own;rw[d]at y;exact⟨q,rfl,(zcy y (i:=j) (by rw[List.getElem?_map,hb];rfl)).1⟩
structure SnAt(W:World)(b:Nat)(s:SN):Prop where
 id:W.cell? ⟨b,0,none⟩=some (.int .u64 (s.id:Int))
 dl:W.cell? ⟨b,1,none⟩=some (.int .u64 (s.dl:Int))
 data:W.cell? ⟨b,2,none⟩=some (.string (zq s.data))
 came:W.cell? ⟨b,3,none⟩=some (.bool s.came)
 fz:W.frozen? ⟨b,3,none⟩=false
theorem zcE.snAt{n:NS}(h:zcE tag nb n M W){s:SN}(hi:i<2)(hb:(M.gb i)[j]?=some b)(hs:(n.g i)[j]?=some s):SnAt W b s :=
 have a:=h.gn i hi j b s hb hs
 ⟨a.cell (j:=0) rfl,a.cell (j:=1) rfl,a.cell (j:=2) rfl,a.cell (j:=3) rfl,a.fz 3⟩
theorem znE:∀(l:List (Nat×List UInt8)) (j:Nat) (p:Nat×List UInt8),l[j]?=some p→(zac l)[j*2]?=some (.int .u64 (p.1:Int))∧(zac l)[j*2+1]?=some (.string (zq p.2))
 | [],j,p,h=>by simp at h
 | q::l,0,p,h=>by
  simp at h;subst h;exact⟨rfl,rfl⟩
 | q::l,j+1,p,h=>by
  have ih:=znE l j p (by simpa using h);have e:zac (q::l)=(.int .u64 (q.1:Int))::(.string (zq q.2))::zac l:=rfl;rw[e,show(j+1)*2=j*2+2 by omega];simpa using ih
theorem zrr{l:List (Nat×List UInt8)}(h:w.ownsRow 0 154 2 (.slice (some ⟨g,0,none⟩) N cap) N (zac l))(hl:l.length=N){p:Nat×List UInt8}(c:l[j]?=some p):w.cell? ⟨g,j*2,none⟩=some (.int .u64 (p.1:Int))∧w.cell? ⟨g,j*2+1,none⟩=some (.string (zq p.2)):=by
 obtain⟨a,b⟩:=znE l j p c;have hj:=(List.getElem?_eq_some_iff.1 c).1;rcases h.2 with⟨e,_⟩|⟨g',d,cur,e,_,h1,h2,h3,h4,h5⟩
 ·cases e
 ·cases e;rw[←h5,List.getElem?_take_of_lt (by omega),Array.getElem?_toList]at a b;exact⟨za h1 a,za h1 b⟩
theorem zdP.left{l:List (Nat×List UInt8)}{e:Ending}(ht:zR tag W)(hb:tag b=(i,1))(h:zdP tag i b W l c' e W'):∃v,e = .returned v∧W'.ownsRow 0 154 2 v l.length (zac l)∧(∀g,v.ownBlock=some g→tag g=(i,8))∧zbo tag i b W c' W':=by
 obtain⟨v,V',e1,e2,e3,e4,_,m⟩:=h;exact⟨v,e1,e2,e3,tag,V',e4,Ext.same ht m,m.mono (fun g hg=>.inl (by rw[show g=b from hg,hb]))⟩
variable{G:List SN}
theorem zh7{id:Nat}{data:List UInt8}{g:SN}(hg:G[j]?=some g)(r:Bool):zba now id data (G.drop j) r=if g.id=id then((zba now id data (G.drop (j+1)) (g.data==data && !g.came&&decide (now≤g.dl))).1,{ g with came:=true }::(zba now id data (G.drop (j+1)) (g.data==data && !g.came&&decide (now≤g.dl))).2)
   else((zba now id data (G.drop (j+1)) r).1,g::(zba now id data (G.drop (j+1)) r).2):=by
 have a:=(List.getElem?_eq_some_iff.1 hg).1;have e:G.drop j=g::G.drop (j+1):=by
  rw[List.drop_eq_getElem_cons a]
  congr 1
  rw[List.getElem?_eq_getElem a]at hg;exact Option.some.inj hg
 rw[e,zba]
theorem znF{l:List (Nat×List UInt8)}{m:Nat×List UInt8}(a:l[k]?=some m)(G:List SN):zcD now (l.drop k) G=if (zba now m.1 m.2 G false).1 then zcD now (l.drop (k+1)) (zba now m.1 m.2 G false).2 else(false,(zba now m.1 m.2 G false).2):=by
 have hk:=(List.getElem?_eq_some_iff.1 a).1;have e:l.drop k=m::l.drop (k+1):=by
  rw[List.drop_eq_getElem_cons hk]
  congr 1
  rw[List.getElem?_eq_getElem hk]at a;exact Option.some.inj a
 rw[e,zcD]
theorem znG(S:NS)(J:Nat):({ S with g:=upd S.g J (S.g J) }:NS)=S:=by rw[zaB]
theorem Net.gramS{S:NS}{J:Nat}{s:SN}(h:Net w tag nb { S with g:=upd S.g J G } M W)(c:J<2)(hb:(M.gb J)[j]?=some b)(hs:G[j]?=some s):Net w tag nb { S with g:=upd S.g J (G.set j { s with came:=true }) } M (W.setCell ⟨b,3,none⟩ (.bool true))∧tag b=(3,40+2*j+J):=by
 have e:({ S with g:=upd S.g J G }:NS).g J=G:=ze _ _ _;have a:=h.o.gn J c j b s hb (by rw[e];exact hs);have m:Mod (fun g=>g=b) W (W.setCell ⟨b,3,none⟩ (.bool true)):=(Mod.refl (fun g=>g=b) W).setCell (p:=⟨b,3,none⟩) (.inl rfl) _;have o:=h.o.gramS c hb { s with came:=true } m (by rw[zc a.obj];rfl);have e2:({ ({ S with g:=upd S.g J G }:NS)with g:=upd ({ S with g:=upd S.g J G }:NS).g J ((({ S with g:=upd S.g J G }:NS).g J).set j { s with came:=true }) }:NS)={ S with g:=upd S.g J (G.set j { s with came:=true }) }:=by
  rw[e];show({ S with g:=upd (upd S.g J G) J _ }:NS)=_;rw[zdj]
 rw[e2]at o;exact⟨h.own o rfl rfl rfl m (fun g hg=>.inl (by rw[show g=b from hg,a.tag])) (Ext.same h.env.ok m),a.tag⟩
def zrs(tag:Nat→Nat×Nat):Nat→Prop:=fun g=>∃r,40≤r∧tag g=(3,r)
def zdr(w:World)(tag:Nat→Nat×Nat)(nb:Nat)(S:NS)(M:NV)(W1:World)(J:Nat)(G:List SN)(nw:Nat)(m:Nat×List UInt8)(RB:Bool)(RL:List SN)(j:Nat)(r:Bool)(wr:World):Prop :=
 ∃A:List SN,A.length=j∧Net w tag nb { S with g:=upd S.g J (A++G.drop j) } M wr∧Mod (zrs tag) W1 wr∧(zba nw m.1 m.2 (G.drop j) r).1=RB∧A++(zba nw m.1 m.2 (G.drop j) r).2=RL
section
variable {w:World} {tag:Nat→Nat×Nat} {nb:Nat} {S:NS} {M:NV} {W1 wr W':World} {J:Nat} {G:List SN} {nw:Nat} {m:Nat×List UInt8} {RB:Bool} {RL:List SN} {j b:Nat} {r:Bool} {g:SN}
theorem zc2{α : Type}{G:List α}{g : α}(hg:G[j]?=some g):G.drop j=g::G.drop (j+1):=by
 have a:=(List.getElem?_eq_some_iff.1 hg).1;rw[List.drop_eq_getElem_cons a]
 congr 1
 rw[List.getElem?_eq_getElem a]at hg;exact Option.some.inj hg
theorem zdr.hit(h:zdr w tag nb S M W1 J G nw m RB RL j r wr)(hJ:J<2)(hg:G[j]?=some g)(hb:(M.gb J)[j]?=some b)(c:g.id=m.1)(k:Mod NoB (wr.setCell ⟨b,3,none⟩ (.bool true)) W'):zdr w tag nb S M W1 J G nw m RB RL (j+1) (g.data==m.2 && !g.came&&decide (nw≤g.dl)) W':=by
 obtain⟨A,d,hN,hm,h1,h2⟩:=h;have f:(A++G.drop j)[j]?=some g:=by
  rw[List.getElem?_append_right (by omega),d,Nat.sub_self,List.getElem?_drop,Nat.add_zero];exact hg
 obtain⟨a,i⟩:=hN.gramS hJ hb f;have l:=zh7 (now:=nw) (id:=m.1) (data:=m.2) hg r;rw[if_pos c]at l;rw[l]at h1 h2;refine⟨A++[{ g with came:=true }],by rw[List.length_append,d];rfl,?_,(hm.setCell (p:=⟨b,3,none⟩) (.inl ⟨_,by omega,i⟩) _).trans (k.mono (fun _ x=>x.elim)),h1,?_⟩
 ·have e:(A++G.drop j).set j { g with came:=true }=(A++[{ g with came:=true }])++G.drop (j+1):=by
   rw[zc2 hg,List.set_append_right _ _ (by omega),d,Nat.sub_self,List.set_cons_zero,List.append_assoc];rfl
  rw[e]at a;exact a.free k (fun _ x=>x.elim)
 ·rw[List.append_assoc];exact h2
theorem zdr.miss(h:zdr w tag nb S M W1 J G nw m RB RL j r wr)(hg:G[j]?=some g)(a:¬g.id=m.1)(b:Mod NoB wr W'):zdr w tag nb S M W1 J G nw m RB RL (j+1) r W':=by
 obtain⟨A,hA,c,hm,h1,h2⟩:=h;have d:=zh7 (now:=nw) (id:=m.1) (data:=m.2) hg r;rw[if_neg a]at d;rw[d]at h1 h2;refine⟨A++[g],by rw[List.length_append,hA];rfl,?_,hm.trans (b.mono (fun _ x=>x.elim)),h1,by rw[List.append_assoc];exact h2⟩;rw[zc2 hg]at c;rw[List.append_assoc];exact c.free b (fun _ x=>x.elim)
theorem zdr.start(hN:Net w tag nb { S with g:=upd S.g J G } M wr)(hm:Mod (zrs tag) W1 wr)(a:zba nw m.1 m.2 G false=(RB,RL)):zdr w tag nb S M W1 J G nw m RB RL 0 false wr :=
 ⟨[],rfl,by rw[List.drop_zero,List.nil_append];exact hN,hm,by rw[List.drop_zero,a],by rw[List.drop_zero,a];rfl⟩
theorem zdr.done(h:zdr w tag nb S M W1 J G nw m RB RL j r wr)(hj:j=G.length):r=RB∧Net w tag nb { S with g:=upd S.g J RL } M wr∧Mod (zrs tag) W1 wr:=by
 obtain⟨A,hA,a,hm,h1,h2⟩:=h;have e:G.drop j=[]:=by rw[hj];exact List.drop_length
 rw[e]at h1 h2 a;have h2:A=RL:=by
  rw[←h2];exact(List.append_nil A).symm
 subst h2;rw[List.append_nil]at a;exact⟨h1,a,hm⟩
theorem zdr.look(h:zdr w tag nb S M W1 J G nw m RB RL j r wr)(f:J<2)(hn:S.now=nw)(hj:j≤G.length):wr.cell? ⟨nb,4,none⟩=some (.int .u64 (nw:Int))∧∃gg cg ga ca,wr.cell? ⟨nb,2,none⟩=some (.slice (some ⟨gg,0,none⟩) 2 cg)∧(2≤cg∧cg≤9223372036854775807)∧wr.cell? ⟨gg,J,none⟩=some (.slice ga G.length ca)∧(G.length≤ca∧ca≤9223372036854775807)∧Mod (zrs tag) W1 wr ∧
  ∀g,G[j]?=some g→∃q b,ga=some ⟨q,0,none⟩∧(M.gb J)[j]?=some b∧wr.cell? ⟨q,j,none⟩=some (.pointer (some ⟨b,0,none⟩))∧SnAt wr b g:=by
 obtain⟨A,l,d,hm,h1,h2⟩:=h;have a:({ S with g:=upd S.g J (A++G.drop j) }:NS).g J=A++G.drop j:=ze _ _ _;have c:(A++G.drop j).length=G.length:=by rw[List.length_append,l,List.length_drop];omega
 obtain⟨gg,cg,ga,ca,d1,d2,n,p,d7⟩:=d.o.gramAt f;rw[a,c]at n p;refine⟨?_,gg,cg,ga,ca,d1,d2,n,p,hm,fun g hg=>?_⟩
 ·have:=d.o.obj.cell (j:=4) (v:=.int .u64 (S.now:Int)) rfl;rw[hn]at this;exact this
 ·have i:(A++G.drop j)[j]?=some g:=by
   rw[List.getElem?_append_right (by omega),l,Nat.sub_self,List.getElem?_drop,Nat.add_zero];exact hg
  have k:=(List.getElem?_eq_some_iff.1 hg).1;obtain⟨b,hb⟩:∃b,(M.gb J)[j]?=some b:=⟨(M.gb J)[j]'(by rw[d.o.gl J f,a,c];exact k),List.getElem?_eq_getElem _⟩;obtain⟨q,e,d8⟩:=d7 j b hb;exact⟨q,b,e,hb,d8,d.o.snAt f hb (by rw[a];exact i)⟩
end
theorem zfk(w:World)(k:Nat)(p:Addr)(v:Value):Mod NoB (w.setCell p v) ((w.drewN k).setCell p v):=(Mod.refl NoB (w.setCell p v)).drewN k
def za5.cells(s:za5):Array Value:=#[.int .i64 s.kind,.int .i64 s.side,.int .i64 s.a,.int .i64 s.b,.string (zq s.s)]
structure za5.Ok(s:za5):Prop where
 kind : -9223372036854775808≤s.kind∧s.kind≤9223372036854775807
 side : -9223372036854775808≤s.side∧s.side≤9223372036854775807
 a : -9223372036854775808≤s.a∧s.a≤9223372036854775807
 b : -9223372036854775808≤s.b∧s.b≤9223372036854775807
 s:s.s.length≤1099511627776
structure zfl(W:World)(b:Nat)(s:za5):Prop where
 c0:W.cell? ⟨b,0,none⟩=some (.int .i64 s.kind)
 c1:W.cell? ⟨b,1,none⟩=some (.int .i64 s.side)
 c2:W.cell? ⟨b,2,none⟩=some (.int .i64 s.a)
 c3:W.cell? ⟨b,3,none⟩=some (.int .i64 s.b)
 c4:W.cell? ⟨b,4,none⟩=some (.string (zq s.s))
variable{fz:Nat×Nat}{t:Nat}
theorem zfl.of{s:za5}(h:W.heap[b]?=some (.cells s.cells t fz)):zfl W b s :=
 ⟨za h rfl,za h rfl,za h rfl,za h rfl,za h rfl⟩
theorem zfl.mod{s:za5}(h:zfl W b s)(m:Mod S W W')(c:¬S b):zfl W' b s :=
 ⟨m.cell (a:=⟨b,0,none⟩) c h.c0,m.cell (a:=⟨b,1,none⟩) c h.c1,m.cell (a:=⟨b,2,none⟩) c h.c2,m.cell (a:=⟨b,3,none⟩) c h.c3,m.cell (a:=⟨b,4,none⟩) c h.c4⟩
theorem Net.alloc{n:NS}(h:Net w tag nb n M W)(o:Obj):Net w tag nb n M (W.alloc o) :=
 h.free ((Mod.refl NoB W).alloc o) (fun _ x=>x.elim)
theorem zx.from0{n':NS}(m:Mod NoB W W')(h:zx w tag nb W' n' W''):zx w tag nb W n' W'' :=
 zx.trans (fun _ _=>rfl) (m.mono (fun _ x=>x.elim)) h
theorem zga{n:NS}(h:Net w tag nb n M W)(hb:n.bag=[])(s:za5):Calls prog 41 #[.pointer (some ⟨nb,0,none⟩),.agg s.cells] W (zb7 w tag nb W (n.carry s)):=by
 obtain⟨W1,b⟩:=nm (W.alloc (.cells s.cells 37));have h1:Net w tag nb n M W1:=by rw[←b];exact h.alloc _
 have m1:Mod NoB W W1:=by rw[←b];exact(Mod.refl _ _).alloc _
 obtain⟨a,cap,d,q1,q2,_⟩:=zi h1.o.bg.own;have f:W1.cell? ⟨nb,8,none⟩=some M.bg:=h1.o.obj.cell (j:=8) rfl;rw[d,hb]at f;have F:Hid (zx w tag nb W n W1):=zb (zx.from0 m1 h1.left);have e:n.carry s=(true,n):=by unfold NS.carry;rw[if_pos hb]
 rw[e];have c:=zb b;simp only[List.length_nil]at f;clear h hb h1 m1 d b q1 q2 e;unfold za5.cells at c ⊢;go_enter func41,ntmps41;go_upto_region 1 with fail;rw[c.out];go_wp2_with fail;go_ret;exact⟨rfl,F.out⟩
theorem zcU(a b:List UInt8):zq a++zq b=zq (a++b):=by
 apply ByteArray.ext;simp[zq]
theorem zcg{n:NS}(h:Net w tag nb n M W){s:za5}(c:s.Ok):∃W1 sb i k gx cx,W.alloc (.cells s.cells 37)=W1∧W.heap.size=sb∧Net w tag nb n M W1∧Mod NoB W W1∧zfl W1 sb s∧tag sb=(0,0)∧i<2∧k<8∧pickN s.side 2=i∧pickN s.a 8=k ∧
  Calls prog 24 #[.int .i64 s.side,.int .i64 2] W1 (fun e w'=>e = .returned (.int .i64 (i:Int))∧W1=w')∧Calls prog 24 #[.int .i64 s.a,.int .i64 8] W1 (fun e w'=>e = .returned (.int .i64 (k:Int))∧W1=w') ∧
  W1.cell? ⟨nb,0,none⟩=some (.slice (some ⟨gx,0,none⟩) 2 cx)∧(2≤cx∧cx≤9223372036854775807)∧W1.cell? ⟨gx,i,none⟩=some (.pointer (some ⟨M.b i,0,none⟩)):=by
 have h1:=h.alloc (.cells s.cells 37);obtain⟨gx,cx,b1,b2,b4⟩:=h1.o.connIs (i:=pickN s.side 2) (zh2 _);exact⟨_,_,_,_,gx,cx,rfl,rfl,h1,(Mod.refl _ _).alloc _,zfl.of (heap_alloc_new W _),h.env.ok _ (Nat.le_refl _),zh2 _,zae _ _ (by omega),rfl,rfl,zbJ s.side 2 _ c.side.1 c.side.2 (by omega) (by omega),zbJ s.a 8 _ c.a.1 c.a.2 (by omega) (by omega),b1,b2,b4⟩
theorem zgb{n:NS}(h:Net w tag nb n M W)(hI:n.Inv T)(hT:T≤zaV){s:za5}(hs:s.Ok)(hk:s.kind=1):Calls prog 21 #[.pointer (some ⟨nb,0,none⟩),.agg s.cells] W (zb7 w tag nb W (n.send (pickN s.side 2) (pickN s.a 8) s.s)):=by
 obtain⟨W1,sb,i,k,gx,cx,Q,hsb,h1,m1,sA,E,hi,r,U,V,X,Y,b1,⟨b2,b3⟩,b4⟩:=zcg h hs;have H:=hs.s;have Z:∀k,k<8→((n.c i).ws k).b.length≤1099511627776:=fun k hk=>by
  have:=((hI.c _ hi).ws k hk).len;omega
 have aa:=hI.e _ hi _ r;rw[U];rw[V];obtain⟨g,cap,q,al,a1,⟨a2,a3⟩,a4,⟨a5,a6⟩,a7⟩:=h1.o.endAt (i:=i) (k:=k) hi r;obtain⟨c0,c1,c2,c3,c4⟩:=sA;rw[hk]at c0;obtain⟨u,l⟩:=nm s.s;rw[l]at c4 H;have B:=zb Q;have ks:=zmv (h1.cn i hi) (h1.env.to (j:=i+1) (by omega)) (k:Int) u H Z;have ab:=aa.wl;unfold NS.send;rw[l];obtain⟨R,hR⟩:=nm ((n.c i).send k u);rw[hR]at ks ⊢;obtain⟨v,c'⟩:=R;simp only at ks ⊢;obtain⟨o,ho⟩:=nm (n.e i k);rw[ho]at ab ⊢;have HO:=zb ho;obtain⟨RR,I⟩:∃RR:Bool×NS,(if (o.fin||o.cut)=true then(v==4,n.setC i c')else if 2048<o.wrote.length+u.length then(v==3,n.setC i c')else(v==0,(n.setC i c').setE i k { o with wrote:=o.wrote++u }))=RR:=⟨_,rfl⟩;rw[I];have d:=zb I;clear I;have HN:=zb h1;have ac:=zb m1;have q4:((v:Int)==4)=(v==4):=zbE v 4;have q3:((v:Int)==3)=(v==3):=zbE v 3;have q0:((v:Int)==0)=(v==0):=zbE v 0;unfold za5.cells at B ⊢;rw[hk,l]at B ⊢;clear l h hI h1 m1 Z aa Q hs hk U V hR ho hT;go_enter func21,ntmps21;go_upto_region 1 with fail;rw[B.out];go_upto_region 8 with(first|(go_at_call 24;refine X.mono ?_;rintro _ _ ⟨rfl,rfl⟩;clear X)|(go_at_call 24;refine Y.mono ?_;rintro _ _ ⟨rfl,rfl⟩)|(go_at_call 37;refine ks.mono ?_;rintro _ W2 ⟨rfl,hL⟩));obtain⟨tag',V',h2,old,m2⟩:=HN.out.conn hi hL;have P:=h2.o.enAt hi r;have d4:=m2.cell (a:=⟨sb,4,none⟩) (fun x=>by
  have x:(tag sb).1=i+1:=x;rw[E]at x;simp at x) c4
 have C:(n.setC i c').e i k=o:=HO.out;rw[C]at P;obtain⟨P,e1,e2,e3,e4,e5,ez⟩:=P;obtain⟨S,hS⟩:=nm (n.setC i c');rw[hS]at h2 C;have J:∀{n':NS} {W':World},zx w tag' nb W2 n' W'→zx w tag nb W n' W':=fun hh=>zx.from0 ac.out (zx.trans old (m2.mono (fun g hg=>.inl (fun x=>by rw[x]at hg;simp at hg))) hh)
 have y:Hid (∀W',Mod NoB W2 W'→zx w tag nb W (n.setC i c') W'):=zb fun W' m=>by rw[hS];exact J (zx.then0 h2.left m)
 have ad:tag' (M.eb i k)≠(0,0):=fun x=>by
  have a:=(h2.o.en i hi k r).tag;have a:tag' (M.eb i k)=_:=a;rw[x]at a;simp at a
 have z:=(h2.o.en i hi k r).obj;rw[C]at z;have F:Hid (∀(e':EN) W3 W',Mod (fun g=>g=M.eb i k) W2 W3→W3.heap[M.eb i k]?=some (.cells (zbc e') 89 (0,0))→Mod NoB W3 W'→zx w tag nb W ((n.setC i c').setE i k e') W'):=zb fun e' W3 W' m3 ho m'=>by
  rw[hS];have N3:=h2.endS hi r e' m3 ho;exact J (zx.then0 ⟨tag',_,N3,fun _ _=>rfl,m3.mono (fun g hg=>.inl (by rw[show g=M.eb i k from hg];exact ad))⟩ m')
 obtain⟨eb,L⟩:=nm (M.eb i k);dsimp only at P e1 e2 e3 e4 e5 ez z;rw[L]at P e1 e2 e3 e4 e5 ez z F;try rw[L]
 have ah:=zb z;clear old m2 h2 J ad z HN ac hL C hS L;have ai:(zq u).size=u.length:=zF u;have aj:(zq o.wrote).size=o.wrote.length:=zF o.wrote;clear Y ks a1 a2 a3 a4 a5 a6 a7 b1 b2 b3 b4 c0 c1 c2 c3 c4 E B HO;obtain⟨wl,ae⟩:=nm o.wrote.length;obtain⟨sl,af⟩:=nm u.length;rw[ae]at ab aj d;rw[af]at H ai d;obtain⟨fn,N⟩:=nm o.fin;obtain⟨cu,O⟩:=nm o.cut;rw[N]at e1;rw[O]at e2;have t:=zb N;have D:=zb O;clear N O ae af;by_cases G:2048<wl+sl
 ·have db:decide ((2048:Int)-(wl:Int)<(sl:Int))=true:=decide_eq_true (by omega);go_quiet (fail);cases fn
  ·cases cu
   ·have f:=d.out;rw[if_neg (by rw[t.out,D.out];simp),if_pos G]at f;subst f;go_wp2_with fail;go_ret;exact⟨by first|rfl|simp only[q3],y.out _ ((Mod.refl _ _).drewN _)⟩
   ·have f:=d.out;rw[if_pos (by rw[t.out,D.out];rfl)]at f;subst f;go_wp2_with fail;go_ret;exact⟨by first|rfl|simp only[q4],y.out _ ((Mod.refl _ _).drewN _)⟩
  ·have f:=d.out;rw[if_pos (by rw[t.out];rfl)]at f;subst f;go_wp2_with fail;go_ret;exact⟨by first|rfl|simp only[q4],y.out _ ((Mod.refl _ _).drewN _)⟩
 ·have db:decide ((2048:Int)-(wl:Int)<(sl:Int))=false:=decide_eq_false (by omega);go_quiet (fail);cases fn
  ·cases cu
   ·have f:=d.out;rw[if_neg (by rw[t.out,D.out];simp),if_neg G]at f;subst f;go_upto_region 13 with fail;obtain⟨W3,A⟩:=nm (W2.drewN nq);have w0:W3.cell? ⟨eb,0,none⟩=some (.string (zq o.wrote)):=by rw[←A];exact P
    have w4:W3.cell? ⟨sb,4,none⟩=some (.string (zq u)):=by rw[←A];exact d4
    have wz:W3.frozen? ⟨eb,0,none⟩=false:=by rw[←A];exact ez 0
    have happ:=zcU o.wrote u;have hno:¬9223372036854775807<wl+sl:=by omega
    rw[A];refine zm 10 (fun w'=>w'.cell? ⟨eb,0,none⟩=some (.string (zq o.wrote))∧w'.cell? ⟨sb,4,none⟩=some (.string (zq u))) (⟨w0,w4⟩) ?_;refine GI 0 ?_;iterate 10
     refine GS rfl ?_ ?_ ?_;rotate_left
     ·(intro wx ak;obtain⟨f0,f4⟩:=ak;go_simp;try with_reducible rfl)
     try simp only[PS]
    refine zW rfl (fun K hK=>?_);go_simp;refine hK.out _ _ ?_;clear hK K;try simp only[PS]
    refine zo ?_;go_wp2_with fail;go_ret;refine⟨by first|rfl|simp only[q0],F.out _ (W2.setCell ⟨eb,0,none⟩ (.string (zq (o.wrote++u)))) _ ((Mod.refl (fun g=>g=eb) W2).setCell (p:=⟨eb,0,none⟩) (.inl rfl) _) ?_ ?_⟩
    ·rw[zc ah.out];rfl
    ·rw[←A];exact⟨rfl,rfl,rfl,Nat.le_refl _,fun _ _ _=>rfl⟩
   ·have f:=d.out;rw[if_pos (by rw[t.out,D.out];rfl)]at f;subst f;go_wp2_with fail;go_ret;exact⟨by first|rfl|simp only[q4],y.out _ ((Mod.refl _ _).drewN _)⟩
  ·have f:=d.out;rw[if_pos (by rw[t.out];rfl)]at f;subst f;go_wp2_with fail;go_ret;exact⟨by first|rfl|simp only[q4],y.out _ ((Mod.refl _ _).drewN _)⟩
theorem zes{n:NS}(h:Net w tag nb n M W)(hI:n.Inv T)(hT:T≤zaV){s:za5}(Z:s.Ok)(hk:s.kind=2):Calls prog 21 #[.pointer (some ⟨nb,0,none⟩),.agg s.cells] W (zb7 w tag nb W (n.finish (pickN s.side 2) (pickN s.a 8))):=by
 obtain⟨W1,sb,i,k,gx,cx,G,hsb,h1,m1,sA,t,hi,b,H,I,J,K,b1,⟨b2,b3⟩,b4⟩:=zcg h Z;have aa:=Z.s;rw[H];rw[I];obtain⟨g,cap,q,ac,a1,⟨a2,a3⟩,a4,⟨a5,a6⟩,a7⟩:=h1.o.endAt (i:=i) (k:=k) hi b;obtain⟨c0,c1,c2,c3,c4⟩:=sA;rw[hk]at c0;obtain⟨ss,d⟩:=nm s.s;rw[d]at c4 aa;have l:=zb G;have V:=ziP (h1.cn i hi) (h1.env.to (j:=i+1) (by omega)) (k:Int);unfold NS.finish;obtain⟨R,hR⟩:=nm ((n.c i).finish k);rw[hR]at V ⊢;obtain⟨u,c'⟩:=R;simp only at V ⊢;obtain⟨o,L⟩:=nm (n.e i k);rw[L];have HO:=zb L;obtain⟨RR,z⟩:∃RR:Bool×NS,(if (o.fin||o.cut)=true then(u==4,n.setC i c')else(u==0,(n.setC i c').setE i k { o with fin:=true }))=RR:=⟨_,rfl⟩;rw[z];have A:=zb z;clear z;have HN:=zb h1;have N:=zb m1;have q4:((u:Int)==4)=(u==4):=zbE u 4;have q0:((u:Int)==0)=(u==0):=zbE u 0;unfold za5.cells at l ⊢;rw[hk,d]at l ⊢;clear d h hI h1 m1 G Z hk H I hR L hT;go_enter func21,ntmps21;go_upto_region 1 with fail;rw[l.out];go_upto_region 18 with(first|(go_at_call 24;refine J.mono ?_;rintro _ _ ⟨rfl,rfl⟩;clear J)|(go_at_call 24;refine K.mono ?_;rintro _ _ ⟨rfl,rfl⟩)|(go_at_call 38;refine V.mono ?_;rintro _ W2 ⟨rfl,hL⟩));obtain⟨tag',V',h2,old,m2⟩:=HN.out.conn hi hL;have O:=h2.o.enAt hi b;have d4:=m2.cell (a:=⟨sb,4,none⟩) (fun x=>by
  have x:(tag sb).1=i+1:=x;rw[t]at x;simp at x) c4
 have r:(n.setC i c').e i k=o:=HO.out;rw[r]at O;obtain⟨O,e1,e2,e3,e4,e5,ez⟩:=O;obtain⟨S,X⟩:=nm (n.setC i c');rw[X]at h2 r;have B:∀{n':NS} {W':World},zx w tag' nb W2 n' W'→zx w tag nb W n' W':=fun hh=>zx.from0 N.out (zx.trans old (m2.mono (fun g hg=>.inl (fun x=>by rw[x]at hg;simp at hg))) hh)
 have P:Hid (∀W',Mod NoB W2 W'→zx w tag nb W (n.setC i c') W'):=zb fun W' m=>by rw[X];exact B (zx.then0 h2.left m)
 have Q:tag' (M.eb i k)≠(0,0):=fun x=>by
  have a:=(h2.o.en i hi k b).tag;have a:tag' (M.eb i k)=_:=a;rw[x]at a;simp at a
 have f:=(h2.o.en i hi k b).obj;rw[r]at f;have v:Hid (∀(Y:EN) W3 W',Mod (fun g=>g=M.eb i k) W2 W3→W3.heap[M.eb i k]?=some (.cells (zbc Y) 89 (0,0))→Mod NoB W3 W'→zx w tag nb W ((n.setC i c').setE i k Y) W'):=zb fun Y W3 W' m3 L m'=>by
  rw[X];have N3:=h2.endS hi b Y m3 L;exact B (zx.then0 ⟨tag',_,N3,fun _ _=>rfl,m3.mono (fun g hg=>.inl (by rw[show g=M.eb i k from hg];exact Q))⟩ m')
 obtain⟨eb,C⟩:=nm (M.eb i k);dsimp only at O e1 e2 e3 e4 e5 ez f;rw[C]at O e1 e2 e3 e4 e5 ez f v;try rw[C]
 have ab:=zb f;clear old m2 h2 B Q f HN N hL r X C;clear K V a1 a2 a3 a4 a5 a6 a7 b1 b2 b3 b4 c0 c1 c2 c3 c4 t l HO;obtain⟨fn,D⟩:=nm o.fin;obtain⟨cu,E⟩:=nm o.cut;rw[D]at e1;rw[E]at e2;have F:=zb D;have U:=zb E;clear D E;have ez1:=ez 1;cases fn
 ·cases cu
  ·have y:=A.out;rw[if_neg (by rw[F.out,U.out];simp)]at y;subst y;go_wp2_with fail;go_ret;refine⟨by first|rfl|simp only[q0],v.out _ (W2.setCell ⟨eb,1,none⟩ (.bool true)) _ ((Mod.refl (fun g=>g=eb) W2).setCell (p:=⟨eb,1,none⟩) (.inl rfl) _) ?_ (Mod.refl _ _)⟩;rw[zc ab.out];rfl
  ·have y:=A.out;rw[if_pos (by rw[F.out,U.out];rfl)]at y;subst y;go_wp2_with fail;go_ret;exact⟨by first|rfl|simp only[q4],P.out _ (Mod.refl _ _)⟩
 ·have y:=A.out;rw[if_pos (by rw[F.out];rfl)]at y;subst y;go_wp2_with fail;go_ret;exact⟨by first|rfl|simp only[q4],P.out _ (Mod.refl _ _)⟩
theorem Net.nowS{n:NS}(h:Net w tag nb n M W)(x:Nat):Net w tag nb { n with now:=x } M (W.setCell ⟨nb,4,none⟩ (.int .u64 (x:Int))):=by
 have m:Mod (fun g=>g=nb) W (W.setCell ⟨nb,4,none⟩ (.int .u64 (x:Int))):=(Mod.refl (fun g=>g=nb) W).setCell (p:=⟨nb,4,none⟩) (.inl rfl) _;exact h.own (h.o.head (n':={ n with now:=x }) ⟨rfl,rfl,rfl,rfl⟩ rfl rfl ⟨rfl,rfl⟩ m (by rw[zc h.o.obj.obj];rfl)) rfl rfl rfl m (fun g hg=>.inl (by rw[show g=nb from hg,h.o.obj.tag])) (Ext.same h.env.ok m)
theorem znH(hI:c.Inv T)(hT:T≤zaV)(h:zg tag i b c V W)(E:Env i tag W):Calls prog 26 #[.pointer (some ⟨b,0,none⟩)] W (zbC tag i b W (.tuple #[]) c.tick) :=
 zpz h E.ok E.pos (by have:=hI.now;unfold zaV at hT;unfold zD;omega) (by have:=hI.waits.2;omega) (by have:=hI.fl;omega) hI.ticked.loseOk
theorem zgc{n:NS}(h:Net w tag nb n M W)(hI:n.Inv T)(S:T≤zaV){s:za5}(U:s.Ok)(hk:s.kind=5)(X:∀tag' M' W',Net w tag' nb n.tick M' W'→Calls prog 41 #[.pointer (some ⟨nb,0,none⟩),.agg s.cells] W' (zb7 w tag' nb W' (n.tick.carry s))):Calls prog 21 #[.pointer (some ⟨nb,0,none⟩),.agg s.cells] W (zb7 w tag nb W (n.tick.carry s)):=by
 obtain⟨W1,A,i,k,gx,cx,E,hsb,h1,m1,sA,y,hi,hk8,Y,Z,F,G,H,⟨I,J⟩,K⟩:=zcg h U;have aa:=U.s;obtain⟨c0,c1,c2,c3,c4⟩:=sA;rw[hk]at c0;obtain⟨ss,f⟩:=nm s.s;rw[f]at c4 aa;have t:=zb E;have L:=hI.c 0 (by omega);have N:=hI.c 1 (by omega);have ab:=hI.now;obtain⟨nw,d⟩:=nm n.now;have p4:W1.cell? ⟨nb,4,none⟩=some (.int .u64 (nw:Int)):=by rw[←d];exact h1.o.obj.cell (j:=4) rfl
 have f4:=h1.o.obj.fz 4;rw[d]at ab;have hTb:T≤268435455:=S;have HN:=zb h1;have ac:=zb m1;have HT:=zb S;obtain⟨RR,O⟩:=nm (n.tick.carry s);rw[O]at X ⊢;have B:=zb y;have u:=zb X;have ad:=zb d;have ae:=zb L;have af:=zb N;unfold za5.cells at t u ⊢;rw[hk,f]at t u ⊢;clear f h hI h1 m1 E U hk Y Z S O y X d L N;go_enter func21,ntmps21;go_upto_region 1 with fail;rw[t.out];go_upto_region 34 with(first|(go_at_call 24;refine F.mono ?_;rintro _ _ ⟨rfl,rfl⟩;clear F)|(go_at_call 24;refine G.mono ?_;rintro _ _ ⟨rfl,rfl⟩));obtain⟨W2,v⟩:=nm (W1.setCell ⟨nb,4,none⟩ (.int .u64 ((nw:Int)+1)));have P:Net w tag nb { n with now:=nw+1 } M W2:=by
  rw[←v];exact HN.out.nowS (nw+1)
 have m2:Mod (fun g=>g=nb) W1 W2:=by
  rw[←v];exact(Mod.refl (fun g=>g=nb) W1).setCell (p:=⟨nb,4,none⟩) (.inl rfl) _
 have l:tag nb=(3,0):=HN.out.o.obj.tag;have C:zfl W2 A ⟨5,s.side,s.a,s.b,ss⟩:=zfl.mod ⟨c0,c1,c2,c3,c4⟩ m2 (fun x=>by
  have x:A=nb:=x;rw[←x,B.out]at l;simp at l)
 try rw[v]
 clear v H I J K;obtain⟨gx,cx,H,⟨I,J⟩,K⟩:=P.o.connIs (i:=0) (by omega);have Q:=znH ae.out HT.out (P.cn 0 (by omega)) (P.env.to (j:=0+1) (by omega));go_upto_region 35 with(go_at_call 26;refine Q.mono ?_;rintro _ W3 ⟨rfl,D⟩);obtain⟨m,V3,R,q,m3⟩:=P.conn (by omega) D;clear H I J K Q D;obtain⟨gx3,cx3,H,⟨I,J⟩,K⟩:=R.o.connIs (i:=1) (by omega);have al:({ n with now:=nw+1 }:NS).c 1=n.c 1:=rfl;have Q:Calls prog 26 #[.pointer (some ⟨M.b 1,0,none⟩)] W3 (zbC m (1+1) (M.b 1) W3 (.tuple #[]) (n.c 1).tick):=znH af.out HT.out (R.cn 1 (by omega)) (R.env.to (j:=1+1) (by omega));go_upto_region 41 with(go_at_call 26;refine Q.mono ?_;rintro _ W4 ⟨rfl,D⟩);obtain⟨r,V4,N4,z,m4⟩:=R.conn (by omega) D;have e:(({ n with now:=nw+1 }:NS).setC 0 (n.c 0).tick).setC 1 (n.c 1).tick=n.tick:=by
  unfold NS.tick;rw[ad.out];rfl
 have N5:Net w r nb ((({ n with now:=nw+1 }:NS).setC 0 (n.c 0).tick).setC 1 (n.c 1).tick) { ({ M with V:=V3 }:NV)with V:=V4 } W4:=N4;rw[e]at N5;have ah:A<W2.heap.size:=zk C.c0;have ai:m A=(0,0):=by rw[q A ah,B.out]
 have aj:=(C.mod m3 (fun x=>by
  have x:(tag A).1=0+1:=x;rw[B.out]at x;simp at x)).mod m4 (fun x=>by
  have x:(m A).1=1+1:=x;rw[ai]at x;simp at x)
 have ak:Hid (∀{n':NS} {W':World},zx w r nb W4 n' W'→zx w tag nb W n' W'):=zb fun hh=>by
  refine zx.from0 ac.out (zx.trans (fun _ _=>rfl) (m2.mono (fun g hg=>.inl (by rw[show g=nb from hg,l];simp))) ?_);refine zx.trans q (m3.mono (fun g hg=>.inl (fun x=>by rw[x]at hg;simp at hg))) ?_;exact zx.trans z (m4.mono (fun g hg=>.inl (fun x=>by rw[x]at hg;simp at hg))) hh
 have kc:=u.out r _ W4 N5;obtain⟨y0,y1,y2,y3,y4⟩:=aj;clear P R N4 N5 e m2 m3 m4 q z H I J K Q D C u HN c0 c1 c2 c3 c4 p4 f4 G t;go_wp2_with (go_at_call 41;refine kc.mono ?_;rintro _ W5 ⟨rfl,D⟩);go_ret;exact⟨rfl,ak.out D⟩
theorem zh8{n:NS}(h:Net w tag nb n M W)(hI:n.Inv T)(hT:T≤zaV){most:Nat}(hi:i<2)(hk:k<8)(hm:most≤4096):Calls prog 35 #[.pointer (some ⟨nb,0,none⟩),.int .i64 (i:Int),.int .i64 (k:Int),.int .i64 (most:Int)] W (zb7 w tag nb W (n.read i k most)):=by
 obtain⟨j,hj⟩:=nm (1-i);have B:j<2:=by omega
 have x1:IntKind.i64.wrap (1-(i:Int))=(j:Int):=by rw[IntKind.wrap_i64];omega
 have x2:(1:Int)-(i:Int)=(j:Int):=by omega
 obtain⟨g,cap,q,ar,a1,⟨a2,a3⟩,a4,⟨a5,a6⟩,a7⟩:=h.o.endAt (i:=j) (k:=k) B hk;obtain⟨gx,cx,b1,⟨b2,b3⟩,b4⟩:=h.o.connIs (i:=i) hi;have aa:((n.c i).read k most).1.1.length≤2199023255552:=by
  have r:=(hI.c i hi).readOk hT;unfold CS.read;split
  ·simp
  ·split
   ·simp
   ·rename_i hs _;obtain⟨k0,k8,_⟩:=zcN (show(n.c i).stream k=0 by omega);have:=(r k hk).len;simp only[Int.toNat_natCast,List.length_take,List.length_drop];omega
 have kc:=znu (h.cn i hi) (h.env.to (j:=i+1) (by omega)) (k:Int) (most:Int) (by omega) ((hI.c i hi).readOk hT) (by
  have r:=(hI.c i hi).readOk hT;unfold CS.read;split
  ·simp
  ·split
   ·simp
   ·rename_i hs _;have:=(r k hk).len;simp only[Int.toNat_natCast,List.length_take,List.length_drop];omega)
 have eo:=hI.e j B k hk;have af:=eo.wl;have ah:=eo.rd;have ai:=eo.keep;clear eo;unfold NS.read;rw[hj];obtain⟨R,hR⟩:=nm ((n.c i).read k most);rw[hR]at kc aa ⊢;obtain⟨⟨s,st,er⟩,c'⟩:=R;simp only at kc aa ⊢;obtain⟨o,ho⟩:=nm (n.e j k);rw[ho]at af ah ai ⊢;have HO:=zb ho;obtain⟨RR,I⟩:∃RR:Bool×NS,(if o.wrong most (s,st,er)=true then(false,n.setC i c')else((o.more (s,st,er)).fits,(n.setC i c').setE j k (o.more (s,st,er))))=RR:=⟨_,rfl⟩;rw[I];have G:=zb I;clear I;have HN:=zb h;clear h hI hR ho;go_enter func35,ntmps35;go_upto_region 3 with(go_at_call 29;refine kc.mono ?_;rintro _ W1 ⟨rfl,hL⟩;obtain⟨tag',V',h1,old,m1⟩:=HN.out.conn hi hL);have e0:=h1.o.enAt B hk;have J:(n.setC i c').e j k=o:=HO.out;rw[J]at e0;obtain⟨c0,c1,c2,c3,c4,c5,cz⟩:=e0;have H1:=zb h1;have K:=zb J;have y:=zb old;have HM:=zb m1;clear h1 old m1 hL kc HN HO a1 a4 a7 b1 b4 a2 a3 a5 a6 b2 b3 J;obtain⟨eb,L⟩:=nm (M.eb j k);dsimp only at c0 c1 c2 c3 c4 c5 cz ⊢;rw[L]at c0 c1 c2 c3 c4 c5 cz ⊢;have ab:=zb L;clear L;have D:Hid (∀W',Mod NoB W1 W'→zx w tag nb W (n.setC i c') W'):=zb fun W' m=>zx.trans y.out (HM.out.mono (fun g hg=>.inl (fun x=>by rw[x]at hg;simp at hg))) (zx.then0 H1.out.left m)
 obtain⟨S,hS⟩:=nm (n.setC i c');rw[hS]at H1 D K;have N:Hid ((if o.wrong most (s,st,er)=true then(false,S)else((o.more (s,st,er)).fits,S.setE j k (o.more (s,st,er))))=RR):=by
  show _=_;rw[←G.out,hS]
 clear hS G;have hsz:(zq s).size=s.length:=zF s;have hwz:(zq o.wrote).size=o.wrote.length:=zF o.wrote
 go_cut [10,99] (fun sv bv wx=>sv = .string (zq s)∧bv = .bool (o.wrong most (s,st,er))∧Hid (Mod NoB W1 wx))
 case first =>
  refine wp_region_quiet_lit (by kernel_rfl) (by kernel_rfl) ?_;repeat (go_big_quiet_step (fail))
  by_cases p1:er=0;rotate_left
  ·have d1:((er:Int) != 0)=true:=bne_iff_ne.2 (by omega);have t:o.wrong most (s,st,er)=true:=by unfold EN.wrong;simp[p1]
   simp only[d1];repeat (go_big_quiet_step (fail))
   refine wpQuiet_nil ?_;intro _ f;obtain⟨Z,a⟩:=f;subst a;go_wp2_with fail;go_meet;exact⟨rfl,by rw[t],zb ((Mod.refl NoB W1).drewN _)⟩
  have d1:((er:Int) != 0)=false:=by simp[p1]
  simp only[d1];repeat (go_big_quiet_step (fail))
  by_cases p2:most<s.length
  ·have d2:decide (most<s.length)=true:=decide_eq_true (by omega);have t:o.wrong most (s,st,er)=true:=by unfold EN.wrong;simp[p2]
   simp only[d2];repeat (go_big_quiet_step (fail))
   refine wpQuiet_nil ?_;intro _ f;obtain⟨Z,a⟩:=f;subst a;go_wp2_with fail;go_meet;exact⟨rfl,by rw[t],zb ((Mod.refl NoB W1).drewN _)⟩
  have d2:decide (most<s.length)=false:=decide_eq_false (by omega);simp only[d2];repeat (go_big_quiet_step (fail))
  by_cases p3:o.wrote.length<o.read+s.length
  ·have d3:decide ((o.wrote.length:Int)-(o.read:Int)<(s.length:Int))=true:=decide_eq_true (by omega);have t:o.wrong most (s,st,er)=true:=by unfold EN.wrong;simp[p3]
   simp only[d3];repeat (go_big_quiet_step (fail))
   refine wpQuiet_nil ?_;intro _ f;obtain⟨Z,a⟩:=f;subst a;go_wp2_with fail;go_meet;exact⟨rfl,by rw[t],zb ((Mod.refl NoB W1).drewN _)⟩
  have d3:decide ((o.wrote.length:Int)-(o.read:Int)<(s.length:Int))=false:=decide_eq_false (by omega);simp only[d3];have l1:(o.read:Int)+(s.length:Int)≤(o.wrote.length:Int):=by omega
  have l2:o.read+s.length≤o.wrote.length:=by omega
  repeat (go_big_quiet_step (fail))
  have e4:((zq o.wrote).extract o.read (o.read+s.length)).toList=(o.wrote.drop o.read).take s.length:=by
   rw[ByteArray.toList_eq,zbK,zaL,Nat.add_sub_cancel_left]
  have e5:(zq s).toList=s:=by rw[ByteArray.toList_eq,zaL]
  by_cases p4:(o.wrote.drop o.read).take s.length=s;rotate_left
  ·have d4:(!((zq o.wrote).extract o.read (o.read+s.length)).toList==(zq s).toList)=true:=by
    rw[e4,e5];simp[p4]
   have t:o.wrong most (s,st,er)=true:=by unfold EN.wrong;simp[p4]
   simp only[d4];repeat (go_big_quiet_step (fail))
   refine wpQuiet_nil ?_;intro _ f;obtain⟨Z,a⟩:=f;subst a;go_wp2_with fail;go_meet;exact⟨rfl,by rw[t],zb ((Mod.refl NoB W1).drewN _)⟩
  have d4:(!((zq o.wrote).extract o.read (o.read+s.length)).toList==(zq s).toList)=false:=by
   rw[e4,e5];simp[p4]
  simp only[d4];repeat (go_big_quiet_step (fail))
  by_cases p5:o.state=0
  ·have d5:((o.state:Int) != 0)=false:=by simp[p5]
   have t:o.wrong most (s,st,er)=false:=by unfold EN.wrong;simp[p1,p4,p5];omega
   simp only[d5];repeat (go_big_quiet_step (fail))
   refine wpQuiet_nil ?_;intro _ f;obtain⟨Z,a⟩:=f;subst a;go_wp2_with fail;go_meet;exact⟨rfl,by rw[t],zb ((Mod.refl NoB W1).drewN _)⟩
  have d5:((o.state:Int) != 0)=true:=bne_iff_ne.2 (by omega);simp only[d5];repeat (go_big_quiet_step (fail))
  by_cases p6:s=[];rotate_left
  ·have d6:(!s.isEmpty)=true:=by simp[p6]
   have t:o.wrong most (s,st,er)=true:=by unfold EN.wrong;simp[p5,p6]
   simp only[d6];repeat (go_big_quiet_step (fail))
   refine wpQuiet_nil ?_;intro _ f;obtain⟨Z,a⟩:=f;subst a;go_wp2_with fail;go_meet;exact⟨rfl,by rw[t],zb ((Mod.refl NoB W1).drewN _)⟩
  have d6:(!s.isEmpty)=false:=by simp[p6]
  simp only[d6];have t:o.wrong most (s,st,er)=((st:Int) != (o.state:Int)):=by
   have w1:(er != 0)=false:=by simp[p1]
   have w2:decide (most<s.length)=false:=decide_eq_false p2;have w3:decide (o.wrote.length<o.read+s.length)=false:=decide_eq_false p3;have w4:((o.wrote.drop o.read).take s.length != s)=false:=by simp[p4]
   have w5:(o.state != 0)=true:=bne_iff_ne.2 p5;have w6:(s != [])=false:=by simp[p6]
   unfold EN.wrong;have e7:((st:Int) != (o.state:Int))=(st != o.state):=by
    by_cases x:st=o.state
    ·simp[x]
    ·have:(st:Int)≠(o.state:Int):=by omega
     rw[bne_iff_ne.2 this,bne_iff_ne.2 x]
   rw[e7];simp only[w1,w2,w3,w4,w5,w6,Bool.false_or,Bool.true_and]
  repeat (go_big_quiet_step (fail))
  refine wpQuiet_nil ?_;intro _ f;obtain⟨Z,a⟩:=f;subst a;go_wp2_with fail;go_meet;exact⟨rfl,by rw[t],zb ((Mod.refl NoB W1).drewN _)⟩
 case rest =>
 obtain⟨rfl,rfl,hM⟩:=hcut;obtain⟨W2,aj⟩:=nn wc;subst aj;by_cases t:o.wrong most (s,st,er)=true
 ·have F:=zb (D.out _ hM.out);have hr:RR=(false,S):=N.out.symm.trans (if_pos t);subst hr;rw[t];clear D H1 y HM c0 c1 c2 c3 c4 c5 cz;go_wp2_with fail;go_ret;exact⟨rfl,F.out⟩
 have hr:RR=((o.more (s,st,er)).fits,S.setE j k (o.more (s,st,er))):=N.out.symm.trans (if_neg t);subst hr;have t:o.wrong most (s,st,er)=false:=by simpa using t
 rw[t];have hle:o.read+s.length≤o.wrote.length:=by
  unfold EN.wrong at t;simp only[Bool.or_eq_false_iff,decide_eq_false_iff_not]at t;omega
 have E:=hM.out;have ak:W2.cell? ⟨eb,0,none⟩=some (.string (zq o.wrote)):=E.cell (fun x=>x) c0;have al:W2.cell? ⟨eb,1,none⟩=some (.bool o.fin):=E.cell (fun x=>x) c1;have am:W2.cell? ⟨eb,2,none⟩=some (.bool o.cut):=E.cell (fun x=>x) c2;have an:W2.cell? ⟨eb,3,none⟩=some (.int .i64 (o.keep:Int)):=E.cell (fun x=>x) c3;have ao:W2.cell? ⟨eb,4,none⟩=some (.int .i64 (o.read:Int)):=E.cell (fun x=>x) c4;have ap:W2.cell? ⟨eb,5,none⟩=some (.int .i64 (o.state:Int)):=E.cell (fun x=>x) c5;have N2:Net w tag' nb S { M with V:=V' } W2:=H1.out.free E (fun _ x=>x.elim);have C:=(N2.o.en j B k hk).obj;have ac:S.e j k=o:=K.out;rw[ac]at C;have u:({ M with V:=V' }:NV).eb j k=eb:=ab.out;rw[u]at C;have aq:∀p,W2.frozen? ⟨eb,p,none⟩=false:=fun p=>zf C
 obtain⟨l,O⟩:=nm (o.read+s.length);have A:Hid (∀W',Mod NoB ((W2.setCell ⟨eb,4,none⟩ (.int .i64 (l:Int))).setCell ⟨eb,5,none⟩ (.int .i64 (st:Int))) W'→zx w tag nb W (S.setE j k (o.more (s,st,er))) W'):=by
  refine zb fun W' m'=>?_
  have m3:Mod (fun g=>g=eb) W2 ((W2.setCell ⟨eb,4,none⟩ (.int .i64 (l:Int))).setCell ⟨eb,5,none⟩ (.int .i64 (st:Int))):=((Mod.refl (fun g=>g=eb) W2).setCell (p:=⟨eb,4,none⟩) (.inl rfl) _).setCell (p:=⟨eb,5,none⟩) (.inl rfl) _;have d:=zc (i:=5) (v:=.int .i64 (st:Int)) (zc (i:=4) (v:=.int .i64 (l:Int)) C);rw[←u]at d m3;have e3:((zbc o).setIfInBounds 4 (.int .i64 (l:Int))).setIfInBounds 5 (.int .i64 (st:Int))=zbc (o.more (s,st,er)):=by
   rw[←O];rfl
  rw[e3]at d;have N3:=N2.endS B hk (o.more (s,st,er)) m3 d;have tg:∀g,g=({ M with V:=V' }:NV).eb j k→tag' g≠(0,0):=fun g hg x=>by
   have:=(N2.o.en j B k hk).tag;rw[←hg,x]at this;simp at this
  rw[u]at N3 m3;exact zx.trans y.out ((HM.out.mono (fun g hg=>.inl (fun x=>by rw[x]at hg;simp at hg))).trans (E.mono (fun _ x=>x.elim))) (zx.then0 ⟨tag',_,N3,fun _ _=>rfl,m3.mono (fun g hg=>.inl (tg g (hg.trans u.symm)))⟩ m')
 have P:Hid ((o.more (s,st,er)).fits=if st=0 then true else if st=1 then o.fin&&l==o.wrote.length else if st=2 then o.cut&&decide (o.keep≤l)else false):=by
  rw[←O];rfl
 have ad:(o.read:Int)+(s.length:Int)=(l:Int):=by omega
 obtain⟨W3,Q⟩:=nm ((W2.setCell ⟨eb,4,none⟩ (.int .i64 (l:Int))).setCell ⟨eb,5,none⟩ (.int .i64 (st:Int)));have d:=zc (i:=5) (v:=.int .i64 (st:Int)) (zc (i:=4) (v:=.int .i64 (l:Int)) C);rw[Q]at d A;have k0:W3.cell? ⟨eb,0,none⟩=some (.string (zq o.wrote)):=za d rfl;have k1:W3.cell? ⟨eb,1,none⟩=some (.bool o.fin):=za d rfl;have k2:W3.cell? ⟨eb,2,none⟩=some (.bool o.cut):=za d rfl;have k3:W3.cell? ⟨eb,3,none⟩=some (.int .i64 (o.keep:Int)):=za d rfl;have k4:W3.cell? ⟨eb,4,none⟩=some (.int .i64 (l:Int)):=za d rfl;have ae:=zb Q;clear D hM E d Q H1 y HM C N2 ac c0 c1 c2 c3 c4 c5 cz N O u ab K;go_upto_region 7 with fail;rw[ae.out];clear ae ak al am an ao ap aq ad;obtain⟨NR,U⟩:=nm (S.setE j k (o.more (s,st,er)));rw[U]at A;have FR:Hid (∀b W',b=(o.more (s,st,er)).fits→Mod NoB W3 W'→zb7 w tag nb W ((o.more (s,st,er)).fits,S.setE j k (o.more (s,st,er))) (.returned (.bool b)) W'):=zb fun b W' hb m=>⟨by rw[hb],by rw[U];exact A.out W' m⟩
 clear A U;by_cases H:st=0
 ·have z:(o.more (s,st,er)).fits=true:=P.out.trans (if_pos H);subst H;go_wp2_with fail;go_ret;exact FR.out _ _ z.symm (Mod.refl _ _)
 have b0:((st:Int)==0)=false:=beq_eq_false_iff_ne.2 (by omega);by_cases t1:st=1
 ·have z:(o.more (s,st,er)).fits=(o.fin&&l==o.wrote.length):=P.out.trans ((if_neg H).trans (if_pos t1));subst t1;have X:=zb z;clear z P H b0;go_upto_region 11 with fail;obtain⟨fn,Y⟩:=nm o.fin;rw[Y]at k1 X;cases fn
  ·go_quiet (fail);go_wp2_with fail;go_ret;exact FR.out _ _ (by rw[X.out];rfl) ((Mod.refl _ _).drewN _)
  ·go_quiet (fail);go_wp2_with fail;go_ret;exact FR.out _ _ (by rw[X.out,zbE];rfl) ((Mod.refl _ _).drewN _)
 have b1:((st:Int)==1)=false:=beq_eq_false_iff_ne.2 (by omega);by_cases t2:st=2
 ·have z:(o.more (s,st,er)).fits=(o.cut&&decide (o.keep≤l)):=P.out.trans ((if_neg H).trans ((if_neg t1).trans (if_pos t2)));subst t2;have X:=zb z;clear z P H b0 t1 b1;go_upto_region 13 with fail;obtain⟨fn,Y⟩:=nm o.cut;rw[Y]at k2 X;cases fn
  ·go_quiet (fail);go_wp2_with fail;go_ret;exact FR.out _ _ (by rw[X.out];rfl) ((Mod.refl _ _).drewN _)
  ·go_quiet (fail);go_wp2_with fail;go_ret;exact FR.out _ _ (by rw[X.out];simp) ((Mod.refl _ _).drewN _)
 have b2:((st:Int)==2)=false:=beq_eq_false_iff_ne.2 (by omega);have z:(o.more (s,st,er)).fits=false:=P.out.trans ((if_neg H).trans ((if_neg t1).trans (if_neg t2)));clear P H t1 t2;go_wp2_with fail;go_ret;exact FR.out _ _ z.symm (Mod.refl _ _)
end Go.Proofs.YtddfdpbaiedcjaaGreatDoor
