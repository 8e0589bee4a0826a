/- A part of Once's proof. Conditions: none. Part 11 of 15. -/
import Derived.Test.YtddfdpbaiedcjaaGreatDoorOnc10
set_option maxRecDepth 100000
set_option maxHeartbeats 16000000
set_option linter.all false
namespace Go.Proofs.YtddfdpbaiedcjaaGreatDoor
section
open Go.RowKit Go.Proofs.Tryz
structure NG(J:List Db->World->Prop)(N g o cap:Nat):Prop where
 obj:∀R w,0<N->J R w->∃cur,w.heap[g]?=some (.cells cur 65 (0,0))
 st:∀R w (i:Nat) (f:Db),J R w->i<N->f∈R->J (R.set i f) ((((((((((w.setCell ⟨g,o+i*10,none⟩ (.int .i64 f.kind)).setCell ⟨g,o+i*10+1,none⟩ (.int .i64 f.stream)).setCell ⟨g,o+i*10+2,none⟩ (.int .u64 f.off)).setCell ⟨g,o+i*10+3,none⟩ (.int .u64 f.rel)).setCell ⟨g,o+i*10+4,none⟩ (.int .u64 f.lim)).setCell ⟨g,o+i*10+5,none⟩ (.bool f.fin)).setCell ⟨g,o+i*10+6,none⟩ (.int .u64 f.id)).setCell ⟨g,o+i*10+7,none⟩ (.int .u64 f.dl)).setCell ⟨g,o+i*10+8,none⟩ (.string (zq f.data))).setCell ⟨g,o+i*10+9,none⟩ (.slice none 0 0))
 cl:∀R w (i:Nat),J R w->i<N->∃w2 R2,(∀ty,(Builtin.clear_ #[54] ty #[.slice (some ⟨g,o+i*10,none⟩) (N-i) (cap-i)]).run prog w = .ok (.tuple #[]) w2)/\J R2 w2/\R2.take i=R.take i
def K3(J:List Db->World->Prop)(now:Nat)(L:List Db)(a:Option Addr)(cap:Nat)(e:Ending)(w':World):Prop :=
 ∃(i:Nat) (R:List Db),e = .returned (.slice a i cap)/\i<=L.length/\J R w'/\R.take i=L.filter (λx => !decide (x.dl<now))
variable{now:Nat}
def UL{l:List Db}(h:∀x∈l,decide (x.dl<now)=false):l.filter (λx => !decide (x.dl<now))=l :=
 DR.2 (λx hx=>by rw[h x hx];rfl)
theorem gP(J:List Db->World->Prop)(L:List Db)(N g o cap b cb now:Nat)(a:Option Addr)(W:L.length=N)(X:N<=1099511627776)(ax:N<=cap)(Z:cap<=maxLen)(ha:0<N->a=some ⟨g,o,none⟩)(hJ:K0 J N g o b cb now)(hK:NG J N g o cap)
  (w:World) (h0:J L w) :
  Calls prog 47 #[.slice a N cap,.func (.func 48) #[] #[.pointer (some ⟨cb,0,none⟩)]] w (K3 J now L a cap):=by
 have ki:=eW J L N g o cap b cb now a W X ha hJ w h0;unfold maxLen at Z;have s:=zb hJ;have S:=zb hK;have HA:=zb ha;have T:=zb W;have KI:=zb ki;clear hJ hK h0 ha W ki;go_enter func47,ntmps47;go_wp2_with fail;refine(KI.z).mono ?_;clear KI;rintro e w1 (⟨k,rfl,t,h,m,D⟩|⟨rfl,h,m⟩)
 ·have aa:k<N:=by rw[<-T.z];exact t
  have ab:=HA.z (by omega);subst ab;have n:=zb D;have E:AA (L.take k=(L.take (k+1)).filter (λx => !decide (x.dl<now))):=zb (by
   obtain⟨x,u⟩:∃x,L[k]?=some x:=⟨L[k],AJ t⟩;have h9:=m x u;rw[BD,u,CP,UL h];simp only[Option.toList_some,List.filter_cons,h9];simp)
  have d1:((k:Int) == -1)=false:=by rw[AR];omega
  clear t h m D;go_wp2_with fail
  go_loopw [5,6] (λiv jv wr=>∃(i j:Nat) (R:List Db),iv = .int .i64 i/\jv = .int .i64 j/\i<j/\j<=N/\AA (J R wr/\R.take i=(L.take j).filter (λx => !decide (x.dl<now))/\R.drop j=L.drop j)) (λ_ jv _=>N-(intOf jv).toNat)
  case atStart=>exact⟨k,k+1,L,rfl,by go_num,by omega,by omega,zb ⟨n.z,E.z,rfl⟩⟩
  case round =>
   clear n E d1 aa;obtain⟨i,j,R,rfl,rfl,ac,hj,q⟩:=hrel;have F:=s.z.len R wr q.z.1;by_cases hlt:j<N
   ·obtain⟨f,u⟩:∃x,R[j]?=some x:=⟨R[j]'(by omega),AJ (by omega)⟩;have G:L[j]?=some f:=by
     have h1:=A0 (λl=>l[0]?) q.z.2.2;simp only[A6,Br]at h1;rw[<-h1];exact u
    obtain⟨ad,ae,af,ah,ai,aj,ak,al,am,an⟩:=I8 (s.z.rd R wr q.z.1 j f u);obtain⟨Y,H⟩:=nm (wr.alloc (.cells (zh f (.slice none 0 0)) 65));have mY:=AB H
    have v:zj Y wr.heap.size f (.slice none 0 0):=by rw[<-H];exact heap_alloc_new wr _
    have U:=s.z.box _ _ _ q.z.1 mY;have V:=Sr f (.slice none 0 0) b cb now Y (s.z.cb R Y U) (s.z.now R Y U);obtain⟨y0,y1,y2,y3,y4,y5,y6,y7,y8,y9⟩:=v.cells;unfold zh at V H;have HX:=zb (And.intro u G);obtain⟨dv,y⟩:=nm (decide (f.dl<now));rw[y]at V;have ao:=zb y;have KC:=zb V;have z:=zb F;have JY:=zb U;have A:=zb v;obtain⟨yb,B⟩:=nm wr.heap.size;rw[B]at y0 y1 y2 y3 y4 y5 y6 y7 y8 y9 A;have HY:=zb H;have ap:=zb B;clear V u G y F U v mY H B;go_upto_region 8 with fail;rw[ap.z,HY.z];go_wp2_with fail;refine(KC.z).mono ?_;rintro e d ⟨rfl,I⟩;have m6:DW DX Y d:=by rw[I];exact((DW.refl DX Y).alloc _).drew
    have K:zj d yb f (.slice none 0 0):=m6.obj (λx=>x) A.z;have C:=s.z.box _ _ _ JY.z m6;obtain⟨z0,z1,z2,z3,z4,z5,z6,z7,z8,z9⟩:=K.cells;have J6:=zb C;have r:i<N:=by omega
    have M:AA ((L.take (j+1)).filter (λx => !decide (x.dl<now))=(L.take j).filter (λx => !decide (x.dl<now))++(if dv then []else [f])):=zb (by
     rw[BD,HX.z.2,CP]
     congr 1
     have h9:=ao.z;simp only[Option.toList_some,List.filter_cons,h9];cases dv<;>simp)
    have O:=zb (by
     have h1:=A0 (List.drop 1) q.z.2.2;simpa [CW]using h1)
    clear KC y0 y1 y2 y3 y4 y5 y6 y7 y8 y9 ad ae af ah ai aj ak al am an I m6 K JY A;cases dv with
    | true =>
     clear C;go_wp2_with fail;go_roundw
     case rel=>exact⟨i,j+1,R,rfl,by go_num,by omega,by omega,zb ⟨J6.z,by rw[M.z,q.z.2.1];simp,O.z⟩⟩
     case measure=>simp[intOf];omega
    | false =>
     obtain⟨cur,c⟩:=S.z.obj _ _ (by omega) C;obtain⟨xi,P⟩:∃xi,R[i]?=some xi:=⟨R[i]'(by rw[z.z];exact r),AJ (by rw[z.z];exact r)⟩;obtain⟨w0,w1',w2',w3',w4',w5',w6',w7',w8',w9'⟩:=I8 (s.z.rd R d C i xi P);have f0:∀p,d.frozen? ⟨g,p,none⟩=false:=λp=>zf c
     have f1:∀p1 v1 p,(d.setCell ⟨g,p1,none⟩ v1).frozen? ⟨g,p,none⟩=false:=λp1 v1 p=>zf (zc c)
     have f2:∀p1 v1 p2 v2 p,((d.setCell ⟨g,p1,none⟩ v1).setCell ⟨g,p2,none⟩ v2).frozen? ⟨g,p,none⟩=false:=λp1 v1 p2 v2 p=>zf (zc (zc c))
     have f3:∀p1 v1 p2 v2 p3 v3 p,(((d.setCell ⟨g,p1,none⟩ v1).setCell ⟨g,p2,none⟩ v2).setCell ⟨g,p3,none⟩ v3).frozen? ⟨g,p,none⟩=false:=λp1 v1 p2 v2 p3 v3 p=>zf (zc (zc (zc c)))
     have f4:∀p1 v1 p2 v2 p3 v3 p4 v4 p,((((d.setCell ⟨g,p1,none⟩ v1).setCell ⟨g,p2,none⟩ v2).setCell ⟨g,p3,none⟩ v3).setCell ⟨g,p4,none⟩ v4).frozen? ⟨g,p,none⟩=false:=λp1 v1 p2 v2 p3 v3 p4 v4 p=>zf (zc (zc (zc (zc c))))
     have f5:∀p1 v1 p2 v2 p3 v3 p4 v4 p5 v5 p,(((((d.setCell ⟨g,p1,none⟩ v1).setCell ⟨g,p2,none⟩ v2).setCell ⟨g,p3,none⟩ v3).setCell ⟨g,p4,none⟩ v4).setCell ⟨g,p5,none⟩ v5).frozen? ⟨g,p,none⟩=false:=λp1 v1 p2 v2 p3 v3 p4 v4 p5 v5 p=>zf (zc (zc (zc (zc (zc c)))))
     have f6:∀p1 v1 p2 v2 p3 v3 p4 v4 p5 v5 p6 v6 p,((((((d.setCell ⟨g,p1,none⟩ v1).setCell ⟨g,p2,none⟩ v2).setCell ⟨g,p3,none⟩ v3).setCell ⟨g,p4,none⟩ v4).setCell ⟨g,p5,none⟩ v5).setCell ⟨g,p6,none⟩ v6).frozen? ⟨g,p,none⟩=false:=λp1 v1 p2 v2 p3 v3 p4 v4 p5 v5 p6 v6 p=>zf (zc (zc (zc (zc (zc (zc c))))))
     have f7:∀p1 v1 p2 v2 p3 v3 p4 v4 p5 v5 p6 v6 p7 v7 p,(((((((d.setCell ⟨g,p1,none⟩ v1).setCell ⟨g,p2,none⟩ v2).setCell ⟨g,p3,none⟩ v3).setCell ⟨g,p4,none⟩ v4).setCell ⟨g,p5,none⟩ v5).setCell ⟨g,p6,none⟩ v6).setCell ⟨g,p7,none⟩ v7).frozen? ⟨g,p,none⟩=false:=λp1 v1 p2 v2 p3 v3 p4 v4 p5 v5 p6 v6 p7 v7 p=>zf (zc (zc (zc (zc (zc (zc (zc c)))))))
     have f8:∀p1 v1 p2 v2 p3 v3 p4 v4 p5 v5 p6 v6 p7 v7 p8 v8 p,((((((((d.setCell ⟨g,p1,none⟩ v1).setCell ⟨g,p2,none⟩ v2).setCell ⟨g,p3,none⟩ v3).setCell ⟨g,p4,none⟩ v4).setCell ⟨g,p5,none⟩ v5).setCell ⟨g,p6,none⟩ v6).setCell ⟨g,p7,none⟩ v7).setCell ⟨g,p8,none⟩ v8).frozen? ⟨g,p,none⟩=false:=λp1 v1 p2 v2 p3 v3 p4 v4 p5 v5 p6 v6 p7 v7 p8 v8 p=>zf (zc (zc (zc (zc (zc (zc (zc (zc c))))))))
     have f9:∀p1 v1 p2 v2 p3 v3 p4 v4 p5 v5 p6 v6 p7 v7 p8 v8 p9 v9 p,(((((((((d.setCell ⟨g,p1,none⟩ v1).setCell ⟨g,p2,none⟩ v2).setCell ⟨g,p3,none⟩ v3).setCell ⟨g,p4,none⟩ v4).setCell ⟨g,p5,none⟩ v5).setCell ⟨g,p6,none⟩ v6).setCell ⟨g,p7,none⟩ v7).setCell ⟨g,p8,none⟩ v8).setCell ⟨g,p9,none⟩ v9).frozen? ⟨g,p,none⟩=false:=λp1 v1 p2 v2 p3 v3 p4 v4 p5 v5 p6 v6 p7 v7 p8 v8 p9 v9 p=>zf (zc (zc (zc (zc (zc (zc (zc (zc (zc c)))))))))
     have J7:=zb (S.z.st R d i f C r (Ac HX.z.1));clear C c P;go_wp2_with fail;go_roundw
     case rel =>
      refine⟨i+1,j+1,R.set i f,by go_num,by go_num,by omega,by omega,zb ⟨J7.z,?_,?_⟩⟩
      ·rw[P8 (by rw[z.z];exact r),M.z,q.z.2.1];rfl
      ·rw[P7 (by omega),O.z]
     case measure=>simp[intOf];omega
   ·have aq:j=N:=by omega
    subst aq;obtain⟨w2,R2,kcl,j2,t2⟩:=S.z.cl R wr i q.z.1 ac;have ar:=zb j2;have au:=zb t2;have e1:¬cap=i:=by omega
    have d1:i<=cap:=by omega
    clear j2 t2;have HL:=T.z;have Q:R2.take i=L.filter (λx => !decide (x.dl<now)):=by
     rw[au.z,q.z.2.1,AW (by omega)]
    have av:=zb Q;have aw:=zb HL;clear HL Q;go_wp2_with fail;go_ret;exact⟨i,R2,rfl,by rw[aw.z];omega,ar.z,av.z⟩
 ·clear s S;have n:=zb m;have HF:=zb (UL h);clear h m;go_wp2_with fail;go_ret;exact⟨N,L,rfl,by rw[T.z];exact AG _,n.z,by rw[HF.z,<-T.z,AW (AG _)]⟩
def JV(w:World)(g off n sz:Nat)(xs:List Value):Prop:=∃cur,w.heap[g]?=some (.cells cur 65 (0,0))/\(cur.toList.drop off).take n=xs/\cur.size=sz
variable{g sz:Nat}{w:World}{xs:List Value}
def JV.set{off n:Nat}(h:JV w g off n sz xs)(m:Nat)(v:Value):JV (w.setCell ⟨g,off+m,none⟩ v) g off n sz (xs.set m v):=by
 obtain⟨cur,h1,h2,h3⟩:=h;refine⟨_,zc h1,?_,by simp[h3]⟩;rw[<-h2,Array.toList_setIfInBounds,List.drop_set,AH (by omega),DU,show off+m-off=m by omega]
def QJ(f:Db)(l:List Db):zp (f::l)=(.int .i64 f.kind)::(.int .i64 f.stream)::(.int .u64 f.off)::(.int .u64 f.rel)::(.int .u64 f.lim)::(.bool f.fin)::(.int .u64 f.id)::(.int .u64 f.dl)::(.string (zq f.data))::(.slice none 0 0)::zp l:=rfl
theorem SJ:∀(R:List Db) (i:Nat) (f:Db),i<R.length->zp (R.set i f)=((((((((((zp R).set (i*10) (.int .i64 f.kind)).set (i*10+1) (.int .i64 f.stream)).set (i*10+2) (.int .u64 f.off)).set (i*10+3) (.int .u64 f.rel)).set (i*10+4) (.int .u64 f.lim)).set (i*10+5) (.bool f.fin)).set (i*10+6) (.int .u64 f.id)).set (i*10+7) (.int .u64 f.dl)).set (i*10+8) (.string (zq f.data))).set (i*10+9) (.slice none 0 0)
 | [],_,_,h=>by simp at h
 | y::R,0,f,_=>by simp[QJ]
 | y::R,i+1,f,h=>by
  have ih:=SJ R i f (by simpa using h);rw[CO,QJ,QJ,ih,show(i+1)*10=i*10+10 by omega];simp[CO]
theorem SI:∀(R:List Db) (j:Nat) (f:Db),R[j]?=some f->∀q x,(zh f (.slice none 0 0))[q]?=some x->(zp R)[j*10+q]?=some x
 | [],j,f,h=>by simp at h
 | y::R,0,f,h=>by
  simp at h;subst h;intro q x a;have hq:q<10:=(AI.1 a).1;have e:zp (y::R)=(zh y (.slice none 0 0)).toList++zp R:=rfl;rw[e,Cz,Au,Ag (by exact hq),Bd];exact a
 | y::R,j+1,f,h=>by
  intro q x a;have ih:=SI R j f (by simpa using h) q x a;have e:zp (y::R)=(zh y (.slice none 0 0)).toList++zp R:=rfl;have hl:(zh y (.slice none 0 0)).toList.length=10:=rfl;rw[e,AV (by rw[hl];omega),hl,show(j+1)*10+q-10=j*10+q by omega];exact ih
variable{N cap o:Nat}
def ED.rowO(h:ED w 65 10 (.slice (some ⟨g,o,none⟩) N cap) N xs):∃sz,JV w g o (N*10) sz xs/\N<=cap/\cap<=maxLen/\∃o',o=o'*10/\(o'+cap)*10<=sz:=by
 rcases h.2 with⟨e,_⟩|⟨g',o',b,a,e,h1,h2,h3,h4,h5⟩
 ·cases e
 ·cases e;exact⟨a.size,⟨a,h1,h5,rfl⟩,h2,h3,o',rfl,h4⟩
def JV.own(h:JV w g (o*10) (N*10) sz xs)(hl:xs.length=N*10)(h2:N<=cap)(h3:cap<=maxLen)(h4:(o+cap)*10<=sz):ED w 65 10 (.slice (some ⟨g,o*10,none⟩) N cap) N xs:=by
 obtain⟨d,a,b,c⟩:=h;exact⟨hl,.inr ⟨g,o,cap,d,rfl,a,h2,h3,by rw[c];exact h4,b⟩⟩
variable{V:CV}{W W':World}{b i:Nat}{c:CS}{tag:Nat->Nat×Nat}
def zg.wait{R':List Db}(h:zg tag i b c V W)(m:DW (λq=>q=g) W W')(hg:Value.blk V.wt=some g)(d:ED W' 65 10 V.wt R'.length (zp R')):zg tag i b { c with waits:=R' } V W':=by
 have a:=h.twt g hg;have f:b≠g:=λe=>by
  rw[<-e,h.tb]at a;simp at a
 refine h.build (R:=λr=>r=6) m (λq hq=>⟨6,rfl,by rw[show q=g from hq];exact a⟩) (λ_ _=>rfl) (m.obj f h.obj) (.inl ⟨rfl,rfl,rfl,by omega,by omega⟩) (λk hk=>.inl ⟨rfl,rfl,by omega⟩) (λk hk=>.inl ⟨rfl,rfl,by omega⟩) (λk hk=>.inl ⟨rfl,rfl,by omega⟩) (λk hk=>.inl ⟨rfl,rfl,by omega⟩) (λk hk=>.inl ⟨rfl,rfl,by omega⟩) (.inl ⟨rfl,rfl,rfl,by omega,by omega⟩) (.inr ⟨d,h.twt⟩) (.inl ⟨rfl,rfl,by omega⟩) (.inl ⟨rfl,rfl,by omega⟩)
def GG(tag:Nat->Nat×Nat)(i b:Nat)(W0:World)(c:CS)(V:CV)(N:Nat)(R:List Db)(w:World):Prop:=R.length=N/\zg tag i b { c with waits:=R } V w/\Do tag w/\DW (Dp i tag) W0 w
variable{W0 w':World}
def GG.turn{R R':List Db}(h:GG tag i b W0 c V N R w)(m:DW (λq=>q=g) w w')(hg:Value.blk V.wt=some g)(hl:R'.length=N)(a:ED w' 65 10 V.wt N (zp R')):GG tag i b W0 c V N R' w':=by
 obtain⟨_,h1,h2,h3⟩:=h;refine⟨hl,h1.wait m hg (by rw[hl];exact a),h2.mod m,h3.trans (m.mono (λq hq=>.inl (EK (r:=6) (by rw[show q=g from hq];exact h1.twt g hg) (by decide))))⟩
def GG.row{R:List Db}(h:GG tag i b W0 c V N R w):ED w 65 10 V.wt N (zp R):=by
 have:=h.2.1.wt;simp only[h.1]at this;exact this
variable{cb:Nat}
def GG.frm(e:W0.cell? ⟨cb,0,none⟩=some (.pointer (some ⟨b,0,none⟩)))(k:¬Dp i tag cb)(d:c.now=now)(hv:0<N->V.wt = .slice (some ⟨g,o,none⟩) N cap):K0 (GG tag i b W0 c V N) N g o b cb now:=by
 refine⟨λR w w' h m=>⟨h.1,h.2.1.mod0 m,h.2.2.1.mod m,h.2.2.2.trans (m.mono (λ_ x=>x.elim))⟩,λR w h=>h.1,λR w h=>h.2.2.2.cell (a:=⟨cb,0,none⟩) k e,λR w h=>by rw[<-d];exact h.2.1.hd (j:=3) rfl,λR w h j f hf q x hx=>?_⟩;have hN:0<N:=by
  have:=(AM.1 hf).1;have:=h.1;omega
 have:=h.row.cells (hv hN) (j*10+q) x (SI R j f hf q x hx);rw[<-Nat.add_assoc]at this;exact this
def Fy:Db:={ kind:=0,stream:=0,off:=0,rel:=0,lim:=0,fin:=false,id:=0,dl:=0,data:=[],rngs:=[] }
def XW(w:World):(zeroValue 65).run prog w = .ok (.agg (zh Fy (.slice none 0 0))) w:=by kernel_rfl
theorem gM(n:Nat):(Builtin.zeroCells (Value.agg (zh Fy (.slice none 0 0))).cells n).toList=zp (List.replicate n Fy):=by
 have h:∀n,(Builtin.zeroCells (Value.agg (zh Fy (.slice none 0 0))).cells n).toList=(List.range (n*10)).map (λi=>(zh Fy (.slice none 0 0))[i % 10]!):=λn=>by
  simp[Builtin.zeroCells,Value.cells,zh]
 rw[h];clear h
 induction n with
 | zero=>rfl
 | succ n ih =>
  have e0:zp (List.replicate (n+1) Fy)=(zh Fy (.slice none 0 0)).toList++zp (List.replicate n Fy):=by rw[List.replicate_succ];rfl
  rw[e0,<-ih,show(n+1)*10=10+n*10 by omega,List.range_add,BO,CY];have e:((λi=>(zh Fy (.slice none 0 0))[i % 10]!) ∘ λx=>10+x)=λi=>(zh Fy (.slice none 0 0))[i % 10]!:=by
   funext q;simp only[Function.comp,Nat.add_mod_left]
  rw[e];rfl
def QO(A B:List Db):zp (A++B)=zp A++zp B:=by simp[zp]
def GG.frmK(n:0<N->V.wt = .slice (some ⟨g,o,none⟩) N cap):NG (GG tag i b W0 c V N) N g o cap:=by
 refine⟨λR w l h=>?_,λR w j f h y hf=>?_,λR w j h y=>?_⟩
 ·have m:=h.row;rw[n l]at m;obtain⟨sz,⟨a,h1,_⟩,_⟩:=m.rowO;exact⟨a,h1⟩
 ·have l:0<N:=by omega
  have m:=h.row;rw[n l]at m;obtain⟨sz,ro,t,u,e,rfl,v⟩:=m.rowO;have r1:=ro.set (j*10) (.int .i64 f.kind);have r2:=r1.set (j*10+1) (.int .i64 f.stream);have r3:=r2.set (j*10+2) (.int .u64 f.off);have r4:=r3.set (j*10+3) (.int .u64 f.rel);have r5:=r4.set (j*10+4) (.int .u64 f.lim);have r6:=r5.set (j*10+5) (.bool f.fin);have r7:=r6.set (j*10+6) (.int .u64 f.id);have r8:=r7.set (j*10+7) (.int .u64 f.dl);have r9:=r8.set (j*10+8) (.string (zq f.data));have r:=r9.set (j*10+9) (.slice none 0 0);rw[<-SJ R j f (by rw[h.1];exact y)]at r;simp only[<-Nat.add_assoc]at r;refine h.turn (g:=g) ?_ (by rw[n l];rfl) (by rw[Ba];exact h.1) ?_
  ·refine((((((((((DW.refl (λq=>q=g) w).setCell (p:=⟨g,_,none⟩) (.inl rfl) _).setCell (p:=⟨g,_,none⟩) (.inl rfl) _).setCell (p:=⟨g,_,none⟩) (.inl rfl) _).setCell (p:=⟨g,_,none⟩) (.inl rfl) _).setCell (p:=⟨g,_,none⟩) (.inl rfl) _).setCell (p:=⟨g,_,none⟩) (.inl rfl) _).setCell (p:=⟨g,_,none⟩) (.inl rfl) _).setCell (p:=⟨g,_,none⟩) (.inl rfl) _).setCell (p:=⟨g,_,none⟩) (.inl rfl) _).setCell (p:=⟨g,_,none⟩) (.inl rfl) _
  ·rw[n l];exact r.own (by rw[JC,Ba,h.1]) t u v
 ·have l:0<N:=by omega
  have m:=h.row;rw[n l]at m;obtain⟨sz,⟨a,h1,h2,h3⟩,t,u,e,rfl,v⟩:=m.rowO;have x:w.heap[g]?=some (.cells a.toList.toArray 65 (0,0)):=by simpa using h1
  have d:a.toList.length=sz:=by simpa using h3
  have hb:e*10+N*10<=sz:=by omega
  have k:(R.take j).length=j:=by rw[AS,h.1];omega
  have s:(zp (List.replicate (N-j) Fy)).length=(N-j)*10:=by rw[JC,Bc]
  refine⟨_,R.take j++List.replicate (N-j) Fy,λty=>Ld (P:=prog) w 54 ty 65 (.agg (zh Fy (.slice none 0 0))) 10 underlying54 XW rfl (by simp[Value.cells,Value.oneCell',zh]) g (e*10+j*10) (N-j) _ a.toList _ x (by rw[d];omega),?_,?_⟩
  ·rw[gM];refine h.turn (g:=g) (OL w g _) (by rw[n l];rfl) (by rw[AF,k,Bc];omega) ?_;rw[n l];have hs:(splice a.toList (e*10+j*10) (zp (List.replicate (N-j) Fy))).length=sz:=by rw[length_splice _ _ _ (by rw[s,d];omega),d]
   refine JV.own (sz:=sz) ⟨_,setRow_heap w g _ _ _ _ h1,?_,by rw[Al,hs]⟩ (by rw[JC,AF,k,Bc];omega) t u v;have h6:(a.toList.drop (e*10)).take (j*10)=zp (R.take j):=by
    have h7:zp R=zp (R.take j)++zp (R.drop j):=by rw[<-QO,Bn]
    have h8:(a.toList.drop (e*10)).take (j*10)=((a.toList.drop (e*10)).take (N*10)).take (j*10):=by rw[BZ,BM (by omega)]
    rw[h8,h2,h7,BC (by rw[JC,k];omega),AW (by rw[JC,k];omega)]
   have h9:(a.toList.take (e*10+j*10)).drop (e*10)=zp (R.take j):=by
    rw[C4,show e*10+j*10-e*10=j*10 by omega,h6]
   unfold splice;simp only[DQ];rw[List.drop_append_of_le_length (by rw[AS,d];omega),h9,QO,<-List.append_assoc];have h10:(zp (R.take j)++zp (List.replicate (N-j) Fy)).length=N*10:=by rw[AF,s,JC,k];omega
   rw[BC (by omega),AW (by omega)]
  ·rw[BC (by omega),BZ,CX]
variable{a:Option Addr}
def eV{n:Nat}{R:List Db}(h:ED w 65 10 (.slice a N cap) N (zp R))(c:R.length=N)(d:n<=N):ED w 65 10 (.slice a n cap) n (zp (R.take n)):=by
 by_cases h0:n=N
 ·rw[h0,AW (by omega)];exact h
 ·rcases h.2 with⟨e,e2⟩|⟨g,o,f,b,e,h1,h2,h3,h4,h5⟩
  ·omega
  ·cases e;refine⟨by rw[JC,AS,c,BM d],.inr ⟨g,o,cap,b,rfl,h1,by omega,h3,h4,?_⟩⟩;have h7:zp R=zp (R.take n)++zp (R.drop n):=by rw[<-QO,Bn]
   have hl:(zp (R.take n)).length=n*10:=by rw[JC,AS,c,BM d]
   have h8:(b.toList.drop (o*10)).take (n*10)=((b.toList.drop (o*10)).take (N*10)).take (n*10):=by rw[BZ,BM (by omega)]
   rw[h8,h5,h7,BC (by omega),AW (by omega)]
def GG.done{n:Nat}{R:List Db}(h:GG tag i b W0 c V N R w)(s:V.wt = .slice a N cap)(hn:n<=N):zg tag i b { c with waits:=R.take n } { V with wt:=.slice a n cap } (w.setCell ⟨b,238,none⟩ (.slice a n cap)):=by
 have d:=h.row;rw[s]at d;have d:=eV d h.1 hn;obtain⟨hl,h1,h2,h3⟩:=h;have m:DW (λq=>q=b) w (w.setCell ⟨b,238,none⟩ (.slice a n cap)):=(DW.refl (λq=>q=b) w).setCell (p:=⟨b,_,none⟩) (.inl rfl) _;have f:∀g,Value.blk (.slice a n cap)=some g->tag g=(i,6):=λg hg=>h1.twt g (by rw[s];cases a<;>exact hg)
 have o:∀g,Value.blk (.slice a n cap)=some g->¬g=b:=λg hg e=>by
  have h4:=f g hg;rw[e,h1.tb]at h4;simp at h4
 have l:(R.take n).length=n:=by rw[AS,hl];omega
 refine h1.build (R:=λr=>r=1) m (λq hq=>⟨1,rfl,by rw[show q=b from hq];exact h1.tb⟩) (λ_ _=>rfl) ?_ (.inl ⟨rfl,rfl,rfl,by omega,by omega⟩) (λk hk=>.inl ⟨rfl,rfl,by omega⟩) (λk hk=>.inl ⟨rfl,rfl,by omega⟩) (λk hk=>.inl ⟨rfl,rfl,by omega⟩) (λk hk=>.inl ⟨rfl,rfl,by omega⟩) (λk hk=>.inl ⟨rfl,rfl,by omega⟩) (.inl ⟨rfl,rfl,rfl,by omega,by omega⟩) (.inr ⟨?_,f⟩) (.inl ⟨rfl,rfl,by omega⟩) (.inl ⟨rfl,rfl,by omega⟩)
 ·rw[zc h1.obj];simp only[Ap];rw[show(238:Nat)=233+5 from rfl,zX (j:=5) { c with waits:=R } { c with waits:=R.take n } V { V with wt:=.slice a n cap } (.slice a n cap) rfl rfl rfl rfl]
 ·simp only[l];exact d.mod m o
def CS.ticked(c:CS):CS:={ c with now:=c.now+1,waits:=c.waits.filter (λf => !decide (f.dl<c.now+1)) }
def WH(h:zg tag i b c V W)(L:Do tag W)(hi:0<i)(hn:c.now<=zB)(hw:c.waits.length<=1099511627776)(hb:c.flight.length<=1099511627776)(ok:Jg c.ticked):Calls prog 26 #[.pointer (some ⟨b,0,none⟩)] W (EA tag i b W (.tuple #[]) c.tick):=by
 obtain⟨N,y⟩:=nm c.waits.length;obtain⟨a,cap,z,q1,q2,g,o,m⟩:∃a cap,V.wt = .slice a N cap/\N<=cap/\cap<=maxLen/\∃g o,0<N->a=some ⟨g,o,none⟩:=by
  rcases h.wt.2 with⟨e,e2⟩|⟨g,o,cap,cur,e,_,h2,h3,_⟩
  ·have Q:N=0:=by omega
   exact⟨none,0,by rw[e,Q],by omega,by unfold maxLen;omega,0,0,λx=>by omega⟩
  ·exact⟨_,cap,by rw[e,y],by omega,h3,g,o*10,λ_=>rfl⟩
 obtain⟨nw,d⟩:=nm c.now;rw[d]at hn;unfold zB at hn;obtain⟨W1,s⟩:=nm (W.alloc (.cells #[.pointer (some ⟨b,0,none⟩)] 69));have m1:=AB s
 have f:W1.cell? ⟨W.heap.size,0,none⟩=some (.pointer (some ⟨b,0,none⟩)):=by rw[<-s];exact za (heap_alloc_new W _) rfl
 have k:¬Dp i tag W.heap.size:=λx=>by
  have h1:=x.1;rw[L _ (AG _)]at h1;simp at h1;omega
 have h1:=h.mod0 m1;obtain⟨cb,l⟩:=nm W.heap.size;rw[l]at f k;have A:cb≠b:=λe=>k (by rw[e];exact EK h.tb (by decide))
 obtain⟨W2,t⟩:=nm (W1.setCell ⟨b,3,none⟩ (.int .u64 ((nw:Int)+1)));have M:DW (λq=>q=b) W1 W2:=by rw[<-t];exact(DW.refl (λq=>q=b) W1).setCell (p:=⟨b,_,none⟩) (.inl rfl) _
 have h2:zg tag i b { c with now:=c.now+1 } V W2:=by
  have:=h1.store 3 _ (Ju c { c with now:=c.now+1 } V V (j:=3) _ (by decide) rfl rfl rfl rfl) ⟨rfl,λ_ _=>⟨rfl,rfl,rfl⟩,λ_ _=>⟨rfl,rfl⟩,rfl,rfl,rfl,rfl⟩;rw[<-t,<-d];exact this
 have B:=(L.mod m1).mod M;have u:=M.cell (a:=⟨cb,0,none⟩) A f;have kd:=gP (GG tag i b W2 { c with now:=c.now+1 } V N) c.waits N g o cap b cb (nw+1) a y (by omega) q1 q2 m (GG.frm (cap:=cap) u k (by rw[d]) (λx=>by rw[z,m x])) (GG.frmK (λx=>by rw[z,m x])) W2.drew ⟨y,h2.mod0 (DW.refl DX W2).drew,B.mod (DW.refl DX W2).drew,(DW.refl _ W2).drew⟩;have c3:W1.cell? ⟨b,3,none⟩=some (.int .u64 nw):=by rw[<-d];exact h1.hd (j:=3) rfl
 have S:=h1.fz 3;have C:W2.cell? ⟨b,238,none⟩=some (.slice a N cap):=by rw[<-z];exact h2.tl (j:=5) rfl
 have fz:=h2.fz 238;have yw:=wu ((nw:Int)+1) (by omega);have T:AA (DW (Dp i tag) W W2):=zb ((m1.mono (λ_ x=>x.elim)).trans (M.mono (λq D=>.inl (EK (r:=1) (by rw[show q=b from D];exact h.tb) (by decide)))));have KD:=zb kd;have HT:=zb L;have HI:=zb hi;have E:=zb k;have U:=zb u;have HN:=zb y;have X:=zb s;have Y:=zb t;have aa:=zb l;have ab:=zb ok;have HB:=zb hb;have HV:=zb z;have ac:=zb d;clear kd L hi m1 M k y h h1 h2 B ok hb hw s t l A z d m q1 q2;go_enter func26,ntmps26;go_upto_region 1 with fail;rw[X.z,aa.z];go_upto_region 2 with fail;rw[Y.z];clear c3 S f;refine zD ?_;refine zl 9 (λw'=>w'.cell? ⟨cb,0,none⟩=some (.pointer (some ⟨b,0,none⟩))/\w'.cell? ⟨b,238,none⟩=some (.slice a N cap)/\w'.frozen? ⟨b,238,none⟩=false) (⟨u,C,fz⟩) ?_;refine GI 0 ?_;iterate 6
  refine GV rfl ?_;try simp only[PS]
 refine zw 6 rfl (λK F=>?_);go_simp
 with_reducible refine(KD.z).mono ?_
 rintro e w ⟨n,R,rfl,G,hj,hR⟩;have H:=zb (And.intro G (And.intro hj hR));have hF:w.cell? ⟨cb,0,none⟩=some (.pointer (some ⟨b,0,none⟩))/\w.cell? ⟨b,238,none⟩=some (.slice a N cap)/\w.frozen? ⟨b,238,none⟩=false:=by
  obtain⟨hl,h1,h2,h3⟩:=hj;exact⟨h3.cell (a:=⟨cb,0,none⟩) E.z U.z,by rw[<-HV.z];exact h1.tl (j:=5) rfl,h1.fz 238⟩
 clear hj G hR;go_simp;refine F.z _ _ hF ?_;obtain⟨p0,p1,p2⟩:=hF;clear F K;try simp only[PS]
 refine GI 7 ?_;iterate 2
  refine GV rfl ?_;try simp only[PS]
 refine zU rfl (λK F=>?_);go_simp;refine F.z _ _ ?_;clear F K;try simp only[PS]
 refine zn ?_;refine⟨rfl,?_⟩;obtain⟨Z,hZ⟩:=nm (w.setCell ⟨b,238,none⟩ (.slice a n cap));have O:DW (λq=>q=b) w Z:=by rw[<-hZ];exact(DW.refl (λq=>q=b) w).setCell (p:=⟨b,_,none⟩) (.inl rfl) _
 have P:zg tag i b c.ticked { V with wt:=.slice a n cap } Z:=by
  obtain⟨j1,j2,j3⟩:=H.z;have:=j2.done HV.z (by rw[<-HN.z];exact j1);rw[hZ,j3,<-ac.z]at this;exact this
 have I:=H.z.2.1.2.2.1.mod O;have kl:=SM P I HI.z ab.z HB.z;have zcb:=O.cell (a:=⟨cb,0,none⟩) (λe=>E.z (by rw[show cb=b from e];exact EK P.tb (by decide))) p0;have KL:=zb kl;have MZ:=zb O;have HC:=zb P;clear kl O P I p0 p1 p2 u C fz;try rw[hZ]
 go_wp2_with fail;refine(KL.z).mono ?_;rintro e w9 ⟨rfl,J,V9,r1,r2,r3⟩;have R9:=zb (And.intro r1 (And.intro r2 r3));clear r1 r2 r3;go_wp2_with fail
 go_end0
 refine⟨rfl,J,V9,R9.z.1,?_,?_⟩
 ·exact(Dj.same HT.z ((T.z.trans H.z.2.1.2.2.2).trans (MZ.z.mono (λq D=>.inl (EK (r:=1) (by rw[show q=b from D];exact HC.z.tb) (by decide)))))).trans R9.z.2.1 (by have h1:=T.z.size;have h2:=H.z.2.1.2.2.2.size;have h3:=MZ.z.size;omega)
 ·exact((T.z.trans H.z.2.1.2.2.2).trans (MZ.z.mono (λq D=>.inl (EK (r:=1) (by rw[show q=b from D];exact HC.z.tb) (by decide))))).ofC.trans R9.z.2.2
def FS(f:Db):Prop:=(∃k:Nat,k<8/\f.stream=(k:Int))/\(f.kind=4->f.off+f.data.length<=zB/\f.data.length<=1099511627776)
structure RS.Inv(G:Nat)(x:RS):Prop where
 came:x.came.Ok
 in_:∀j,j<x.came.rs.length->DY x.came.rs j<x.high
 bl:x.b.length=x.high
 rd:x.read<=x.high
 hg:x.high<=x.grant
 gr:x.grant<=G
 fin:x.fin<=zB
 keep:x.keep<=zB
 st:x.state=2->x.cut=true/\x.keep<=x.read
structure CS.Inv(T:Nat)(c:CS):Prop where
 mtu:64<=c.mtu/\c.mtu<=65536
 win:c.window<=4096
 tot:c.total<=4096
 grant:c.grant<=zB
 credit:c.credit<=zB
 ws:∀k,k<8->(c.ws k).Ok
 rs:∀k,k<8->(c.rs k).Inv (4096*(T+1))
 waits:(∀f∈c.waits,f.Fits)/\c.waits.length<=16
 fl:c.flight.length<=12
 fly:∀p∈c.flight,p.n<=zB/\p.at_<=zB/\p.fs.length<=1099511627776/\∀f∈p.fs,FS f
 now:c.now<=T
 next:c.next<=32*T
 got:c.got.Ok/\c.got.most<=8
 nd:(c.seen.map (·.1)).Nodup
 ids:∀p∈c.seen,p.1<=zB
 sl:c.seen.length<=T
 most:c.most<=zB
 cl:c.came.length<=T
def Dg:Nat:=268435455
def RS.Inv.mono{G a:Nat}{x:RS}(h:x.Inv G)(hG:G<=a):x.Inv a:=⟨h.came,h.in_,h.bl,h.rd,h.hg,AO h.gr hG,h.fin,h.keep,h.st⟩
variable{T:Nat}
def CS.Inv.mono{a:Nat}(h:c.Inv T)(hT:T<=a):c.Inv a :=
 ⟨h.mtu,h.win,h.tot,h.grant,h.credit,h.ws,λk hk=>(h.rs k hk).mono (by omega),h.waits,h.fl,h.fly,by have:=h.now;omega,by have:=h.next;omega,h.got,h.nd,h.ids,by have:=h.sl;omega,h.most,by have:=h.cl;omega⟩
def RS.Inv.used{G:Nat}{x:RS}(h:x.Inv G)(hG:G<=1099511627776):(x.used<=zB/\x.grant<=zB)/\(x.hopes=true->x.used<=G):=by
 have h1:=h.rd;have h2:=h.hg;have h3:=h.gr;have h4:=h.fin;unfold zB at *;refine⟨⟨?_,by omega⟩,λc=>?_⟩
 ·unfold RS.used;split<;>omega
 ·unfold RS.used;split
  ·rename_i e;obtain⟨a,b⟩:=h.st e;unfold RS.hopes at c;rw[a]at c;simp[e]at c;omega
  ·omega
def CS.Inv.ok(h:c.Inv T)(hT:T<=Dg):c.Ok:=by
 unfold Dg at hT;refine⟨h.mtu.2,h.win,h.tot,h.grant,h.credit,h.ws,λk hk=>?_,h.waits.1⟩;obtain⟨a,b⟩:=(h.rs k hk).used (by omega);exact⟨a,λhh=>by have:=b hh;omega⟩
variable{rs:zC}
def Ll{r:Nat×Nat}(h:r∈rs):∃j,j<rs.length/\Da rs j=r.1/\DY rs j=r.2:=by
 obtain⟨j,a,rfl⟩:=Ct.1 h;have e:rs.getD j (0,0)=rs[j]:=by simp[List.getD,a]
 exact⟨j,a,by unfold Da;rw[e],by unfold DY;rw[e]⟩
def Dh.Ok.mem{s:Dh}(h:s.Ok){r:Nat×Nat}(hr:r∈s.rs):r.2<=zB:=by
 obtain⟨j,hj,_,e⟩:=Ll hr;rw[<-e];exact h.hi j hj
theorem Dh.Ok.adds:∀(l:zC) {s:Dh},s.Ok->(∀r∈l,r.2<=zB)->(s.adds l).Ok
 | [],_,h,_=>h
 | r::l,s,h,hl=>Dh.Ok.adds l (h.add r.1 (hl r Ae)) (λq hq=>hl q (Aj _ hq))
variable{x:WS}
def WS.Ok.again(h:x.Ok)(f:Db):(x.again f).Ok:=by
 refine⟨?_,h.came,h.cut,h.len,h.credit,h.high⟩;unfold WS.again;refine Dh.Ok.adds _ ?_ (λr a=>h.came.mem (List.mem_reverse.1 a));exact P9 _ _ _ _ (λr a=>h.sent.mem a) (I2 _ h.sent.most)
variable{f:Db}
def WS.Ok.acked(h:x.Ok)(hf:f.off+f.data.length<=zB):(x.acked f).Ok :=
 ⟨h.sent.add _ (by omega),h.came.add _ (by omega),h.cut,h.len,h.credit,h.high⟩
structure EZ(c c':CS):Prop where
 hd:c'.mtu=c.mtu/\c'.window=c.window/\c'.total=c.total/\c'.now=c.now/\c'.closed=c.closed/\c'.said=c.said/\c'.next=c.next/\c'.got=c.got/\c'.answer=c.answer
 tl:c'.credit=c.credit/\c'.grant=c.grant/\c'.flight=c.flight/\c'.largest=c.largest/\c'.waits=c.waits/\c'.lastID=c.lastID/\c'.anyID=c.anyID/\c'.seen=c.seen/\c'.most=c.most/\c'.came=c.came
 rs:∀k,k<8->∃a,c'.rs k={ c.rs k with anew:=a }
def EZ.refl(c:CS):EZ c c:=⟨⟨rfl,rfl,rfl,rfl,rfl,rfl,rfl,rfl,rfl⟩,⟨rfl,rfl,rfl,rfl,rfl,rfl,rfl,rfl,rfl,rfl⟩,λk _=>⟨(c.rs k).anew,rfl⟩⟩
variable{c':CS}
def EZ.trans{a:CS}(h:EZ c c')(k:EZ c' a):EZ c a:=by
 obtain⟨a1,a2,a3,a4,a5,a6,a7,a8,a9⟩:=h.hd;obtain⟨b1,b2,b3,b4,b5,b6,b7,b8,b9⟩:=k.hd;obtain⟨c1,c2,c3,c4,c5,c6,c7,c8,c9,b⟩:=h.tl;obtain⟨d1,d2,d3,d4,d5,d6,d7,d8,d9,d⟩:=k.tl;refine⟨⟨b1.trans a1,b2.trans a2,b3.trans a3,b4.trans a4,b5.trans a5,b6.trans a6,b7.trans a7,b8.trans a8,b9.trans a9⟩,⟨d1.trans c1,d2.trans c2,d3.trans c3,d4.trans c4,d5.trans c5,d6.trans c6,d7.trans c7,d8.trans c8,d9.trans c9,d.trans b⟩,λq e=>?_⟩;obtain⟨x,hx⟩:=h.rs q e;obtain⟨y,hy⟩:=k.rs q e;exact⟨y,by rw[hy,hx]⟩
def RS.Inv.anew{G:Nat}{x:RS}(h:x.Inv G)(a:Bool):({ x with anew:=a }:RS).Inv G:=⟨h.came,h.in_,h.bl,h.rd,h.hg,h.gr,h.fin,h.keep,h.st⟩
def CS.Inv.but(h:c.Inv T)(s:EZ c c')(hw:∀k,k<8->(c'.ws k).Ok):c'.Inv T:=by
 obtain⟨a1,a2,a3,a4,a5,a6,a7,a8,a9⟩:=s.hd;obtain⟨c1,c2,c3,c4,c5,c6,c7,b,c9,d⟩:=s.tl;exact
  {mtu:=by rw[a1];exact h.mtu
   win:=by rw[a2];exact h.win
   tot:=by rw[a3];exact h.tot
   grant:=by rw[c2];exact h.grant
   credit:=by rw[c1];exact h.credit
   ws:=hw
   rs:=λk hk=>by obtain⟨a,e⟩:=s.rs k hk;rw[e];exact(h.rs k hk).anew a
   waits:=by rw[c5];exact h.waits
   fl:=by rw[c3];exact h.fl
   fly:=by rw[c3];exact h.fly
   now:=by rw[a4];exact h.now
   next:=by rw[a7];exact h.next
   got:=by rw[a8];exact h.got
   nd:=by rw[b];exact h.nd
   ids:=by rw[b];exact h.ids
   sl:=by rw[b];exact h.sl
   most:=by rw[c9];exact h.most
   cl:=by rw[d];exact h.cl }
def Y1(c:CS)(f:Db):EZ c (c.again f):=by
 have rf:=EZ.refl c;unfold CS.again;split
 ·exact⟨rf.hd,rf.tl,rf.rs⟩
 ·split
  ·exact⟨rf.hd,rf.tl,rf.rs⟩
  ·split
   ·exact⟨rf.hd,rf.tl,rf.rs⟩
   ·split
    ·refine⟨rf.hd,rf.tl,λk _=>?_⟩;by_cases e:k=f.stream.toNat
     ·subst e;exact⟨(c.rs f.stream.toNat).anew||f.lim==(c.rs f.stream.toNat).grant,by simp only[ze]⟩
     ·exact⟨(c.rs k).anew,by simp only[zd _ _ e]⟩
    ·exact rf
def WG(f:Db)(h:∀k,k<8->(c.ws k).Ok):∀k,k<8->((c.again f).ws k).Ok:=by
 intro k hk;unfold CS.again;split
 ·by_cases e:k=f.stream.toNat
  ·subst e;simp only[ze];exact(h _ hk).again f
  ·simp only[zd _ _ e];exact h k hk
 ·split
  ·by_cases e:k=f.stream.toNat
   ·subst e;simp only[ze];have w:=h _ hk;exact⟨w.sent,w.came,w.cut,w.len,w.credit,w.high⟩
   ·simp only[zd _ _ e];exact h k hk
  ·split
   ·exact h k hk
   ·split
    ·exact h k hk
    ·exact h k hk
theorem Te:∀(fs:List Db) (c:CS),EZ c (c.agains fs)
 | [],c=>EZ.refl c
 | f::fs,c=>(Y1 c f).trans (Te fs (c.again f))
theorem Pf:∀(fs:List Db) {c:CS},(∀k,k<8->(c.ws k).Ok)->∀k,k<8->((c.agains fs).ws k).Ok
 | [],_,h=>h
 | f::fs,_,h=>Pf fs (WG f h)
def Y0(c:CS)(p:Df):EZ c (c.lose1 p):=by
 unfold CS.lose1;split
 ·exact Te _ _
 ·exact EZ.refl c
def WE(p:Df)(h:∀k,k<8->(c.ws k).Ok):∀k,k<8->((c.lose1 p).ws k).Ok:=by
 unfold CS.lose1;split
 ·exact Pf _ h
 ·exact h
theorem MI:∀(l:List Df) (c:CS),EZ c (c.loses l)
 | [],c=>EZ.refl c
 | p::l,c=>(Y0 c p).trans (MI l (c.lose1 p))
theorem Pb:∀(l:List Df) {c:CS},(∀k,k<8->(c.ws k).Ok)->∀k,k<8->((c.loses l).ws k).Ok
 | [],_,h=>h
 | p::l,_,h=>Pb l (WE p h)
def CS.Inv.loseOk(h:c.Inv T):Jg c:=by
 refine⟨λp a=>⟨(h.fly p a).1,(h.fly p a).2.1,(h.fly p a).2.2.1⟩,λk p a _ j f hf=>?_⟩;obtain⟨⟨q,d,b⟩,h4⟩:=(h.fly p (Ac a)).2.2.2 f (Ac hf);have g:=Pf (p.fs.take j) (Pb (c.flight.take k) h.ws) q d;refine⟨λe=>?_,λ_=>by omega,λ_=>by omega⟩;rw[b,Ao];exact⟨d,b,g.sent,g.came,(h4 e).1,(h4 e).2⟩
def CS.Inv.sub(h:c.Inv T)(p:Df->Bool):(c.fly (c.flight.filter p)).Inv T :=
 {mtu:=h.mtu,win:=h.win,tot:=h.tot,grant:=h.grant,credit:=h.credit,ws:=h.ws,rs:=h.rs,waits:=h.waits,now:=h.now,next:=h.next,got:=h.got,nd:=h.nd,ids:=h.ids,sl:=h.sl,most:=h.most,cl:=h.cl
  fl:=AO (Cn _ _) h.fl
  fly:=λq hq=>h.fly q (BV.1 hq).1 }
def CS.Inv.lose(h:c.Inv T):c.lose.Inv T:=by
 have h1:=h.but (MI c.flight c) (Pb c.flight h.ws);rw[Lx];have h2:=h1.sub (λp => !c.late p);rw[(MI c.flight c).tl.2.2.1]at h2;exact h2
def CS.Inv.ticked(h:c.Inv T):c.ticked.Inv (T+1):=by
 have a:=h.mono (show T<=T+1 by omega);exact
  {mtu:=h.mtu,win:=h.win,tot:=h.tot,grant:=h.grant,credit:=h.credit,ws:=h.ws,rs:=a.rs,fl:=h.fl,fly:=h.fly,next:=a.next,got:=h.got,nd:=h.nd,ids:=h.ids,sl:=a.sl,most:=h.most,cl:=a.cl
   now:=by have:=h.now;show c.now+1<=_;omega
   waits:=⟨λf hf=>h.waits.1 f (BV.1 hf).1,AO (Cn _ _) h.waits.2⟩ }
def CS.Inv.tick(h:c.Inv T):c.tick.Inv (T+1):=h.ticked.lose
def Vz(c:CS)(f:Db):EZ c (c.ackF f):=by
 have rf:=EZ.refl c;unfold CS.ackF;split
 ·exact⟨rf.hd,rf.tl,rf.rs⟩
 ·exact rf
def VF(hf:FS f)(h:∀k,k<8->(c.ws k).Ok):∀k,k<8->((c.ackF f).ws k).Ok:=by
 intro k hk;unfold CS.ackF;split
 ·rename_i e;by_cases a:k=f.stream.toNat
  ·subst a;simp only[ze];exact(h _ hk).acked (hf.2 e.1).1
  ·simp only[zd _ _ a];exact h k hk
 ·exact h k hk
theorem Sq:∀(fs:List Db) (c:CS),EZ c (fs.foldl CS.ackF c)
 | [],c=>EZ.refl c
 | f::fs,c=>(Vz c f).trans (Sq fs (c.ackF f))
theorem Pa:∀(fs:List Db) {c:CS},(∀f∈fs,FS f)->(∀k,k<8->(c.ws k).Ok)->∀k,k<8->((fs.foldl CS.ackF c).ws k).Ok
 | [],_,_,h=>h
 | f::fs,_,hf,h=>Pa fs (λg hg=>hf g (Aj _ hg)) (VF (hf f Ae) h)
def Vy(c:CS)(rs:zC)(p:Df):EZ c (c.ackP rs p):=by
 unfold CS.ackP;split
 ·exact Sq _ _
 ·exact EZ.refl c
def VE(rs:zC){p:Df}(hp:∀f∈p.fs,FS f)(h:∀k,k<8->(c.ws k).Ok):∀k,k<8->((c.ackP rs p).ws k).Ok:=by
 unfold CS.ackP;split
 ·exact Pa _ hp h
 ·exact h
theorem MH(rs:zC):∀(l:List Df) (c:CS),EZ c (c.ackPs rs l)
 | [],c=>EZ.refl c
 | p::l,c=>(Vy c rs p).trans (MH rs l (c.ackP rs p))
theorem PZ(rs:zC):∀(l:List Df) {c:CS},(∀p∈l,∀f∈p.fs,FS f)->(∀k,k<8->(c.ws k).Ok)->∀k,k<8->((c.ackPs rs l).ws k).Ok
 | [],_,_,h=>h
 | p::l,_,hp,h=>PZ rs l (λq hq=>hp q (Aj _ hq)) (VE rs (hp p Ae) h)
def CS.Inv.large(h:c.Inv T)(n:Nat):({ c with largest:=n }:CS).Inv T :=
 {mtu:=h.mtu,win:=h.win,tot:=h.tot,grant:=h.grant,credit:=h.credit,ws:=h.ws,rs:=h.rs,waits:=h.waits,now:=h.now,next:=h.next,got:=h.got,nd:=h.nd,ids:=h.ids,sl:=h.sl,most:=h.most,cl:=h.cl,fl:=h.fl,fly:=h.fly }
def CS.Inv.ackedOk(h:c.Inv T)(rs:zC):Lw c rs:=by
 refine⟨λp d=>(h.fly p d).2.2.1,λk p d _ j f hf=>?_⟩;have a:=Ac d;have e:=Ac hf;have b:=(h.fly p a).2.2.2 f e;refine⟨b.1,λh4 _=>?_⟩;obtain⟨⟨q,l,i⟩,hb⟩:=b;have m:=Pa (p.fs.take j) (λg hg=>(h.fly p a).2.2.2 g (Be hg)) (PZ rs (c.flight.take k) (λr hr=>(h.fly r (Be hr)).2.2.2) h.ws) q l;exact⟨q,l,i,m.sent,m.came,(hb h4).1,(hb h4).2⟩
def CS.Inv.ackedTo(h:c.Inv T)(rs:zC):(c.ackedTo rs).Inv T:=by
 have h0:=h.large (max c.largest (DY rs 0));have h1:=h0.but (MH rs c.flight _) (PZ rs c.flight (λp hp=>(h.fly p hp).2.2.2) h0.ws);have h2:=h1.sub (λp => !Eu rs p);rw[(MH rs c.flight _).tl.2.2.1]at h2;exact h2
def CS.Inv.acked(h:c.Inv T)(rs:zC):(c.acked rs).2.Inv T:=by
 by_cases a:c.next<=DY rs 0
 ·unfold CS.acked;rw[AN a];exact h
 ·rw[ME c rs a];exact(h.ackedTo rs).lose
structure E6(f:Db):Prop where
 sound:zT f=true
 dl:f.data.length<=1099511627776
 rl:f.rngs.length<=1099511627776
def E6.ns(h:E6 f):f.off<=zB/\f.rel<=zB/\f.lim<=zB/\f.id<=zB/\f.dl<=zB:=by
 have h1:=h.sound;unfold zT EM Ff at h1;simp only[AZ,List.all_cons,List.all_nil,Af]at h1;unfold zB;omega
def E6.st(h:E6 f):∃k:Nat,k<8/\f.stream=(k:Int):=by
 have h1:=h.sound;unfold zT ER at h1;simp only[AZ,Af]at h1;exact⟨f.stream.toNat,by omega,by omega⟩
def E6.end4(h:E6 f)(h4:f.kind=4):f.end_<=zB:=by
 have h1:=h.sound;unfold zT zN at h1;rw[h4]at h1;simp only[AZ]at h1;have h2:=h1.2;simp at h2;unfold Db.end_ zB;omega
def E6.rngs2(h:E6 f)(h2:f.kind=2):0<f.rngs.length:=by
 have h1:=h.sound;unfold zT zN at h1;rw[h2]at h1;simp only[AZ,A5]at h1;have h3:=h1.2;unfold Eh at h3;simp only[AZ,Af]at h3;exact h3.2
variable{hi lo:Nat}
def SH{s:Dh}(h:s.Ok){B:Nat}(hb:∀j,j<s.rs.length->DY s.rs j<=B)(hh:hi<=B)(hm:hi<=zB):∀j,j<(s.add lo hi).rs.length->DY (s.add lo hi).rs j<=B:=by
 unfold Dh.add;split
 ·exact hb
 ·have s1:=Lc (D6 s.rs (max lo s.fl)) s.rs.length;have s2:=Lc (D9 s.rs hi) s.rs.length;have a:=Lb h.wf (by omega) s1 s2;have b:=P3 (m:=max lo s.fl) a s2.1 hb hh;split
  ·intro j hj;rw[(G9 _ 1 j).2];exact b _ (by rw[Ad]at hj;omega)
  ·exact b
theorem Vv(off:Nat)(data:List UInt8)(e H:Nat)(he:e<=H)(hm:e<=zB):∀n lo (b:List UInt8) (s:Dh),b.length=H->s.Ok->(∀j,j<s.rs.length->DY s.rs j<H) ->
  (Ek off data e n lo b s).1.length=H/\(Ek off data e n lo b s).2.Ok/\∀j,j<(Ek off data e n lo b s).2.rs.length->DY (Ek off data e n lo b s).2.rs j<H:=by
 intro n
 induction n with
 | zero=>intro lo b s h1 h2 h3;exact⟨h1,h2,h3⟩
 | succ n ih =>
  intro lo b s h1 h2 h3;unfold Ek;split
  ·rename_i hlt;split
   ·exact⟨h1,h2,h3⟩
   ·rename_i hg;obtain⟨_,g2⟩:=Pg s.rs lo e hlt (by omega);have g3:=LP s.rs lo e;refine ih _ _ _ ?_ (h2.add _ (by omega)) (λj a=>?_)
    ·rw[MN _ _ _ (by rw[AS];omega)];exact h1
    ·have:=SH h2 (B:=H-1) (lo:=(Dk s.rs lo e).1) (hi:=(Dk s.rs lo e).2-1) (λj a=>by have:=h3 j a;omega) (by omega) (by omega) j a;omega
  ·exact⟨h1,h2,h3⟩
def RS.Inv.data{G:Nat}{x:RS}(h:x.Inv G)(a:f.end_<=zB)(hg:x.high<f.end_->f.end_<=x.grant):(x.data f).Inv G:=by
 have hb:=h.bl;have hh:=h.hg;have hl:=Vv f.off f.data f.end_ (max x.high f.end_) (DE _ _) a (f.data.length+1) f.off (Is x.b (max x.high f.end_)) x.came (by unfold Is;simp;omega) h.came (λj hj=>Aw (h.in_ j hj) (Bl _ _));refine⟨hl.2.1,hl.2.2,hl.1,AO h.rd (Bl _ _),?_,h.gr,?_,h.keep,h.st⟩
 ·show max x.high f.end_<=x.grant;by_cases q:x.high<f.end_
  ·have:=hg q;omega
  ·omega
 ·show(if f.fin then f.end_ else x.fin)<=zB;split
  ·exact a
  ·exact h.fin
def CS.Inv.upR(h:c.Inv T)(k:Nat){x:RS}(hx:x.Inv (4096*(T+1))):({ c with rs:=upd c.rs k x }:CS).Inv T :=
 {mtu:=h.mtu,win:=h.win,tot:=h.tot,grant:=h.grant,credit:=h.credit,ws:=h.ws,waits:=h.waits,now:=h.now,next:=h.next,got:=h.got,nd:=h.nd,ids:=h.ids,sl:=h.sl,most:=h.most,cl:=h.cl,fl:=h.fl,fly:=h.fly
  rs:=λq hq=>by
   by_cases e:q=k
   ·subst e;simp only[ze];exact hx
   ·simp only[zd _ _ e];exact h.rs q hq }
def CS.Inv.upW(h:c.Inv T)(k:Nat)(hx:k<8->x.Ok):({ c with ws:=upd c.ws k x }:CS).Inv T :=
 {mtu:=h.mtu,win:=h.win,tot:=h.tot,grant:=h.grant,credit:=h.credit,rs:=h.rs,waits:=h.waits,now:=h.now,next:=h.next,got:=h.got,nd:=h.nd,ids:=h.ids,sl:=h.sl,most:=h.most,cl:=h.cl,fl:=h.fl,fly:=h.fly
  ws:=λq a=>by
   by_cases e:q=k
   ·subst e;simp only[ze];exact hx a
   ·simp only[zd _ _ e];exact h.ws q a }
def CS.Inv.data(h:c.Inv T)(hf:E6 f)(h4:f.kind=4):(c.data f).2.Inv T:=by
 obtain⟨k,hk,a⟩:=hf.st;unfold CS.data;rw[a,Ao];split
 ·exact h
 ·split
  ·exact h
  ·rename_i hn;exact h.upR k ((h.rs k hk).data (hf.end4 h4) (λq=>DD (λg=>hn ⟨q,.inl g⟩)))
def CS.Inv.resetAt(h:c.Inv T)(hf:E6 f):(c.resetAt f).2.Inv T:=by
 obtain⟨k,hk,d⟩:=hf.st;obtain⟨n1,n2,_⟩:=hf.ns;unfold CS.resetAt;rw[d,Ao];split
 ·exact h
 ·have r:=h.rs k hk;refine h.upR k ⟨r.came,r.in_,r.bl,r.rd,r.hg,r.gr,n1,?_,λe=>?_⟩
  ·unfold RS.resetAt;simp only;split
   ·exact n2
   ·exact r.keep
  ·obtain⟨a,b⟩:=r.st e;refine⟨rfl,?_⟩;unfold RS.resetAt;simp only[a];show(if (!true||decide (f.rel<(c.rs k).keep))=true then f.rel else(c.rs k).keep)<=(c.rs k).read;split
   ·rename_i q;simp at q;omega
   ·exact b
def CS.Inv.message(h:c.Inv T)(hf:E6 f):(c.message f).Inv (T+1):=by
 obtain⟨_,_,_,n4,n5⟩:=hf.ns;have g:=h.mono (show T<=T+1 by omega);unfold CS.message;split
 ·exact g
 ·rename_i hn;have i:¬f.id∈c.seen.map (·.1):=λx=>by
   obtain⟨p,j,e⟩:=BT.1 x;refine hn ?_;have:(c.seen.any λp=>p.1==f.id)=true:=B7.2 ⟨p,j,by simp[e]⟩;rw[this];rfl
  have d:((c.seen++[(f.id,f.dl)]).filter λp => !old (max c.most f.id) p.1).Sublist (c.seen++[(f.id,f.dl)]):=Cc;exact
   {mtu:=h.mtu,win:=h.win,tot:=h.tot,grant:=h.grant,credit:=h.credit,ws:=h.ws,rs:=g.rs,waits:=h.waits,now:=g.now,next:=g.next,got:=h.got,fl:=h.fl,fly:=h.fly
    nd:=by
     refine List.Nodup.sublist (d.map _) ?_;rw[BO,C8];refine⟨h.nd,by simp,λa ha b hb e=>?_⟩;have:b=f.id:=by simpa using hb
     exact i (by rw[<-this,<-e];exact ha)
    ids:=λp j=>by
     rcases An.1 (d.subset j)with x|x
     ·exact h.ids p x
     ·have:p=(f.id,f.dl):=by simpa using x
      rw[this];exact n4
    sl:=by
     have:=d.length_le;have:=h.sl;simp only[AF,Aa]at *;omega
    most:=by have:=h.most;show max c.most f.id<=zB;omega
    cl:=by have:=h.cl;simp only[AF,Aa];omega }
def CS.Inv.takeOk(h:c.Inv T)(hT:T<=Dg)(hf:E6 f):NP c f:=by
 unfold Dg at hT;obtain⟨n1,n2,n3,n4,n5⟩:=hf.ns;have i:∀j,j<8->(c.rs j).high<=1099511627776/\(c.rs j).grant<=1099511627776:=λj d=>by
  have a:=(h.rs j d).hg;have b:=(h.rs j d).gr;exact⟨by omega,by omega⟩
 have hfl:=h.fl;have l:=h.now;have hsl:=h.sl;have hcl:=h.cl;refine⟨λe=>⟨hf.rngs2 e,hf.rl,by omega,λ_=>⟨(h.large _).ackedOk _,(h.ackedTo _).loseOk⟩⟩,λ_=>hf.st,λe=>?_,λ_=>hf.st,λ_=>⟨h.most,n4,n5,by unfold zB;omega,h.nd,h.ids,by omega,by omega⟩⟩;obtain⟨k,hk,g⟩:=hf.st;exact⟨k,hk,g,λj d=>(i j d).1,(i k hk).2,h.grant,(h.rs k hk).fin,hf.end4 e,hf.dl,(h.rs k hk).came,BX (h.rs k hk).bl⟩
def CS.Inv.take(h:c.Inv T)(hf:E6 f):(c.take f).2.Inv (T+1):=by
 have up:∀{c':CS},c'.Inv T->c'.Inv (T+1):=λx=>x.mono (by omega)
 obtain⟨n1,n2,n3,n4,n5⟩:=hf.ns;unfold CS.take;split
 ·exact up (h.acked _)
 ·split
  ·exact up (h.resetAt hf)
  ·split
   ·rename_i e;exact up (h.data hf e)
   ·split
    ·exact up
      {mtu:=h.mtu,win:=h.win,tot:=h.tot,grant:=h.grant,ws:=h.ws,rs:=h.rs,waits:=h.waits,now:=h.now,next:=h.next,got:=h.got,nd:=h.nd,ids:=h.ids,sl:=h.sl,most:=h.most,cl:=h.cl,fl:=h.fl,fly:=h.fly
       credit:=by have:=h.credit;show max c.credit f.lim<=zB;omega }
    ·split
     ·refine up (h.upW _ (λhk=>?_));have w:=h.ws _ hk;exact⟨w.sent,w.came,w.cut,w.len,by have:=w.credit;show max _ f.lim<=zB;omega,w.high⟩
     ·split
      ·exact h.message hf
      ·split
       ·exact up h
       ·exact up h
def CS.Inv.misc(h:c.Inv T)(cl:Nat)(sd an:Bool):({ c with closed:=cl,said:=sd,answer:=an }:CS).Inv T :=
 {mtu:=h.mtu,win:=h.win,tot:=h.tot,grant:=h.grant,credit:=h.credit,ws:=h.ws,rs:=h.rs,waits:=h.waits,now:=h.now,next:=h.next,got:=h.got,nd:=h.nd,ids:=h.ids,sl:=h.sl,most:=h.most,cl:=h.cl,fl:=h.fl,fly:=h.fly }
theorem CS.Inv.takesOk:∀(fs:List Db) {T:Nat} {c:CS},c.Inv T->T+fs.length<=Dg->(∀f∈fs,E6 f)->Lv fs c
 | [],_,_,_,_,_=>trivial
 | f::fs,T,c,h,hT,hf=>by
  simp only[AQ]at hT;have h1:=hf f Ae;exact⟨h.takeOk (by omega) h1,λ_=>CS.Inv.takesOk fs ((h.take h1).misc (c.take f).2.closed (c.take f).2.said _) (by omega) (λg hg=>hf g (Aj _ hg))⟩
theorem CS.Inv.takes:∀(fs:List Db) {T:Nat} {c:CS},c.Inv T->(∀f∈fs,E6 f)->(CS.takes fs c).2.Inv (T+fs.length)
 | [],_,_,h,_=>h
 | f::fs,T,c,h,hf=>by
  have h1:=h.take (hf f Ae);unfold CS.takes;split
  ·exact(h1.misc (c.take f).1 ((c.take f).1==13) (c.take f).2.answer).mono (by simp only[AQ];omega)
  ·have:=CS.Inv.takes fs (h1.misc (c.take f).2.closed (c.take f).2.said ((c.take f).2.answer||f.kind != 2)) (λg hg=>hf g (Aj _ hg));rw[show T+(f::fs).length=T+1+fs.length by simp only[AQ];omega];exact this
variable{bs:List UInt8}{pos:Nat}
def eO{r:Db×Nat}(hl:bs.length<1099511627776)(hp:pos<bs.length)(h:GB bs pos=some r):E6 r.1/\pos<r.2/\r.2<=bs.length:=by
 unfold GB at h;split at h
 ·cases h
 ·rename_i t _;rw[Ar]at h;obtain⟨k,hk,h⟩:=h;rw[Ar]at h;obtain⟨⟨f,p⟩,hb,h⟩:=h;simp only at h;split at h
  ·rename_i hs;cases h;obtain⟨_,a,b,c,d⟩:=UN hk (by omega) hb;exact⟨⟨hs,by show f.data.length<=_;omega,by show f.rngs.length<=_;omega⟩,by show pos<p;omega,b⟩
  ·cases h
theorem Sp(bs:List UInt8)(hl:bs.length<1099511627776):∀fuel num pos (d:List Db) n fs,pos<=bs.length->d.length<=pos->(∀f∈d,E6 f)->IC bs fuel num pos d = .ok n fs->n=num/\fs.length<=bs.length/\∀f∈fs,E6 f
 | 0,_,_,_,_,_,_,_,_,h=>by cases h
 | fuel+1,num,pos,d,n,fs,hp,ha,hf,h=>by
  unfold IC at h;split at h
  ·rename_i hlt;cases hr:GB bs pos with
   | none=>rw[hr]at h;cases h
   | some r =>
    rw[hr]at h;obtain⟨a,b,c⟩:=eO hl hlt hr;refine Sp bs hl fuel num r.2 _ n fs c ?_ (λf hm=>?_) h
    ·rw[AF,Aa];omega
    ·rcases An.1 hm with x|x
     ·exact hf f x
     ·rw[Ab.1 x];exact a
  ·cases h;exact⟨rfl,by omega,hf⟩
variable{fs:List Db}
def LG{n:Nat}(hl:bs.length<1099511627776)(h:dec bs = .ok n fs):n<=zB/\fs.length<=bs.length/\∀f∈fs,E6 f:=by
 unfold dec at h;split at h
 ·cases h
 ·split at h
  ·unfold FK at h;split at h
   ·cases h
   ·rename_i q hq;obtain⟨a,b,c⟩:=zV hq;split at h
    ·cases h
    ·obtain⟨d,e,g⟩:=Sp _ (by rw[AS];omega) _ _ _ _ _ _ b (AL _) (λf hf=>by cases hf) h;rw[AS]at e;exact⟨by unfold zB;omega,by omega,g⟩
  ·cases h
def CS.Inv.gotAdd(h:c.Inv T){n:Nat}(hn:n<=zB):({ c with got:=c.got.add n n }:CS).Inv T :=
 {mtu:=h.mtu,win:=h.win,tot:=h.tot,grant:=h.grant,credit:=h.credit,ws:=h.ws,rs:=h.rs,waits:=h.waits,now:=h.now,next:=h.next,nd:=h.nd,ids:=h.ids,sl:=h.sl,most:=h.most,cl:=h.cl,fl:=h.fl,fly:=h.fly
  got:=⟨h.got.1.add n hn,by
   have:=h.got.2;unfold Dh.add;split
   ·exact this
   ·split<;>exact this⟩ }
def CS.Inv.recvOk(h:c.Inv T)(hT:T+bs.length<=Dg):NO c bs:=by
 intro _ n fs hd;obtain⟨a,b,g⟩:=LG (by unfold Dg at hT;omega) hd;exact⟨h.got.1,a,λ_=>CS.Inv.takesOk fs (h.gotAdd a) (by omega) g⟩
def CS.Inv.receive(h:c.Inv T)(hT:T+bs.length<=Dg):(c.receive bs).2.Inv (T+bs.length):=by
 have up:∀{c':CS},c'.Inv T->c'.Inv (T+bs.length):=λx=>x.mono (by omega)
 unfold CS.receive;split
 ·exact up h
 ·split
  ·exact up h
  ·exact up (h.misc 8 c.said c.answer)
  ·rename_i n fs hd;obtain⟨a,b,g⟩:=LG (by unfold Dg at hT;omega) hd;split
   ·exact up h
   ·exact(CS.Inv.takes fs (h.gotAdd a) g).mono (by omega)
def CS.Inv.send(h:c.Inv T)(k:Int)(s:List UInt8):(c.send k s).2.Inv T:=by
 unfold CS.send;split
 ·exact h
 ·split
  ·exact h
  ·split
   ·exact h
   ·rename_i hs _ hl;obtain⟨k0,k8,_⟩:=LW (show c.stream k=0 by omega);refine h.upW _ (λhk=>?_);have w:=h.ws _ hk;have e:((c.ws k.toNat).b++s).length=(c.ws k.toNat).b.length+s.length:=AF;have hh:=w.high;exact⟨w.sent,w.came,w.cut,by show((c.ws k.toNat).b++s).length<=_;omega,w.credit,by show(c.ws k.toNat).high<=((c.ws k.toNat).b++s).length;omega⟩
def CS.Inv.finish(h:c.Inv T)(k:Int):(c.finish k).2.Inv T:=by
 unfold CS.finish;split
 ·exact h
 ·split
  ·exact h
  ·refine h.upW _ (λhk=>?_);have w:=h.ws _ hk;exact⟨w.sent,w.came,w.cut,w.len,w.credit,w.high⟩
theorem CS.Inv.reset(h:c.Inv T)(k keep:Int):(c.reset k keep).2.Inv T:=by
 unfold CS.reset;split
 ·exact h
 ·refine h.upW _ (λhk=>?_);have w:=h.ws _ hk;have hl:=w.len;have hh:=w.high;have hc:=w.cut;have hn:min keep.toNat (c.ws k.toNat).b.length<=(c.ws k.toNat).b.length:=Nat.min_le_right _ _;generalize min keep.toNat (c.ws k.toNat).b.length=n at hn;refine⟨w.sent,w.came,?_,w.len,w.credit,w.high⟩;unfold WS.give;simp only;unfold zB at *;cases(c.ws k.toNat).cut with
  | true =>
   simp only[Bool.not_true,DV,A5,Af];split<;>omega
  | false =>
   simp only[Bool.not_false,Bool.true_or,A5,BQ,BY];omega
def U8{id dl:Nat}{s:List UInt8}(h1:id<=zB)(h2:dl<=zB)(hl:s.length<=1048576):(E3 id dl s).Fits:=by
 have hb:=LU (E3 id dl s) rfl;have hd:(E3 id dl s).data.length=s.length:=rfl;refine⟨?_,rfl,by rw[hd];exact hl,by rw[hd]at hb;omega⟩;unfold zB at h1 h2;simp[zT,EM,Ff,ER,zN,E3];omega
def CS.Inv.datagram(h:c.Inv T)(id dl:Nat)(s:List UInt8):(c.datagram id dl s).2.Inv T:=by
 unfold CS.datagram;split
 ·exact h
 ·split
  ·exact h
  ·split
   ·exact h
   ·split
    ·exact h
    ·rename_i _ hb hm hw;have hmt:=h.mtu;exact
      {mtu:=h.mtu,win:=h.win,tot:=h.tot,grant:=h.grant,credit:=h.credit,ws:=h.ws,rs:=h.rs,now:=h.now,next:=h.next,got:=h.got,nd:=h.nd,ids:=h.ids,sl:=h.sl,most:=h.most,cl:=h.cl,fl:=h.fl,fly:=h.fly
       waits:=by
        have a:=h.waits;show(∀f∈(if c.now<=dl then c.waits++[E3 id dl s]else c.waits),f.Fits)/\(if c.now<=dl then c.waits++[E3 id dl s]else c.waits).length<=16;split
        ·refine⟨λf hf=>?_,by rw[AF,Aa];omega⟩;rcases An.1 hf with x|x
         ·exact a.1 f x
         ·rw[Ab.1 x];exact U8 (by omega) (by omega) (by omega)
        ·exact a }
def CS.Inv.datagramsOut(h:c.Inv T):c.datagramsOut.2.Inv T :=
 {mtu:=h.mtu,win:=h.win,tot:=h.tot,grant:=h.grant,credit:=h.credit,ws:=h.ws,rs:=h.rs,waits:=h.waits,now:=h.now,next:=h.next,got:=h.got,nd:=h.nd,ids:=h.ids,sl:=h.sl,most:=h.most,fl:=h.fl,fly:=h.fly
  cl:=AL _ }
theorem So(rs:zC):∀lo hi,lo<=(Dk rs lo hi).1:=by
 induction rs with
 | nil=>intro lo hi;exact AG _
 | cons r l ih =>
  intro lo hi;unfold Dk;split
  ·exact ih lo hi
  ·split
   ·exact AG _
   ·have:=ih (r.2+1) hi;omega
variable{H:Nat}
theorem SG(rs:zC):∀lo hi,lo<=H->(∀r∈rs,r.2<H)->(Dk rs lo hi).1<=H:=by
 induction rs with
 | nil=>intro lo hi h _;exact h
 | cons r l ih =>
  intro lo hi h a;have h0:=a r Ae;have h1:=λx hx=>a x (Aj _ hx)
  unfold Dk;split
  ·exact ih lo hi h h1
  ·split
   ·exact h
   ·exact ih _ hi (by omega) h1
def RS.Inv.lead{G:Nat}{x:RS}(h:x.Inv G):x.read<=(Dk x.came.rs x.read x.high).1/\(Dk x.came.rs x.read x.high).1<=x.high :=
 ⟨So _ _ _,SG _ _ _ h.rd (λr hr=>by obtain⟨j,hj,_,e⟩:=Ll hr;rw[<-e];exact h.in_ j hj)⟩
def RS.Inv.readOk{G:Nat}{x:RS}(h:x.Inv G)(hG:G<=1099511627776):LF x:=by
 obtain⟨a,b⟩:=h.lead;have h1:=h.hg;have h2:=h.gr;have h3:=h.bl;have h4:=h.came.rl;have h5:=h.came.most;exact⟨by omega,a,by omega,λk hk=>by have:=h.in_ k hk;omega,by omega,h.keep,h.fin⟩
def CS.Inv.readOk(h:c.Inv T)(hT:T<=Dg):∀k,k<8->LF (c.rs k):=λk hk=>(h.rs k hk).readOk (by unfold Dg at hT;omega)
def RS.Inv.readTo{G:Nat}{x:RS}(h:x.Inv G)(n:Nat):x.readTo n<=x.high:=by
 obtain⟨a,b⟩:=h.lead;have:=h.rd;unfold RS.readTo;split<;>omega
def CS.Inv.read(h:c.Inv T)(k most:Int):(c.read k most).2.Inv T:=by
 unfold CS.read;split
 ·exact h
 ·split
  ·exact h
  ·rename_i hs _;obtain⟨k0,k8,_⟩:=LW (show c.stream k=0 by omega);have x:=h.rs k.toNat (by omega);refine h.upR _ ⟨x.came,x.in_,x.bl,x.readTo _,x.hg,x.gr,x.fin,x.keep,λe=>?_⟩;have a:(c.rs k.toNat).stateAt ((c.rs k.toNat).readTo most.toNat)=2:=e;unfold RS.stateAt at a;split at a
   ·rename_i hh;simp only[AZ,Af]at hh;exact hh
   ·split at a<;>cases a
def CS.Inv.new{mtu window total:Nat}(h:64<=mtu/\mtu<=400)(hw:window<=4096)(ht:total<=4096):(CS.new mtu window total).Inv 0 :=
 {mtu:=⟨h.1,by show mtu<=_;omega⟩,win:=hw,tot:=ht
  grant:=by show total<=_;unfold zB;omega
  credit:=by show total<=_;unfold zB;omega
  ws:=λ_ _=>⟨I2 _ (by omega),I2 _ (by omega),⟨AG _,AL _,AL _⟩,AL _,by show window<=_;unfold zB;omega,AG _⟩
  rs:=λ_ _=>⟨I2 _ (by omega),λj hj=>absurd hj (BA j),rfl,AG _,AL _,by show window<=_;omega,AL _,AL _,λe=>by cases e⟩
  waits:=⟨λf hf=>(by cases hf),AL _⟩
  fl:=AL _
  fly:=λp a=>(by cases a)
  now:=AG _
  next:=AG _
  got:=⟨I2 _ (by omega),AG _⟩
  nd:=DP
  ids:=λp a=>(by cases a)
  sl:=AG _
  most:=AL _
  cl:=AG _ }
def HB(G:Nat)(c:CS):Prop:=∀k,k<8->(c.rs k).hopes=true->(c.rs k).used<=G
structure D0(G:Nat)(c c':CS):Prop where
 hd:c'.mtu=c.mtu/\c'.window=c.window/\c'.total=c.total/\c'.now=c.now/\c'.closed=c.closed/\c'.said=c.said/\c'.got=c.got/\c'.answer=c.answer
 tl:c'.credit=c.credit/\c'.largest=c.largest/\c'.lastID=c.lastID/\c'.anyID=c.anyID/\c'.seen=c.seen/\c'.most=c.most/\c'.came=c.came
 wl:c'.waits.length<=c.waits.length
 rs:∀k,k<8->∃g a,c'.rs k={ c.rs k with grant:=g,anew:=a }/\((g=(c.rs k).grant/\a=(c.rs k).anew)\/((c.rs k).used<=G/\g=max (c.rs k).grant ((c.rs k).used+c.window)))
def D0.refl(G:Nat)(c:CS):D0 G c c:=⟨⟨rfl,rfl,rfl,rfl,rfl,rfl,rfl,rfl⟩,⟨rfl,rfl,rfl,rfl,rfl,rfl,rfl⟩,AG _,λk _=>⟨(c.rs k).grant,(c.rs k).anew,rfl,.inl ⟨rfl,rfl⟩⟩⟩
def SF(x:RS)(g:Nat)(a:Bool):({ x with grant:=g,anew:=a }:RS).used=x.used:=rfl
def D0.trans{G:Nat}{d:CS}(h:D0 G c c')(k:D0 G c' d):D0 G c d:=by
 obtain⟨a1,f,a3,a4,a5,a6,a7,a8⟩:=h.hd;obtain⟨b1,b2,b3,b4,b5,b6,b7,b8⟩:=k.hd;obtain⟨c1,c2,c3,c4,c5,c6,c7⟩:=h.tl;obtain⟨d1,d2,d3,d4,d5,d6,d7⟩:=k.tl;refine⟨⟨b1.trans a1,b2.trans f,b3.trans a3,b4.trans a4,b5.trans a5,b6.trans a6,b7.trans a7,b8.trans a8⟩,⟨d1.trans c1,d2.trans c2,d3.trans c3,d4.trans c4,d5.trans c5,d6.trans c6,d7.trans c7⟩,AO k.wl h.wl,λq i=>?_⟩;obtain⟨g,a,e,hg⟩:=h.rs q i;obtain⟨g',a',e',b⟩:=k.rs q i;refine⟨g',a',by rw[e',e],?_⟩;rw[e,SF,f]at b;simp only at b;rcases hg with⟨rfl,rfl⟩|⟨u,rfl⟩
 ·exact b
 ·rcases b with⟨rfl,rfl⟩|⟨_,rfl⟩
  ·exact .inr ⟨u,rfl⟩
  ·exact .inr ⟨u,by omega⟩
def HB.but{G:Nat}(h:HB G c)(p:D0 G c c'):HB G c':=by
 intro k hk b;obtain⟨g,a,e,hg⟩:=p.rs k hk;rw[e]at b ⊢;rw[SF];rcases hg with⟨rfl,rfl⟩|⟨u,_⟩
 ·exact h k hk b
 ·exact u
variable{d:Dd}
theorem Vr{G:Nat}(h:HB G c):∀n k t,n+k=8->∀x,(ctlR c d n k t).1=some x->D0 G c x.1:=by
 intro n
 induction n with
 | zero=>intro k t _ x a;cases a
 | succ n ih =>
  intro k t hk x a;have hk8:k<8:=by omega
  have b:=ih (k+1) (min (t+(c.rs k).used) zB) (by omega);unfold ctlR at a;split at a
  ·rename_i hcond;simp only[AZ]at hcond;split at a
   ·cases a;refine⟨⟨rfl,rfl,rfl,rfl,rfl,rfl,rfl,rfl⟩,⟨rfl,rfl,rfl,rfl,rfl,rfl,rfl⟩,AG _,λj hj=>?_⟩;by_cases e:j=k
    ·subst e;refine⟨_,false,?_,.inr ⟨h j hj hcond.2,rfl⟩⟩;show upd c.rs j _ j=_;rw[ze]
    ·refine⟨(c.rs j).grant,(c.rs j).anew,?_,.inl ⟨rfl,rfl⟩⟩;show upd c.rs k _ j=_;rw[zd _ _ e]
   ·exact b x a
  ·exact b x a
theorem SE{G:Nat}:∀n k x,Eg c d n k=some x->D0 G c x.1:=by
 intro n
 induction n with
 | zero=>intro k x a;cases a
 | succ n ih =>
  intro k x a;unfold Eg at a;split at a
  ·split at a
   ·cases a;exact⟨⟨rfl,rfl,rfl,rfl,rfl,rfl,rfl,rfl⟩,⟨rfl,rfl,rfl,rfl,rfl,rfl,rfl⟩,AG _,(D0.refl G c).rs⟩
   ·exact ih _ x a
  ·exact ih _ x a
def gJ{G:Nat}(h:HB G c):∀x,c.control d=some x->D0 G c x.1:=by
 intro x a;unfold CS.control at a;split at a
 ·rename_i y hy;cases a;exact Vr h 8 0 c.total rfl _ hy
 ·unfold JW at a;split at a
  ·split at a
   ·cases a;exact⟨⟨rfl,rfl,rfl,rfl,rfl,rfl,rfl,rfl⟩,⟨rfl,rfl,rfl,rfl,rfl,rfl,rfl⟩,AG _,(D0.refl G c).rs⟩
   ·exact SE 8 0 x a
  ·exact SE 8 0 x a
variable{k:Nat}
def UI{G:Nat}{fin:Bool}:D0 G c (c.bytesAdd d k lo hi fin).2.1:=by
 unfold CS.bytesAdd;split
 ·exact D0.refl G c
 ·exact⟨⟨rfl,rfl,rfl,rfl,rfl,rfl,rfl,rfl⟩,⟨rfl,rfl,rfl,rfl,rfl,rfl,rfl⟩,AG _,(D0.refl G c).rs⟩
def Td{G:Nat}:D0 G c (c.bytesR d k lo hi).2.1:=by
 unfold CS.bytesR;split
 ·split
  ·exact D0.refl G c
  ·exact UI
 ·exact UI
def Yv{G:Nat}:D0 G c (c.bytes d k).2.1:=by
 unfold CS.bytes;split
 ·exact D0.refl G c
 ·split
  ·split
   ·exact D0.refl G c
   ·exact Td
  ·exact Td
theorem U6{G:Nat}(h:HB G c):∀q,D0 G c (c.put d q).2.1
 | 0=>by
  show D0 G c ((c.control d).getD (c,d)).1;cases hc:c.control d with
  | none=>exact D0.refl G c
  | some x=>exact gJ h x hc
 | 1=>by
  show D0 G c ((c.datagrams d).getD (c,d)).1;unfold CS.datagrams;cases hw:c.waits with
  | nil=>exact D0.refl G c
  | cons f l =>
   cases hd:d.add f with
   | none=>simp only[hd,Option.map_none];exact D0.refl G c
   | some d' =>
    simp only[hd,Ay];exact⟨⟨rfl,rfl,rfl,rfl,rfl,rfl,rfl,rfl⟩,⟨rfl,rfl,rfl,rfl,rfl,rfl,rfl⟩,by rw[hw];exact Bz _,(D0.refl G c).rs⟩
 | k+2=>Yv
variable{q:Nat}
theorem SD{G:Nat}:∀n (c:CS) (d:Dd),HB G c->D0 G c (CS.reps q n c d).1
 | 0,c,_,_=>D0.refl G c
 | n+1,c,d,h=>by
  have p:=U6 (d:=d) h q;unfold CS.reps;split
  ·exact p.trans (SD n _ _ (h.but p))
  ·exact p
theorem Sl{G:Nat}:∀n (c:CS) (d:Dd),HB G c->D0 G c (CS.fillN n c d).1
 | 0,c,_,_=>D0.refl G c
 | n+1,c,d,h=>by
  have p:=SD (q:=9-n) (d.room+1) c d h;unfold CS.fillN;exact p.trans (Sl n _ _ (h.but p))
structure Ej(d:Dd):Prop where
 fs:∀f∈d.fs,FS f
 fit:d.fs≠[]->d.b.length+4<=d.room
def FS.fits(h:f.Fits):FS f:=by
 have a:=h.sound;have hd:=h.data;unfold zT ER at a;simp only[AZ,Af]at a;refine⟨⟨f.stream.toNat,by omega,by omega⟩,λe=>⟨?_,by omega⟩⟩;have h4:=a.2;unfold zN at h4;rw[e]at h4;simp at h4;unfold zB;omega
def FS.ack(l:zC):FS (ackF l):=⟨⟨0,by decide,rfl⟩,λe=>absurd e (by simp[ackF])⟩
variable{d':Dd}
def Ej.add(h:Ej d)(hf:FS f)(ha:d.add f=some d'):Ej d':=by
 obtain⟨_,e2,e3,_,_,e6⟩:=Dd.add_some ha;refine⟨λg hg=>?_,λ_=>by omega⟩;rw[e2]at hg;rcases An.1 hg with x|x
 ·exact h.fs g x
 ·rw[Ab.1 x];exact hf
theorem Ej.put{r:Bool}(h:Ej d)(p:GJ c d r c' d'):Ej d':=by
 cases r with
 | true =>
  obtain⟨f,hf,_,ha⟩:=p.yes rfl;exact h.add (FS.fits hf) ha
 | false =>
  obtain⟨_,e|e⟩:=p.no rfl
  ·rw[e];exact h
  ·rw[e];exact⟨h.fs,h.fit⟩
theorem Ej.reps(a:q<10):∀n (c:CS) (d:Dd),c.Ok->Ej d->Ej (CS.reps q n c d).2
 | 0,_,_,_,h=>h
 | n+1,c,d,hc,h=>by
  have p:=Lr (d:=d) hc a;unfold CS.reps;split
  ·exact Ej.reps a n _ _ p.ok (h.put p)
  ·exact h.put p
theorem Ej.fillN:∀n (c:CS) (d:Dd),n<=10->c.Ok->d.Ok->Ej d->Ej (CS.fillN n c d).2
 | 0,_,_,_,_,_,h=>h
 | n+1,c,d,hn,hc,hd,h=>by
  have r:=Oz (q:=9-n) (by omega) (d.room+1) c d hc hd;unfold CS.fillN;exact Ej.fillN n _ _ (by omega) r.1 r.2.1 (h.reps (by omega) (d.room+1) c d hc)
theorem Ej.told(h:Ej d)(l:zC):Ej (zr d l).1:=by
 unfold zr;split
 ·exact h
 ·show Ej ((d.add _).getD d);cases ha:d.add (ackF (l.take (Ew d l l.length)))with
  | none=>exact h
  | some d'=>exact h.add (FS.ack _) ha
def Lf(l:List Df):Prop:=∀p∈l,p.n<=zB/\p.at_<=zB/\p.fs.length<=1099511627776/\∀f∈p.fs,FS f
structure Q2(G:Nat)(c:CS)(l:zC)(n:Nat)(r:List (List UInt8)×CS):Prop where
 but:D0 G c r.2
 ok:r.2.Ok
 fl:r.2.flight.length<=12
 fly:Lf r.2.flight
 next:r.2.next<=c.next+Fv c l
 z:r.1.length<=n/\∀x∈r.1,x.length<=c.mtu
def SC(n:Nat):(EG n).length=4:=rfl
theorem Sk{G:Nat}:∀n (c:CS) (l:zC),Gs c l->HB G c->Lf c.flight->c.now<=zB->Q2 G c l n (CS.pkts n c l)
 | 0,c,l,h,_,hf,_=>⟨D0.refl G c,h.ok,h.fl,hf,by show c.next<=_;omega,AG _,λx d=>by cases d⟩
 | n+1,c,l,h,hb,hf,hn=>by
  obtain⟨m,r2,o,i,q,j,r7⟩:=h.round;have t:=Ng (Ix h.ok) l;have g:D0 G c (c.pkFill (zr c.pkDraft l).1).1:=by
   unfold CS.pkFill;split
   ·exact Sl 10 c _ hb
   ·exact D0.refl G c
  have df:Ej (c.pkFill (zr c.pkDraft l).1).2/\(c.pkFill (zr c.pkDraft l).1).2.room=c.mtu:=by
   have h0:Ej (zr c.pkDraft l).1:=Ej.told ⟨λf hf=>(by cases hf),λx=>absurd rfl x⟩ l;unfold CS.pkFill;split
   ·exact⟨h0.fillN 10 c _ (AG _) h.ok m,(Pe 10 c _ (AG _) h.ok m).2.2.1.trans t.2.1⟩
   ·exact⟨h0,t.2.1⟩
  unfold CS.pkts;split
  ·exact⟨g,r2,by show(c.pkFill _).1.flight.length<=12;rw[j];exact h.fl,by show Lf (c.pkFill _).1.flight;rw[j];exact hf,by show(c.pkFill _).1.next<=_;rw[i];omega,AL _,λx d=>by cases d⟩
  ·rename_i hne;obtain⟨k1,k2⟩:=r7 hne;have k:D0 G c ((c.pkFill (zr c.pkDraft l).1).1.pkDone (c.pkFill (zr c.pkDraft l).1).2):=⟨g.hd,g.tl,g.wl,g.rs⟩;have d:=h.next;have fd:Lf ((c.pkFill (zr c.pkDraft l).1).1.pkDone (c.pkFill (zr c.pkDraft l).1).2).flight:=by
    show Lf (if (c.pkFill (zr c.pkDraft l).1).2.wants then(c.pkFill (zr c.pkDraft l).1).1.flight++[⟨(c.pkFill (zr c.pkDraft l).1).1.next,(c.pkFill (zr c.pkDraft l).1).1.now,(c.pkFill (zr c.pkDraft l).1).2.fs⟩]else(c.pkFill (zr c.pkDraft l).1).1.flight);rw[i,q,j];split
    ·intro p hp;rcases An.1 hp with x|x
     ·exact hf p x
     ·rw[Ab.1 x];have:=o.fs;have:=o.b;exact⟨by show c.next<=_;omega,hn,by show(c.pkFill _).2.fs.length<=_;omega,df.1.fs⟩
    ·exact hf
   have a:=Sk n _ _ k1 (hb.but k) fd (by show(c.pkFill _).1.now<=_;rw[q];exact hn);have e1:((c.pkFill (zr c.pkDraft l).1).1.pkDone (c.pkFill (zr c.pkDraft l).1).2).next=c.next+1:=by show(c.pkFill _).1.next+1=_;rw[i]
   have i1:=a.next;rw[e1]at i1;refine⟨k.trans a.but,a.ok,a.fl,a.fly,?_,?_,λx d=>?_⟩
   ·show(CS.pkts n _ _).2.next<=_;omega
   ·show(CS.pkts n _ _).1.length+1<=_;have:=a.z.1;omega
   ·rcases BP.1 d with e|e
    ·rw[e];have:=df.1.fit hne;have:=df.2;unfold EP;rw[AF,SC];omega
    ·have:=a.z.2 x e;have e2:=k.hd.1;omega
def RS.Inv.again{G b:Nat}{x:RS}(h:x.Inv G)(g:Nat)(a:Bool)(h1:x.grant<=g)(h2:g<=b):({ x with grant:=g,anew:=a }:RS).Inv b:=⟨h.came,h.in_,h.bl,h.rd,AO h.hg h1,h2,h.fin,h.keep,h.st⟩
def CS.Inv.acks(h:c.Inv T):c.acks.2.Inv T/\Gt c.acks.1/\c.acks.1.length<=8:=by
 unfold CS.acks;split
 ·refine⟨h.misc c.closed c.said false,h.got.1.desc,?_⟩;have:=h.got.1.rl;have:=h.got.2;show c.got.rs.reverse.length<=8;rw[List.length_reverse];omega
 ·exact⟨h,λi hi=>absurd hi (BA i),AL _⟩
def CS.Inv.pkOk(h:c.Inv T)(hT:T<=Dg):Gs c.acks.2 c.acks.1:=by
 obtain⟨a,b,d⟩:=h.acks;have hn:=a.next;have hf:=a.fl;unfold Dg at hT;exact⟨a.ok (by unfold Dg;omega),a.mtu.1,b,by omega,hf,by unfold Fv zB;omega⟩
def CS.Inv.hb(h:c.Inv T)(hT:T<=Dg):HB (4096*(T+1)) c:=λk hk hh=>((h.rs k hk).used (by unfold Dg at hT;omega)).2 hh
def CS.Inv.pkPost(h:c.Inv T)(e:T<=Dg):Q2 (4096*(T+1)) c.acks.2 c.acks.1 (12-c.flight.length+c.acks.1.length+1) c.packets:=by
 obtain⟨a,b,d⟩:=h.acks;exact Sk _ _ _ (h.pkOk e) (a.hb e) a.fly (by have:=a.now;unfold Dg at e;unfold zB;omega)
def CS.Inv.packets(h:c.Inv T)(hT:T<=Dg):c.packets.2.Inv (T+1):=by
 have p:=h.pkPost hT;obtain⟨a,_,d⟩:=h.acks;obtain⟨a1,a2,a3,a4,a5,a6,a7,a8⟩:=p.but.hd;obtain⟨c1,c2,c3,c4,b,c6,c7⟩:=p.but.tl;have o:=p.ok;exact
  {mtu:=by rw[a1];exact a.mtu
   win:=o.win
   tot:=o.tot
   grant:=o.grant
   credit:=o.credit
   ws:=o.ws
   rs:=λk hk=>by
    obtain⟨g,x,e,hg⟩:=p.but.rs k hk;rw[e];have r:=a.rs k hk;have hw:=a.win;have hgr:=r.gr;refine r.again g x ?_ ?_
    ·rcases hg with⟨rfl,_⟩|⟨_,rfl⟩<;>omega
    ·rcases hg with⟨rfl,_⟩|⟨u,rfl⟩<;>omega
   waits:=⟨o.waits,AO p.but.wl a.waits.2⟩
   fl:=p.fl
   fly:=p.fly
   now:=by rw[a4];have:=a.now;omega
   next:=by have:=p.next;have:=a.next;have:=a.fl;unfold Fv at *;omega
   got:=by rw[a7];exact a.got
   nd:=by rw[b];exact a.nd
   ids:=by rw[b];exact a.ids
   sl:=by rw[b];have:=a.sl;omega
   most:=by rw[c6];exact a.most
   cl:=by rw[c7];have:=a.cl;omega }
def FM(e:EN):Array Value:=#[.string (zq e.wrote),.bool e.fin,.bool e.cut,.int .i64 e.keep,.int .i64 e.read,.int .i64 e.state]
def Jq(s:SN):Array Value:=#[.int .u64 s.id,.int .u64 s.dl,.string (zq s.data),.bool s.came]
def zK(l:List (Nat×List UInt8)):List Value:=l.flatMap λp=>[.int .i64 p.1,.string (zq p.2)]
def Ee(b:Nat):Value:=.pointer (some ⟨b,0,none⟩)
theorem ix(l:List (Nat×List UInt8)):(zK l).length=l.length*2:=by
 induction l with
 | nil=>rfl
 | cons p l ih =>
  have e:zK (p::l)=[.int .i64 p.1,.string (zq p.2)]++zK l:=rfl;rw[e,AF,ih];simp only[AQ,AX];omega
structure NV where
 x:Value
 ev:Value
 gv:Value
 nx:Value
 bg:Value
 ct:Value
 b:Nat->Nat
 V:Nat->CV
 er:Nat->Value
 eb:Nat->Nat->Nat
 gr:Nat->Value
 gb:Nat->List Nat
def LY(n:NS)(M:NV):Array Value:=#[M.x,M.ev,M.gv,M.nx,.int .u64 n.now,.int .i64 n.mtu,.int .i64 n.window,.int .i64 n.total,M.bg,M.ct]
structure EX(tag:Nat->Nat×Nat)(r e sz:Nat)(v:Value)(n:Nat)(xs:List Value)(W:World):Prop where
 own:W.ownsRow 0 e sz v n xs
 tag:∀g,v.ownBlock=some g->tag g=(3,r)
structure Ef(tag:Nat->Nat×Nat)(r b:Nat)(cs:Array Value)(t:Nat)(W:World):Prop where
 obj:W.heap[b]?=some (.cells cs t (0,0))
 tag:tag b=(3,r)
section
variable {S:Nat->Prop} {tag tag':Nat->Nat×Nat} {W W':World}
variable{e r:Nat}{v:Value}
def EX.mod{n:Nat}(h:EX tag r e sz v n xs W)(m:DW S W W')(hS:∀g,S g->tag g≠(3,r))(ht:∀g,tag g≠(0,0)->tag' g=tag g):EX tag' r e sz v n xs W' :=
 ⟨m.owns h.own (λg hg x=>hS g x (h.tag g hg)),λg hg=>by rw[ht g (by rw[h.tag g hg];simp),h.tag g hg]⟩
variable{cs:Array Value}{t:Nat}
def Ef.mod(h:Ef tag r b cs t W)(m:DW S W W')(hS:∀g,S g->tag g≠(3,r))(ht:∀g,tag g≠(0,0)->tag' g=tag g):Ef tag' r b cs t W' :=
 ⟨m.obj (λx=>hS b x h.tag) h.obj,by rw[ht b (by rw[h.tag];simp),h.tag]⟩
variable{j:Nat}
def Ef.cell(h:Ef tag r b cs t W)(hv:cs[j]?=some v):W.cell? ⟨b,j,none⟩=some v:=za h.obj hv
def Ef.fz(h:Ef tag r b cs t W)(j:Nat):W.frozen? ⟨b,j,none⟩=false:=zf h.obj
end
structure Du(tag:Nat->Nat×Nat)(nb:Nat)(n:NS)(M:NV)(W:World):Prop where
 obj:Ef tag 0 nb (LY n M) 48 W
 x:EX tag 1 69 1 M.x 2 [Ee (M.b 0),Ee (M.b 1)] W
 ev:EX tag 2 87 1 M.ev 2 [M.er 0,M.er 1] W
 gv:EX tag 3 49 1 M.gv 2 [M.gr 0,M.gr 1] W
 nx:EX tag 4 43 1 M.nx 2 [.int .u64 (n.next 0:Int),.int .u64 (n.next 1:Int)] W
 ct:EX tag 5 43 1 M.ct 2 [.int .u64 (n.count 0:Int),.int .u64 (n.count 1:Int)] W
 bg:EX tag 6 62 2 M.bg n.bag.length (zK n.bag) W
 er:∀i,i<2->EX tag (7+i) 86 1 (M.er i) 8 ((List.range 8).map λk=>Ee (M.eb i k)) W
 en:∀i,i<2->∀k,k<8->Ef tag (20+8*i+k) (M.eb i k) (FM (n.e i k)) 89 W
 gr:∀i,i<2->EX tag (9+i) 52 1 (M.gr i) (M.gb i).length ((M.gb i).map Ee) W
 gl:∀i,i<2->(M.gb i).length=(n.g i).length
 gn:∀i,i<2->∀(j b:Nat) (s:SN),(M.gb i)[j]?=some b->(n.g i)[j]?=some s->Ef tag (40+2*j+i) b (Jq s) 51 W
structure Jb(n n':NS):Prop where
 hd:n'.mtu=n.mtu/\n'.window=n.window/\n'.total=n.total/\n'.now=n.now/\n'.bag=n.bag
 e:∀i,i<2->n'.e i=n.e i
 g:∀i,i<2->n'.g i=n.g i
 ct:∀i,i<2->n'.next i=n.next i/\n'.count i=n.count i
def Jb.refl(n:NS):Jb n n:=⟨⟨rfl,rfl,rfl,rfl,rfl⟩,λ_ _=>rfl,λ_ _=>rfl,λ_ _=>⟨rfl,rfl⟩⟩
def Jb.setC(n:NS)(i:Nat)(c:CS):Jb n (n.setC i c):=⟨⟨rfl,rfl,rfl,rfl,rfl⟩,λ_ _=>rfl,λ_ _=>rfl,λ_ _=>⟨rfl,rfl⟩⟩
variable{M:NV}{n:NS}{nb:Nat}
def Du.same{n':NS}(h:Du tag nb n M W)(s:Jb n n')(V:Nat->CV):Du tag nb n' { M with V:=V } W:=by
 obtain⟨a1,a2,a3,a4,a5⟩:=s.hd;exact
  {obj:=by
    have e:LY n' { M with V:=V }=LY n M:=by unfold LY;rw[a1,a2,a3,a4]
    rw[e];exact h.obj
   x:=h.x
   ev:=h.ev
   gv:=h.gv
   nx:=by rw[(s.ct 0 (by decide)).1,(s.ct 1 (by decide)).1];exact h.nx
   ct:=by rw[(s.ct 0 (by decide)).2,(s.ct 1 (by decide)).2];exact h.ct
   bg:=by rw[a5];exact h.bg
   er:=h.er
   en:=λi hi k hk=>by rw[s.e i hi];exact h.en i hi k hk
   gr:=h.gr
   gl:=λi hi=>by rw[s.g i hi];exact h.gl i hi
   gn:=λi hi=>by rw[s.g i hi];exact h.gn i hi }
variable{S:Nat->Prop}{tag':Nat->Nat×Nat}
def Du.mod(h:Du tag nb n M W)(m:DW S W W')(hS:∀g,S g->(tag g).1≠3)(a:∀g,tag g≠(0,0)->tag' g=tag g):Du tag' nb n M W':=by
 have q:∀{r:Nat} g,S g->tag g≠(3,r):=λg x e=>hS g x (by rw[e])
 exact
  {obj:=h.obj.mod m q a
   x:=h.x.mod m q a
   ev:=h.ev.mod m q a
   gv:=h.gv.mod m q a
   nx:=h.nx.mod m q a
   ct:=h.ct.mod m q a
   bg:=h.bg.mod m q a
   er:=λi hi=>(h.er i hi).mod m q a
   en:=λi hi k hk=>(h.en i hi k hk).mod m q a
   gr:=λi hi=>(h.gr i hi).mod m q a
   gl:=h.gl
   gn:=λi hi j b s hb hs=>(h.gn i hi j b s hb hs).mod m q a }
structure De(w:World)(tag:Nat->Nat×Nat)(nb:Nat)(n:NS)(M:NV)(W:World):Prop where
 o:Du tag nb n M W
 cn:∀i,i<2->zg tag (i+1) (M.b i) (n.c i) (M.V i) W
 env:Dx 1 tag W
 nd:∀i,i<2->Fn (i+1) tag
 mod:DW DX w W
 t1:∀g,tag g≠(0,0)->w.heap.size<=g
def zs(w:World)(tag:Nat->Nat×Nat)(nb:Nat)(W:World)(n':NS)(W':World):Prop :=
 ∃tag' M',De w tag' nb n' M' W'/\(∀g,g<W.heap.size->tag' g=tag g)/\DW (λg=>tag g≠(0,0)) W W'
variable{j:Nat}
def Dx.to(h:Dx i tag W)(hj:0<j):Dx j tag W:=⟨h.ok,hj,h.err,h.tab,h.g0,h.g1⟩
def De.left(h:De w tag nb n M W):zs w tag nb W n W:=⟨tag,M,h,λ_ _=>rfl,DW.refl _ _⟩
variable{W'':World}
def zs.trans{n':NS}(h1:∀g,g<W.heap.size->tag' g=tag g)(h2:DW (λg=>tag g≠(0,0)) W W')(h:zs w tag' nb W' n' W''):zs w tag nb W n' W'':=by
 obtain⟨t,M',a,b,c⟩:=h;refine⟨t,M',a,λg hg=>(b g (Aw hg h2.size)).trans (h1 g hg),h2.then c (λg hg=>?_)⟩;by_cases q:g<W.heap.size
 ·exact .inl (by rw[<-h1 g q];exact hg)
 ·exact .inr (by omega)
def De.free(h:De w tag nb n M W)(m:DW S W W')(b:∀g,S g->W.heap.size<=g):De w tag nb n M W':=by
 have q:=λg hg=>h.env.ok g (b g hg)
 have a:DW DX W W':=m.mono (λg hg=>.inr (b g hg));exact⟨h.o.mod a (λ_ x=>x.elim) (λ_ _=>rfl),λi hi=>(h.cn i hi).mod0 a,h.env.mod0 a,h.nd,h.mod.trans a,h.t1⟩
def Dn.nodr(L:Dn tag i b W c' W')(hi:0<i)(hn:Fn i tag):∃tag' V',zg tag' i b c' V' W'/\Dj i tag tag' W W'/\DW (λg=>(tag g).1=i) W W'/\Fn i tag':=by
 obtain⟨t,V',a,e,m⟩:=L;refine⟨λg=>if (t g).1=i/\90<=(t g).2 then(0,0)else t g,V',a.retag (λg r d hg=>?_),⟨λg hg=>?_,λg hg=>?_,λg hg=>?_⟩,m,λg r d=>?_⟩
 ·rw[AH (by rw[hg];simp only;omega),hg]
 ·show(if _ then _ else _)=_;rw[e.old g hg,AH];rintro⟨x,y⟩;exact hn g (tag g).2 y (by rw[<-x])
 ·by_cases c:(t g).1=i/\90<=(t g).2
  ·exact .inr (AN c)
  ·have y:(if (t g).1=i/\90<=(t g).2 then((0,0):Nat×Nat)else t g)=t g:=AH c;simp only[y];exact e.new g hg
 ·show(if _ then _ else _)=_;split
  ·rfl
  ·exact e.z g hg
 ·show(if _ then _ else _)≠_;split
  ·intro x;have:=A0 Prod.fst x;simp only at this;omega
  ·rename_i c;intro x;rw[x]at c;exact c ⟨rfl,d⟩
def Fn.other(h:Fn j tag)(e:Dj i tag tag' W W')(hj:0<j)(a:j≠i):Fn j tag':=by
 intro g r hr x;by_cases q:g<W.heap.size
 ·rw[e.old g q]at x;exact h g r hr x
 ·rcases e.new g (by omega)with y|y
  ·rw[x]at y;exact a y
  ·rw[x]at y;have:=A0 Prod.fst y;simp only at this;omega
def De.conn(h:De w tag nb n M W)(hi:i<2)(hc:Dn tag (i+1) (M.b i) W c' W'):∃tag' V',De w tag' nb (n.setC i c') { M with V:=V' } W'/\(∀g,g<W.heap.size->tag' g=tag g)/\DW (λg=>(tag g).1=i+1) W W':=by
 obtain⟨tag',V',a,e,m,d⟩:=hc.nodr (by omega) (h.nd i hi);have old:∀g,tag g≠(0,0)->tag' g=tag g:=λg hg=>by
  by_cases q:g<W.heap.size
  ·exact e.old g q
  ·exact absurd (h.env.ok g (by omega)) hg
 refine⟨tag',upd M.V i V',⟨(h.o.mod m (λg hg x=>by omega) old).same (Jb.setC n i c') _,λj f=>?_,?_,λj f=>?_,h.mod.then m (λg hg=>?_),λg hg=>?_⟩,e.old,m⟩
 ·by_cases q:j=i
  ·subst q;show zg tag' (j+1) (M.b j) (upd n.c j c' j) (upd M.V j V' j) W';rw[ze,ze];exact a
  ·show zg tag' (j+1) (M.b j) (upd n.c i c' j) (upd M.V i V' j) W';rw[zd _ _ q,zd _ _ q];exact(h.cn j f).mod m (λg hg x=>by omega) (λg hg=>old g (λx=>by rw[x]at hg;simp at hg))
 ·exact((h.env.to (j:=i+1) (by omega)).left e m).to (by omega)
 ·by_cases q:j=i
  ·subst q;exact d
  ·exact(h.nd j f).other e (by omega) (by omega)
 ·refine .inr (h.t1 g (λx=>?_));rw[x]at hg;simp at hg
 ·by_cases q:g<W.heap.size
  ·exact h.t1 g (by rw[<-e.old g q];exact hg)
  ·have:=h.mod.size;omega
structure EN.Inv(e:EN):Prop where
 wl:e.wrote.length<=2048
 rd:e.read<=e.wrote.length
 keep:e.keep<=2048
structure NS.Inv(T:Nat)(n:NS):Prop where
 mtu:64<=n.mtu/\n.mtu<=400
 win:(16<=n.window/\n.window<=4096)/\(16<=n.total/\n.total<=4096)
 c:∀i,i<2->(n.c i).Inv T
 e:∀i,i<2->∀k,k<8->(n.e i k).Inv
 now:n.now<=T
 next:∀i,i<2->n.next i<=4*T
 count:∀i,i<2->n.count i<=32*T
 gl:∀i,i<2->(n.g i).length<=T
 g:∀i,i<2->∀s∈n.g i,s.id<=4*T/\s.dl<=T+8/\s.data.length<=400
 bl:n.bag.length<=32*T
 bag:∀p∈n.bag,p.1<2/\0<p.2.length/\p.2.length<=400
def NS.Inv.mono{b:Nat}(h:n.Inv T)(a:T<=b):n.Inv b :=
 ⟨h.mtu,h.win,λi hi=>(h.c i hi).mono a,h.e,AO h.now a,λi hi=>by have:=h.next i hi;omega,λi hi=>by have:=h.count i hi;omega,λi hi=>AO (h.gl i hi) a,λi hi s hs=>by have:=h.g i hi s hs;omega,by have:=h.bl;omega,h.bag⟩
def NS.Inv.setC(h:n.Inv T)(i:Nat)(hc:i<2->c.Inv T):(n.setC i c).Inv T :=
 ⟨h.mtu,h.win,λj a=>by
  show(upd n.c i c j).Inv T;by_cases q:j=i
  ·subst q;rw[ze];exact hc a
  ·rw[zd _ _ q];exact h.c j a,h.e,h.now,h.next,h.count,h.gl,h.g,h.bl,h.bag⟩
def NS.Inv.setE(h:n.Inv T)(i k:Nat){e:EN}(he:i<2->k<8->e.Inv):(n.setE i k e).Inv T :=
 ⟨h.mtu,h.win,h.c,λj a q b=>by
  show(upd n.e i (upd (n.e i) k e) j q).Inv;by_cases x:j=i
  ·subst x;rw[ze];by_cases y:q=k
   ·subst y;rw[ze];exact he a b
   ·rw[zd _ _ y];exact h.e j a q b
  ·rw[zd _ _ x];exact h.e j a q b,h.now,h.next,h.count,h.gl,h.g,h.bl,h.bag⟩
def NS.Inv.send(h:n.Inv T)(i k:Nat)(s:List UInt8):(n.send i k s).2.Inv T:=by
 have hc:=h.setC i (c:=((n.c i).send k s).2) (λhi=>(h.c i hi).send _ _);unfold NS.send;split
 ·exact hc
 ·split
  ·exact hc
  ·refine hc.setE i k (λhi hk=>?_);have e:=h.e i hi k hk;exact⟨by show((n.e i k).wrote++s).length<=_;rw[AF];omega,by have:=e.rd;show _<=((n.e i k).wrote++s).length;rw[AF];show(n.e i k).read<=_;omega,e.keep⟩
def NS.Inv.finish(h:n.Inv T)(i k:Nat):(n.finish i k).2.Inv T:=by
 have hc:=h.setC i (c:=((n.c i).finish k).2) (λhi=>(h.c i hi).finish _);unfold NS.finish;split
 ·exact hc
 ·refine hc.setE i k (λhi hk=>?_);have e:=h.e i hi k hk;exact⟨e.wl,e.rd,e.keep⟩
def NS.Inv.reset(h:n.Inv T)(i k:Nat)(b:Int):(n.reset i k b).2.Inv T:=by
 unfold NS.reset NS.resetK;refine(h.setC i (λhi=>(h.c i hi).reset _ _)).setE i k (λhi hk=>?_);have e:=h.e i hi k hk;refine⟨e.wl,e.rd,?_⟩;have:=zQ b ((n.e i k).wrote.length+1) (Nat.succ_pos _);have:=e.wl;have:=e.keep;show(if _ then _ else _)<=_;split<;>omega
def NS.Inv.datagram(h:n.Inv T)(i:Nat)(s:Dm):(n.datagram i s).2.Inv (T+1):=by
 have k:=h.mono (Bz T);unfold NS.datagram;split
 ·exact(h.setC i (λhi=>(h.c i hi).datagram _ _ _)).mono (Bz T)
 ·have hc:=(h.setC i (c:=((n.c i).datagram (n.next i) (n.now+DZ s.a 9) s.s).2) (λhi=>(h.c i hi).datagram _ _ _)).mono (Bz T);split
  ·exact hc
  ·split
   ·exact hc
   ·rename_i hm _ _;have p9:=zQ s.a _ (show 0<9 by omega);have p3:=zQ s.b _ (show 0<3 by omega);have hn:=h.now;have hmt:=h.mtu;refine⟨hc.mtu,hc.win,hc.c,hc.e,hc.now,λj d=>?_,hc.count,λj d=>?_,λj d x hx=>?_,hc.bl,hc.bag⟩
    ·show upd n.next i _ j<=_;by_cases q:j=i
     ·subst q;have:=h.next j d;rw[ze];omega
     ·rw[zd _ _ q];exact k.next j d
    ·show(upd n.g i _ j).length<=_;by_cases q:j=i
     ·subst q;have:=h.gl j d;rw[ze,AF,Aa];omega
     ·rw[zd _ _ q];exact k.gl j d
    ·have f:x∈upd n.g i (n.g i++[⟨n.next i,n.now+DZ s.a 9,s.s,false⟩]) j:=hx;by_cases q:j=i
     ·subst q;rw[ze]at f;rcases An.1 f with y|y
      ·exact k.g j d x y
      ·rw[Ab.1 y];have:=h.next j d;exact⟨by show n.next j<=_;omega,by show n.now+DZ s.a 9<=_;omega,by show s.s.length<=_;omega⟩
     ·rw[zd _ _ q]at f;exact k.g j d x f
def NS.Inv.tick(h:n.Inv T):n.tick.Inv (T+1):=by
 have a:=h.mono (Bz T);refine⟨a.mtu,a.win,λi hi=>?_,a.e,by have:=h.now;show n.now+1<=_;omega,a.next,a.count,a.gl,a.g,a.bl,a.bag⟩;show(upd (upd n.c 0 (n.c 0).tick) 1 (n.c 1).tick i).Inv _;by_cases q:i=1
 ·subst q;rw[ze];exact(h.c 1 hi).tick
 ·have:i=0:=by omega
  subst this;rw[zd _ _ q,ze];exact(h.c 0 hi).tick
def NS.Inv.drop(h:n.Inv T)(k:Nat):(n.drop k).Inv T:=by
 refine⟨h.mtu,h.win,h.c,h.e,h.now,h.next,h.count,h.gl,h.g,?_,λp hp=>?_⟩
 ·have:=h.bl;show(n.bag.take k++n.bag.drop (k+1)).length<=_;rw[AF,AS,Ad];omega
 ·rcases An.1 hp with x|x
  ·exact h.bag p (Be x)
  ·exact h.bag p (CE x)
theorem Va{b:List UInt8}{n:Nat}(h:dec b = .ok n fs):0<b.length:=by
 cases b with
 | nil=>revert h;unfold dec;simp
 | cons x l=>simp
theorem OC(i:Nat):∀(l:List (List UInt8)) (n:NS),∃c' m,(NS.flushL i l n).2={ n with count:=upd n.count i c',bag:=n.bag++m }/\c'<=n.count i+l.length/\m.length<=l.length/\∀p∈m,p.1=1-i/\0<p.2.length/\p.2.length<=n.mtu
 | [],n=>⟨n.count i,[],by show n=_;rw[Fj,Bh],AG _,AG _,λp a=>(by cases a)⟩
 | b::l,n=>by
  have same:∃c' m,n={ n with count:=upd n.count i c',bag:=n.bag++m }/\c'<=n.count i+(b::l).length/\m.length<=(b::l).length/\∀p∈m,p.1=1-i/\0<p.2.length/\p.2.length<=n.mtu :=
   ⟨n.count i,[],by rw[Fj,Bh],by omega,AL _,λp a=>(by cases a)⟩
  unfold NS.flushL;cases hd:dec b with
  | sum=>exact same
  | bad p=>exact same
  | ok num fs =>
   simp only;split
   ·exact same
   ·rename_i hc;split
    ·exact⟨n.count i+1,[],by rw[Bh],by simp,AL _,λp a=>(by cases a)⟩
    ·obtain⟨c',m,h1,h2,h3,h4⟩:=OC i l { n with count:=upd n.count i (n.count i+1),bag:=n.bag++[(1-i,b)] };refine⟨c',(1-i,b)::m,?_,?_,by simp only[AQ];omega,λp a=>?_⟩
     ·rw[h1];have e:upd (upd n.count i (n.count i+1)) i c'=upd n.count i c':=by
       funext j;by_cases q:j=i
       ·subst q;rw[ze,ze]
       ·rw[zd _ _ q,zd _ _ q,zd _ _ q]
      simp only[e,Av,List.singleton_append]
     ·simp only[ze]at h2;simp only[AQ];omega
     ·rcases BP.1 a with x|x
      ·rw[x];exact⟨rfl,Va hd,by show b.length<=_;omega⟩
      ·exact h4 p x
def NS.Inv.flush(k:T<=Dg)(h:n.Inv T)(hi:i<2):(n.flush i).2.Inv (T+1):=by
 have f:=(h.c i hi).pkPost k;have ha:=(h.c i hi).acks.2.2;have hl:(n.c i).packets.1.length<=21:=by have:=f.z.1;omega
 have hc:=(h.mono (Bz T)).setC i (c:=(n.c i).packets.2) (λ_=>(h.c i hi).packets k);unfold NS.flush;obtain⟨c',m,h1,h2,h3,h4⟩:=OC i (n.c i).packets.1 (n.setC i (n.c i).packets.2);rw[h1];have hct:=h.count i hi;have hb:=h.bl;have hm:=h.mtu;have e1:(n.setC i (n.c i).packets.2).count=n.count:=rfl;have e2:(n.setC i (n.c i).packets.2).bag=n.bag:=rfl;have e3:(n.setC i (n.c i).packets.2).mtu=n.mtu:=rfl;rw[e1]at h2;rw[e3]at h4;refine⟨hc.mtu,hc.win,hc.c,hc.e,hc.now,hc.next,λj hj=>?_,hc.gl,hc.g,?_,λp f=>?_⟩
 ·show upd n.count i c' j<=_;by_cases q:j=i
  ·subst q;rw[ze];omega
  ·rw[zd _ _ q];have:=h.count j hj;omega
 ·show(n.bag++m).length<=_;rw[AF];omega
 ·rcases An.1 f with x|x
  ·exact h.bag p x
  ·obtain⟨a,b,d⟩:=h4 p x;exact⟨by omega,b,by omega⟩
theorem OD(now id:Nat)(data:List UInt8):∀(l:List SN) (r:Bool),(EF now id data l r).2.length=l.length/\∀s∈(EF now id data l r).2,∃s'∈l,s.id=s'.id/\s.dl=s'.dl/\s.data=s'.data
 | [],r=>⟨rfl,λs c=>(by cases c)⟩
 | g::l,r=>by
  unfold EF;split
  ·obtain⟨a,b⟩:=OD now id data l (g.data==data && !g.came&&decide (now<=g.dl));refine⟨by simp only[AQ,a],λs c=>?_⟩;rcases BP.1 c with x|x
   ·exact⟨g,Ae,by rw[x];exact⟨rfl,rfl,rfl⟩⟩
   ·obtain⟨s',h1,h2⟩:=b s x;exact⟨s',Aj _ h1,h2⟩
  ·obtain⟨a,b⟩:=OD now id data l r;refine⟨by simp only[AQ,a],λs c=>?_⟩;rcases BP.1 c with x|x
   ·exact⟨g,Ae,by rw[x];exact⟨rfl,rfl,rfl⟩⟩
   ·obtain⟨s',h1,h2⟩:=b s x;exact⟨s',Aj _ h1,h2⟩
theorem Tq(now:Nat):∀(l:List (Nat×List UInt8)) (G:List SN),(FV now l G).2.length=G.length/\∀s∈(FV now l G).2,∃s'∈G,s.id=s'.id/\s.dl=s'.dl/\s.data=s'.data
 | [],G=>⟨rfl,λs c=>⟨s,c,rfl,rfl,rfl⟩⟩
 | m::l,G=>by
  obtain⟨a,b⟩:=OD now m.1 m.2 G false;unfold FV;split
  ·obtain⟨a2,b2⟩:=Tq now l (EF now m.1 m.2 G false).2;refine⟨a2.trans a,λs c=>?_⟩;obtain⟨s',h1,h2,h3,h4⟩:=b2 s c;obtain⟨s2,k1,k2,k3,k4⟩:=b s' h1;exact⟨s2,k1,h2.trans k2,h3.trans k3,h4.trans k4⟩
  ·exact⟨a,b⟩
def NS.Inv.came(h:n.Inv T)(i:Nat):(n.came i).2.Inv T:=by
 have hc:=h.setC i (c:=(n.c i).datagramsOut.2) (λhi=>(h.c i hi).datagramsOut);obtain⟨a,b⟩:=Tq n.now (n.c i).datagramsOut.1 (n.g (1-i));refine⟨hc.mtu,hc.win,hc.c,hc.e,hc.now,hc.next,hc.count,λj f=>?_,λj f s hs=>?_,hc.bl,hc.bag⟩
 ·show(upd n.g (1-i) _ j).length<=_;by_cases q:j=1-i
  ·subst q;rw[ze,a];exact h.gl _ f
  ·rw[zd _ _ q];exact h.gl j f
 ·have d:s∈upd n.g (1-i) (FV n.now (n.c i).datagramsOut.1 (n.g (1-i))).2 j:=hs;by_cases q:j=1-i
  ·subst q;rw[ze]at d;obtain⟨s',h1,h2,h3,h4⟩:=b s d;rw[h2,h3,h4];exact h.g _ f s' h1
  ·rw[zd _ _ q]at d;exact h.g j f s d
def NS.Inv.recv(h:n.Inv T)(i:Nat)(b:List UInt8)(hT:T+b.length<=Dg):(n.recv i b).2.2.Inv (T+b.length):=by
 unfold NS.recv;exact((h.mono (DF T b.length)).setC i (λhi=>(h.c i hi).receive hT)).came i
def UH(b:List UInt8)(x:UInt8)(hk:k<b.length):(Gy b k x).length=b.length:=by
 unfold Gy;simp only[AF,AS,Ad,Aa];omega
def NS.Inv.carry(h:n.Inv T)(s:Dm)(hT:T+400<=Dg):(n.carry s).2.Inv (T+400):=by
 have c:=h.mono (show T<=T+400 by omega);unfold NS.carry;split
 ·exact c
 ·rename_i hb;have hk:DZ s.a n.bag.length<n.bag.length:=zQ _ _ (BU.2 hb);have hm:n.bag.getD (DZ s.a n.bag.length) (0,[])∈n.bag:=by simp[List.getD,hk]
  obtain⟨_,p1,p2⟩:=h.bag _ hm;generalize DZ s.a n.bag.length=k at *;generalize n.bag.getD k (0,[])=f at *;unfold NS.carryK;split
  ·have hx:(if DZ s.b 2=0 then n.drop k else n).Inv T:=by
    split
    ·exact h.drop k
    ·exact h
   exact(hx.recv f.1 f.2 (by omega)).mono (by omega)
  ·split
   ·exact c.drop k
   ·split
    ·have e:=UH f.2 (IQ s.s) (zQ s.b _ p1);exact(h.recv f.1 _ (by omega)).mono (by omega)
    ·exact c
def NS.Inv.read(h:n.Inv T)(i k most:Nat):(n.read i k most).2.Inv T:=by
 have hc:=h.setC i (c:=((n.c i).read k most).2) (λhi=>(h.c i hi).read _ _);unfold NS.read;split
 ·exact hc
 ·rename_i hw;refine hc.setE (1-i) k (λhi hk=>?_);have e:=h.e (1-i) hi k hk;unfold EN.wrong at hw;simp only[CZ,CH,Ak]at hw;obtain⟨⟨⟨⟨_,_⟩,h3⟩,_⟩,_⟩:=hw;refine⟨e.wl,by show(n.e (1-i) k).read+((n.c i).read k most).1.1.length<=(n.e (1-i) k).wrote.length;omega,e.keep⟩
def Gx(c:Int):DZ c 2<2:=zQ c 2 (by omega)
def NS.Inv.step(h:n.Inv T)(s:Dm)(hT:T+401<=Dg):(n.step s).2.Inv (T+401):=by
 have up:∀{m:NS} {a:Nat},m.Inv a->a<=T+401->m.Inv (T+401):=λx y=>x.mono y
 unfold NS.step;split
 ·exact up (h.send _ _ _) (by omega)
 ·split
  ·exact up (h.finish _ _) (by omega)
  ·split
   ·exact up (h.reset _ _ _) (by omega)
   ·split
    ·exact up (h.datagram _ _) (by omega)
    ·split
     ·exact up (h.tick.carry s (by omega)) (by omega)
     ·split
      ·exact up (h.flush (by omega) (Gx _)) (by omega)
      ·split
       ·exact up (h.read _ _ _) (by omega)
       ·exact up (h.carry s (by omega)) (by omega)
def NS.Up(n:NS):Prop:=∀i,i<2->(n.c i).closed=0
def NS.Up.setC(h:n.Up)(i:Nat)(hc:i<2->c.closed=0):(n.setC i c).Up:=by
 intro j a;show(upd n.c i c j).closed=0;by_cases q:j=i
 ·subst q;rw[ze];exact hc a
 ·rw[zd _ _ q];exact h j a
def gI(c:CS)(k:Int)(s:List UInt8):(c.send k s).2.closed=c.closed:=by
 unfold CS.send;split
 ·rfl
 ·split
  ·rfl
  ·split<;>rfl
def iT(c:CS)(k:Int):(c.finish k).2.closed=c.closed:=by
 unfold CS.finish;split
 ·rfl
 ·split<;>rfl
def gm(c:CS)(k n:Int):(c.reset k n).2.closed=c.closed:=by
 unfold CS.reset;split<;>rfl
def UX(c:CS)(id dl:Nat)(s:List UInt8):(c.datagram id dl s).2.closed=c.closed:=by
 unfold CS.datagram;split
 ·rfl
 ·split
  ·rfl
  ·split
   ·rfl
   ·split<;>rfl
def Tp(c:CS):c.lose.closed=c.closed:=by
 rw[Lx];exact(MI c.flight c).hd.2.2.2.2.1
def To(c:CS):c.tick.closed=c.closed:=Tp c.ticked
def gk(c:CS)(l:zC):(c.acked l).2.closed=c.closed:=by
 by_cases a:c.next<=DY l 0
 ·unfold CS.acked;rw[AN a]
 ·rw[ME c l a];exact(Tp (c.ackedTo l)).trans (MH l c.flight _).hd.2.2.2.2.1
def gH(c:CS)(k n:Int):(c.read k n).2.closed=c.closed:=by
 unfold CS.read;split
 ·rfl
 ·split<;>rfl
def gE(c:CS)(f:Db):(c.take f).2.closed=c.closed:=by
 unfold CS.take;split
 ·exact gk c _
 ·split
  ·unfold CS.resetAt;split<;>rfl
  ·split
   ·unfold CS.data;split
    ·rfl
    ·split<;>rfl
   ·split
    ·rfl
    ·split
     ·rfl
     ·split
      ·unfold CS.message;split<;>rfl
      ·split<;>rfl
theorem OA:∀(fs:List Db) (c:CS),(CS.takes fs c).1=0->(CS.takes fs c).2.closed=c.closed
 | [],_,_=>rfl
 | f::fs,c,h=>by
  unfold CS.takes at h ⊢;split at h
  ·rename_i hx;exact absurd h hx
  ·rename_i hx;rw[AH hx];exact(OA fs _ h).trans (gE c f)
def fR(c:CS)(f:Db):(c.take f).1≠7:=by
 unfold CS.take;split
 ·unfold CS.acked;split<;>simp
 ·split
  ·unfold CS.resetAt;split<;>simp
  ·split
   ·unfold CS.data;split
    ·simp
    ·split<;>simp
   ·split
    ·simp
    ·split
     ·simp
     ·split
      ·simp
      ·split<;>simp
theorem Tz:∀(fs:List Db) (c:CS),(CS.takes fs c).1≠7
 | [],_=>by simp[CS.takes]
 | f::fs,c=>by
  unfold CS.takes;split
  ·exact fR c f
  ·exact Tz fs _
theorem jG(c:CS)(bs:List UInt8)(h:(c.receive bs).1.1=0\/(c.receive bs).1.1=7)(h0:c.closed=0):(c.receive bs).2.closed=0:=by
 unfold CS.receive at h ⊢;rw[AH (by omega)]at h ⊢;cases hd:dec bs with
 | sum=>exact h0
 | bad p =>
  rw[hd]at h;simp at h
 | ok n fs =>
  rw[hd]at h;simp only at h ⊢;split at h
  ·rename_i hb;rw[AN hb];exact h0
  ·rename_i hb;rw[AH hb];rcases h with h|h
   ·exact(OA fs _ h).trans h0
   ·exact absurd h (Tz fs _)
def NS.Up.packets(hT:T<=Dg)(h:n.Inv T)(u:n.Up)(hi:i<2):(n.c i).packets.2.closed=0:=by
 have e:=((h.c i hi).pkPost hT).but.hd.2.2.2.2.1;rw[e];have a:(n.c i).acks.2.closed=(n.c i).closed:=by
  unfold CS.acks;split<;>rfl
 rw[a];exact u i hi
def NS.Up.flush(hT:T<=Dg)(h:n.Inv T)(u:n.Up)(hi:i<2):(n.flush i).2.Up:=by
 unfold NS.flush;obtain⟨c',m,h1,_⟩:=OC i (n.c i).packets.1 (n.setC i (n.c i).packets.2);rw[h1];exact u.setC i (λ_=>u.packets hT h hi)
def NS.Up.send(u:n.Up)(i k:Nat)(s:List UInt8):(n.send i k s).2.Up:=by
 have hc:=u.setC i (c:=((n.c i).send k s).2) (λhi=>(gI _ _ _).trans (u i hi));unfold NS.send;split
 ·exact hc
 ·split<;>exact hc
def NS.Up.finish(u:n.Up)(i k:Nat):(n.finish i k).2.Up:=by
 have hc:=u.setC i (c:=((n.c i).finish k).2) (λhi=>(iT _ _).trans (u i hi));unfold NS.finish;split<;>exact hc
def NS.Up.reset(u:n.Up)(i k:Nat)(b:Int):(n.reset i k b).2.Up:=by
 unfold NS.reset NS.resetK;exact u.setC i (λhi=>(gm _ _ _).trans (u i hi))
def NS.Up.datagram(u:n.Up)(i:Nat)(s:Dm):(n.datagram i s).2.Up:=by
 unfold NS.datagram;split
 ·exact u.setC i (λhi=>(UX _ _ _ _).trans (u i hi))
 ·have hc:=u.setC i (c:=((n.c i).datagram (n.next i) (n.now+DZ s.a 9) s.s).2) (λhi=>(UX _ _ _ _).trans (u i hi));split
  ·exact hc
  ·split<;>exact hc
def NS.Up.tick(u:n.Up):n.tick.Up:=by
 intro i hi;show(upd (upd n.c 0 (n.c 0).tick) 1 (n.c 1).tick i).closed=0;by_cases q:i=1
 ·subst q;rw[ze];exact(To _).trans (u 1 hi)
 ·have:i=0:=by omega
  subst this;rw[zd _ _ q,ze];exact(To _).trans (u 0 hi)
def NS.Up.came(u:n.Up)(i:Nat):(n.came i).2.Up:=u.setC i (c:=(n.c i).datagramsOut.2) (λhi=>u i hi)
def NS.Up.recv(u:n.Up)(i:Nat)(b:List UInt8)(h:(n.recv i b).1=0\/(n.recv i b).1=7):(n.recv i b).2.2.Up :=
 NS.Up.came (u.setC i (c:=((n.c i).receive b).2) (λhi=>jG _ _ h (u i hi))) i
def NS.Up.drop(u:n.Up)(k:Nat):(n.drop k).Up:=u
def NS.Up.carry(u:n.Up)(s:Dm)(h:(n.carry s).1=true):(n.carry s).2.Up:=by
 unfold NS.carry at h ⊢;split at h
 ·rename_i hb;rw[AN hb];exact u
 ·rename_i hb;rw[AH hb];generalize DZ s.a n.bag.length=k at *;generalize n.bag.getD k (0,[])=f at *;unfold NS.carryK at h ⊢;split at h
  ·rename_i h7;rw[AN h7];have hx:(if DZ s.b 2=0 then n.drop k else n).Up:=by
    split
    ·exact u.drop k
    ·exact u
   simp only[AZ,Cd]at h;exact hx.recv f.1 f.2 (.inl h.1)
  ·rename_i h7;rw[AH h7];split at h
   ·rename_i h8;rw[AN h8];exact u.drop k
   ·rename_i h8;rw[AH h8];split at h
    ·rename_i h9;rw[AN h9];simp only[AZ,Cd]at h;exact u.recv f.1 _ (.inr h.1)
    ·rename_i h9;rw[AH h9];exact u
def NS.Up.read(u:n.Up)(i k most:Nat):(n.read i k most).2.Up:=by
 have hc:=u.setC i (c:=((n.c i).read k most).2) (λhi=>(gH _ _ _).trans (u i hi));unfold NS.read;split<;>exact hc
def NS.Up.step(h:n.Inv T)(u:n.Up)(s:Dm)(hT:T+401<=Dg)(ok:(n.step s).1=true):(n.step s).2.Up:=by
 unfold NS.step at ok ⊢;split at ok
 ·rename_i e;rw[AN e];exact u.send _ _ _
 ·rename_i e;rw[AH e];split at ok
  ·rename_i e;rw[AN e];exact u.finish _ _
  ·rename_i e;rw[AH e];split at ok
   ·rename_i e;rw[AN e];exact u.reset _ _ _
   ·rename_i e;rw[AH e];split at ok
    ·rename_i e;rw[AN e];exact u.datagram _ _
    ·rename_i e;rw[AH e];split at ok
     ·rename_i e;rw[AN e];exact u.tick.carry s ok
     ·rename_i e;rw[AH e];split at ok
      ·rename_i e;rw[AN e];exact NS.Up.flush (by omega) h u (Gx _)
      ·rename_i e;rw[AH e];split at ok
       ·rename_i e;rw[AN e];exact u.read _ _ _
       ·rename_i e;rw[AH e];exact u.carry s ok
section
variable {S:Nat->Prop} {tag tag':Nat->Nat×Nat} {w W W':World} {nb:Nat} {n n':NS} {M M':NV}
def De.own(h:De w tag nb n M W)(o:Du tag' nb n' M' W')(hc:n'.c=n.c)(hb:M'.b=M.b)(hV:M'.V=M.V)(m:DW S W W')(hS:∀g,S g->(tag g).1=3\/W.heap.size<=g)(e:Dj 3 tag tag' W W'):De w tag' nb n' M' W':=by
 have old:∀g,tag g≠(0,0)->tag' g=tag g:=λg hg=>by
  by_cases q:g<W.heap.size
  ·exact e.old g q
  ·exact absurd (h.env.ok g (by omega)) hg
 have a:=m.mono hS;refine⟨o,λi hi=>?_,((h.env.to (j:=3) (by omega)).left e a).to (by omega),λi hi=>(h.nd i hi).other e (by omega) (by omega),h.mod.then a (λg hg=>.inr (h.t1 g (λx=>?_))),λg hg=>?_⟩
 ·rw[hc,hb,hV];exact(h.cn i hi).mod a (λg hg x=>by omega) (λg hg=>old g (λx=>by rw[x]at hg;simp at hg))
 ·rw[x]at hg;simp at hg
 ·by_cases q:g<W.heap.size
  ·exact h.t1 g (by rw[<-e.old g q];exact hg)
  ·have:=h.mod.size;omega
variable{cs:Array Value}{r t:Nat}
def Ef.turn{a:Array Value}(h:Ef tag r b cs t W)(obj:W'.heap[b]?=some (.cells a t (0,0))):Ef tag r b a t W':=⟨obj,h.tag⟩
variable{e:Nat}{v:Value}
def EX.kept{a:Nat}(h:EX tag r e sz v q xs W)(m:DW (λg=>g=b) W W')(hb:tag b=(3,a))(hr:r≠a):EX tag r e sz v q xs W' :=
 h.mod m (λg hg x=>by rw[show g=b from hg,hb]at x;simp at x;exact hr x.symm) (λ_ _=>rfl)
def Ef.kept{a c:Nat}(h:Ef tag r c cs t W)(m:DW (λg=>g=b) W W')(hb:tag b=(3,a))(hr:r≠a):Ef tag r c cs t W' :=
 h.mod m (λg hg x=>by rw[show g=b from hg,hb]at x;simp at x;exact hr x.symm) (λ_ _=>rfl)
def Du.endS(h:Du tag nb n M W)(hi:i<2)(hk:k<8)(f:EN)(m:DW (λg=>g=M.eb i k) W W')(obj:W'.heap[M.eb i k]?=some (.cells (FM f) 89 (0,0))):Du tag nb (n.setE i k f) M W':=by
 have c:=(h.en i hi k hk).tag;exact
  {obj:=h.obj.kept m c (by omega)
   x:=h.x.kept m c (by omega)
   ev:=h.ev.kept m c (by omega)
   gv:=h.gv.kept m c (by omega)
   nx:=h.nx.kept m c (by omega)
   ct:=h.ct.kept m c (by omega)
   bg:=h.bg.kept m c (by omega)
   er:=λj d=>(h.er j d).kept m c (by omega)
   en:=λj d q l=>by
    show Ef tag (20+8*j+q) (M.eb j q) (FM (upd n.e i (upd (n.e i) k f) j q)) 89 W';by_cases x:j=i
    ·subst x;rw[ze];by_cases y:q=k
     ·subst y;rw[ze];exact(h.en j d q l).turn obj
     ·rw[zd _ _ y];exact(h.en j d q l).kept m c (by omega)
    ·rw[zd _ _ x];exact(h.en j d q l).kept m c (by omega)
   gr:=λj d=>(h.gr j d).kept m c (by omega)
   gl:=h.gl
   gn:=λj d a b s hb hs=>(h.gn j d a b s hb hs).kept m c (by omega) }
def Du.head(h:Du tag nb n M W)(s:n'.mtu=n.mtu/\n'.window=n.window/\n'.total=n.total/\n'.bag=n.bag)(he:n'.e=n.e)(hg:n'.g=n.g)(f:n'.next=n.next/\n'.count=n.count)(m:DW (λg=>g=nb) W W')(obj:W'.heap[nb]?=some (.cells (LY n' M) 48 (0,0))):Du tag nb n' M W':=by
 have c:=h.obj.tag;obtain⟨s1,s2,s3,s4⟩:=s;exact
  {obj:=h.obj.turn obj
   x:=h.x.kept m c (by omega)
   ev:=h.ev.kept m c (by omega)
   gv:=h.gv.kept m c (by omega)
   nx:=by rw[f.1];exact h.nx.kept m c (by omega)
   ct:=by rw[f.2];exact h.ct.kept m c (by omega)
   bg:=by rw[s4];exact h.bg.kept m c (by omega)
   er:=λj d=>(h.er j d).kept m c (by omega)
   en:=λj d q hq=>by rw[he];exact(h.en j d q hq).kept m c (by omega)
   gr:=λj d=>(h.gr j d).kept m c (by omega)
   gl:=by rw[hg];exact h.gl
   gn:=λj d a b s hb i=>by rw[hg]at i;exact(h.gn j d a b s hb i).kept m c (by omega) }
def Du.bagS(h:Du tag nb n M W)(v:Value)(l:List (Nat×List UInt8))(m:DW S W W')(hS:∀g,S g->tag g=(3,0)\/tag g=(3,6)\/tag g=(0,0))(c:∀g,tag g≠(0,0)->tag' g=tag g)
  (obj:W'.heap[nb]?=some (.cells (LY { n with bag:=l } { M with bg:=v }) 48 (0,0))) (row:W'.ownsRow 0 62 2 v l.length (zK l)) (tg:∀g,v.ownBlock=some g->tag' g=(3,6)):Du tag' nb { n with bag:=l } { M with bg:=v } W':=by
 have q:∀{r:Nat},r≠0->r≠6->∀g,S g->tag g≠(3,r):=λr0 r6 g hg x=>by
  rcases hS g hg with y|y|y<;>rw[x]at y<;>simp at y
  ·exact r0 y
  ·exact r6 y
 exact
  {obj:=⟨obj,by rw[c nb (by rw[h.obj.tag];simp),h.obj.tag]⟩
   x:=h.x.mod m (q (by omega) (by omega)) c
   ev:=h.ev.mod m (q (by omega) (by omega)) c
   gv:=h.gv.mod m (q (by omega) (by omega)) c
   nx:=h.nx.mod m (q (by omega) (by omega)) c
   ct:=h.ct.mod m (q (by omega) (by omega)) c
   bg:=⟨row,tg⟩
   er:=λj d=>(h.er j d).mod m (q (by omega) (by omega)) c
   en:=λj d a ha=>(h.en j d a ha).mod m (q (by omega) (by omega)) c
   gr:=λj d=>(h.gr j d).mod m (q (by omega) (by omega)) c
   gl:=h.gl
   gn:=λj d a b s hb hs=>(h.gn j d a b s hb hs).mod m (q (by omega) (by omega)) c }
def PM(v:Value)(h:W.ownsRow 0 e 1 (.slice (some ⟨g,0,none⟩) N cap) N xs):(W.setCell ⟨g,i,none⟩ v).ownsRow 0 e 1 (.slice (some ⟨g,0,none⟩) N cap) N (xs.set i v):=by
 have hl:=h.1;rcases h.2 with⟨e,_⟩|⟨g',a,cur,e,_,h1,h2,h3,h4,h5⟩
 ·cases e
 ·cases e;refine⟨by rw[Ba];exact hl,.inr ⟨g,cap,_,rfl,AL _,zc h1,h2,h3,by simp[h4],?_⟩⟩;rw[<-h5];simp[DU]
def IH(h:W.ownsRow 0 e 1 (.slice (some ⟨g,0,none⟩) N cap) N xs)(a:xs[i]?=some v):W.cell? ⟨g,i,none⟩=some v/\W.frozen? ⟨g,i,none⟩=false:=by
 have hl:=h.1;rcases h.2 with⟨e,_⟩|⟨g',b,cur,e,_,h1,h2,h3,h4,h5⟩
 ·cases e
 ·cases e;have hi:=(AM.1 a).1;refine⟨za h1 ?_,zf h1⟩;rw[<-h5,BE (by omega),Bd]at a;exact a
def Sj(h:W.ownsRow 0 e sz v N xs)(hN:0<N):∃g cap,v = .slice (some ⟨g,0,none⟩) N cap/\N<=cap/\cap<=maxLen:=by
 rcases h.2 with⟨_,e⟩|⟨g,cap,cur,rfl,_,_,h2,h3,_⟩
 ·omega
 ·exact⟨g,cap,rfl,h2,h3⟩
def EX.form(h:EX tag r e sz v N xs W)(hN:0<N):∃g cap,v = .slice (some ⟨g,0,none⟩) N cap/\N<=cap/\cap<=maxLen/\tag g=(3,r):=by
 obtain⟨g,cap,a,e2,e3⟩:=Sj h.own hN;exact⟨g,cap,a,e2,e3,h.tag g (by rw[a];rfl)⟩
def Du.nxS(h:Du tag nb n M W)(hi:i<2)(x:Nat)(hg:M.nx = .slice (some ⟨g,0,none⟩) 2 cap):Du tag nb { n with next:=upd n.next i x } M (W.setCell ⟨g,i,none⟩ (.int .u64 x)):=by
 have c:=h.nx.tag g (by rw[hg];rfl);have m:DW (λq=>q=g) W (W.setCell ⟨g,i,none⟩ (.int .u64 x)):=(DW.refl (λq=>q=g) W).setCell (p:=⟨g,i,none⟩) (.inl rfl) _;exact
  {obj:=h.obj.kept m c (by omega)
   x:=h.x.kept m c (by omega)
   ev:=h.ev.kept m c (by omega)
   gv:=h.gv.kept m c (by omega)
   nx:=by
    have a:=h.nx;rw[hg]at a;refine⟨?_,h.nx.tag⟩;rw[hg];have b:=PM (i:=i) (.int .u64 x) a.own;rcases(show i=0\/i=1 by omega)with rfl|rfl
    ·exact b
    ·exact b
   ct:=h.ct.kept m c (by omega)
   bg:=h.bg.kept m c (by omega)
   er:=λj d=>(h.er j d).kept m c (by omega)
   en:=λj d q hq=>(h.en j d q hq).kept m c (by omega)
   gr:=λj d=>(h.gr j d).kept m c (by omega)
   gl:=h.gl
   gn:=λj d a b s hb hs=>(h.gn j d a b s hb hs).kept m c (by omega) }
def Du.ctS(h:Du tag nb n M W)(hi:i<2)(x:Nat)(hg:M.ct = .slice (some ⟨g,0,none⟩) 2 cap):Du tag nb { n with count:=upd n.count i x } M (W.setCell ⟨g,i,none⟩ (.int .u64 x)):=by
 have c:=h.ct.tag g (by rw[hg];rfl);have m:DW (λq=>q=g) W (W.setCell ⟨g,i,none⟩ (.int .u64 x)):=(DW.refl (λq=>q=g) W).setCell (p:=⟨g,i,none⟩) (.inl rfl) _;exact
  {obj:=h.obj.kept m c (by omega)
   x:=h.x.kept m c (by omega)
   ev:=h.ev.kept m c (by omega)
   gv:=h.gv.kept m c (by omega)
   nx:=h.nx.kept m c (by omega)
   ct:=by
    have a:=h.ct;rw[hg]at a;refine⟨?_,h.ct.tag⟩;rw[hg];have b:=PM (i:=i) (.int .u64 x) a.own;rcases(show i=0\/i=1 by omega)with rfl|rfl
    ·exact b
    ·exact b
   bg:=h.bg.kept m c (by omega)
   er:=λj d=>(h.er j d).kept m c (by omega)
   en:=λj d q hq=>(h.en j d q hq).kept m c (by omega)
   gr:=λj d=>(h.gr j d).kept m c (by omega)
   gl:=h.gl
   gn:=λj d a b s hb hs=>(h.gn j d a b s hb hs).kept m c (by omega) }
def Du.gramS(h:Du tag nb n M W)(hi:i<2)(hb:(M.gb i)[j]?=some b)(l:SN)(m:DW (λg=>g=b) W W')(obj:W'.heap[b]?=some (.cells (Jq l) 51 (0,0))):Du tag nb { n with g:=upd n.g i ((n.g i).set j l) } M W':=by
 have f:j<(n.g i).length:=by
  have:=(AM.1 hb).1;have:=h.gl i hi;omega
 have e:=(h.gn i hi j b _ hb (AJ f)).tag;exact
  {obj:=h.obj.kept m e (by omega)
   x:=h.x.kept m e (by omega)
   ev:=h.ev.kept m e (by omega)
   gv:=h.gv.kept m e (by omega)
   nx:=h.nx.kept m e (by omega)
   ct:=h.ct.kept m e (by omega)
   bg:=h.bg.kept m e (by omega)
   er:=λj f=>(h.er j f).kept m e (by omega)
   en:=λj f q k=>(h.en j f q k).kept m e (by omega)
   gr:=λj f=>(h.gr j f).kept m e (by omega)
   gl:=λq k=>by
    show _=(upd n.g i _ q).length;by_cases x:q=i
    ·subst x;rw[ze,Ba];exact h.gl q k
    ·rw[zd _ _ x];exact h.gl q k
   gn:=λq k a c s hc hs=>by
    have d:(upd n.g i ((n.g i).set j l) q)[a]?=some s:=hs;by_cases x:q=i
    ·subst x;rw[ze]at d;by_cases y:a=j
     ·subst y;rw[hb]at hc;cases hc;rw[List.getElem?_set_self f]at d;cases d;exact⟨obj,e⟩
     ·rw[List.getElem?_set_ne (by omega)]at d;exact(h.gn q k a c s hc d).kept m e (by omega)
    ·rw[zd _ _ x]at d;exact(h.gn q k a c s hc d).kept m e (by omega) }
def Du.gramPush(h:Du tag nb n M W)(hi:i<2)(l:SN)(v:Value)(m:DW S W W')(hS:∀g,S g->tag g=(3,3)\/tag g=(3,9+i)\/tag g=(0,0))(k:∀g,tag g≠(0,0)->tag' g=tag g)
  (gv:EX tag' 3 49 1 M.gv 2 [upd M.gr i v 0,upd M.gr i v 1] W')
  (row:W'.ownsRow 0 52 1 v ((M.gb i).length+1) ((M.gb i++[b]).map Ee)) (tg:∀g,v.ownBlock=some g->tag' g=(3,9+i)) (obj:W'.heap[b]?=some (.cells (Jq l) 51 (0,0))) (tb:tag' b=(3,40+2*(M.gb i).length+i)) :
  Du tag' nb { n with g:=upd n.g i (n.g i++[l]) } { M with gr:=upd M.gr i v,gb:=upd M.gb i (M.gb i++[b]) } W':=by
 have q:∀{r:Nat},r≠3->r≠9+i->∀g,S g->tag g≠(3,r):=λr0 r6 g hg x=>by
  rcases hS g hg with y|y|y<;>rw[x]at y<;>simp at y
  ·exact r0 y
  ·exact r6 y
 exact
  {obj:=h.obj.mod m (q (by omega) (by omega)) k
   x:=h.x.mod m (q (by omega) (by omega)) k
   ev:=h.ev.mod m (q (by omega) (by omega)) k
   gv:=gv
   nx:=h.nx.mod m (q (by omega) (by omega)) k
   ct:=h.ct.mod m (q (by omega) (by omega)) k
   bg:=h.bg.mod m (q (by omega) (by omega)) k
   er:=λj f=>(h.er j f).mod m (q (by omega) (by omega)) k
   en:=λj f a ha=>(h.en j f a ha).mod m (q (by omega) (by omega)) k
   gr:=λj f=>by
    show EX tag' (9+j) 52 1 (upd M.gr i v j) (upd M.gb i (M.gb i++[b]) j).length ((upd M.gb i (M.gb i++[b]) j).map Ee) W';by_cases x:j=i
    ·subst x;rw[ze,ze,AF,Aa];exact⟨row,tg⟩
    ·rw[zd _ _ x,zd _ _ x];exact(h.gr j f).mod m (q (by omega) (by omega)) k
   gl:=λj f=>by
    show(upd M.gb i (M.gb i++[b]) j).length=(upd n.g i (n.g i++[l]) j).length;by_cases x:j=i
    ·subst x;rw[ze,ze,AF,AF,h.gl j f];rfl
    ·rw[zd _ _ x,zd _ _ x];exact h.gl j f
   gn:=λj f a c s hc hs=>by
    have d:(upd M.gb i (M.gb i++[b]) j)[a]?=some c:=hc;have e:(upd n.g i (n.g i++[l]) j)[a]?=some s:=hs;by_cases x:j=i
    ·subst x;rw[ze]at d e;have hl:=h.gl j f;by_cases y:a<(M.gb j).length
     ·rw[Ag y]at d;rw[Ag (by omega)]at e;exact(h.gn j f a c s d e).mod m (q (by omega) (by omega)) k
     ·have la:=(AM.1 d).1;rw[AF,Aa]at la;have:a=(M.gb j).length:=by omega
      subst this;rw[AV (AG _),Ch]at d;rw[AV (by omega),<-hl,Ch]at e;cases d;cases e;exact⟨obj,tb⟩
    ·rw[zd _ _ x]at d e;exact(h.gn j f a c s d e).mod m (q (by omega) (by omega)) k }
end
section
variable {tag:Nat->Nat×Nat} {W:World} {nb:Nat} {n:NS} {M:NV}
def Du.endAt(h:Du tag nb n M W)(hi:i<2)(hk:k<8):∃g cap q cap',W.cell? ⟨nb,1,none⟩=some (.slice (some ⟨g,0,none⟩) 2 cap)/\(2<=cap/\cap<=9223372036854775807)/\W.cell? ⟨g,i,none⟩=some (.slice (some ⟨q,0,none⟩) 8 cap')/\(8<=cap'/\cap'<=9223372036854775807)/\W.cell? ⟨q,k,none⟩=some (.pointer (some ⟨M.eb i k,0,none⟩)):=by
 obtain⟨g,cap,c,e2,e3,_⟩:=h.ev.form (by omega);obtain⟨q,cap',f1,f2,f3,_⟩:=(h.er i hi).form (by omega);have c0:W.cell? ⟨nb,1,none⟩=some M.ev:=h.obj.cell (j:=1) rfl;rw[c]at c0;have a:=h.ev.own;rw[c]at a;have c1:W.cell? ⟨g,i,none⟩=some (M.er i):=(IH a (i:=i) (by
  rcases(show i=0\/i=1 by omega)with rfl|rfl<;>rfl)).1
 rw[f1]at c1;have b:=(h.er i hi).own;rw[f1]at b;unfold maxLen at e3 f3;exact⟨g,cap,q,cap',c0,⟨e2,by omega⟩,c1,⟨f2,by omega⟩,(IH b (i:=k) (by simp[hk,Ee])).1⟩
def Du.connIs(h:Du tag nb n M W)(hi:i<2):∃g cap,W.cell? ⟨nb,0,none⟩=some (.slice (some ⟨g,0,none⟩) 2 cap)/\(2<=cap/\cap<=9223372036854775807)/\W.cell? ⟨g,i,none⟩=some (.pointer (some ⟨M.b i,0,none⟩)):=by
 obtain⟨g,cap,c,e2,e3,_⟩:=h.x.form (by omega);have c0:W.cell? ⟨nb,0,none⟩=some M.x:=h.obj.cell (j:=0) rfl;rw[c]at c0;have a:=h.x.own;rw[c]at a;unfold maxLen at e3;exact⟨g,cap,c0,⟨e2,by omega⟩,(IH a (i:=i) (by
  rcases(show i=0\/i=1 by omega)with rfl|rfl<;>rfl)).1⟩
structure QZ(W:World)(eb:Nat)(o:EN):Prop where
 wrote:W.cell? ⟨eb,0,none⟩=some (.string (zq o.wrote))
 fin:W.cell? ⟨eb,1,none⟩=some (.bool o.fin)
 cut:W.cell? ⟨eb,2,none⟩=some (.bool o.cut)
 keep:W.cell? ⟨eb,3,none⟩=some (.int .i64 o.keep)
 read:W.cell? ⟨eb,4,none⟩=some (.int .i64 o.read)
 state:W.cell? ⟨eb,5,none⟩=some (.int .i64 o.state)
 fz:∀j,W.frozen? ⟨eb,j,none⟩=false
def Du.enAt(h:Du tag nb n M W)(hi:i<2)(hk:k<8):QZ W (M.eb i k) (n.e i k) :=
 have a:=h.en i hi k hk
 ⟨a.cell (j:=0) rfl,a.cell (j:=1) rfl,a.cell (j:=2) rfl,a.cell (j:=3) rfl,a.cell (j:=4) rfl,a.cell (j:=5) rfl,λj=>a.fz j⟩
def EL(w:World)(tag:Nat->Nat×Nat)(nb:Nat)(W:World)(r:Bool×NS)(e:Ending)(W':World):Prop:=e = .returned (.bool r.1)/\zs w tag nb W r.2 W'
def De.endS(h:De w tag nb n M W)(hi:i<2)(hk:k<8)(a:EN)(m:DW (λg=>g=M.eb i k) W W')(obj:W'.heap[M.eb i k]?=some (.cells (FM a) 89 (0,0))):De w tag nb (n.setE i k a) M W' :=
 h.own (h.o.endS hi hk a m obj) rfl rfl rfl m (λg hg=>.inl (by rw[show g=M.eb i k from hg,(h.o.en i hi k hk).tag])) (Dj.same h.env.ok m)
end
def zs.then0(h:zs w tag nb W n W')(m:DW DX W' W''):zs w tag nb W n W'':=by
 obtain⟨t,M,a,b,c⟩:=h;exact⟨t,M,a.free m (λ_ x=>x.elim),b,c.trans (m.mono (λ_ x=>x.elim))⟩
def F8(a b:Nat):((a:Int)==(b:Int))=(a==b):=by
 by_cases h:a=b
 ·subst h;simp
 ·rw[AR.2 h,AR.2 (show(a:Int)≠(b:Int)by omega)]
def PC(a b:Nat):((a:Int) != (b:Int))=(a != b):=by
 unfold bne;rw[F8]
def Vq:(prog.info? 62).map (λi=>(i.zero,i.size,i.bytes))=some (some (.agg #[.int .i64 0,.string ⟨#[]⟩]),2,24):=by kernel_rfl
def jE(a b:List (Nat×List UInt8)):zK (a++b)=zK a++zK b:=by simp[zK]
def QN(p:Nat×List UInt8)(l:List (Nat×List UInt8)):zK (p::l)=(.int .i64 p.1)::(.string (zq p.2))::zK l:=rfl
theorem UG:∀(l:List (Nat×List UInt8)) (j:Nat) (p:Nat×List UInt8),l[j]?=some p->(zK l)[j*2]?=some (.int .i64 p.1)/\(zK l)[j*2+1]?=some (.string (zq p.2))
 | [],j,p,h=>by simp at h
 | q::l,0,p,h=>by
  simp at h;subst h;exact⟨rfl,rfl⟩
 | q::l,j+1,p,h=>by
  have ih:=UG l j p (by simpa using h);rw[QN,show(j+1)*2=j*2+2 by omega];simpa using ih
theorem US:∀(l:List (Nat×List UInt8)) (k:Nat),(zK l).take (k*2)=zK (l.take k)
 | [],k=>by simp[zK]
 | p::l,0=>by simp[zK]
 | p::l,k+1=>by
  rw[show(k+1)*2=k*2+1+1 by omega,QN];simp only[Ca];rw[US l k];rfl
theorem UR:∀(l:List (Nat×List UInt8)) (k:Nat),(zK l).drop (k*2)=zK (l.drop k)
 | [],k=>by simp[zK]
 | p::l,0=>by simp
 | p::l,k+1=>by
  rw[show(k+1)*2=k*2+1+1 by omega,QN];simp only[List.drop_succ_cons];exact UR l k
def gj(l:List (Nat×List UInt8)):∀u∈zK l,u.oneCell'=true:=by
 intro u a;unfold zK at a;rw[List.mem_flatMap]at a;obtain⟨p,_,b⟩:=a;simp at b;rcases b with rfl|rfl<;>rfl
def PB(w:World)(v:Value)(l b:List (Nat×List UInt8))(a:Addr)(c:Nat)(h:w.ownsRow 0 62 2 v l.length (zK l))(hc:∀(j:Nat) u,(zK b)[j]?=some u->w.cell? (a.add j)=some u)(hl:l.length+b.length<=1099511627776):∃v' w',(∀ty,(Builtin.append_ #[46,46] ty #[v,.slice (some a) b.length c]).run prog w = .ok v' w')/\w'.ownsRow 0 62 2 v' (l++b).length (zK (l++b))/\w.grownBy w' v.ownBlock/\Dy w v v':=by
 obtain⟨i,d,hz,e,f⟩:=info_parts Vq;rw[jE,AF];exact zJ (P:=prog) w 46 62 i _ 2 24 underlying46 d hz e f rfl (by decide) v l.length (zK l) h a b.length c (zK b) (ix b) hc (gj b) (by unfold maxLen;omega) (by omega)
def Q1{l:List (Nat×List UInt8)}(h:w.ownsRow 0 62 2 (.slice (some ⟨g,0,none⟩) l.length cap) l.length (zK l))(o m:Nat):∀(j:Nat) u,(zK ((l.drop o).take m))[j]?=some u->w.cell? ((⟨g,o*2,none⟩:Addr).add j)=some u:=by
 intro j u a;rcases h.2 with⟨e,_⟩|⟨g',c,cur,e,_,h1,h2,h3,h4,h5⟩
 ·cases e
 ·cases e;rw[zS];refine za h1 ?_;rw[<-US,<-UR,<-h5]at a;have hj:j<m*2:=by
   have:=(AM.1 a).1;simp at this;omega
  rw[BE hj,A6]at a;have b:o*2+j<l.length*2:=by
   have:=(AM.1 a).1;simp at this;omega
  rw[BE b,Bd]at a;exact a
variable{W1:World}{v:Value}
def De.bagS(h:De w tag nb n M W){l:List (Nat×List UInt8)}(m:DW S W W1)(d:∀g,S g->tag g=(3,6)\/W.heap.size<=g)(row:W1.ownsRow 0 62 2 v l.length (zK l))(i:∀g,v.ownBlock=some g->tag g=(3,6)\/(W.heap.size<=g/\g<W1.heap.size)):zs w tag nb W { n with bag:=l } (W1.setCell ⟨nb,8,none⟩ v):=by
 obtain⟨tag',b⟩:=nm ((λg=>if W.heap.size<=g/\v.ownBlock=some g/\g<W1.heap.size then(3,6)else tag g));have old:∀g,g<W.heap.size->tag' g=tag g:=λg hg=>by
  rw[<-b];exact AH (λx=>by omega)
 have c:∀g,tag g≠(0,0)->tag' g=tag g:=λg hg=>by
  by_cases q:g<W.heap.size
  ·exact old g q
  ·exact absurd (h.env.ok g (by omega)) hg
 have a:=h.o.obj.tag;have s1:¬S nb:=λx=>by
  rcases d nb x with y|y
  ·rw[a]at y;simp at y
  ·have:=h.env.ok nb y;rw[a]at this;simp at this
 have e:v.ownBlock≠some nb:=λx=>by
  rcases i nb x with y|⟨y,_⟩
  ·rw[a]at y;simp at y
  ·have:=h.env.ok nb y;rw[a]at this;simp at this
 have m1:DW (λg=>S g\/g=nb) W (W1.setCell ⟨nb,8,none⟩ v):=(m.mono (λg hg=>.inl (.inl hg))).setCell (p:=⟨nb,8,none⟩) (.inl (.inr rfl)) v;have m2:=(DW.refl (λg=>g=nb) W1).setCell (p:=⟨nb,8,none⟩) (.inl rfl) v;have f:(W1.setCell ⟨nb,8,none⟩ v).heap.size=W1.heap.size:=by simp[World.setCell]
 have o':Du tag' nb { n with bag:=l } { M with bg:=v } (W1.setCell ⟨nb,8,none⟩ v):=by
  refine h.o.bagS v l m1 (λg hg=>?_) c ?_ (m2.owns row (λg hg x=>e (by rw[hg,show g=nb from x]))) (λg hg=>?_)
  ·rcases hg with x|x
   ·rcases d g x with y|y
    ·exact .inr (.inl y)
    ·exact .inr (.inr (h.env.ok g y))
   ·rw[x];exact .inl a
  ·rw[zc (m.obj s1 h.o.obj.obj)];rfl
  ·rcases i g hg with y|⟨y,z⟩
   ·rw[c g (by rw[y];simp),y]
   ·rw[<-b];exact AN ⟨y,hg,z⟩
 refine⟨tag',_,h.own o' rfl rfl rfl m1 (λg hg=>?_) ⟨old,λg hg=>?_,λg hg=>?_⟩,old,m1.mono (λg hg=>?_)⟩
 ·rcases hg with x|x
  ·rcases d g x with y|y
   ·exact .inl (by rw[y])
   ·exact .inr y
  ·rw[x];exact .inl (by rw[a])
 ·by_cases q:W.heap.size<=g/\v.ownBlock=some g/\g<W1.heap.size
  ·exact .inl (by rw[<-b];simp only[AN q])
  ·exact .inr (by rw[<-b];simp only[AH q];exact h.env.ok g hg)
 ·rw[f]at hg;rw[<-b];simp only;rw[AH (λx=>by omega)];have:=m.size;exact h.env.ok g (by omega)
 ·rcases hg with x|x
  ·rcases d g x with y|y
   ·exact .inl (by rw[y];simp)
   ·exact .inr y
  ·rw[x];exact .inl (by rw[a];simp)
def Du.gramAt(h:Du tag nb n M W)(hi:i<2):∃g cap a cap',W.cell? ⟨nb,2,none⟩=some (.slice (some ⟨g,0,none⟩) 2 cap)/\(2<=cap/\cap<=9223372036854775807)/\W.cell? ⟨g,i,none⟩=some (.slice a (n.g i).length cap')/\((n.g i).length<=cap'/\cap'<=9223372036854775807)/\∀(j b:Nat),(M.gb i)[j]?=some b->∃q,a=some ⟨q,0,none⟩/\W.cell? ⟨q,j,none⟩=some (.pointer (some ⟨b,0,none⟩)):=by
 obtain⟨g,cap,c,e2,e3,_⟩:=h.gv.form (by omega);obtain⟨a,cap',f1,f2,f3,f4⟩:=zi (h.gr i hi).own;have c0:W.cell? ⟨nb,2,none⟩=some M.gv:=h.obj.cell (j:=2) rfl;rw[c]at c0;have x:=h.gv.own;rw[c]at x;have c1:W.cell? ⟨g,i,none⟩=some (M.gr i):=(IH x (i:=i) (by
  rcases(show i=0\/i=1 by omega)with rfl|rfl<;>rfl)).1
 have hl:=h.gl i hi;rw[f1,hl]at c1;unfold maxLen at e3 f3;refine⟨g,cap,a,cap',c0,⟨e2,by omega⟩,c1,⟨by omega,by omega⟩,λj b hb=>?_⟩;have hj:=(AM.1 hb).1;obtain⟨q,rfl⟩:=f4 (by omega);have y:=(h.gr i hi).own;rw[f1]at y;exact⟨q,rfl,(IH y (i:=j) (by rw[BW,hb];rfl)).1⟩
structure NC(W:World)(b:Nat)(s:SN):Prop where
 id:W.cell? ⟨b,0,none⟩=some (.int .u64 s.id)
 dl:W.cell? ⟨b,1,none⟩=some (.int .u64 s.dl)
 data:W.cell? ⟨b,2,none⟩=some (.string (zq s.data))
 came:W.cell? ⟨b,3,none⟩=some (.bool s.came)
 fz:W.frozen? ⟨b,3,none⟩=false
def Du.snAt(h:Du tag nb n M W){s:SN}(hi:i<2)(hb:(M.gb i)[j]?=some b)(hs:(n.g i)[j]?=some s):NC W b s :=
 have a:=h.gn i hi j b s hb hs
 ⟨a.cell (j:=0) rfl,a.cell (j:=1) rfl,a.cell (j:=2) rfl,a.cell (j:=3) rfl,a.fz 3⟩
theorem Q0:∀(l:List (Nat×List UInt8)) (j:Nat) (p:Nat×List UInt8),l[j]?=some p->(En l)[j*2]?=some (.int .u64 p.1)/\(En l)[j*2+1]?=some (.string (zq p.2))
 | [],j,p,h=>by simp at h
 | q::l,0,p,h=>by
  simp at h;subst h;exact⟨rfl,rfl⟩
 | q::l,j+1,p,h=>by
  have ih:=Q0 l j p (by simpa using h);have e:En (q::l)=(.int .u64 q.1)::(.string (zq q.2))::En l:=rfl;rw[e,show(j+1)*2=j*2+2 by omega];simpa using ih
def VZ{l:List (Nat×List UInt8)}(h:w.ownsRow 0 154 2 (.slice (some ⟨g,0,none⟩) N cap) N (En l))(hl:l.length=N){p:Nat×List UInt8}(c:l[j]?=some p):w.cell? ⟨g,j*2,none⟩=some (.int .u64 p.1)/\w.cell? ⟨g,j*2+1,none⟩=some (.string (zq p.2)):=by
 obtain⟨a,b⟩:=Q0 l j p c;have hj:=(AM.1 c).1;rcases h.2 with⟨e,_⟩|⟨g',d,cur,e,_,h1,h2,h3,h4,h5⟩
 ·cases e
 ·cases e;rw[<-h5,BE (by omega),Bd]at a b;exact⟨za h1 a,za h1 b⟩
def Nm.left{l:List (Nat×List UInt8)}{e:Ending}(ht:Do tag W)(hb:tag b=(i,1))(h:Nm tag i b W l c' e W'):∃v,e = .returned v/\W'.ownsRow 0 154 2 v l.length (En l)/\(∀g,v.ownBlock=some g->tag g=(i,8))/\Dn tag i b W c' W':=by
 obtain⟨v,V',e1,e2,e3,e4,_,m⟩:=h;exact⟨v,e1,e2,e3,tag,V',e4,Dj.same ht m,m.mono (λg hg=>.inl (by rw[show g=b from hg,hb]))⟩
variable{G:List SN}
def Si{id:Nat}{data:List UInt8}{g:SN}(hg:G[j]?=some g)(r:Bool):EF now id data (G.drop j) r=if g.id=id then((EF now id data (G.drop (j+1)) (g.data==data && !g.came&&decide (now<=g.dl))).1,{ g with came:=true }::(EF now id data (G.drop (j+1)) (g.data==data && !g.came&&decide (now<=g.dl))).2)
   else((EF now id data (G.drop (j+1)) r).1,g::(EF now id data (G.drop (j+1)) r).2):=by
 have a:=(AM.1 hg).1;have e:G.drop j=g::G.drop (j+1):=by
  rw[CB a]
  congr 1
  rw[AJ a]at hg;exact Bk hg
 rw[e,EF]
def Xr{l:List (Nat×List UInt8)}{m:Nat×List UInt8}(a:l[k]?=some m)(G:List SN):FV now (l.drop k) G=if (EF now m.1 m.2 G false).1 then FV now (l.drop (k+1)) (EF now m.1 m.2 G false).2 else(false,(EF now m.1 m.2 G false).2):=by
 have hk:=(AM.1 a).1;have e:l.drop k=m::l.drop (k+1):=by
  rw[CB hk]
  congr 1
  rw[AJ hk]at a;exact Bk a
 rw[e,FV]
def Xq(S:NS)(J:Nat):({ S with g:=upd S.g J (S.g J) }:NS)=S:=by rw[Fj]
def De.gramS{S:NS}{J:Nat}{s:SN}(h:De w tag nb { S with g:=upd S.g J G } M W)(c:J<2)(hb:(M.gb J)[j]?=some b)(hs:G[j]?=some s):De w tag nb { S with g:=upd S.g J (G.set j { s with came:=true }) } M (W.setCell ⟨b,3,none⟩ (.bool true))/\tag b=(3,40+2*j+J):=by
 have e:({ S with g:=upd S.g J G }:NS).g J=G:=ze _ _ _;have a:=h.o.gn J c j b s hb (by rw[e];exact hs);have m:DW (λg=>g=b) W (W.setCell ⟨b,3,none⟩ (.bool true)):=(DW.refl (λg=>g=b) W).setCell (p:=⟨b,3,none⟩) (.inl rfl) _;have o:=h.o.gramS c hb { s with came:=true } m (by rw[zc a.obj];rfl);have e2:({ ({ S with g:=upd S.g J G }:NS)with g:=upd ({ S with g:=upd S.g J G }:NS).g J ((({ S with g:=upd S.g J G }:NS).g J).set j { s with came:=true }) }:NS)={ S with g:=upd S.g J (G.set j { s with came:=true }) }:=by
  rw[e];show({ S with g:=upd (upd S.g J G) J _ }:NS)=_;rw[Jn]
 rw[e2]at o;exact⟨h.own o rfl rfl rfl m (λg hg=>.inl (by rw[show g=b from hg,a.tag])) (Dj.same h.env.ok m),a.tag⟩
def JX(tag:Nat->Nat×Nat):Nat->Prop:=λg=>∃r,40<=r/\tag g=(3,r)
def Fx(w:World)(tag:Nat->Nat×Nat)(nb:Nat)(S:NS)(M:NV)(W1:World)(J:Nat)(G:List SN)(nw:Nat)(m:Nat×List UInt8)(RB:Bool)(RL:List SN)(j:Nat)(r:Bool)(wr:World):Prop :=
 ∃A:List SN,A.length=j/\De w tag nb { S with g:=upd S.g J (A++G.drop j) } M wr/\DW (JX tag) W1 wr/\(EF nw m.1 m.2 (G.drop j) r).1=RB/\A++(EF nw m.1 m.2 (G.drop j) r).2=RL
section
variable {w:World} {tag:Nat->Nat×Nat} {nb:Nat} {S:NS} {M:NV} {W1 wr W':World} {J:Nat} {G:List SN} {nw:Nat} {m:Nat×List UInt8} {RB:Bool} {RL:List SN} {j b:Nat} {r:Bool} {g:SN}
variable{j:Nat}
def LX{α : Type}{G:List α}{g : α}(hg:G[j]?=some g):G.drop j=g::G.drop (j+1):=by
 have a:=(AM.1 hg).1;rw[CB a]
 congr 1
 rw[AJ a]at hg;exact Bk hg
def Fx.hit(h:Fx w tag nb S M W1 J G nw m RB RL j r wr)(hJ:J<2)(hg:G[j]?=some g)(hb:(M.gb J)[j]?=some b)(c:g.id=m.1)(k:DW DX (wr.setCell ⟨b,3,none⟩ (.bool true)) W'):Fx w tag nb S M W1 J G nw m RB RL (j+1) (g.data==m.2 && !g.came&&decide (nw<=g.dl)) W':=by
 obtain⟨A,d,hN,hm,h1,h2⟩:=h;have f:(A++G.drop j)[j]?=some g:=by
  rw[AV (by omega),d,Ch,A6,Br];exact hg
 obtain⟨a,i⟩:=hN.gramS hJ hb f;have l:=Si (now:=nw) (id:=m.1) (data:=m.2) hg r;rw[AN c]at l;rw[l]at h1 h2;refine⟨A++[{ g with came:=true }],by rw[AF,d];rfl,?_,(hm.setCell (p:=⟨b,3,none⟩) (.inl ⟨_,by omega,i⟩) _).trans (k.mono (λ_ x=>x.elim)),h1,?_⟩
 ·have e:(A++G.drop j).set j { g with came:=true }=(A++[{ g with came:=true }])++G.drop (j+1):=by
   rw[LX hg,Bb _ _ (by omega),d,Ch,List.set_cons_zero,Av];rfl
  rw[e]at a;exact a.free k (λ_ x=>x.elim)
 ·rw[Av];exact h2
def Fx.miss(h:Fx w tag nb S M W1 J G nw m RB RL j r wr)(hg:G[j]?=some g)(a:¬g.id=m.1)(b:DW DX wr W'):Fx w tag nb S M W1 J G nw m RB RL (j+1) r W':=by
 obtain⟨A,hA,c,hm,h1,h2⟩:=h;have d:=Si (now:=nw) (id:=m.1) (data:=m.2) hg r;rw[AH a]at d;rw[d]at h1 h2;refine⟨A++[g],by rw[AF,hA];rfl,?_,hm.trans (b.mono (λ_ x=>x.elim)),h1,by rw[Av];exact h2⟩;rw[LX hg]at c;rw[Av];exact c.free b (λ_ x=>x.elim)
def Fx.start(hN:De w tag nb { S with g:=upd S.g J G } M wr)(hm:DW (JX tag) W1 wr)(a:EF nw m.1 m.2 G false=(RB,RL)):Fx w tag nb S M W1 J G nw m RB RL 0 false wr :=
 ⟨[],rfl,by rw[Bv,Am];exact hN,hm,by rw[Bv,a],by rw[Bv,a];rfl⟩
def Fx.done(h:Fx w tag nb S M W1 J G nw m RB RL j r wr)(hj:j=G.length):r=RB/\De w tag nb { S with g:=upd S.g J RL } M wr/\DW (JX tag) W1 wr:=by
 obtain⟨A,hA,a,hm,h1,h2⟩:=h;have e:G.drop j=[]:=by rw[hj];exact CJ
 rw[e]at h1 h2 a;have h2:A=RL:=by
  rw[<-h2];exact(Bh A).symm
 subst h2;rw[Bh]at a;exact⟨h1,a,hm⟩
def Fx.look(h:Fx w tag nb S M W1 J G nw m RB RL j r wr)(f:J<2)(hn:S.now=nw)(hj:j<=G.length):wr.cell? ⟨nb,4,none⟩=some (.int .u64 nw)/\∃gg cg ga ca,wr.cell? ⟨nb,2,none⟩=some (.slice (some ⟨gg,0,none⟩) 2 cg)/\(2<=cg/\cg<=9223372036854775807)/\wr.cell? ⟨gg,J,none⟩=some (.slice ga G.length ca)/\(G.length<=ca/\ca<=9223372036854775807)/\DW (JX tag) W1 wr /\
  ∀g,G[j]?=some g->∃q b,ga=some ⟨q,0,none⟩/\(M.gb J)[j]?=some b/\wr.cell? ⟨q,j,none⟩=some (.pointer (some ⟨b,0,none⟩))/\NC wr b g:=by
 obtain⟨A,l,d,hm,h1,h2⟩:=h;have a:({ S with g:=upd S.g J (A++G.drop j) }:NS).g J=A++G.drop j:=ze _ _ _;have c:(A++G.drop j).length=G.length:=by rw[AF,l,Ad];omega
 obtain⟨gg,cg,ga,ca,d1,d2,n,p,d7⟩:=d.o.gramAt f;rw[a,c]at n p;refine⟨?_,gg,cg,ga,ca,d1,d2,n,p,hm,λg hg=>?_⟩
 ·have:=d.o.obj.cell (j:=4) (v:=.int .u64 S.now) rfl;rw[hn]at this;exact this
 ·have i:(A++G.drop j)[j]?=some g:=by
   rw[AV (by omega),l,Ch,A6,Br];exact hg
  have k:=(AM.1 hg).1;obtain⟨b,hb⟩:∃b,(M.gb J)[j]?=some b:=⟨(M.gb J)[j]'(by rw[d.o.gl J f,a,c];exact k),AJ _⟩;obtain⟨q,e,d8⟩:=d7 j b hb;exact⟨q,b,e,hb,d8,d.o.snAt f hb (by rw[a];exact i)⟩
end
def Pt(w:World)(k:Nat)(p:Addr)(v:Value):DW DX (w.setCell p v) ((w.drewN k).setCell p v):=(DW.refl DX (w.setCell p v)).drewN k
def Dm.cells(s:Dm):Array Value:=#[.int .i64 s.kind,.int .i64 s.side,.int .i64 s.a,.int .i64 s.b,.string (zq s.s)]
structure Dm.Ok(s:Dm):Prop where
 kind : -9223372036854775808<=s.kind/\s.kind<=9223372036854775807
 side : -9223372036854775808<=s.side/\s.side<=9223372036854775807
 a : -9223372036854775808<=s.a/\s.a<=9223372036854775807
 b : -9223372036854775808<=s.b/\s.b<=9223372036854775807
 s:s.s.length<=1099511627776
structure GW(W:World)(b:Nat)(s:Dm):Prop where
 c0:W.cell? ⟨b,0,none⟩=some (.int .i64 s.kind)
 c1:W.cell? ⟨b,1,none⟩=some (.int .i64 s.side)
 c2:W.cell? ⟨b,2,none⟩=some (.int .i64 s.a)
 c3:W.cell? ⟨b,3,none⟩=some (.int .i64 s.b)
 c4:W.cell? ⟨b,4,none⟩=some (.string (zq s.s))
variable{fz:Nat×Nat}{s:Dm}{t:Nat}
def GW.of(h:W.heap[b]?=some (.cells s.cells t fz)):GW W b s :=
 ⟨za h rfl,za h rfl,za h rfl,za h rfl,za h rfl⟩
def GW.mod(h:GW W b s)(m:DW S W W')(c:¬S b):GW W' b s :=
 ⟨m.cell (a:=⟨b,0,none⟩) c h.c0,m.cell (a:=⟨b,1,none⟩) c h.c1,m.cell (a:=⟨b,2,none⟩) c h.c2,m.cell (a:=⟨b,3,none⟩) c h.c3,m.cell (a:=⟨b,4,none⟩) c h.c4⟩
def De.alloc(h:De w tag nb n M W)(o:Obj):De w tag nb n M (W.alloc o) :=
 h.free ((DW.refl DX W).alloc o) (λ_ x=>x.elim)
def zs.from0{n':NS}(m:DW DX W W')(h:zs w tag nb W' n' W''):zs w tag nb W n' W'' :=
 zs.trans (λ_ _=>rfl) (m.mono (λ_ x=>x.elim)) h
def Tc(h:De w tag nb n M W)(hb:n.bag=[])(s:Dm):Calls prog 41 #[.pointer (some ⟨nb,0,none⟩),.agg s.cells] W (EL w tag nb W (n.carry s)):=by
 obtain⟨W1,b⟩:=nm (W.alloc (.cells s.cells 37));have h1:De w tag nb n M W1:=by rw[<-b];exact h.alloc _
 have m1:=AB b
 obtain⟨a,cap,d,q1,q2,_⟩:=zi h1.o.bg.own;have f:W1.cell? ⟨nb,8,none⟩=some M.bg:=h1.o.obj.cell (j:=8) rfl;rw[d,hb]at f;have F:=zb (zs.from0 m1 h1.left);have e:n.carry s=(true,n):=by unfold NS.carry;rw[AN hb]
 rw[e];have c:=zb b;simp only[AX]at f;clear h hb h1 m1 d b q1 q2 e;unfold Dm.cells at c ⊢;go_enter func41,ntmps41;go_upto_region 1 with fail;rw[c.z];go_wp2_with fail;go_ret;exact⟨rfl,F.z⟩
def QK(a b:List UInt8):zq a++zq b=zq (a++b):=by
 apply ByteArray.ext;simp[zq]
def I4(h:De w tag nb n M W)(c:s.Ok):∃W1 sb i k gx cx,W.alloc (.cells s.cells 37)=W1/\W.heap.size=sb/\De w tag nb n M W1/\DW DX W W1/\GW W1 sb s/\tag sb=(0,0)/\i<2/\k<8/\DZ s.side 2=i/\DZ s.a 8=k /\
  Calls prog 24 #[.int .i64 s.side,.int .i64 2] W1 (λe w'=>e = .returned (.int .i64 i)/\W1=w')/\Calls prog 24 #[.int .i64 s.a,.int .i64 8] W1 (λe w'=>e = .returned (.int .i64 k)/\W1=w') /\
  W1.cell? ⟨nb,0,none⟩=some (.slice (some ⟨gx,0,none⟩) 2 cx)/\(2<=cx/\cx<=9223372036854775807)/\W1.cell? ⟨gx,i,none⟩=some (.pointer (some ⟨M.b i,0,none⟩)):=by
 have h1:=h.alloc (.cells s.cells 37);obtain⟨gx,cx,b1,b2,b4⟩:=h1.o.connIs (i:=DZ s.side 2) (Gx _);exact⟨_,_,_,_,gx,cx,rfl,rfl,h1,(DW.refl _ _).alloc _,GW.of (heap_alloc_new W _),h.env.ok _ (AG _),Gx _,zQ _ _ (by omega),rfl,rfl,Gk s.side 2 _ c.side.1 c.side.2 (by omega) (by omega),Gk s.a 8 _ c.a.1 c.a.2 (by omega) (by omega),b1,b2,b4⟩
def Tb(h:De w tag nb n M W)(hI:n.Inv T)(hT:T<=Dg)(hs:s.Ok)(hk:s.kind=1):Calls prog 21 #[.pointer (some ⟨nb,0,none⟩),.agg s.cells] W (EL w tag nb W (n.send (DZ s.side 2) (DZ s.a 8) s.s)):=by
 obtain⟨W1,sb,i,k,gx,cx,Q,hsb,h1,m1,sA,E,hi,r,U,V,X,Y,b1,⟨b2,b3⟩,b4⟩:=I4 h hs;have H:=hs.s;have Z:∀k,k<8->((n.c i).ws k).b.length<=1099511627776:=λk hk=>by
  have:=((hI.c _ hi).ws k hk).len;omega
 have aa:=hI.e _ hi _ r;rw[U];rw[V];obtain⟨g,cap,q,al,a1,⟨a2,a3⟩,a4,⟨a5,a6⟩,a7⟩:=h1.o.endAt (i:=i) (k:=k) hi r;obtain⟨c0,c1,c2,c3,c4⟩:=sA;rw[hk]at c0;obtain⟨A,l⟩:=nm s.s;rw[l]at c4 H;have B:=zb Q;have ks:=dR (h1.cn i hi) (h1.env.to (j:=i+1) (by omega)) (k:Int) A H Z;have ab:=aa.wl;unfold NS.send;rw[l];obtain⟨R,hR⟩:=nm ((n.c i).send k A);rw[hR]at ks ⊢;obtain⟨u,c'⟩:=R;simp only at ks ⊢;obtain⟨o,ho⟩:=nm (n.e i k);rw[ho]at ab ⊢;have HO:=zb ho;obtain⟨RR,I⟩:∃RR:Bool×NS,(if (o.fin||o.cut)=true then(u==4,n.setC i c')else if 2048<o.wrote.length+A.length then(u==3,n.setC i c')else(u==0,(n.setC i c').setE i k { o with wrote:=o.wrote++A }))=RR:=⟨_,rfl⟩;rw[I];have d:=zb I;clear I;have HN:=zb h1;have ac:=zb m1;have q4:((u:Int)==4)=(u==4):=F8 u 4;have q3:((u:Int)==3)=(u==3):=F8 u 3;have q0:((u:Int)==0)=(u==0):=F8 u 0;unfold Dm.cells at B ⊢;rw[hk,l]at B ⊢;clear l h hI h1 m1 Z aa Q hs hk U V hR ho hT;go_enter func21,ntmps21;go_upto_region 1 with fail;rw[B.z];go_upto_region 8 with(first|(go_at_call 24;refine X.mono ?_;rintro _ _ ⟨rfl,rfl⟩;clear X)|(go_at_call 24;refine Y.mono ?_;rintro _ _ ⟨rfl,rfl⟩)|(go_at_call 37;refine ks.mono ?_;rintro _ W2 ⟨rfl,hL⟩));obtain⟨tag',V',h2,old,m2⟩:=HN.z.conn hi hL;have P:=h2.o.enAt hi r;have d4:=m2.cell (a:=⟨sb,4,none⟩) (λx=>by
  have x:(tag sb).1=i+1:=x;rw[E]at x;simp at x) c4
 have C:(n.setC i c').e i k=o:=HO.z;rw[C]at P;obtain⟨P,e1,e2,e3,e4,e5,ez⟩:=P;obtain⟨S,hS⟩:=nm (n.setC i c');rw[hS]at h2 C;have J:∀{n':NS} {W':World},zs w tag' nb W2 n' W'->zs w tag nb W n' W':=λhh=>zs.from0 ac.z (zs.trans old (m2.mono (λg hg=>.inl (λx=>by rw[x]at hg;simp at hg))) hh)
 have v:AA (∀W',DW DX W2 W'->zs w tag nb W (n.setC i c') W'):=zb λW' m=>by rw[hS];exact J (zs.then0 h2.left m)
 have ad:tag' (M.eb i k)≠(0,0):=λx=>by
  have a:=(h2.o.en i hi k r).tag;have a:tag' (M.eb i k)=_:=a;rw[x]at a;simp at a
 have y:=(h2.o.en i hi k r).obj;rw[C]at y;have F:AA (∀(e':EN) W3 W',DW (λg=>g=M.eb i k) W2 W3->W3.heap[M.eb i k]?=some (.cells (FM e') 89 (0,0))->DW DX W3 W'->zs w tag nb W ((n.setC i c').setE i k e') W'):=zb λe' W3 W' m3 ho m'=>by
  rw[hS];have N3:=h2.endS hi r e' m3 ho;exact J (zs.then0 ⟨tag',_,N3,λ_ _=>rfl,m3.mono (λg hg=>.inl (by rw[show g=M.eb i k from hg];exact ad))⟩ m')
 obtain⟨eb,L⟩:=nm (M.eb i k);dsimp only at P e1 e2 e3 e4 e5 ez y;rw[L]at P e1 e2 e3 e4 e5 ez y F;try rw[L]
 have ah:=zb y;clear old m2 h2 J ad y HN ac hL C hS L;have ai:=zE A;have aj:=zE o.wrote;clear Y ks a1 a2 a3 a4 a5 a6 a7 b1 b2 b3 b4 c0 c1 c2 c3 c4 E B HO;obtain⟨wl,ae⟩:=nm o.wrote.length;obtain⟨sl,af⟩:=nm A.length;rw[ae]at ab aj d;rw[af]at H ai d;obtain⟨fn,N⟩:=nm o.fin;obtain⟨cu,O⟩:=nm o.cut;rw[N]at e1;rw[O]at e2;have t:=zb N;have D:=zb O;clear N O ae af;by_cases G:2048<wl+sl
 ·have db:decide ((2048:Int)-(wl:Int)<(sl:Int))=true:=Aq (by omega);go_quiet (fail);cases fn
  ·cases cu
   ·have f:=d.z;rw[AH (by rw[t.z,D.z];simp),AN G]at f;subst f;go_wp2_with fail;go_ret;exact⟨by first|rfl|simp only[q3],v.z _ ((DW.refl _ _).drewN _)⟩
   ·have f:=d.z;rw[AN (by rw[t.z,D.z];rfl)]at f;subst f;go_wp2_with fail;go_ret;exact⟨by first|rfl|simp only[q4],v.z _ ((DW.refl _ _).drewN _)⟩
  ·have f:=d.z;rw[AN (by rw[t.z];rfl)]at f;subst f;go_wp2_with fail;go_ret;exact⟨by first|rfl|simp only[q4],v.z _ ((DW.refl _ _).drewN _)⟩
 ·have db:decide ((2048:Int)-(wl:Int)<(sl:Int))=false:=Az (by omega);go_quiet (fail);cases fn
  ·cases cu
   ·have f:=d.z;rw[AH (by rw[t.z,D.z];simp),AH G]at f;subst f;go_upto_region 13 with fail;obtain⟨W3,z⟩:=nm (W2.drewN nq);have w0:W3.cell? ⟨eb,0,none⟩=some (.string (zq o.wrote)):=by rw[<-z];exact P
    have w4:W3.cell? ⟨sb,4,none⟩=some (.string (zq A)):=by rw[<-z];exact d4
    have wz:W3.frozen? ⟨eb,0,none⟩=false:=by rw[<-z];exact ez 0
    have Dc:=QK o.wrote A;have hno:¬9223372036854775807<wl+sl:=by omega
    rw[z];refine zl 10 (λw'=>w'.cell? ⟨eb,0,none⟩=some (.string (zq o.wrote))/\w'.cell? ⟨sb,4,none⟩=some (.string (zq A))) (⟨w0,w4⟩) ?_;refine GI 0 ?_;iterate 10
     refine GV rfl ?_;try simp only[PS]
    refine zU rfl (λK hK=>?_);go_simp;refine hK.z _ _ ?_;clear hK K;try simp only[PS]
    refine zn ?_;go_wp2_with fail;go_ret;refine⟨by first|rfl|simp only[q0],F.z _ (W2.setCell ⟨eb,0,none⟩ (.string (zq (o.wrote++A)))) _ ((DW.refl (λg=>g=eb) W2).setCell (p:=⟨eb,0,none⟩) (.inl rfl) _) ?_ ?_⟩
    ·rw[zc ah.z];rfl
    ·rw[<-z];exact⟨rfl,rfl,rfl,AG _,λ_ _ _=>rfl⟩
   ·have f:=d.z;rw[AN (by rw[t.z,D.z];rfl)]at f;subst f;go_wp2_with fail;go_ret;exact⟨by first|rfl|simp only[q4],v.z _ ((DW.refl _ _).drewN _)⟩
  ·have f:=d.z;rw[AN (by rw[t.z];rfl)]at f;subst f;go_wp2_with fail;go_ret;exact⟨by first|rfl|simp only[q4],v.z _ ((DW.refl _ _).drewN _)⟩
def UF(h:De w tag nb n M W)(hI:n.Inv T)(hT:T<=Dg)(Z:s.Ok)(hk:s.kind=2):Calls prog 21 #[.pointer (some ⟨nb,0,none⟩),.agg s.cells] W (EL w tag nb W (n.finish (DZ s.side 2) (DZ s.a 8))):=by
 obtain⟨W1,sb,i,k,gx,cx,G,hsb,h1,m1,sA,t,hi,b,H,I,J,K,b1,⟨b2,b3⟩,b4⟩:=I4 h Z;have aa:=Z.s;rw[H];rw[I];obtain⟨g,cap,q,ac,a1,⟨a2,a3⟩,a4,⟨a5,a6⟩,a7⟩:=h1.o.endAt (i:=i) (k:=k) hi b;obtain⟨c0,c1,c2,c3,c4⟩:=sA;rw[hk]at c0;obtain⟨ss,d⟩:=nm s.s;rw[d]at c4 aa;have l:=zb G;have V:=gA (h1.cn i hi) (h1.env.to (j:=i+1) (by omega)) (k:Int);unfold NS.finish;obtain⟨R,hR⟩:=nm ((n.c i).finish k);rw[hR]at V ⊢;obtain⟨u,c'⟩:=R;simp only at V ⊢;obtain⟨o,L⟩:=nm (n.e i k);rw[L];have HO:=zb L;obtain⟨RR,z⟩:∃RR:Bool×NS,(if (o.fin||o.cut)=true then(u==4,n.setC i c')else(u==0,(n.setC i c').setE i k { o with fin:=true }))=RR:=⟨_,rfl⟩;rw[z];have A:=zb z;clear z;have HN:=zb h1;have N:=zb m1;have q4:((u:Int)==4)=(u==4):=F8 u 4;have q0:((u:Int)==0)=(u==0):=F8 u 0;unfold Dm.cells at l ⊢;rw[hk,d]at l ⊢;clear d h hI h1 m1 G Z hk H I hR L hT;go_enter func21,ntmps21;go_upto_region 1 with fail;rw[l.z];go_upto_region 18 with(first|(go_at_call 24;refine J.mono ?_;rintro _ _ ⟨rfl,rfl⟩;clear J)|(go_at_call 24;refine K.mono ?_;rintro _ _ ⟨rfl,rfl⟩)|(go_at_call 38;refine V.mono ?_;rintro _ W2 ⟨rfl,hL⟩));obtain⟨tag',V',h2,old,m2⟩:=HN.z.conn hi hL;have O:=h2.o.enAt hi b;have d4:=m2.cell (a:=⟨sb,4,none⟩) (λx=>by
  have x:(tag sb).1=i+1:=x;rw[t]at x;simp at x) c4
 have r:(n.setC i c').e i k=o:=HO.z;rw[r]at O;obtain⟨O,e1,e2,e3,e4,e5,ez⟩:=O;obtain⟨S,X⟩:=nm (n.setC i c');rw[X]at h2 r;have B:∀{n':NS} {W':World},zs w tag' nb W2 n' W'->zs w tag nb W n' W':=λhh=>zs.from0 N.z (zs.trans old (m2.mono (λg hg=>.inl (λx=>by rw[x]at hg;simp at hg))) hh)
 have P:AA (∀W',DW DX W2 W'->zs w tag nb W (n.setC i c') W'):=zb λW' m=>by rw[X];exact B (zs.then0 h2.left m)
 have Q:tag' (M.eb i k)≠(0,0):=λx=>by
  have a:=(h2.o.en i hi k b).tag;have a:tag' (M.eb i k)=_:=a;rw[x]at a;simp at a
 have f:=(h2.o.en i hi k b).obj;rw[r]at f;have v:AA (∀(Y:EN) W3 W',DW (λg=>g=M.eb i k) W2 W3->W3.heap[M.eb i k]?=some (.cells (FM Y) 89 (0,0))->DW DX W3 W'->zs w tag nb W ((n.setC i c').setE i k Y) W'):=zb λY W3 W' m3 L m'=>by
  rw[X];have N3:=h2.endS hi b Y m3 L;exact B (zs.then0 ⟨tag',_,N3,λ_ _=>rfl,m3.mono (λg hg=>.inl (by rw[show g=M.eb i k from hg];exact Q))⟩ m')
 obtain⟨eb,C⟩:=nm (M.eb i k);dsimp only at O e1 e2 e3 e4 e5 ez f;rw[C]at O e1 e2 e3 e4 e5 ez f v;try rw[C]
 have ab:=zb f;clear old m2 h2 B Q f HN N hL r X C;clear K V a1 a2 a3 a4 a5 a6 a7 b1 b2 b3 b4 c0 c1 c2 c3 c4 t l HO;obtain⟨fn,D⟩:=nm o.fin;obtain⟨cu,E⟩:=nm o.cut;rw[D]at e1;rw[E]at e2;have F:=zb D;have U:=zb E;clear D E;have ez1:=ez 1;cases fn
 ·cases cu
  ·have y:=A.z;rw[AH (by rw[F.z,U.z];simp)]at y;subst y;go_wp2_with fail;go_ret;refine⟨by first|rfl|simp only[q0],v.z _ (W2.setCell ⟨eb,1,none⟩ (.bool true)) _ ((DW.refl (λg=>g=eb) W2).setCell (p:=⟨eb,1,none⟩) (.inl rfl) _) ?_ (DW.refl _ _)⟩;rw[zc ab.z];rfl
  ·have y:=A.z;rw[AN (by rw[F.z,U.z];rfl)]at y;subst y;go_wp2_with fail;go_ret;exact⟨by first|rfl|simp only[q4],P.z _ (DW.refl _ _)⟩
 ·have y:=A.z;rw[AN (by rw[F.z];rfl)]at y;subst y;go_wp2_with fail;go_ret;exact⟨by first|rfl|simp only[q4],P.z _ (DW.refl _ _)⟩
def De.nowS(h:De w tag nb n M W)(x:Nat):De w tag nb { n with now:=x } M (W.setCell ⟨nb,4,none⟩ (.int .u64 x)):=by
 have m:DW (λg=>g=nb) W (W.setCell ⟨nb,4,none⟩ (.int .u64 x)):=(DW.refl (λg=>g=nb) W).setCell (p:=⟨nb,4,none⟩) (.inl rfl) _;exact h.own (h.o.head (n':={ n with now:=x }) ⟨rfl,rfl,rfl,rfl⟩ rfl rfl ⟨rfl,rfl⟩ m (by rw[zc h.o.obj.obj];rfl)) rfl rfl rfl m (λg hg=>.inl (by rw[show g=nb from hg,h.o.obj.tag])) (Dj.same h.env.ok m)
def Qz(hI:c.Inv T)(hT:T<=Dg)(h:zg tag i b c V W)(E:Dx i tag W):Calls prog 26 #[.pointer (some ⟨b,0,none⟩)] W (EA tag i b W (.tuple #[]) c.tick) :=
 WH h E.ok E.pos (by have:=hI.now;unfold Dg at hT;unfold zB;omega) (by have:=hI.waits.2;omega) (by have:=hI.fl;omega) hI.ticked.loseOk
def Ta(h:De w tag nb n M W)(hI:n.Inv T)(R:T<=Dg)(S:s.Ok)(hk:s.kind=5)(U:∀tag' M' W',De w tag' nb n.tick M' W'->Calls prog 41 #[.pointer (some ⟨nb,0,none⟩),.agg s.cells] W' (EL w tag' nb W' (n.tick.carry s))):Calls prog 21 #[.pointer (some ⟨nb,0,none⟩),.agg s.cells] W (EL w tag nb W (n.tick.carry s)):=by
 obtain⟨W1,X,i,k,gx,cx,D,hsb,h1,m1,sA,v,hi,hk8,Y,Z,E,F,G,⟨H,I⟩,J⟩:=I4 h S;have aa:=S.s;obtain⟨c0,c1,c2,c3,c4⟩:=sA;rw[hk]at c0;obtain⟨ss,f⟩:=nm s.s;rw[f]at c4 aa;have r:=zb D;have K:=hI.c 0 (by omega);have L:=hI.c 1 (by omega);have ab:=hI.now;obtain⟨nw,d⟩:=nm n.now;have p4:W1.cell? ⟨nb,4,none⟩=some (.int .u64 nw):=by rw[<-d];exact h1.o.obj.cell (j:=4) rfl
 have f4:=h1.o.obj.fz 4;rw[d]at ab;have hTb:T<=268435455:=R;have HN:=zb h1;have ac:=zb m1;have HT:=zb R;obtain⟨RR,N⟩:=nm (n.tick.carry s);rw[N]at U ⊢;have A:=zb v;have t:=zb U;have ad:=zb d;have ae:=zb K;have af:=zb L;unfold Dm.cells at r t ⊢;rw[hk,f]at r t ⊢;clear f h hI h1 m1 D S hk Y Z R N v U d K L;go_enter func21,ntmps21;go_upto_region 1 with fail;rw[r.z];go_upto_region 34 with(first|(go_at_call 24;refine E.mono ?_;rintro _ _ ⟨rfl,rfl⟩;clear E)|(go_at_call 24;refine F.mono ?_;rintro _ _ ⟨rfl,rfl⟩));obtain⟨W2,u⟩:=nm (W1.setCell ⟨nb,4,none⟩ (.int .u64 ((nw:Int)+1)));have O:De w tag nb { n with now:=nw+1 } M W2:=by
  rw[<-u];exact HN.z.nowS (nw+1)
 have m2:DW (λg=>g=nb) W1 W2:=by
  rw[<-u];exact(DW.refl (λg=>g=nb) W1).setCell (p:=⟨nb,4,none⟩) (.inl rfl) _
 have l:=HN.z.o.obj.tag;have B:GW W2 X ⟨5,s.side,s.a,s.b,ss⟩:=GW.mod ⟨c0,c1,c2,c3,c4⟩ m2 (λx=>by
  have x:=x;rw[<-x,A.z]at l;simp at l)
 try rw[u]
 clear u G H I J;obtain⟨gx,cx,G,⟨H,I⟩,J⟩:=O.o.connIs (i:=0) (by omega);have P:=Qz ae.z HT.z (O.cn 0 (by omega)) (O.env.to (j:=0+1) (by omega));go_upto_region 35 with(go_at_call 26;refine P.mono ?_;rintro _ W3 ⟨rfl,C⟩);obtain⟨y,V3,Q,m,m3⟩:=O.conn (by omega) C;clear G H I J P C;obtain⟨gx3,cx3,G,⟨H,I⟩,J⟩:=Q.o.connIs (i:=1) (by omega);have al:({ n with now:=nw+1 }:NS).c 1=n.c 1:=rfl;have P:Calls prog 26 #[.pointer (some ⟨M.b 1,0,none⟩)] W3 (EA y (1+1) (M.b 1) W3 (.tuple #[]) (n.c 1).tick):=Qz af.z HT.z (Q.cn 1 (by omega)) (Q.env.to (j:=1+1) (by omega));go_upto_region 41 with(go_at_call 26;refine P.mono ?_;rintro _ W4 ⟨rfl,C⟩);obtain⟨q,V4,N4,z,m4⟩:=Q.conn (by omega) C;have e:(({ n with now:=nw+1 }:NS).setC 0 (n.c 0).tick).setC 1 (n.c 1).tick=n.tick:=by
  unfold NS.tick;rw[ad.z];rfl
 have N5:De w q nb ((({ n with now:=nw+1 }:NS).setC 0 (n.c 0).tick).setC 1 (n.c 1).tick) { ({ M with V:=V3 }:NV)with V:=V4 } W4:=N4;rw[e]at N5;have ah:=zk B.c0;have ai:y X=(0,0):=by rw[m X ah,A.z]
 have aj:=(B.mod m3 (λx=>by
  have x:=x;rw[A.z]at x;simp at x)).mod m4 (λx=>by
  have x:=x;rw[ai]at x;simp at x)
 have ak:AA (∀{n':NS} {W':World},zs w q nb W4 n' W'->zs w tag nb W n' W'):=zb λhh=>by
  refine zs.from0 ac.z (zs.trans (λ_ _=>rfl) (m2.mono (λg hg=>.inl (by rw[show g=nb from hg,l];simp))) ?_);refine zs.trans m (m3.mono (λg hg=>.inl (λx=>by rw[x]at hg;simp at hg))) ?_;exact zs.trans z (m4.mono (λg hg=>.inl (λx=>by rw[x]at hg;simp at hg))) hh
 have kc:=t.z q _ W4 N5;obtain⟨y0,y1,y2,y3,y4⟩:=aj;clear O Q N4 N5 e m2 m3 m4 m z G H I J P C B t HN c0 c1 c2 c3 c4 p4 f4 F r;go_wp2_with (go_at_call 41;refine kc.mono ?_;rintro _ W5 ⟨rfl,C⟩);go_ret;exact⟨rfl,ak.z C⟩
def Ps(h:De w tag nb n M W)(hI:n.Inv T)(hT:T<=Dg)(hi:i<2):Calls prog 34 #[.pointer (some ⟨nb,0,none⟩),.int .i64 i] W (EL w tag nb W (n.came i)):=by
 obtain⟨J,hJ⟩:=nm (1-i);have B:J<2:=by omega
 have x1:IntKind.i64.wrap (1-(i:Int))=(J:Int):=by rw[IntKind.wrap_i64];omega
 have x2:(1:Int)-(i:Int)=(J:Int):=by omega
 obtain⟨gx,cx,b1,⟨b2,b3⟩,b4⟩:=h.o.connIs (i:=i) hi;have kc:=eN (h.cn i hi);have am:(n.g J).length<=268435455:=by
  have:=hI.gl J B;unfold Dg at hT;omega
 have an:(n.c i).datagramsOut.1.length<=268435455:=by
  have:=(hI.c i hi).cl;unfold Dg at hT;show(n.c i).came.length<=_;omega
 unfold NS.came;rw[hJ];obtain⟨l,hl⟩:=nm ((n.c i).datagramsOut.1);obtain⟨c',C⟩:=nm ((n.c i).datagramsOut.2);obtain⟨nw,D⟩:=nm n.now;obtain⟨R,hR⟩:=nm (FV nw l (n.g J));obtain⟨K,E⟩:=nm ((n.g J).length);obtain⟨L,N⟩:=nm l.length;rw[hl,C]at kc;rw[hl,N]at an;rw[hl,C,D,hR];rw[E]at am;have HN:=zb h;have HR:=zb hR;have ao:=zb E;have O:=zb D;have hE:=h.env.ok;have P:=(h.cn i hi).tb;clear hI hR E D hl C hT;go_enter func34,ntmps34;go_upto_region 2 with(go_at_call 67;refine kc.mono ?_;intro e W1 Q;obtain⟨v,rfl,f,U,X⟩:=Q.left hE P;obtain⟨tag',V',h1,old,m1⟩:=HN.z.conn hi X);obtain⟨S,Y⟩:=nm (n.setC i c');have Z:S.g=n.g:=by rw[<-Y];rfl
 have aa:S.now=n.now:=by rw[<-Y];rfl
 obtain⟨t,ab⟩:∃t:NV,({ M with V:=V' }:NV)=t:=⟨_,rfl⟩;have h1:De w tag' nb S t W1:=by rw[<-Y,<-ab];exact h1
 have ac:AA (∀(G:List SN) wr W',De w tag' nb { S with g:=upd S.g J G } t wr->DW (JX tag') W1 wr->DW DX wr W'->zs w tag nb W { n.setC i c' with g:=upd n.g J G } W'):=by
  refine zb λG wr W' hN m m'=>?_
  have e:({ S with g:=upd S.g J G }:NS)={ n.setC i c' with g:=upd n.g J G }:=by rw[<-Y];rfl
  rw[<-e];exact zs.trans old (m1.mono (λg hg=>.inl (λx=>by rw[x]at hg;simp at hg))) ⟨tag',t,hN.free m' (λ_ x=>x.elim),λ_ _=>rfl,(m.mono (λg hg=>.inl (by obtain⟨r,_,e⟩:=hg;rw[e];simp))).trans (m'.mono (λ_ x=>x.elim))⟩
 have ad:∀g,v.ownBlock=some g->tag' g=(i+1,8):=λg hg=>by
  have h2:=U g hg;have h3:=EQ hE h2 (by omega);rw[old g h3,h2]
 have z:AA (∀wr,DW (JX tag') W1 wr->wr.ownsRow 0 154 2 v l.length (En l)):=zb λwr m=>m.owns f (λg hg x=>by
  obtain⟨r,_,e⟩:=x;rw[ad g hg]at e;simp at e;omega)
 obtain⟨va,vc,rfl,ap,aq,ae⟩:=zi f;rw[N]at ap ae z;unfold maxLen at aq;have ST:AA (De w tag' nb { S with g:=upd S.g J (n.g J) } t W1):=by
  refine zb ?_;rw[<-Z,Xq];exact h1
 have af:AA (S.now=nw):=aa.trans O.z;have F:=zb N;rw[N];clear h hE P U f h1 old m1 Z aa ad b1 b2 b3 b4 kc Q X Y ab HN N O;go_wp2_with fail
 go_loopw [6] (λkv wr=>∃(k:Nat) (G:List SN),k<=L/\kv = .int .i64 k/\AA (De w tag' nb { S with g:=upd S.g J G } t wr/\DW (JX tag') W1 wr/\FV nw (l.drop k) G=R/\G.length=K)) (λkv _=>L-(intOf kv).toNat)
 case atStart=>exact⟨0,n.g J,AL _,rfl,zb ⟨ST.z,DW.refl _ _,HR.z,ao.z⟩⟩
 case round =>
  obtain⟨k,G,hk,rfl,H⟩:=hrel;by_cases ah:k<L
  ·obtain⟨m,hm⟩:∃m,l[k]?=some m:=⟨l[k]'(by rw[F.z];exact ah),AJ _⟩;obtain⟨gv,rfl⟩:=ae (by omega);have HM:=zb hm;obtain⟨RB,RL,ai⟩:∃RB RL,EF nw m.1 m.2 G false=(RB,RL):=⟨_,_,rfl⟩;have u:=zb ai;clear ai hm;go_wp2_with fail
   go_loopw [7,8] (λfv jv wr=>∃(j:Nat) (r:Bool),j<=K/\fv = .bool r/\jv = .int .i64 j/\AA (Fx w tag' nb S t W1 J G nw m RB RL j r wr)) (λ_ jv _=>K-(intOf jv).toNat)
   case atStart =>
    obtain⟨a1,a2,a3,a4⟩:=H.z;exact⟨0,false,AL _,rfl,rfl,zb (Fx.start a1 a2 u.z)⟩
   case round =>
    obtain⟨j,r,hj,rfl,rfl,HJ⟩:=hrel;have y:=H.z.2.2.2;obtain⟨c4,gg,cg,ga,ca,d1,⟨d2,d3⟩,d4,⟨d5,d6⟩,I,d7⟩:=HJ.z.look B af.z (by omega);rw[y]at d4 d5;obtain⟨r1,r2⟩:=VZ (z.z wr I) F.z HM.z;by_cases ar:j<K
    ·obtain⟨g,hg⟩:∃g,G[j]?=some g:=⟨G[j]'(by omega),AJ _⟩;obtain⟨q,b,rfl,hb,d8,⟨e0,e1,e2,e3,e4⟩⟩:=d7 g hg;have HG:=zb hg;have HB:=zb hb;have t1:(zq g.data).toList=g.data:=by rw[ByteArray.toList_eq,IL]
     have t2:(zq m.2).toList=m.2:=by rw[ByteArray.toList_eq,IL]
     clear d7 I hg hb y;by_cases d:g.id=m.1;rotate_left
     ·have q1:((g.id:Int)==(m.1:Int))=false:=by rw[F8];exact AR.2 d
      have A:=zb d;clear d;go_wp2_with fail;go_quiet (fail);go_wp2_with fail;go_roundw
      case rel=>exact⟨j+1,r,by omega,rfl,by go_num,zb (HJ.z.miss HG.z A.z ((DW.refl _ _).drewN _))⟩
      case measure=>simp[intOf];omega
     ·have q1:((g.id:Int)==(m.1:Int))=true:=by rw[F8];exact Cd.2 d
      have A:AA (∀rv,rv=(g.data==m.2 && !g.came&&decide (nw<=g.dl))->∀W',DW DX (wr.setCell ⟨b,3,none⟩ (.bool true)) W'->Fx w tag' nb S t W1 J G nw m RB RL (j+1) rv W'):=zb λrv hr W' m'=>by
       rw[hr];exact HJ.z.hit B HG.z HB.z d m'
      clear d;go_wp2_with fail;go_quiet (fail);go_upto_region 11 with fail;by_cases p:g.data=m.2
      ·have q2:(g.data==m.2)=true:=by rw[p];exact beq_self_eq_true _
       obtain⟨cm,au⟩:=nm g.came;rw[au]at e3 A;rw[q2]at A;cases cm
       ·go_quiet (fail);go_wp2_with fail;go_roundw
        case rel=>exact⟨j+1,_,by omega,rfl,by go_num,zb (A.z _ (by simp) _ (Pt _ _ _ _))⟩
        case measure=>simp[intOf];omega
       ·go_quiet (fail);go_wp2_with fail;go_roundw
        case rel=>exact⟨j+1,_,by omega,rfl,by go_num,zb (A.z _ (by simp) _ (Pt _ _ _ _))⟩
        case measure=>simp[intOf];omega
      ·have q2:=AR.2 p;rw[q2]at A;clear p;go_quiet (fail);go_wp2_with fail;go_roundw
       case rel=>exact⟨j+1,_,by omega,rfl,by go_num,zb (A.z _ (by simp) _ (Pt _ _ _ _))⟩
       case measure=>simp[intOf];omega
    ·have av:j=K:=by omega
     subst av;obtain⟨f1,f2,f3⟩:=HJ.z.done y.symm;subst f1;have HC:=zb (Xr (now:=nw) HM.z G);have aj:=zb f2;have ak:=zb f3;clear d7 I f2 f3 ar;cases r
     ·have s:AA (R=(false,RL)):=by
       show _=_;have a:=HC.z;rw[u.z,H.z.2.2.1]at a;exact a
      have hr:=s.z;subst hr;go_wp2_with fail;go_ret;exact⟨rfl,ac.z RL wr _ aj.z ak.z (DW.refl _ _)⟩
     ·have s:AA (FV nw (l.drop (k+1)) RL=R):=by
       show _=_;have a:=HC.z;rw[u.z,H.z.2.2.1]at a;exact a.symm
      have al:AA (RL.length=j):=by
       show _=_;have a:=(OD nw m.1 m.2 G false).1;rw[u.z]at a;exact a.trans y
      go_wp2_with fail;go_roundw
      case rel=>exact⟨k+1,RL,by omega,by go_num,zb ⟨aj.z,ak.z,s.z,al.z⟩⟩
      case measure=>simp[intOf];omega
  ·have aw:k=L:=by omega
   subst aw;have s:AA (R=(true,G)):=by
    show _=_;have a:=H.z.2.2.1;have e:l.drop k=[]:=by rw[<-F.z];exact CJ
    rw[e]at a;exact a.symm
   have hr:=s.z;subst hr;clear ah;go_wp2_with fail;go_ret;exact⟨rfl,ac.z G wr _ H.z.1 H.z.2.1 (DW.refl _ _)⟩
end
end Go.Proofs.YtddfdpbaiedcjaaGreatDoor
