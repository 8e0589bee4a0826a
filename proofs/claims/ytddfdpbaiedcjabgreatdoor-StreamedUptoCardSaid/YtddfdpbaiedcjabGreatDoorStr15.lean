/- Streamed. Part 15 of 17. -/
import Derived.Test.YtddfdpbaiedcjabGreatDoorStr14
set_option maxRecDepth 100000
set_option maxHeartbeats 16000000
set_option linter.all false
namespace Go.Proofs.YtddfdpbaiedcjabGreatDoor
section
open Go.RowKit Go.Proofs.Tryz
structure Nj(J:List DF->rT->Prop)(N g o cap:Nat):Prop where
 obj:∀R w,0<N->J R w->∃cur,w.heap[g]?=some (.cells cur 48 (0,0))
 st:∀R w (i:Nat) (f:DF),J R w->i<N->f∈R->J (R.set i f) ((((((((((w.setCell (g,o+i*10) (.int .i64 f.kind)).setCell (g,o+i*10+1) (.int .i64 f.stream)).setCell (g,o+i*10+2) (.int .u64 f.off)).setCell (g,o+i*10+3) (.int .u64 f.rel)).setCell (g,o+i*10+4) (.int .u64 f.lF)).setCell (g,o+i*10+5) (.bool f.fin)).setCell (g,o+i*10+6) (.int .u64 f.id)).setCell (g,o+i*10+7) (.int .u64 f.dl)).setCell (g,o+i*10+8) (.string (zy f.data))).setCell (g,o+i*10+9) (.slice none 0 0))
 cl:∀R w (i:Nat),J R w->i<N->∃w2 R2,(∀ty,(Builtin.clear_ #[35] ty #[.slice (g,o+i*10) (N-i) (cap-i)]).run prog w=.ok (.tuple #[]) w2)/\J R2 w2/\R2.take i=R.take i
def LO(J:List DF->rT->Prop)(g:Nat)(L:List DF)(a:qs)(cap:Nat)(e:Ending)(w':rT):Prop :=
 ∃(i:Nat) (R:List DF),e=.returned (.slice a i cap)/\i<=L.length/\J R w'/\R.take i=L.filter (λx => !decide (x.dl<g))
def Ug{a:Nat}{l:List DF}(h:∀x∈l,decide (x.dl<a)=false):l.filter (λx => !decide (x.dl<a))=l :=
 C7.2 (λx a=>by rw[h x a];rfl)
theorem gn(J:List DF->rT->Prop)(L:List DF)(N g o cap b K q:Nat)(a:qs)(y:L.length=N)(z:N<=1099511627776)(av:N<=cap)(A:cap<=maxLen)(ha:0<N->a=some ⟨g,o,none⟩)(hJ:LN J N g o b K q)(hK:Nj J N g o cap)
  (w:rT) (h0:J L w) :
  rH 99 #[.slice a N cap,.func (.func 100) #[] #[.pointer K]] w (LO J q L a cap):=by
 have ki:=fu J L N g o cap b K q a y z ha hJ w h0;unfold maxLen at A;have HJ:=zb hJ;have HK:=zb hK;have HA:=zb ha;have HN:=zb y;have a:=zb ki;clear hJ hK h0 ha y ki;go_enter func99,ntmps99;go_wp2_with fail;refine(a.z).mono ?_;clear a;rintro e a (⟨k,rfl,h,E,G,u⟩|⟨rfl,E,G⟩)
 .have ae:k<N:=by rw[<-HN.z];exact h
  have af:=HA.z I;subst af;have O:=zb u;have a:AA (L.take k=(L.take<|k+1).filter (λx => !decide (x.dl<q))):=zb (by
   obtain⟨x,m⟩:∃x,L[k]?=some x:=⟨L[k],AG h⟩;have h9:=G x m;rw[Ai,m,B3,Ug E];simp only[Option.toList_some,List.filter_cons,h9];simp)
  have d1:((k:Int) == -1)=false:=by rw[AM];omega
  clear h E G u;go_wp2_with fail
  go_loopw [5,6] (λu h wr=>∃(i j:Nat) (R:List DF),u=.int .i64 i/\h=.int .i64 j/\i<j/\j<=N/\AA (J R wr/\R.take i=(L.take j).filter (λx => !decide (x.dl<q))/\R.drop j=L.drop j)) (λ_ h _=>N-(intOf h).toNat)
  case atStart=>exact⟨k,k+1,L,rfl,by go_num,I,I,zb ⟨O.z,a.z,rfl⟩⟩
  case round =>
   clear O a d1 ae;obtain⟨i,j,R,rfl,rfl,ag,a,X⟩:=hrel;have y:=HJ.z.len R wr X.z.1;by_cases a:j<N
   .obtain⟨f,m⟩:∃x,R[j]?=some x:=⟨R[j]' I,AG I⟩;have z:L[j]?=some f:=by
     have M:=Ax (λl=>l[0]?) X.z.2.2;simp only[BM,Bb]at M;rw[<-M];exact m
    obtain⟨ah,ai,aj,ak,al,am,an,ao,ap,aq⟩:=GC<|HJ.z.rd R wr X.z.1 j f m;obtain⟨Y,A⟩:=nm<|wr.alloc<|.cells (ze f rV) 48;have mY:=AB A;have a:zp Y wr.heap.size f (.slice none 0 0):=by rw[<-A];exact heap_alloc_new wr _
    have jY:=HJ.z.box _ _ _ X.z.1 mY;have kc:=Tu f rV b K q Y (HJ.z.cb R Y jY)<|HJ.z.now R Y jY;obtain⟨y0,y1,y2,y3,y4,y5,y6,y7,y8,y9⟩:=a.cells;unfold ze at kc A;have HX:=zb<|And.intro m z;obtain⟨dv,h⟩:=nm<|decide<|f.dl<q;rw[h]at kc;have ar:=zb h;have KC:=zb kc;have aa:=zb y;have JY:=zb jY;have n:=zb a;obtain⟨yb,u⟩:=nm wr.heap.size;rw[u]at y0 y1 y2 y3 y4 y5 y6 y7 y8 y9 n;have HY:=zb A;have K:=zb u;clear kc m z h y jY a mY A u;go_upto_region 8 with fail;rw[K.z,HY.z];go_wp2_with fail;refine(KC.z).mono ?_;rintro e B ⟨rfl,C⟩;have m6:C9 DA Y B:=by rw[C];exact((C9.refl DA Y).alloc _).drew
    have D:zp B yb f (.slice none 0 0):=m6.obj rP n.z;have j6:=HJ.z.box _ _ _ JY.z m6;obtain⟨a,e,h,m,u,y,z,A,K,Y⟩:=D.cells;have J6:=zb j6;have Z:i<N:=I;have ab:AA ((L.take<|j+1).filter (λx => !decide (x.dl<q))=(L.take j).filter (λx => !decide (x.dl<q))++(if dv then []else [f])):=zb (by
     rw[Ai,HX.z.2,B3];congr 1;have h9:=ar.z;simp only[Option.toList_some,List.filter_cons,h9];cases dv<;>simp)
    have ac:=zb (by
     have M:=Ax (List.drop 1) X.z.2.2;simpa [CK]using M)
    clear KC y0 y1 y2 y3 y4 y5 y6 y7 y8 y9 ah ai aj ak al am an ao ap aq C m6 D JY n;cases dv with
    | true =>
     clear j6;go_wp2;go_roundw
     case rel=>exact⟨i,j+1,R,rfl,by go_num,I,I,zb ⟨J6.z,by rw[ab.z,X.z.2.1];simp,ac.z⟩⟩
     simp[intOf];omega
    | false =>
     obtain⟨e,a⟩:=HK.z.obj _ _ I j6;obtain⟨e,ad⟩:∃e,R[i]?=some e:=⟨R[i]'(by rw[aa.z];exact Z),AG<|by rw[aa.z];exact Z⟩;obtain⟨w0,h,m,n,u,y,z,A,C,D⟩:=GC<|HJ.z.rd R B j6 i e ad;have f0:∀p,B.frozen? ⟨g,p,none⟩=false:=λp=>zd a
     have m:∀e h p,(B.setCell ⟨g,e,none⟩ h).frozen? ⟨g,p,none⟩=false:=λe h p=>zd<|zc a
     have u:∀e h m n p,((B.setCell ⟨g,e,none⟩ h).setCell ⟨g,m,none⟩ n).frozen? ⟨g,p,none⟩=false:=λe h m n p=>zd<|zc<|zc a
     have z:∀e h m n u y p,(((B.setCell ⟨g,e,none⟩ h).setCell ⟨g,m,none⟩ n).setCell ⟨g,u,none⟩ y).frozen? ⟨g,p,none⟩=false:=λe h m n u y p=>zd<|zc<|zc<|zc a
     have C:∀e h m n u y z A p,((((B.setCell ⟨g,e,none⟩ h).setCell ⟨g,m,none⟩ n).setCell ⟨g,u,none⟩ y).setCell ⟨g,z,none⟩ A).frozen? ⟨g,p,none⟩=false:=λe h m n u y z A p=>zd<|zc<|zc<|zc<|zc a
     have K:∀e h m n u y z A C D p,(((((B.setCell ⟨g,e,none⟩ h).setCell ⟨g,m,none⟩ n).setCell ⟨g,u,none⟩ y).setCell ⟨g,z,none⟩ A).setCell ⟨g,C,none⟩ D).frozen? ⟨g,p,none⟩=false:=λe h m n u y z A C D p=>zd<|zc<|zc<|zc<|zc<|zc a
     have Y:∀e h m n u y z A C D K M p,((((((B.setCell ⟨g,e,none⟩ h).setCell ⟨g,m,none⟩ n).setCell ⟨g,u,none⟩ y).setCell ⟨g,z,none⟩ A).setCell ⟨g,C,none⟩ D).setCell ⟨g,K,none⟩ M).frozen? ⟨g,p,none⟩=false:=λe h m n u y z A C D K M p=>zd<|zc<|zc<|zc<|zc<|zc<|zc a
     have f7:∀e h m n u y z A C D K M Y v7 p,(((((((B.setCell ⟨g,e,none⟩ h).setCell ⟨g,m,none⟩ n).setCell ⟨g,u,none⟩ y).setCell ⟨g,z,none⟩ A).setCell ⟨g,C,none⟩ D).setCell ⟨g,K,none⟩ M).setCell ⟨g,Y,none⟩ v7).frozen? ⟨g,p,none⟩=false:=λe h m n u y z A C D K M Y v7 p=>zd<|zc<|zc<|zc<|zc<|zc<|zc<|zc a
     have f8:∀e h m n u y z A C D K M Y v7 p8 v8 p,((((((((B.setCell ⟨g,e,none⟩ h).setCell ⟨g,m,none⟩ n).setCell ⟨g,u,none⟩ y).setCell ⟨g,z,none⟩ A).setCell ⟨g,C,none⟩ D).setCell ⟨g,K,none⟩ M).setCell ⟨g,Y,none⟩ v7).setCell ⟨g,p8,none⟩ v8).frozen? ⟨g,p,none⟩=false:=λe h m n u y z A C D K M Y v7 p8 v8 p=>zd<|zc<|zc<|zc<|zc<|zc<|zc<|zc<|zc a
     have f9:∀e h m n u y z A C D K M Y v7 p8 v8 p9 v9 p,(((((((((B.setCell ⟨g,e,none⟩ h).setCell ⟨g,m,none⟩ n).setCell ⟨g,u,none⟩ y).setCell ⟨g,z,none⟩ A).setCell ⟨g,C,none⟩ D).setCell ⟨g,K,none⟩ M).setCell ⟨g,Y,none⟩ v7).setCell ⟨g,p8,none⟩ v8).setCell ⟨g,p9,none⟩ v9).frozen? ⟨g,p,none⟩=false:=λe h m n u y z A C D K M Y v7 p8 v8 p9 v9 p=>zd<|zc<|zc<|zc<|zc<|zc<|zc<|zc<|zc<|zc a
     have e:=zb<|HK.z.st R B i f j6 Z<|AZ HX.z.1;clear j6 a ad;go_wp2;go_roundw
     case rel =>
      refine⟨i+1,j+1,R.set i f,by go_num,by go_num,I,I,zb ⟨e.z,?_,?_⟩⟩
      .rw[QU (by rw[aa.z];exact Z),ab.z,X.z.2.1];rfl
      rw[QT I,ac.z]
     simp[intOf];omega
   have au:j=N:=I;subst au;obtain⟨g,m,e,a,h⟩:=HK.z.cl R wr i X.z.1 ag;have e:=zb a;have g:=zb h;have n:¬cap=i:=I;have d1:i<=cap:=I;clear a h;have n:=HN.z;have a:m.take i=L.filter (λx => !decide (x.dl<q)):=by
    rw[g.z,X.z.2.1,AS I]
   have g:=zb a;have h:=zb n;clear n a;go_wp2;go_ret;exact⟨i,m,rfl,by rw[h.z];omega,e.z,g.z⟩
 clear HJ HK;have O:=zb G;have a:=zb<|Ug E;clear E G;go_wp2;go_ret;exact⟨N,L,rfl,by rw[HN.z];exact AI _,O.z,by rw[a.z,<-HN.z,AS (AI _)]⟩
def Jc(w:rT)(g off n sz:Nat)(xs:qt):Prop:=∃a,w.heap[g]?=some (.cells a 48 (0,0))/\(a.toList.drop off).take n=xs/\a.size=sz
variable{g n sz:Nat}{w:rT}{xs:qt}
def Jc.set{off:Nat}(h:Jc w g off n sz xs)(m:Nat)(v:rU):Jc (w.setCell (g,off+m) v) g off n sz (xs.set m v):=by
 obtain⟨a,e,g,n⟩:=h;refine⟨_,zc e,?_,by simp[n]⟩;rw[<-g,Array.toList_setIfInBounds,List.drop_set,AH I,Cn,(I:off+m-off=m)]
def Qq(f:DF)(l:List DF):zs (f::l)=(.int .i64 f.kind)::(.int .i64 f.stream)::(.int .u64 f.off)::(.int .u64 f.rel)::(.int .u64 f.lF)::(.bool f.fin)::(.int .u64 f.id)::(.int .u64 f.dl)::(.string (zy f.data))::(.slice none 0 0)::zs l:=rfl
theorem SF:∀(R:List DF) (i:Nat) (f:DF),i<R.length->zs (R.set i f)=((((((((((zs R).set (i*10) (.int .i64 f.kind)).set (i*10+1) (.int .i64 f.stream)).set (i*10+2) (.int .u64 f.off)).set (i*10+3) (.int .u64 f.rel)).set (i*10+4) (.int .u64 f.lF)).set (i*10+5) (.bool f.fin)).set (i*10+6) (.int .u64 f.id)).set (i*10+7) (.int .u64 f.dl)).set (i*10+8) (.string (zy f.data))).set (i*10+9) (.slice none 0 0)
 | [],_,_,h=>by simp at h
 | y::R,0,f,_=>by simp[Qq]
 | y::R,i+1,f,h=>by
  have a:=SF R i f<|qp h;rw[CE,Qq,Qq,a,(I:(i+1)*10=i*10+10)];simp[CE]
theorem SE:∀(R:List DF) (j:Nat) (f:DF),R[j]?=some f->∀q x,(ze f rV)[q]?=some x->(zs R)[j*10+q]?=some x
 | [],j,f,h=>by simp at h
 | y::R,0,f,h=>by
  simp at h;subst h;intro q x a;have g:q<10:=(AJ.1 a).1;have e:zs (y::R)=(ze y rV).toList++zs R:=rfl;rw[e,B6,An,Ag<|by exact g,Ba];exact a
 | y::R,j+1,f,h=>by
  intro q x a;have g:=SE R j f (qp h) q x a;have e:zs (y::R)=(ze y rV).toList++zs R:=rfl;have a:(ze y rV).toList.length=10:=rfl;rw[e,Ac<|by rw[a];omega,a,(I:(j+1)*10+q-10=j*10+q)];exact g
variable{N cap o:Nat}
def EI.pg(h:EI w 48 10 (.slice (g,o) N cap) N xs):∃n,Jc w g o (N*10) n xs/\N<=cap/\cap<=maxLen/\∃m,o=m*10/\(m+cap)*10<=n:=by
 rcases h.2 with⟨e,_⟩|⟨h,m,g,a,e,q,u,y,z,A⟩
 .cases e
 cases e;exact⟨a.size,⟨a,q,A,rfl⟩,u,y,m,rfl,z⟩
def Jc.own(h:Jc w g (o*10) (N*10) sz xs)(m:xs.length=N*10)(n:N<=cap)(q:cap<=maxLen)(u:(o+cap)*10<=sz):EI w 48 10 (.slice (g,o*10) N cap) N xs:=by
 obtain⟨e,a,b,c⟩:=h;exact⟨m,.inr ⟨g,o,cap,e,rfl,a,n,q,by rw[c];exact u,b⟩⟩
variable{V:CV}{W W':rT}{b i:Nat}{c:CS}{tag:qr}
def zn.wait{R':List DF}(h:zn tag i b c V W)(m:C9 (λq=>q=g) W W')(e:Value.kr V.wt=some g)(n:EI W' 48 10 V.wt R'.length (zs R')):zn tag i b { c with waits:=R' } V W':=by
 have a:=h.nE g e;have u:b≠g:=λe=>by
  rw[<-e,h.tb]at a;simp at a
 refine h.build (R:=λr=>r=6) m (λq e=>⟨6,rfl,by rw[show q=g from e];exact a⟩) (λ_ _=>rfl) (m.obj u h.obj) rL (λk a=>.inl rK) (λk a=>.inl rK) (λk a=>.inl rK) (λk a=>.inl rK) (λk a=>.inl rK) rL (.inr ⟨n,h.nE⟩) rJ rJ
def GZ(tag:qr)(i b:Nat)(W0:rT)(c:CS)(V:CV)(N:Nat)(R:List DF)(w:rT):Prop:=R.length=N/\zn tag i b { c with waits:=R } V w/\zL tag w/\C9 (Da i tag) W0 w
variable{W0 w':rT}
def GZ.lq{R R':List DF}(h:GZ tag i b W0 c V N R w)(m:C9 (λq=>q=g) w w')(e:Value.kr V.wt=some g)(n:R'.length=N)(a:EI w' 48 10 V.wt N (zs R')):GZ tag i b W0 c V N R' w':=by
 obtain⟨_,u,y,z⟩:=h;refine⟨n,u.wait m e<|by rw[n];exact a,y.mod m,z.trans<|m.mono<|λq a=>.inl<|EM (r:=6) (by rw[show q=g from a];exact u.nE g e) lc⟩
def GZ.row{R:List DF}(h:GZ tag i b W0 c V N R w):EI w 48 10 V.wt N (zs R):=by
 have:=h.2.1.wt;simp only[h.1]at this;exact this
variable{cb:Nat}
def GZ.qj{e:Nat}(q:W0 cb=some (.pointer b))(u:¬Da i tag cb)(n:c.now=e)(y:0<N->V.wt=.slice (g,o) N cap):LN (GZ tag i b W0 c V N) N g o b cb e:=by
 refine⟨λR w w' h m=>⟨h.1,h.2.1.kI m,h.2.2.1.mod m,h.2.2.2.trans<|m.mono rQ⟩,λR w h=>h.1,λR w h=>h.2.2.2.cell (a:=cb) u q,λR w h=>by rw[<-n];exact h.2.1.hd (j:=3) rfl,λR w h j f a q x e=>?_⟩;have g:0<N:=by
  have:=(AO.1 a).1;have:=h.1;omega
 have:=h.row.cells (y g) (j*10+q) x<|SE R j f a q x e;rw[<-Nat.add_assoc]at this;exact this
def GE:DF:={ kind:=0,stream:=0,off:=0,rel:=0,lF:=0,fin:=false,id:=0,dl:=0,data:=[],kC:=[] }
def WV(w:rT):(zeroValue 48).run prog w=.ok (.agg (ze GE rV)) w:=kw
theorem iV(n:Nat):(Builtin.zeroCells (Value.agg (ze GE rV)).cells n).toList=zs (List.replicate n GE):=by
 have h:∀n,(Builtin.zeroCells (Value.agg<|ze GE rV).cells n).toList=(List.range<|n*10).map (λi=>(ze GE rV)[i % 10]!):=λn=>by
  simp[Builtin.zeroCells,Value.cells,ze]
 rw[h];clear h
 induction n with
 | zero=>rfl
 | succ n ih =>
  have a:zs (List.replicate (n+1) GE)=(ze GE rV).toList++zs (List.replicate n GE):=by rw[List.replicate_succ];rfl
  rw[a,<-ih,(I:(n+1)*10=10+n*10),List.range_add,A9,Cu];have e:((λi=>(ze GE rV)[i % 10]!) ∘ λx=>10+x)=λi=>(ze GE rV)[i % 10]!:=by
   funext q;simp only[Function.comp,Nat.add_mod_left]
  rw[e];rfl
def Qg(A B:List DF):zs (A++B)=zs A++zs B:=by simp[zs]
def GZ.qZ(y:0<N->V.wt=.slice (g,o) N cap):Nj (GZ tag i b W0 c V N) N g o cap:=by
 refine⟨λR w u h=>?_,λR w j f h q D=>?_,λR w j h q=>?_⟩
 .have e:=h.row;rw[y u]at e;obtain⟨sz,⟨a,z,_⟩,_⟩:=e.pg;exact⟨a,z⟩
 .have u:0<N:=I;have e:=h.row;rw[y u]at e;obtain⟨sz,n,A,B,m,rfl,C⟩:=e.pg;have D:=n.set (j*10)<|.int .i64 f.kind;have n:=D.set (j*10+1)<|.int .i64 f.stream;have D:=n.set (j*10+2)<|.int .u64 f.off;have n:=D.set (j*10+3)<|.int .u64 f.rel;have D:=n.set (j*10+4)<|.int .u64 f.lF;have n:=D.set (j*10+5)<|.bool f.fin;have D:=n.set (j*10+6)<|.int .u64 f.id;have n:=D.set (j*10+7)<|.int .u64 f.dl;have D:=n.set (j*10+8)<|.string<|zy f.data;have n:=D.set (j*10+9)<|.slice none 0 0;rw[<-SF R j f (by rw[h.1];exact q)]at n;simp only[<-Nat.add_assoc]at n;refine h.lq (g:=g) ?_ (by rw[y u];rfl) (by rw[BL];exact h.1) ?_
  .refine((((((((((C9.refl (λq=>q=g) w).setCell (p:=⟨g,_,none⟩) rO _).setCell (p:=⟨g,_,none⟩) rO _).setCell (p:=⟨g,_,none⟩) rO _).setCell (p:=⟨g,_,none⟩) rO _).setCell (p:=⟨g,_,none⟩) rO _).setCell (p:=⟨g,_,none⟩) rO _).setCell (p:=⟨g,_,none⟩) rO _).setCell (p:=⟨g,_,none⟩) rO _).setCell (p:=⟨g,_,none⟩) rO _).setCell (p:=⟨g,_,none⟩) rO _
  rw[y u];exact n.own (by rw[JI,BL,h.1]) A B C
 have u:0<N:=I;have e:=h.row;rw[y u]at e;obtain⟨sz,⟨a,z,E,G⟩,A,B,m,rfl,C⟩:=e.pg;have D:w.heap[g]?=some (.cells a.toList.toArray 48 (0,0)):=qp z;have e:a.toList.length=sz:=qp G;have hb:m*10+N*10<=sz:=I;have n:(R.take j).length=j:=by rw[AU,h.1];omega
 have q:(zs<|List.replicate (N-j) GE).length=(N-j)*10:=by rw[JI,Ay]
 refine⟨_,R.take j++List.replicate (N-j) GE,λG=>MF (P:=prog) w 35 G 48 (.agg<|ze GE rV) 10 underlying35 WV rfl (by simp[Value.cells,Value.oneCell',ze]) g (m*10+j*10) (N-j) _ a.toList _ D (by rw[e];omega),?_,?_⟩
 .rw[iV];refine h.lq (g:=g) (Og w g _) (by rw[y u];rfl) (by rw[AF,n,Ay];omega) ?_;rw[y u];have h:(splice a.toList (m*10+j*10)<|zs<|List.replicate (N-j) GE).length=sz:=by rw[length_splice _ _ _ (by rw[q,e];omega),e]
  refine Jc.own (sz:=sz) ⟨_,setRow_heap w g _ _ _ _ z,?_,by rw[BS,h]⟩ (by rw[JI,AF,n,Ay];omega) A B C;have g:(a.toList.drop<|m*10).take (j*10)=zs (R.take j):=by
   have h:zs R=zs (R.take j)++zs (R.drop j):=by rw[<-Qg,BZ]
   have u:(a.toList.drop<|m*10).take (j*10)=((a.toList.drop<|m*10).take<|N*10).take (j*10):=by rw[BY,BU I]
   rw[u,E,h,BG<|by rw[JI,n];omega,AS (by rw[JI,n];omega)]
  have h:(a.toList.take<|m*10+j*10).drop (m*10)=zs (R.take j):=by
   rw[Ci,(I:m*10+j*10-m*10=j*10),g]
  unfold splice;simp only[C6];rw[List.drop_append_of_le_length (by rw[AU,e];omega),h,Qg,<-List.append_assoc];have a:(zs (R.take j)++zs (List.replicate (N-j) GE)).length=N*10:=by rw[AF,q,JI,n];omega
  rw[BG I,AS I]
 rw[BG I,BY,CM]
variable{a:qs}
def fp{R:List DF}(h:EI w 48 10 (.slice a N cap) N (zs R))(q:R.length=N)(u:n<=N):EI w 48 10 (.slice a n cap) n (zs (R.take n)):=by
 by_cases a:n=N
 .rw[a,AS I];exact h
 rcases h.2 with⟨e,h⟩|⟨g,o,a,m,e,y,C,z,A,B⟩
 .omega
 cases e;refine⟨by rw[JI,AU,q,BU u],.inr ⟨g,o,cap,m,rfl,y,I,z,A,?_⟩⟩;have a:zs R=zs (R.take n)++zs (R.drop n):=by rw[<-Qg,BZ]
 have e:(zs<|R.take n).length=n*10:=by rw[JI,AU,q,BU u]
 have e:(m.toList.drop<|o*10).take (n*10)=((m.toList.drop<|o*10).take<|N*10).take (n*10):=by rw[BY,BU I]
 rw[e,B,a,BG I,AS I]
def GZ.done{R:List DF}(h:GZ tag i b W0 c V N R w)(e:V.wt=.slice a N cap)(B:n<=N):zn tag i b { c with waits:=R.take n } { V with wt:=.slice a n cap } (w.setCell (b,238) (.slice a n cap)):=by
 have u:=h.row;rw[e]at u;have u:=fp u h.1 B;obtain⟨C,z,B,D⟩:=h;have m:C9 (λq=>q=b) w (w.setCell (U b 238)<|.slice a n cap):=(C9.refl (λq=>q=b) w).setCell (p:=⟨b,_,none⟩) rO _;have y:∀g,Value.kr (.slice a n cap)=some g->tag g=(i,6):=λg A=>z.nE g<|by rw[e];cases a<;>exact A
 have h:∀g,Value.kr (.slice a n cap)=some g->¬g=b:=λg A e=>by
  have B:=y g A;rw[e,z.tb]at B;simp at B
 have e:(R.take n).length=n:=by rw[AU,C];omega
 refine z.build (R:=λr=>r=1) m (λq g=>⟨1,rfl,by rw[show q=b from g];exact z.tb⟩) (λ_ _=>rfl) ?_ rL (λk g=>.inl rK) (λk g=>.inl rK) (λk g=>.inl rK) (λk g=>.inl rK) (λk g=>.inl rK) rL (.inr ⟨?_,y⟩) rJ rJ
 .rw[zc z.obj];simp only[Ab];rw[show(238:Nat)=233+5 from rfl,Fv (j:=5) { c with waits:=R } { c with waits:=R.take n } V { V with wt:=.slice a n cap } (.slice a n cap) rfl rfl rfl rfl]
 simp only[e];exact u.mod m h
def CS.mH(c:CS):CS:={ c with now:=c.now+1,waits:=c.waits.filter (λf => !decide (f.dl<c.now+1)) }
def WU(h:zn tag i b c V W)(ht:zL tag W)(hi:0<i)(u:c.now<=zG)(hw:c.waits.length<=1099511627776)(hb:c.kB.length<=1099511627776)(ok:Jo c.mH):rH 63 #[(b,0)] W (EN tag i b W (.tuple #[]) c.tick):=by
 obtain⟨N,R⟩:=nm c.waits.length;obtain⟨a,cap,X,q1,q2,g,o,B⟩:∃a cap,V.wt=.slice a N cap/\N<=cap/\cap<=maxLen/\∃g o,0<N->a=some ⟨g,o,none⟩:=by
  rcases h.wt.2 with⟨e,y⟩|⟨g,o,cap,m,e,_,L,h3,_⟩
  .have m:N=0:=I;exact⟨none,0,by rw[e,m],I,pi,0,0,λx=>I⟩
  exact⟨_,cap,by rw[e,R],I,h3,g,o*10,λ_=>rfl⟩
 obtain⟨nw,m⟩:=nm c.now;rw[m]at u;unfold zG at u;obtain⟨W1,C⟩:=nm<|W.alloc<|.cells #[(b,0)] 57;have m1:=AB C;have u:W1 W=some (.pointer b):=by rw[<-C];exact za (heap_alloc_new W _) rfl
 have y:¬Da i tag W.heap.size:=λx=>by
  have z:=x.1;rw[ht _ (AI _)]at z;simp at z;omega
 have z:=h.kI m1;obtain⟨G,A⟩:=nm W.heap.size;rw[A]at u y;have Y:G≠b:=λe=>y<|by rw[e];exact EM h.tb lc
 obtain⟨W2,D⟩:=nm<|W1.setCell (U b 3)<|.int .u64<|(nw:Int)+1;have m2:C9 (λq=>q=b) W1 W2:=by rw[<-D];exact(C9.refl (λq=>q=b) W1).setCell (p:=⟨b,_,none⟩) rO _
 have L:zn tag i b { c with now:=c.now+1 } V W2:=by
  have:=z.store 3 _ (IN c { c with now:=c.now+1 } V V (j:=3) _ lc rfl rfl rfl rfl) ⟨rfl,λ_ _=>⟨rfl,rfl,rfl⟩,λ_ _=>⟨rfl,rfl⟩,rfl,rfl,rfl,rfl⟩;rw[<-D,<-m];exact this
 have Z:=(ht.mod m1).mod m2;have E:=m2.cell (a:=G) Y u;have kd:=gn (GZ tag i b W2 { c with now:=c.now+1 } V N) c.waits N g o cap b G (nw+1) a R I q1 q2 B (GZ.qj (cap:=cap) E y (by rw[m])<|λx=>by rw[X,B x]) (GZ.qZ<|λx=>by rw[X,B x]) W2.drew ⟨R,L.kI (C9.refl DA W2).drew,Z.mod (C9.refl DA W2).drew,(C9.refl _ W2).drew⟩;have c3:W1 (b,3)=some (.int .u64 nw):=by rw[<-m];exact z.hd (j:=3) rfl
 have g:=z.fz 3;have aa:W2 (b,238)=some (.slice a N cap):=by rw[<-X];exact L.tl (j:=5) rfl
 have fz:=L.fz 238;have yw:=wu ((nw:Int)+1) I;have MW:AA (C9 (Da i tag) W W2):=zb ((m1.mono rQ).trans (m2.mono (λq hq=>.inl (EM (r:=1) (by rw[show q=b from hq];exact h.tb) lc))));have KD:=zb kd;have HT:=zb ht;have HI:=zb hi;have ab:=zb y;have ae:=zb E;have HN:=zb R;have af:=zb C;have ag:=zb D;have ah:=zb A;have ai:=zb ok;have HB:=zb hb;have HV:=zb X;have aj:=zb m;clear kd ht hi m1 m2 y R h z L Z ok hb hw C D A Y X m B q1 q2;go_enter func63,ntmps63;go_upto_region 1 with fail;rw[af.z,ah.z];go_upto_region 2 with fail;rw[ag.z];clear c3 g u;refine zN ?_;refine zr 9 (λw'=>w' G=some (.pointer b)/\w' (U b 238)=some (.slice a N cap)/\w'.frozen? ⟨b,238,none⟩=false) (⟨E,aa,fz⟩) ?_;refine GI 0 ?_;iterate 6
  refine GV rfl ?_;try simp only[PS]
 refine zD 6 rfl (λK hK=>?_);go_simp
 with_reducible refine(KD.z).mono ?_
 rintro e O ⟨n,R,rfl,ac,hj,hR⟩;have HJ:=zb<|And.intro ac<|And.intro hj hR;have g:O G=some (.pointer b)/\O (b,238)=some (.slice a N cap)/\O.frozen? ⟨b,238,none⟩=false:=by
  obtain⟨h,z,L,h3⟩:=hj;exact⟨h3.cell (a:=G) ab.z ae.z,by rw[<-HV.z];exact z.tl (j:=5) rfl,z.fz 238⟩
 clear hj ac hR;go_simp;refine hK.z _ _ g ?_;obtain⟨y,A,B⟩:=g;clear hK K;try simp only[PS]
 refine GI 7 ?_;iterate 2
  refine GV rfl ?_;try simp only[PS]
 refine Dt rfl (λK hK=>?_);go_simp;refine hK.z _ _ ?_;clear hK K;try simp only[PS]
 refine zt ?_;refine⟨rfl,?_⟩;obtain⟨Z,u⟩:=nm<|O.setCell (U b 238)<|.slice a n cap;have h:C9 (λq=>q=b) O Z:=by rw[<-u];exact(C9.refl (λq=>q=b) O).setCell (p:=⟨b,_,none⟩) rO _
 have m:zn tag i b c.mH { V with wt:=.slice a n cap } Z:=by
  obtain⟨g,n,C⟩:=HJ.z;have:=n.done HV.z (by rw[<-HN.z];exact g);rw[u,C,<-aj.z]at this;exact this
 have g:=HJ.z.2.1.2.2.1.mod h;have n:=SH m g HI.z ai.z HB.z;have C:=h.cell (a:=G) (λe=>ab.z<|by rw[show G=b from e];exact EM m.tb lc) y;have a:=zb n;have MZ:=zb h;have HC:=zb m;clear n h m g y A B E aa fz;try rw[u]
 go_wp2_with fail;refine(a.z).mono ?_;rintro e a ⟨rfl,ad,V9,r1,r2,r3⟩;have a:=zb<|And.intro r1<|And.intro r2 r3;clear r1 r2 r3;go_wp2_with fail
 go_end0
 refine⟨rfl,ad,V9,a.z.1,?_,?_⟩
 .exact(DK.same HT.z<|(MW.z.trans HJ.z.2.1.2.2.2).trans<|MZ.z.mono<|λq hq=>.inl<|EM (r:=1) (by rw[show q=b from hq];exact HC.z.tb) lc).trans a.z.2.1 (by have z:=MW.z.size;have L:=HJ.z.2.1.2.2.2.size;have h3:=MZ.z.size;omega)
 exact((MW.z.trans HJ.z.2.1.2.2.2).trans<|MZ.z.mono<|λq hq=>.inl<|EM (r:=1) (by rw[show q=b from hq];exact HC.z.tb) lc).pF.trans a.z.2.2
def GO(f:DF):Prop:=(∃k:Nat,k<8/\f.stream=(k:Int))/\(f.kind=4->f.off+f.data.length<=zG/\f.data.length<=1099511627776)
structure RS.Inv(G:Nat)(x:RS):Prop where
 kG:x.kG.Ok
 pR:∀j,j<x.kG.rs.length->DB x.kG.rs j<x.high
 bl:x.b.length=x.high
 rd:x.read<=x.high
 hg:x.high<=x.kE
 gr:x.kE<=G
 fin:x.fin<=zG
 kD:x.kD<=zG
 st:x.state=2->x.cut=true/\x.kD<=x.read
structure CS.Inv(T:Nat)(c:CS):Prop where
 kj:64<=c.kj/\c.kj<=400
 ln:c.kT<=4096
 lr:c.total<=4096
 kE:c.kE<=zG
 kF:c.kF<=zG
 ws:∀k,k<8->(c k).Ok
 rs:∀k,k<8->(c.rs k).Inv (4096*(T+1))
 waits:(∀f∈c.waits,f.Fits)/\c.waits.length<=16
 fl:c.kB.length<=12
 lE:∀p∈c.kB,p.n<=zG/\p.at_<=zG/\p.fs.length<=1099511627776/\∀f∈p.fs,GO f
 now:c.now<=T
 next:c.next<=32*T
 kN:c.kN.Ok/\c.kN.most<=8
 nd:(c.seen.map (·.1)).Nodup
 ids:∀p∈c.seen,p.1<=zG
 sl:c.seen.length<=T
 most:c.most<=zG
 cl:c.kG.length<=T
def DW:Nat:=268435455
variable{G:Nat}{x:RS}
def RS.Inv.mono{a:Nat}(h:x.Inv G)(e:G<=a):x.Inv a:=⟨h.kG,h.pR,h.bl,h.rd,h.hg,AR h.gr e,h.fin,h.kD,h.st⟩
variable{T:Nat}
def CS.Inv.mono{T':Nat}(h:c.Inv T)(a:T<=T'):c.Inv T' :=
 ⟨h.kj,h.ln,h.lr,h.kE,h.kF,h.ws,λk a=>(h.rs k a).mono I,h.waits,h.fl,h.lE,qm h.now,qm h.next,h.kN,h.nd,h.ids,qm h.sl,h.most,qm h.cl⟩
def RS.Inv.used(h:x.Inv G)(a:G<=1099511627776):(x.used<=zG/\x.kE<=zG)/\(x.lu=true->x.used<=G):=by
 have a:=h.rd;have a:=h.hg;have a:=h.gr;have a:=h.fin;unfold zG at *;refine⟨⟨?_,I⟩,λg=>?_⟩
 .unfold RS.used;split<;>omega
 unfold RS.used;split
 .rename_i e;obtain⟨a,b⟩:=h.st e;unfold RS.lu at g;rw[a]at g;simp[e]at g;omega
 omega
def CS.Inv.ok(h:c.Inv T)(a:T<=DW):c.Ok:=by
 unfold DW at a;refine⟨AR h.kj.2 lc,h.ln,h.lr,h.kE,h.kF,h.ws,λk e=>?_,h.waits.1⟩;obtain⟨a,b⟩:=(h.rs k e).used I;exact⟨a,λa=>qm<|b a⟩
variable{rs:zE}
def Ld{r:Nat×Nat}(h:r∈rs):∃j,j<rs.length/\DE rs j=r.1/\DB rs j=r.2:=by
 obtain⟨j,a,rfl⟩:=Cc.1 h;have e:rs.getD j (0,0)=rs[j]:=by simp[List.getD,a]
 exact⟨j,a,by unfold DE;rw[e],by unfold DB;rw[e]⟩
def DO.Ok.mem{s:DO}(h:s.Ok){r:Nat×Nat}(a:r∈s.rs):r.2<=zG:=by
 obtain⟨j,g,_,e⟩:=Ld a;rw[<-e];exact h.hi j g
theorem DO.Ok.lY:∀(l:zE) {s:DO},s.Ok->(∀r∈l,r.2<=zG)->(s.lY l).Ok
 | [],_,h,_=>h
 | r::l,s,h,hl=>DO.Ok.lY l (h.add r.1<|hl r BB)<|λq a=>hl q<|BA _ a
def WS.Ok.again{x:WS}(h:x.Ok)(f:DF):(x.again f).Ok:=by
 refine⟨?_,h.kG,h.cut,h.len,h.kF,h.high⟩;unfold WS.again;refine DO.Ok.lY _ ?_<|λr a=>h.kG.mem<|List.mem_reverse.1 a;exact Qj _ _ _ _ (λr a=>h.kH.mem a)<|Id _ h.kH.most
variable{f:DF}
def WS.Ok.lC{x:WS}(h:x.Ok)(a:f.off+f.data.length<=zG):(x.lC f).Ok :=
 ⟨h.kH.add _ I,h.kG.add _ I,h.cut,h.len,h.kF,h.high⟩
structure Ej(c c':CS):Prop where
 hd:c'.kj=c.kj/\c'.kT=c.kT/\c'.total=c.total/\c'.now=c.now/\c'.closed=c.closed/\c'.said=c.said/\c'.next=c.next/\c'.kN=c.kN/\c'.answer=c.answer
 tl:c'.kF=c.kF/\c'.kE=c.kE/\c'.kB=c.kB/\c'.kO=c.kO/\c'.waits=c.waits/\c'.lN=c.lN/\c'.lW=c.lW/\c'.seen=c.seen/\c'.most=c.most/\c'.kG=c.kG
 rs:∀k,k<8->∃a,c'.rs k={ c.rs k with ky:=a }
def Ej.refl(c:CS):Ej c c:=⟨⟨rfl,rfl,rfl,rfl,rfl,rfl,rfl,rfl,rfl⟩,⟨rfl,rfl,rfl,rfl,rfl,rfl,rfl,rfl,rfl,rfl⟩,λk _=>⟨(c.rs k).ky,rfl⟩⟩
variable{c':CS}
def Ej.trans{a:CS}(h:Ej c c')(k:Ej c' a):Ej c a:=by
 obtain⟨g,m,n,q,u,y,z,A,B⟩:=h.hd;obtain⟨b1,b2,C,D,E,G,K,L,M⟩:=k.hd;obtain⟨c1,c2,N,O,R,X,Y,Z,c9,a⟩:=h.tl;obtain⟨d1,d2,d3,d4,d5,d6,d7,d8,d9,e⟩:=k.tl;refine⟨⟨b1.trans g,b2.trans m,C.trans n,D.trans q,E.trans u,G.trans y,K.trans z,L.trans A,M.trans B⟩,⟨d1.trans c1,d2.trans c2,d3.trans N,d4.trans O,d5.trans R,d6.trans X,d7.trans Y,d8.trans Z,d9.trans c9,e.trans a⟩,λq a=>?_⟩;obtain⟨x,e⟩:=h.rs q a;obtain⟨y,g⟩:=k.rs q a;exact⟨y,by rw[g,e]⟩
def RS.Inv.ky(h:x.Inv G)(a:Bool):({ x with ky:=a }:RS).Inv G:=⟨h.kG,h.pR,h.bl,h.rd,h.hg,h.gr,h.fin,h.kD,h.st⟩
def CS.Inv.but(h:c.Inv T)(s:Ej c c')(a:∀k,k<8->(c' k).Ok):c'.Inv T:=by
 obtain⟨e,q,u,y,g,m,z,A,n⟩:=s.hd;obtain⟨c1,c2,n,D,B,E,G,g,C,m⟩:=s.tl;exact
  {kj:=by rw[e];exact h.kj
   ln:=by rw[q];exact h.ln
   lr:=by rw[u];exact h.lr
   kE:=by rw[c2];exact h.kE
   kF:=by rw[c1];exact h.kF
   ws:=a
   rs:=λk q=>by obtain⟨a,e⟩:=s.rs k q;rw[e];exact(h.rs k q).ky a
   waits:=by rw[B];exact h.waits
   fl:=by rw[n];exact h.fl
   lE:=by rw[n];exact h.lE
   now:=by rw[y];exact h.now
   next:=by rw[z];exact h.next
   kN:=by rw[A];exact h.kN
   nd:=by rw[g];exact h.nd
   ids:=by rw[g];exact h.ids
   sl:=by rw[g];exact h.sl
   most:=by rw[C];exact h.most
   cl:=by rw[m];exact h.cl }
def dZ(c:CS)(f:DF):Ej c (c.again f):=by
 have a:=Ej.refl c;unfold CS.again;split
 .exact⟨a.hd,a.tl,a.rs⟩
 split
 .exact⟨a.hd,a.tl,a.rs⟩
 split
 .exact⟨a.hd,a.tl,a.rs⟩
 split
 .refine⟨a.hd,a.tl,λk _=>?_⟩;by_cases e:k=f.stream.toNat
  .subst e;exact⟨(c.rs f.stream.toNat).ky||f.lF==(c.rs f.stream.toNat).kE,by simp only[zf]⟩
  exact⟨(c.rs k).ky,by simp only[zl _ _ e]⟩
 exact a
def WT(f:DF)(h:∀k,k<8->(c k).Ok):∀k,k<8->((c.again f).ws k).Ok:=by
 intro k a;unfold CS.again;split
 .by_cases e:k=f.stream.toNat
  .subst e;simp only[zf];exact(h _ a).again f
  simp only[zl _ _ e];exact h k a
 split
 .by_cases e:k=f.stream.toNat
  .subst e;simp only[zf];have w:=h _ a;exact⟨w.kH,w.kG,w.cut,w.len,w.kF,w.high⟩
  simp only[zl _ _ e];exact h k a
 split
 .exact h k a
 split
 .exact h k a
 exact h k a
theorem T7:∀(a:List DF) (c:CS),Ej c (c.lG a)
 | [],c=>Ej.refl c
 | f::a,c=>(dZ c f).trans<|T7 a<|c.again f
theorem QD:∀(a:List DF) {c:CS},(∀k,k<8->(c k).Ok)->∀k,k<8->((c.lG a).ws k).Ok
 | [],_,h=>h
 | f::a,_,h=>QD a<|WT f h
def dY(c:CS)(p:DI):Ej c (c.ll p):=by
 unfold CS.ll;split
 .exact T7 _ _
 exact Ej.refl c
def WR(p:DI)(h:∀k,k<8->(c k).Ok):∀k,k<8->((c.ll p).ws k).Ok:=by
 unfold CS.ll;split
 .exact QD _ h
 exact h
theorem KJ:∀(l:List DI) (c:CS),Ej c (c.ld l)
 | [],c=>Ej.refl c
 | p::l,c=>(dY c p).trans<|KJ l<|c.ll p
theorem Py:∀(l:List DI) {c:CS},(∀k,k<8->(c k).Ok)->∀k,k<8->((c.ld l).ws k).Ok
 | [],_,h=>h
 | p::l,_,h=>Py l<|WR p h
def CS.Inv.oV(h:c.Inv T):Jo c:=by
 refine⟨λp a=>⟨(h.lE p a).1,(h.lE p a).2.1,(h.lE p a).2.2.1⟩,λk p a _ j f e=>?_⟩;obtain⟨⟨q,m,g⟩,n⟩:=(h.lE p<|AZ a).2.2.2 f<|AZ e;have a:=QD (p.fs.take j) (Py (c.kB.take k) h.ws) q m;refine⟨λe=>?_,λ_=>I,λ_=>I⟩;rw[g,Am];exact⟨m,g,a.kH,a.kG,(n e).1,(n e).2⟩
def CS.Inv.sub(h:c.Inv T)(p:DI->Bool):(c.lE (c.kB.filter p)).Inv T :=
 {kj:=h.kj,ln:=h.ln,lr:=h.lr,kE:=h.kE,kF:=h.kF,ws:=h.ws,rs:=h.rs,waits:=h.waits,now:=h.now,next:=h.next,kN:=h.kN,nd:=h.nd,ids:=h.ids,sl:=h.sl,most:=h.most,cl:=h.cl
  fl:=AR (Bf _ _) h.fl
  lE:=λq a=>h.lE q (Bh.1 a).1 }
def CS.Inv.mF(h:c.Inv T):c.mF.Inv T:=by
 have e:=h.but (KJ c.kB c)<|Py c.kB h.ws;rw[Lm];have a:=e.sub<|λp => !c.late p;rw[(KJ c.kB c).tl.2.2.1]at a;exact a
def CS.Inv.mH(h:c.Inv T):c.mH.Inv (T+1):=by
 have a:=h.mono (I:T<=T+1);exact
  {kj:=h.kj,ln:=h.ln,lr:=h.lr,kE:=h.kE,kF:=h.kF,ws:=h.ws,rs:=a.rs,fl:=h.fl,lE:=h.lE,next:=a.next,kN:=h.kN,nd:=h.nd,ids:=h.ids,sl:=a.sl,most:=h.most,cl:=a.cl
   now:=by have:=h.now;show c.now+1<=_;omega
   waits:=⟨λf a=>h.waits.1 f (Bh.1 a).1,AR (Bf _ _) h.waits.2⟩ }
def CS.Inv.tick(h:c.Inv T):c.tick.Inv (T+1):=h.mH.mF
def WP(c:CS)(f:DF):Ej c (c.kP f):=by
 have a:=Ej.refl c;unfold CS.kP;split
 .exact⟨a.hd,a.tl,a.rs⟩
 exact a
def VN(m:GO f)(h:∀k,k<8->(c k).Ok):∀k,k<8->((c.kP f).ws k).Ok:=by
 intro k a;unfold CS.kP;split
 .rename_i e;by_cases g:k=f.stream.toNat
  .subst g;simp only[zf];exact(h _ a).lC (m.2 e.1).1
  simp only[zl _ _ g];exact h k a
 exact h k a
theorem Tt:∀(a:List DF) (c:CS),Ej c (a.foldl CS.kP c)
 | [],c=>Ej.refl c
 | f::a,c=>(WP c f).trans<|Tt a<|c.kP f
theorem Px:∀(a:List DF) {c:CS},(∀f∈a,GO f)->(∀k,k<8->(c k).Ok)->∀k,k<8->((a.foldl CS.kP c).ws k).Ok
 | [],_,_,h=>h
 | f::a,_,hf,h=>Px a (λg a=>hf g<|BA _ a)<|VN (hf f BB) h
def WO(c:CS)(rs:zE)(p:DI):Ej c (c.mM rs p):=by
 unfold CS.mM;split
 .exact Tt _ _
 exact Ej.refl c
def VM(rs:zE){p:DI}(a:∀f∈p.fs,GO f)(h:∀k,k<8->(c k).Ok):∀k,k<8->((c.mM rs p).ws k).Ok:=by
 unfold CS.mM;split
 .exact Px _ a h
 exact h
theorem Ly(rs:zE):∀(l:List DI) (c:CS),Ej c (c.mW rs l)
 | [],c=>Ej.refl c
 | p::l,c=>(WO c rs p).trans<|Ly rs l<|c.mM rs p
theorem Pw(rs:zE):∀(l:List DI) {c:CS},(∀p∈l,∀f∈p.fs,GO f)->(∀k,k<8->(c k).Ok)->∀k,k<8->((c.mW rs l).ws k).Ok
 | [],_,_,h=>h
 | p::l,_,hp,h=>Pw rs l (λq a=>hp q<|BA _ a)<|VM rs (hp p BB) h
def CS.Inv.pQ(h:c.Inv T)(n:Nat):({ c with kO:=n }:CS).Inv T :=
 {kj:=h.kj,ln:=h.ln,lr:=h.lr,kE:=h.kE,kF:=h.kF,ws:=h.ws,rs:=h.rs,waits:=h.waits,now:=h.now,next:=h.next,kN:=h.kN,nd:=h.nd,ids:=h.ids,sl:=h.sl,most:=h.most,cl:=h.cl,fl:=h.fl,lE:=h.lE }
def CS.Inv.pL(h:c.Inv T)(rs:zE):Mh c rs:=by
 refine⟨λp e=>(h.lE p e).2.2.1,λk p e _ j f m=>?_⟩;have a:=AZ e;have g:=AZ m;have e:=(h.lE p a).2.2.2 f g;refine⟨e.1,λn _=>?_⟩;obtain⟨⟨q,u,m⟩,hb⟩:=e;have e:=Px (p.fs.take j) (λg y=>(h.lE p a).2.2.2 g<|Bn y) (Pw rs (c.kB.take k) (λr a=>(h.lE r<|Bn a).2.2.2) h.ws) q u;exact⟨q,u,m,e.kH,e.kG,(hb n).1,(hb n).2⟩
def CS.Inv.lV(h:c.Inv T)(rs:zE):(c.lV rs).Inv T:=by
 have a:=h.pQ<|max c.kO<|DB rs 0;have e:=a.but (Ly rs c.kB _)<|Pw rs c.kB (λp g=>(h.lE p g).2.2.2) a.ws;have a:=e.sub<|λp => !FW rs p;rw[(Ly rs c.kB _).tl.2.2.1]at a;exact a
def CS.Inv.lC(h:c.Inv T)(rs:zE):(c.lC rs).2.Inv T:=by
 by_cases a:c.next<=DB rs 0
 .unfold CS.lC;rw[AL a];exact h
 rw[Pz c rs a];exact(h.lV rs).mF
structure E8(f:DF):Prop where
 sound:zH f=true
 dl:f.data.length<=1099511627776
 rl:f.kC.length<=1099511627776
def E8.ns(h:E8 f):f.off<=zG/\f.rel<=zG/\f.lF<=zG/\f.id<=zG/\f.dl<=zG:=by
 have a:=h.sound;unfold zH D8 nums at a;simp only[AV,List.all_cons,List.all_nil,AW]at a;unfold zG;omega
def E8.st(h:E8 f):∃k:Nat,k<8/\f.stream=(k:Int):=by
 have a:=h.sound;unfold zH D6 at a;simp only[AV,AW]at a;exact⟨f.stream.toNat,I,I⟩
def E8.pt(h:E8 f)(e:f.kind=4):f.end_<=zG:=by
 have a:=h.sound;unfold zH zP at a;rw[e]at a;simp only[AV]at a;have e:=a.2;simp at e;unfold DF.end_ zG;omega
def E8.pO(h:E8 f)(e:f.kind=2):0<f.kC.length:=by
 have a:=h.sound;unfold zH zP at a;rw[e]at a;simp only[AV,Aq]at a;have e:=a.2;unfold EQ at e;simp only[AV,AW]at e;exact e.2
variable{hi lo:Nat}
def WM{s:DO}(h:s.Ok){B:Nat}(hb:∀j,j<s.rs.length->DB s.rs j<=B)(n:hi<=B)(a:hi<=zG):∀j,j<(s.add lo hi).rs.length->DB (s.add lo hi).rs j<=B:=by
 unfold DO.add;split
 .exact hb
 have g:=IL (Dk s.rs<|max lo s.fl) s.rs.length;have e:=IL (Dl s.rs hi) s.rs.length;have a:=Ho h.wf I g e;have g:=Tm (m:=max lo s.fl) a e.1 hb n;split
 .intro j a;rw[(Fz _ 1 j).2];exact g _<|by rw[Af]at a;omega
 exact g
theorem WI(off:Nat)(data:qq)(e H:Nat)(a:e<=H)(g:e<=zG):∀n lo (b:qq) (s:DO),b.length=H->s.Ok->(∀j,j<s.rs.length->DB s.rs j<H) ->
  (EB off data e n lo b s).1.length=H/\(EB off data e n lo b s).2.Ok/\∀j,j<(EB off data e n lo b s).2.rs.length->DB (EB off data e n lo b s).2.rs j<H:=by
 intro n
 induction n with
 | zero=>intro lo b s g a h;exact⟨g,a,h⟩
 | succ n ih =>
  intro lo b s g a h;unfold EB;split
  .rename_i m;split
   .exact⟨g,a,h⟩
   rename_i n;obtain⟨_,n⟩:=OV s.rs lo e m I;have m:=Lp s.rs lo e;refine ih _ _ _ ?_ (a.add _ I)<|λj m=>?_
   .rw[Mz _ _ _ (by rw[AU];omega)];exact g
   have:=WM a (B:=H-1) (lo:=(DP s.rs lo e).1) (hi:=(DP s.rs lo e).2-1) (λj m=>qm<|h j m) I I j m;omega
  exact⟨g,a,h⟩
def RS.Inv.data(h:x.Inv G)(e:f.end_<=zG)(g:x.high<f.end_->f.end_<=x.kE):(x.data f).Inv G:=by
 have hb:=h.bl;have a:=h.hg;have a:=WI f.off f.data f.end_ (max x.high f.end_) (Nat.le_max_right _ _) e (f.data.length+1) f.off (Fr x.b<|max x.high f.end_) x.kG (by unfold Fr;simp;omega) h.kG<|λj m=>Au (h.pR j m)<|Ce _ _;refine⟨a.2.1,a.2.2,a.1,AR h.rd<|Ce _ _,?_,h.gr,?_,h.kD,h.st⟩
 .show max x.high f.end_<=x.kE;by_cases q:x.high<f.end_
  .have:=g q;omega
  omega
 show(if f.fin then f.end_ else x.fin)<=zG;split
 .exact e
 exact h.fin
def CS.Inv.pY(h:c.Inv T)(k:Nat)(a:x.Inv (4096*(T+1))):({ c with rs:=zh c.rs k x }:CS).Inv T :=
 {kj:=h.kj,ln:=h.ln,lr:=h.lr,kE:=h.kE,kF:=h.kF,ws:=h.ws,waits:=h.waits,now:=h.now,next:=h.next,kN:=h.kN,nd:=h.nd,ids:=h.ids,sl:=h.sl,most:=h.most,cl:=h.cl,fl:=h.fl,lE:=h.lE
  rs:=λq g=>by
   by_cases e:q=k
   .subst e;simp only[zf];exact a
   simp only[zl _ _ e];exact h.rs q g }
def CS.Inv.oz(h:c.Inv T)(k:Nat){x:WS}(g:k<8->x.Ok):({ c with ws:=zh c.ws k x }:CS).Inv T :=
 {kj:=h.kj,ln:=h.ln,lr:=h.lr,kE:=h.kE,kF:=h.kF,rs:=h.rs,waits:=h.waits,now:=h.now,next:=h.next,kN:=h.kN,nd:=h.nd,ids:=h.ids,sl:=h.sl,most:=h.most,cl:=h.cl,fl:=h.fl,lE:=h.lE
  ws:=λq a=>by
   by_cases e:q=k
   .subst e;simp only[zf];exact g a
   simp only[zl _ _ e];exact h.ws q a }
def CS.Inv.data(h:c.Inv T)(e:E8 f)(g:f.kind=4):(c.data f).2.Inv T:=by
 obtain⟨k,m,a⟩:=e.st;unfold CS.data;rw[a,Am];split
 .exact h
 split
 .exact h
 rename_i a;exact h.pY k<|(h.rs k m).data (e.pt g)<|λq=>Bl<|λg=>a ⟨q,.inl g⟩
def CS.Inv.kZ(h:c.Inv T)(e:E8 f):(c.kZ f).2.Inv T:=by
 obtain⟨k,g,a⟩:=e.st;obtain⟨n1,n2,_⟩:=e.ns;unfold CS.kZ;rw[a,Am];split
 .exact h
 have r:=h.rs k g;refine h.pY k ⟨r.kG,r.pR,r.bl,r.rd,r.hg,r.gr,n1,?_,λe=>?_⟩
 .unfold RS.kZ;simp only;split
  .exact n2
  exact r.kD
 obtain⟨a,b⟩:=r.st e;refine⟨rfl,?_⟩;unfold RS.kZ;simp only[a];show(if (!true||decide (f.rel<(c.rs k).kD))=true then f.rel else(c.rs k).kD)<=(c.rs k).read;split
 .rename_i q;simp at q;omega
 exact b
def CS.Inv.message(h:c.Inv T)(a:E8 f):(c.message f).Inv (T+1):=by
 obtain⟨_,_,_,q,e⟩:=a.ns;have a:=h.mono (I:T<=T+1);unfold CS.message;split
 .exact a
 rename_i g;have m:¬f.id∈c.seen.map (·.1):=λx=>by
  obtain⟨p,n,e⟩:=Ct.1 x;refine g ?_;have:(c.seen.any λp=>p.1==f.id)=true:=Bi.2 ⟨p,n,by simp[e]⟩;rw[this];rfl
 have g:((c.seen++[(f.id,f.dl)]).filter λp => !D2 (max c.most f.id) p.1).Sublist (c.seen++[(f.id,f.dl)]):=List.filter_sublist;exact
  {kj:=h.kj,ln:=h.ln,lr:=h.lr,kE:=h.kE,kF:=h.kF,ws:=h.ws,rs:=a.rs,waits:=h.waits,now:=a.now,next:=a.next,kN:=h.kN,fl:=h.fl,lE:=h.lE
   nd:=by
    refine List.Nodup.sublist (g.map _) ?_;rw[A9,List.nodup_append];refine⟨h.nd,nl,λa u b hb e=>?_⟩;have:b=f.id:=qp hb;exact m<|by rw[<-this,<-e];exact u
   ids:=λp n=>by
    rcases Ap.1 (g.subset n)with x|x
    .exact h.ids p x
    have:p=(f.id,f.dl):=qp x;rw[this];exact q
   sl:=by
    have:=g.length_le;have:=h.sl;simp only[AF,Ak]at *;omega
   most:=by have:=h.most;show max c.most f.id<=zG;omega
   cl:=by have:=h.cl;simp only[AF,Ak];omega }
def CS.Inv.nb(h:c.Inv T)(a:T<=DW)(g:E8 f):mb c f:=by
 unfold DW at a;obtain⟨n1,n2,n3,n,u⟩:=g.ns;have q:∀j,j<8->(c.rs j).high<=1099511627776/\(c.rs j).kE<=1099511627776:=λj m=>by
  have a:=(h.rs j m).hg;have b:=(h.rs j m).gr;exact⟨I,I⟩
 have a:=h.fl;have a:=h.now;have a:=h.sl;have a:=h.cl;refine⟨λe=>⟨g.pO e,g.rl,I,λ_=>⟨(h.pQ _).pL _,(h.lV _).oV⟩⟩,λ_=>g.st,λe=>?_,λ_=>g.st,λ_=>⟨h.most,n,u,by unfold zG;omega,h.nd,h.ids,I,I⟩⟩;obtain⟨k,a,n⟩:=g.st;exact⟨k,a,n,λj m=>(q j m).1,(q k a).2,h.kE,(h.rs k a).fin,g.pt e,g.dl,(h.rs k a).kG,CD (h.rs k a).bl⟩
def CS.Inv.take(h:c.Inv T)(g:E8 f):(c.take f).2.Inv (T+1):=by
 have a:∀{e:CS},e.Inv T->e.Inv (T+1):=λx=>x.mono I
 obtain⟨n1,n2,n3,e,m⟩:=g.ns;unfold CS.take;split
 .exact a (h.lC _)
 split
 .exact a (h.kZ g)
 split
 .rename_i e;exact a<|h.data g e
 split
 .exact a
   {kj:=h.kj,ln:=h.ln,lr:=h.lr,kE:=h.kE,ws:=h.ws,rs:=h.rs,waits:=h.waits,now:=h.now,next:=h.next,kN:=h.kN,nd:=h.nd,ids:=h.ids,sl:=h.sl,most:=h.most,cl:=h.cl,fl:=h.fl,lE:=h.lE
    kF:=by have:=h.kF;show max c.kF f.lF<=zG;omega }
 split
 .refine a (h.oz _<|λe=>?_);have w:=h.ws _ e;exact⟨w.kH,w.kG,w.cut,w.len,by have:=w.kF;show max _ f.lF<=zG;omega,w.high⟩
 split
 .exact h.message g
 split
 .exact a h
 exact a h
def CS.Inv.nX(h:c.Inv T)(cl:Nat)(sd a:Bool):({ c with closed:=cl,said:=sd,answer:=a }:CS).Inv T :=
 {kj:=h.kj,ln:=h.ln,lr:=h.lr,kE:=h.kE,kF:=h.kF,ws:=h.ws,rs:=h.rs,waits:=h.waits,now:=h.now,next:=h.next,kN:=h.kN,nd:=h.nd,ids:=h.ids,sl:=h.sl,most:=h.most,cl:=h.cl,fl:=h.fl,lE:=h.lE }
theorem CS.Inv.nv:∀(a:List DF) {T:Nat} {c:CS},c.Inv T->T+a.length<=DW->(∀f∈a,E8 f)->lX a c
 | [],_,_,_,_,_=>trivial
 | f::a,T,c,h,hT,hf=>by
  simp only[Aa]at hT;have e:=hf f BB;exact⟨h.nb I e,λ_=>CS.Inv.nv a ((h.take e).nX (c.take f).2.closed (c.take f).2.said _) I<|λg a=>hf g<|BA _ a⟩
theorem CS.Inv.kV:∀(a:List DF) {T:Nat} {c:CS},c.Inv T->(∀f∈a,E8 f)->(CS.kV a c).2.Inv (T+a.length)
 | [],_,_,h,_=>h
 | f::a,T,c,h,hf=>by
  have e:=h.take<|hf f BB;unfold CS.kV;split
  .exact(e.nX (c.take f).1 ((c.take f).1==13) (c.take f).2.answer).mono (by simp only[Aa];omega)
  have:=CS.Inv.kV a (e.nX (c.take f).2.closed (c.take f).2.said<|(c.take f).2.answer||f.kind != 2)<|λg e=>hf g<|BA _ e;rw[show T+(f::a).length=T+1+a.length by simp only[Aa];omega];exact this
variable{bs:qq}{pos:Nat}
def fh{r:DF×Nat}(a:bs.length<1099511627776)(m:pos<bs.length)(h:FI bs pos=some r):E8 r.1/\pos<r.2/\r.2<=bs.length:=by
 unfold FI at h;split at h
 .cases h
 rename_i t _;rw[Ao]at h;obtain⟨k,e,h⟩:=h;rw[Ao]at h;obtain⟨⟨f,p⟩,hb,h⟩:=h;simp only at h;split at h
 .rename_i g;cases h;obtain⟨_,a,b,c,d⟩:=Up e I hb;exact⟨⟨g,by show f.data.length<=_;omega,by show f.kC.length<=_;omega⟩,by show pos<p;omega,b⟩
 cases h
theorem Ts(e:qq)(m:e.length<1099511627776):∀fuel num pos (a:List DF) n fs,pos<=e.length->a.length<=pos->(∀f∈a,E8 f)->Fu e fuel num pos a=.ok n fs->n=num/\fs.length<=e.length/\∀f∈fs,E8 f
 | 0,_,_,_,_,_,_,_,_,h=>by cases h
 | fuel+1,num,pos,a,n,fs,hp,ha,hf,h=>by
  unfold Fu at h;split at h
  .rename_i g;cases hr:FI e pos with
   | none=>rw[hr]at h;cases h
   | some r =>
    rw[hr]at h;obtain⟨a,b,c⟩:=fh m g hr;refine Ts e m fuel num r.2 _ n fs c ?_ (λf e=>?_) h
    .rw[AF,Ak];omega
    rcases Ap.1 e with x|x
    .exact hf f x
    rw[As.1 x];exact a
  cases h;exact⟨rfl,I,hf⟩
variable{fs:List DF}
def Mc(a:bs.length<1099511627776)(h:dec bs=.ok n fs):n<=zG/\fs.length<=bs.length/\∀f∈fs,E8 f:=by
 unfold dec at h;split at h
 .cases h
 split at h
 .unfold ER at h;split at h
  .cases h
  rename_i q m;obtain⟨a,b,c⟩:=ET m;split at h
  .cases h
  obtain⟨d,e,g⟩:=Ts _ (by rw[AU];omega) _ _ _ _ _ _ b (AK _) (λf u=>by cases u) h;rw[AU]at e;exact⟨by unfold zG;omega,I,g⟩
 cases h
def CS.Inv.nr(h:c.Inv T)(a:n<=zG):({ c with kN:=c.kN.add n n }:CS).Inv T :=
 {kj:=h.kj,ln:=h.ln,lr:=h.lr,kE:=h.kE,kF:=h.kF,ws:=h.ws,rs:=h.rs,waits:=h.waits,now:=h.now,next:=h.next,nd:=h.nd,ids:=h.ids,sl:=h.sl,most:=h.most,cl:=h.cl,fl:=h.fl,lE:=h.lE
  kN:=⟨h.kN.1.add n a,by
   have:=h.kN.2;unfold DO.add;split
   .exact this
   split<;>exact this⟩ }
def CS.Inv.pj(h:c.Inv T)(e:T+bs.length<=DW):mJ c bs:=by
 intro _ n m hd;obtain⟨a,b,g⟩:=Mc (by unfold DW at e;omega) hd;exact⟨h.kN.1,a,λ_=>CS.Inv.nv m (h.nr a) I g⟩
def CS.Inv.kL(h:c.Inv T)(m:T+bs.length<=DW):(c.kL bs).2.Inv (T+bs.length):=by
 have e:∀{a:CS},a.Inv T->a.Inv (T+bs.length):=λx=>x.mono I
 unfold CS.kL;split
 .exact e h
 split
 .exact e h
 .exact e (h.nX 8 c.said c.answer)
 rename_i n q hd;obtain⟨a,b,g⟩:=Mc (by unfold DW at m;omega) hd;split
 .exact e h
 exact(CS.Inv.kV q (h.nr a) g).mono I
def TI(h:JM n fs=true):0<fs.length/\n<=4611686018427387903/\∀f∈fs,zH f=true:=by
 unfold JM at h;simp only[AV,AW,By]at h;exact⟨h.1.1,h.1.2,h.2⟩
variable{k:Nat}{s:SS}
def SS.Bd.may(h:s.Bd)(e:k<8)(a:f.stream=(k:Int))(ok:s.oq f):(s.may f).Bd:=by
 unfold SS.may;split
 .exact⟨h.od,h.hl,h.all,AR (Bf _ _) h.due,h.ln,h.lr,h.used,h.wt⟩
 split
 .refine⟨h.od,?_,h.all,h.due,h.ln,h.lr,h.used,h.wt⟩;rw[a,Am];show((s.high++List.replicate (k+1-s.high.length) 0).set k _).length<=8;rw[BL,AF,Ay];have:=h.hl;omega
 split
 .exact⟨h.od,h.hl,h.all,h.due,h.ln,h.lr,h.used,h.wt⟩
 split
 .exact⟨h.od,h.hl,h.all,h.due,h.ln,h.lr,h.used,h.wt⟩
 split
 .exact⟨h.od,h.hl,h.all,h.due,h.ln,h.lr,h.used,by have:=h.wt;show(s.waits.drop 1).length<=_;rw[Af];omega⟩
 exact h
section
variable {tag:qr} {i b:Nat} {s s':SS} {V V':SV} {W W1:rT}
def Ji(a:List DF)(k:Nat):Nat:=if k=0 then 0 else DR (a.getD (k-1) ⟨0,0,0,0,0,false,0,0,[],[]⟩)
def iM(h:zj tag i b s V W)(ht:zL tag W)(hi:0<i)(Z:qq)(ok:s.nR Z fs)(bd:s.Bd)(hl:Z.length<=65536)(hm:s.kj<=65536):rH 47 #[zq b,.string (zy Z)] W (Ez tag i b W (.bool true) (s.emit fs)):=by
 obtain⟨a6,aE,ag⟩:=TI ok.ok;obtain⟨bc,W1,a7,aF,m1,a8⟩:=Ms W Z I;have kd:=Mt _ Z W1 aF I;rw[ok.dec]at kd;obtain⟨_,aG,u⟩:=Mc I ok.dec;obtain⟨n,hn⟩:=nm s.kH;rw[hn]at kd aE;have aH:=zb ok.dec;have K:=zb ok.enc;have ah:=zb ok.ok;have ai:=zb ok.may;have bu:=ok.len;have KD:=zb kd;have HH:=zb h;have HT:=zb ht;have HI:=zb hi;have BD:=zb bd;have M1:=zb m1;have a9:=zb u;have C:=zb hn;have aI:=zb ag;have ba:=zM Z;obtain⟨R,hR⟩:=nm<|s.emit fs;have HR:=zb hR;rw[hR];unfold zq;clear h ht hi bd kd ok aF m1 u hn hR a8 ag;go_enter func47,ntmps47;go_wp2_with fail;refine(KD.z).mono ?_;rintro e W2 ⟨m2,h,y,rfl,aa,L,an,aJ⟩;obtain⟨fa,fc,rfl,q3,q4,_⟩:=zi aa.1;have ao:y.length=fs.length:=by rw[<-L,Az]
 obtain⟨N,hN⟩:=nm fs.length;rw[hN]at a6 aG;rw[ao,hN]at aa an q3 ⊢;unfold maxLen at q4;obtain⟨W3,h⟩:=nm<|W2.alloc<|.cells #[n,.slice fa N fc] 37;have m3:C9 DA W W3:=by rw[<-h];exact(M1.z.trans m2).alloc _
 have aK:=AB h;have oP:=AD h;obtain⟨D,ab⟩:=nm W2.heap.size;rw[ab]at oP;have p0:=za (o:=0) oP rfl;have p1:W3 (D,1)=some (.slice fa N fc):=za (o:=1) oP rfl;have h3:=HH.z.kD m3;have c0:=h3.hd (j:=0) rfl;have c6:=h3.hd (j:=6) rfl;rw[C.z]at c6;have aj:W.heap.size<=D:=by rw[<-ab];exact(M1.z.trans m2).size
 have b1:¬(s.kj:Int)<(Z.length:Int):=I;have bv:¬s.kj<Z.length:=I;have z:=(EV.qO aa).kI aK;have M3:=zb m3;have ap:=zb z;have bb:=M1.z.size;have aL:=zb<|λg hg=>AR M1.z.size<|an g hg;have aM:=zb<|λx hx g hg=>AR M1.z.size<|aJ x hx g hg;have M:=zb L;have aN:=zb ao;have HN:=zb hN;have be:=zb h;have bf:=zb ab;have bg:=zb aj;have H3:=zb h3;clear m2 m3 aK oP h3 aj z aa an aJ L ao hN h ab KD HH bb a7;go_upto_region 2 with fail;rw[be.z,bf.z];go_quiet (fail);obtain⟨W4,h⟩:=nm<|W3.drewN nq;have L:C9 DA W3 W4:=by rw[<-h];exact rS.drewN _
 rw[h];have p0:=L.cell (a:=D) id p0;have p1:=L.cell (a:=U D 1) id p1;have ke:=UD n y (.slice fa N fc) W4 (ap.z.kI L) (by
  rw[M.z];have:=Ax List.length K.z;rw[C.z,AF]at this;omega) (λfr u=>by
  have:=a9.z fr.1 (by rw[<-M.z];exact Ct.2 ⟨fr,u,rfl⟩);exact⟨by
   have h1:=this.dl;omega,by
   have h1:=this.rl;omega⟩)
 rw[M.z]at ke;have KE:=zb ke;have M4:=zb L;clear h L ke c0 c6;go_upto_region 4 with fail;go_wp2_with fail;refine(KE.z).mono ?_;rintro e W5 ⟨m5,he⟩;obtain⟨v5,rfl,ac,_⟩:∃h,e=.returned (.tuple #[h,.int .i64 0])/\OB W5 h (ml<|Fe n fs)/\∀g,h.ownBlock=some g->W4.heap.size<=g:=by
  rcases he with⟨_,x⟩|⟨x,_⟩
  .exact x
  rw[<-C.z,ah.z]at x;cases x
 have ev:ml (Fe n fs)=Z:=by rw[K.z,C.z];rfl
 rw[ev]at ac;obtain⟨h,L,rfl,v1,v2,_⟩:=zi ac;have E:=FZ<|OB.br ac;have h5:=H3.z.kD<|M4.z.trans m5;have c6:=h5.hd (j:=6) rfl;have h:=h5.fz 6;rw[C.z]at c6;obtain⟨n1,aO⟩:=nm<|n+1;have h:IntKind.u64.wrap ((n:Int)+1)=(n1:Int):=by rw[IntKind.wrap_u64];omega
 obtain⟨s0,O⟩:∃x,({ s with kH:=s.kH+1 }:SS)=x:=⟨_,rfl⟩;have q6:=h5.mu { s with kH:=s.kH+1 } (j:=6) (v:=.int .u64 n1) (by rw[<-aO,<-C.z];rfl) rfl;have aP:=M3.z.trans<|M4.z.trans m5;have mm:C9 (λg=>(tag g).1=i) W _:=(aP.mono rQ).trans<|show C9 (λg=>(tag g).1=i) W5 _ from h5.mh 6<|.int .u64 n1;have p0:=m5.cell (a:=D) id p0;have p1:=m5.cell (a:=U D 1) id p1;obtain⟨W6,X⟩:=nm<|W5.setCell (U b 6)<|.int .u64 n1;rw[X,O]at q6;rw[X]at mm;have h:=zb<|q6.mD HT.z mm;have aQ:=zb<|HT.z D bg.z;have np:∀j,¬(tag (⟨D,j,none⟩:Addr).block).1=i:=λj x=>by
  have x:(tag D).1=i:=x;rw[aQ.z]at x;have:=HI.z;simp at x;omega
 have B:C9 (λg=>(tag g).1=i) W5 W6:=by rw[<-X];exact h5.mh 6<|.int .u64 n1
 have mP:=((M4.z.trans m5).mono rQ).trans B;have p0:=B.cell (np 0) p0;have p1:=B.cell (np 1) p1;have ak:=ap.z.mod mP (λg o n' c' e x=>by
   cases e;have x:=x;rw[HT.z g (aL.z g rfl)]at x;have:=HI.z;simp at x;omega) (λfr u g o n' c' e x=>by
   have x:=x;rw[HT.z g (aM.z fr u g<|by rw[e];rfl)]at x;have:=HI.z;simp at x;omega)
 have n:=zb ak;have L:=zb p1;have T6:=zb<|HT.z.mod mm;have Q6:=zb q6;have bh:AA s0.Bd:=zb (by rw[<-O];exact⟨BD.z.od,BD.z.hl,BD.z.all,BD.z.due,BD.z.ln,BD.z.lr,BD.z.used,BD.z.wt⟩);have aR:AA (SS.nQ fs 0 s0):=zb (by rw[<-O];exact ai.z);have R0:AA (R=SS.mO fs s0):=zb (by rw[<-HR.z,<-O];rfl);have MM:=zb mm;have C:=zb X;obtain⟨sb,h⟩:=nm<|zy Z;rw[h]at E ⊢;clear m5 he ac h5 q6 aP mm X np B mP ak O p0 p1 aO ap KE ai K ah HR BD aH ev ba h;go_upto_region 8 with fail;rw[C.z];have DD:AA (∀w',C9 (λg=>(tag g).1=i) W6 w'->w'.cell? (U D 1)=some (.slice fa N fc)/\FE w' (.slice fa N fc) y):=zb (λw' m=>⟨m.cell (a:=U D 1) (λx=>by
   have x:(tag D).1=i:=x;rw[aQ.z]at x;have:=HI.z;simp at x;omega) L.z,n.z.mod m (λg o n' c' e x=>by
   cases e;have x:=x;rw[HT.z g (aL.z g rfl)]at x;have:=HI.z;simp at x;omega) (λfr u g o n' c' e x=>by
   have x:=x;rw[HT.z g (aM.z fr u g<|by rw[e];rfl)]at x;have:=HI.z;simp at x;omega)⟩)
 go_wp2_with fail
 go_loopw [10] (λg wr=>∃(k:Nat) (s1:SS),k<=N/\g=.int .i64 k/\AA (Db tag i b W6 s1 wr/\s1.Bd/\SS.nQ (fs.drop k) (Ji fs k) s1/\R=SS.mO (fs.drop k) s1)) (λg _=>N-(intOf g).toNat)
 case atStart=>exact⟨0,s0,AK _,rfl,zb ⟨Q6.z.mD T6.z rS,bh.z,by simpa [Ji]using aR.z,qp R0.z⟩⟩
 case round =>
  obtain⟨k,s1,g,rfl,HQ⟩:=hrel;obtain⟨al,g,h1,e1,m1⟩:=HQ.z.1.op;obtain⟨y1,z⟩:=DD.z wr m1;by_cases aS:k<N
  .obtain⟨h,g,aT,_,_,aq⟩:=z;have aU:k<y.length:=by rw[aN.z,HN.z];exact aS
   obtain⟨⟨f,n⟩,u⟩:∃fr,y[k]?=some fr:=⟨y[k],AG aU⟩;have Y:fs[k]?=some f:=by rw[<-M.z,Ad,u];rfl
   obtain⟨⟨g2,o2,bi,ar⟩,ad⟩:=aq k (f,n) u;have bj:h=fa/\g=fc:=by cases aT;exact rM
   obtain⟨rfl,rfl⟩:=bj;subst bi;simp only at ar ad;obtain⟨x0,x1,x2,x3,x4,x5,x6,x7,x8,x9⟩:=GC ar;obtain⟨ra,rc,aV,_⟩:=id ad;subst aV;have aW:fs.drop k=f::fs.drop (k+1):=by
    have g:k<fs.length:=by rw[HN.z];exact aS
    rw[B5 g];rw[AG g]at Y;rw[Bc Y]
   obtain⟨_,au,g,av⟩:=HQ.z;rw[aW]at g av;obtain⟨G,aw,aX⟩:=g;have ax:=Oa<|aI.z f<|AZ Y;have E:∃q:Nat,q<8/\f.stream=(q:Int):=⟨f.stream.toNat,I,I⟩;obtain⟨W7,ae⟩:=nm<|wr.alloc<|.cells (ze f<|.slice ra f.kC.length rc) 48;have mY:=AB ae;have oY:=AD ae;have aY:=e1.z _<|AI _;have ay:Ji fs (k+1)=DR f:=by
    unfold Ji;rw[AH I,Bz,AQ,Y];rfl
   have aZ:=zb<|au.may E.choose_spec.1 E.choose_spec.2 aw;have ka:∀w',C9 DA W7 w'->rH 89 #[(b,0),.agg (ze f<|.slice ra f.kC.length rc)] w' (Ez al i b w' (.bool true)<|s1.may f):=λw' m=>Wp (h1.kD<|mY.trans m) (e1.z.mod<|mY.trans m) HI.z f _ (ad.mod (mY.trans m)<|DN.no _) aw au E ax.2.2.1 ax.2.1
   obtain⟨g,aA⟩:=nm wr.heap.size;rw[aA]at oY aY;have a0:∀w',rH 88 #[.agg (ze f<|.slice ra f.kC.length rc)] w' λe w''=>e=.returned (.int .i64 (DR f:Int))/\C9 DA w' w'':=λw'=>UJ f _ w'
   have aB:=zb ka;have af:=zb a0;have a1:AA (∀w0 W9 c2,C9 DA W7 w0->Db al i b w0 c2 W9->Db tag i b W6 c2 W9):=zb<|λw0 W9 c2 m l=>Dx.trans (DK.mk e1.lH e1.new<|e1.z.mod<|mY.trans m) (m1.trans<|(mY.trans m).mono rQ) l;have aC:=zb ae;have bl:=zb aA;have a2:=zb oY;have g:=zb mY;have bm:AA (SS.nQ (fs.drop<|k+1) (Ji fs<|k+1) (s1.may f)/\R=SS.mO (fs.drop<|k+1) (s1.may f)):=zb ⟨by rw[ay];exact aX,av⟩;have bn:=zb G;unfold ze at aC aB af;obtain⟨g,aD⟩:=nm f.kC.length;rw[aD]at x9 aC aB af;have am:=zb aD;have bo:AA (0<k->∃f0 A,(ze f0 A).size=10/\Ji fs k=DR f0/\∀(j:Nat) (x:rU),(ze f0 A)[j]?=some x->W7 (g2,o2+(k-1)*10+j)=some x):=zb (λhp=>by
    have h:k-1<y.length:=by rw[aN.z,HN.z];omega
    obtain⟨⟨f0,A⟩,g⟩:∃fr,y[k-1]?=some fr:=⟨y[k-1],AG h⟩;have a3:fs[k-1]?=some f0:=by rw[<-M.z,Ad,g];rfl
    obtain⟨⟨h,m,a4,bq⟩,_⟩:=aq (k-1) (f0,A) g;cases a4;refine⟨f0,A,rfl,?_,λj x hx=>mY.cell (a:=⟨g2,_,none⟩) id<|bq j x hx⟩;unfold Ji;rw[AH I,AQ,a3];rfl)
   have g:=mY.cell (a:=U D 1) id y1;have a:=zb ay;clear aq u ar ad ka a0 Y aT G aX aw au av h1 e1 m1 aU aW mY oY ae aA ax E aY ay aD;go_upto_region 12 with fail;rw[aC.z,bl.z];go_upto_if 72 with fail
   go_cut [] (λa=>AA<|C9 DA W7 a)
   case first=>as_aux_lemma =>
    clear x0 x1 x2 x3 x4 x5 x6 x7 x8 x9;by_cases hp:0<k
    .obtain⟨f0,A,_,h,g⟩:=bo.z hp;have G:=bn.z;rw[h]at G;have n:IntKind.i64.wrap ((k:Int)-1)=((k-1:Nat):Int):=by rw[IntKind.wrap_i64];omega
     obtain⟨a,m⟩:=nm<|k-1;rw[m]at n g;have n:(a:Int)<N:=I;have n:(0:Int)<=a:=I;have bp:(0:Int)<k:=I;obtain⟨x0,x1,x2,x3,x4,x5,x6,x7,x8,x9⟩:=GC g;have a:=UJ f0 A W7;unfold ze at a;obtain⟨q0,n⟩:=nm<|DR f0;obtain⟨qf,q⟩:=nm<|DR f;rw[n]at a G;rw[q]at G af;have K0:=zb a;clear a g m h n q;go_wp2_with fail;refine(K0.z).mono ?_;rintro e W8 ⟨rfl,m8⟩;obtain⟨z0,z1,z2,z3,z4,z5,z6,z7,z8,z9⟩:=Ge<|m8.obj rP a2.z;rw[am.z]at z9;have M8:=zb m8;clear m8 K0 x0 x1 x2 x3 x4 x5 x6 x7 x8 x9;go_wp2_with fail;refine(af.z W8).mono ?_;rintro e W9 ⟨rfl,m9⟩;have a:=zb<|M8.z.trans m9;clear m9;have b1:¬(qf:Int)<q0:=I;have b2:¬qf<q0:=I;go_wp2;go_meet;exact a
    have bp:¬(0:Int)<k:=I;go_wp2;go_meet;exact zb rS
   case rest =>
   have M8:AA _:=hcut;obtain⟨W8,bt⟩:=nn wc;subst bt;obtain⟨z0,z1,z2,z3,z4,z5,z6,z7,z8,z9⟩:=Ge<|M8.z.obj rP a2.z;rw[am.z]at z9;clear x0 x1 x2 x3 x4 x5 x6 x7 x8 x9;go_wp2_with fail;refine(aB.z W8 M8.z).mono ?_;rintro e W9 ⟨rfl,l9⟩;have e:=zb<|a1.z W8 W9 _ M8.z l9;have a:=zb<|And.intro e.z<|And.intro aZ.z bm.z;clear l9 z0 z1 z2 z3 z4 z5 z6 z7 z8 z9;go_wp2;go_roundw
   case rel=>exact⟨k+1,_,I,by go_num,a⟩
   simp[intOf];omega
  have e:k=N:=I;have a:AA (R=s1):=zb (by
   rw[HQ.z.2.2.2,BX (by rw[HN.z];omega)];rfl)
  clear e h1 e1 m1 z;go_wp2;go_ret;rw[a.z];exact⟨rfl,Dx.trans (DK.same HT.z MM.z) MM.z HQ.z.1⟩
end
def Wo(s:SS)(f:DF):(s.may f).kj=s.kj/\(s.may f).kN=s.kN/\(s.may f).kH=s.kH/\(s.may f).closed=s.closed:=by
 unfold SS.may;split
 .exact⟨rfl,rfl,rfl,rfl⟩
 split
 .exact⟨rfl,rfl,rfl,rfl⟩
 split
 .exact⟨rfl,rfl,rfl,rfl⟩
 split
 .exact⟨rfl,rfl,rfl,rfl⟩
 split<;>exact⟨rfl,rfl,rfl,rfl⟩
theorem QA:∀(e:List DF) (s:SS),(SS.mO e s).kj=s.kj/\(SS.mO e s).kN=s.kN/\(SS.mO e s).kH=s.kH/\(SS.mO e s).closed=s.closed
 | [],_=>⟨rfl,rfl,rfl,rfl⟩
 | f::e,s=>by
  obtain⟨a,b,c,d⟩:=QA e<|s.may f;obtain⟨e,g,h,m⟩:=Wo s f;exact⟨a.trans e,b.trans g,c.trans h,d.trans m⟩
theorem SS.Bd.mO:∀(a:List DF) (c:Nat) (s:SS),s.Bd->SS.nQ a c s->(∀f∈a,zH f=true)->(SS.mO a s).Bd
 | [],_,_,h,_,_=>h
 | f::a,c,s,h,hm,hs=>by
  obtain⟨_,e,g⟩:=hm;have m:=Oa<|hs f BB;exact SS.Bd.mO a _ _ (h.may (k:=f.stream.toNat) I I e) g<|λg a=>hs g<|BA _ a
def SS.Bd.emit(h:s.Bd){b:qq}(ok:s.nR b fs):(s.emit fs).Bd/\(s.emit fs).kj=s.kj/\(s.emit fs).kN=s.kN/\(s.emit fs).closed=s.closed:=by
 obtain⟨a,b,_,d⟩:=QA fs { s with kH:=s.kH+1 };exact⟨SS.Bd.mO fs 0 _ ⟨h.od,h.hl,h.all,h.due,h.ln,h.lr,h.used,h.wt⟩ ok.may (TI ok.ok).2.2,a,b,d⟩
structure SS.na(s:SS)(ls:List qq)(s':SS):Prop where
 up:s.closed=0->∃s1,SS.mQ ls s s1/\(∀n∈s1.due,n<s1.kN.fl)/\s'={ s1 with due:=[] }
 down:s.closed≠0->(s.said=true->ls=[]/\s'=s)/\(s.said=false->∃b f,ls=[b]/\dec b=.ok s.kH [f]/\b.length<=65536/\f.kind=8/\f.lF=s.nB/\s'={ s with said:=true,kH:=s.kH+1 })
section
variable {tag:qr} {i b:Nat} {s s':SS} {V V':SV} {W W1:rT}
def XV(h:zj tag i b s V W)(ht:zL tag W)(hi:0<i)(a:qs)(cap:Nat)(e:List qq)(ho:W.ownsRow 0 9 1 (.slice a e.length cap) e.length (EH e))(hg:∀g,(Value.slice a e.length cap).ownBlock=some g->(tag g).1≠i)
  (h0:s.closed≠0) (ok:s.na e s') (ab:s.kH<=1099511627776) (ac:s.closed<=1099511627776) :
  rH 46 #[zq b,.slice a e.length cap] W (Ez tag i b W (.bool true) s'):=by
 obtain⟨k1,k2⟩:=ok.down h0;have e:=h.hd (j:=5) rfl;obtain⟨sd,E⟩:=nm s.said;rw[E]at e k1 k2;unfold zq;cases sd
 .obtain⟨bs,f,rfl,A,e,N,B,rfl⟩:=k2 rfl;have e:=h.fz 5;have q5:=h.mu { s with said:=true } (j:=5) (v:=.bool true) rfl rfl;have z:=h.mh 5<|.bool true;obtain⟨W1,G⟩:=nm<|W.setCell (U b 5)<|.bool true;rw[G]at q5 z;have o1:=z.owns ho<|λg x=>hg g x;obtain⟨g,_,O,e,d2⟩:=JA o1 nl;cases O;have e:=(Gd (i:=0) (v:=.string<|zy bs) o1 rfl).1;obtain⟨bc,W2,e,O,m2,_⟩:=Ms W1 bs I;have kd:=Mt _ bs W2 O I;rw[A]at kd;have HQ:=zb q5;have HM:=zb z;have ad:=zb m2;have HT:=zb ht;have KD:=zb kd;have ae:=zb G;obtain⟨n,hn⟩:=nm s.kH;obtain⟨C,e⟩:=nm s.closed;have R:=zb hn;have af:=zb e;have q:AA (f.lF=if C=12 then 0 else C):=zb (by rw[B];unfold SS.nB;rw[e]);have ag:=zb N;rw[hn]at ab KD;rw[e]at ac;have wc:IntKind.u64.wrap (C:Int)=(C:Int):=by rw[IntKind.wrap_u64];omega
  clear h ht ho hg h0 ok k1 k2 q5 z G o1 O m2 kd A B N E hn e;go_enter func46,ntmps46;go_upto_region 4 with fail;rw[ae.z];go_wp2_with fail;refine(KD.z).mono ?_;rintro e X ⟨m3,A,Y,rfl,K,u,ah,ai⟩;obtain⟨fa,fc,rfl,e,q4,qf⟩:=zi K.1;have Z:Y.length=1:=by have:=Ax List.length u;simpa using this
  obtain⟨⟨f1,rv⟩,rfl⟩:∃x,Y=[x]:=List.length_eq_one_iff.1 Z;have aj:f1=f:=qp u;subst aj;obtain⟨e,m,ak,_,_,aa⟩:=EV.qO K;obtain⟨⟨g2,o2,al,L⟩,_⟩:=aa 0 (f1,rv) rfl;have am:e=fa/\m=fc:=by cases ak;exact rM
  obtain⟨rfl,rfl⟩:=am;subst al;simp only[B6,Bb]at L;obtain⟨G,_,_,_,Y,_,_,_,_,_⟩:=GC L;rw[ag.z]at G;obtain⟨M,e⟩:=nm<|X.alloc<|.cells #[n,.slice (g2,o2) 1 m] 37;have A:=AB e;have N:=AD e;obtain⟨O,B⟩:=nm X.heap.size;rw[B]at N;have X:=za (o:=0) N rfl;have X:M (O,1)=some (.slice (g2,o2) 1 m):=za (o:=1) N rfl;have G:=A.cell (a:=⟨g2,_,none⟩) id G;have Y:=A.cell (a:=⟨g2,_,none⟩) id Y;have m:=ad.z.trans<|m3.trans A;have O:=HQ.z.kD m;have c4:=O.hd (j:=4) rfl;have c6:=O.hd (j:=6) rfl;rw[show({ s with said:=true }:SS).closed=C from af.z]at c4;rw[show({ s with said:=true }:SS).kH=n from R.z]at c6;have H4:=zb O;have an:=zb m;have X:=zb e;have ao:=zb B;obtain⟨lm,G⟩:=nm f1.lF;have q:=q;rw[G]at Y q;unfold maxLen at q4;clear KD K u ah ai m3 A N O m e B Z aa L G qf;go_upto_region 7 with fail;rw[X.z,ao.z];go_upto_if 41 with fail
  go_cut [8] (λe m=>e=.int .u64 lm/\m=M)
  case first=>as_aux_lemma =>
   have D:=q.z;clear q;by_cases y:C=12
   .have d:((C:Int)==12)=true:=by rw[y];rfl
    rw[AL y]at D;subst D;clear y;go_wp2;go_meet;exact rM
   have d:((C:Int)==12)=false:=AM.2 I;rw[AH y]at D;subst D;clear y;go_wp2;go_meet;exact rM
  case rest =>
  obtain⟨rfl,D⟩:=hcut;replace D:=D.symm;subst D;go_upto_region 10 with fail;go_quiet (fail);obtain⟨q,e⟩:=nm<|M.drewN nq;have z:C9 DA M q:=by rw[<-e];exact rS.drewN _
  rw[e];have m:=H4.z.kD z;have c6:=z.cell (a:=U b 6) id c6;have a:=m.fz 6;obtain⟨n1,a⟩:=nm<|n+1;have u:IntKind.u64.wrap ((n:Int)+1)=(n1:Int):=by rw[IntKind.wrap_u64];omega
  have n:=m.mu { s with said:=true,kH:=s.kH+1 } (j:=6) (v:=.int .u64 n1) (by rw[<-a,<-R.z];rfl) rfl;have u:=HM.z.trans<|((an.z.trans z).mono rQ).trans<|show C9 (λg=>(tag g).1=i) q _ from m.mh 6<|.int .u64 n1;have L:=zb<|n.mD HT.z u;clear e z m n u a c4;go_wp2;go_ret;exact⟨rfl,L.z⟩
 obtain⟨rfl,rfl⟩:=k1 rfl;have a:=zb<|h.left ht rS;clear h ht ho hg h0 ok k1 k2 E;go_enter func46,ntmps46;go_wp2;go_ret;exact⟨rfl,a.z⟩
def gJ(h:zj tag i b s V W)(ht:zL tag W)(hi:0<i)(a:qs)(cap:Nat)(u:List qq)(ho:W.ownsRow 0 9 1 (.slice a u.length cap) u.length (EH u))(X:∀g,(Value.slice a u.length cap).ownBlock=some g->(tag g).1≠i)
  (ok:s.na u s') (bd:s.Bd) (hm:s.kj<=65536) (aa:s.kH<=1099511627776) (ab:s.closed<=1099511627776) (G:∀q,SS.mQ u s q->q.due.length<=1099511627776) :
  rH 21 #[zq b,.slice a u.length cap] W (Ez tag i b W (.bool true) s'):=by
 have c4:=h.hd (j:=4) rfl;by_cases h0:s.closed=0
 .obtain⟨q,K,y,rfl⟩:=ok.up h0;rw[h0]at c4;obtain⟨N,hN⟩:=nm u.length;obtain⟨_,_,aj,ak,al,_⟩:=zi ho;cases aj;rw[hN]at ak;have am:=zb ht;have an:AA (∀w',C9 (λg=>(tag g).1=i) W w'->w'.ownsRow 0 9 1 (.slice a u.length cap) u.length (EH u)):=zb<|λw' m=>m.owns ho<|λg x=>X g x;have H0:=zb h;have OK:=zb K;have ao:=zb y;have BD:=zb bd;have HN:=zb hN;have ap:=zb<|G q K;unfold maxLen at al;unfold zq;rw[hN];clear h ht X ho ok K bd y hN aa ab G h0;go_enter func21,ntmps21;go_wp2_with fail
  go_loopw [6] (λK wr=>∃(k:Nat) (A:SS),k<=N/\K=.int .i64 k/\AA (Db tag i b W A wr/\A.Bd/\A.kj<=65536/\SS.mQ (u.drop k) A q)) (λK _=>N-(intOf K).toNat)
  case atStart=>exact⟨0,s,AK _,rfl,zb ⟨H0.z.mD am.z rS,BD.z,hm,OK.z⟩⟩
  case round =>
   obtain⟨k,A,K,rfl,HQ⟩:=hrel;obtain⟨ac,Y,M,e1,m1⟩:=HQ.z.1.op;by_cases K:k<N
   .obtain⟨bs,B⟩:∃x,u[k]?=some x:=⟨_,AG<|by rw[HN.z];exact K⟩;have ad:u.drop k=bs::u.drop (k+1):=by
     have ae:k<u.length:=by rw[HN.z];exact K
     rw[B5 ae];rw[AG ae]at B;rw[Bc B]
    obtain⟨_,O,af,K⟩:=HQ.z;rw[ad]at K;obtain⟨fs,C,z⟩:=K;have ro:=an.z wr m1;rw[HN.z]at ro;obtain⟨g,_,hv,_,_⟩:=JA ro I;cases hv;have K:=(Gd (i:=k) (v:=.string<|zy bs) ro<|by unfold EH;rw[Ad,B];rfl).1;have R:=iM M e1.z hi bs C O (qm C.len) af;obtain⟨b1,b2,_,_⟩:=O.emit C;have aq:=zb<|And.intro b1<|And.intro (I:(A.emit fs).kj<=65536) z;have ag:AA (∀Z,Db ac i b wr (A.emit fs) Z->Db tag i b W (A.emit fs) Z):=zb<|λZ l=>Dx.trans e1 m1 l;unfold zq at R;have KA:=zb R;have bk:(k:Int)<N:=I;clear R ro M e1 m1 O af C z b1 b2 ad B;go_wp2_with fail;refine(KA.z).mono ?_;rintro e Z ⟨rfl,l9⟩;have L9:=zb<|And.intro (ag.z Z l9) aq.z;clear l9 KA;go_wp2;go_roundw
    case rel=>exact⟨k+1,_,I,by go_num,L9⟩
    simp[intOf];omega
   have ar:q=A:=by
    have z:=HQ.z.2.2.2;rw[BX (by rw[HN.z];omega)]at z;exact z
   subst ar;obtain⟨B,C,z,K,N,d9,A⟩:=M.nums (r:=6) (j:=9) rfl lc rfl;have d7:wr (b,7)=some (.pointer Y.gb):=M.hd (j:=7) rfl;have E:wr (Y.gb,1)=some (.int .u64 q.kN.fl):=DM.cell (p:=EC b q Y) (r:=2) (cs:=JG q.kN Y.gv) M rfl rfl;obtain⟨D,B⟩:=nm q.due.length;obtain⟨fl,y⟩:=nm q.kN.fl;have C:=ap.z;rw[B]at K d9 C;rw[y]at E;unfold maxLen at N;have HD:=zb B;have ah:=zb y;have au:=zb A;have H1:=zb M;have E1:=zb e1;have M1:=zb m1;have C:=zb z;clear M e1 m1 B y A z;go_wp2_with fail;obtain⟨WL,av⟩:=nn wr;subst av
   go_loopw [8] (λy wr=>∃m:Nat,m<=D/\y=.int .i64 m/\AA (C9 DA WL wr)) (λy _=>D-(intOf y).toNat)
   case atStart=>exact⟨0,AK _,rfl,zb rS⟩
   case round =>
    obtain⟨m,y,rfl,n⟩:=hrel;have d9:=n.z.cell (a:=U b 9) id d9;by_cases y:m<D
    .obtain⟨x,hx⟩:∃x,q.due[m]?=some x:=⟨_,AG<|by rw[HD.z];exact y⟩;have y:=ao.z x<|AZ hx;rw[ah.z]at y;obtain⟨g,rfl,_,ai⟩:=au.z (by rw[HD.z];omega);have y:=n.z.cell (a:=⟨g,_,none⟩) id (ai m x hx).1;have d7:=n.z.cell (a:=U b 7) id d7;have E:=n.z.cell (a:=U Y.gb 1) id E;have b1:¬(fl:Int)<=x:=I;have b2:¬fl<=x:=I;have bk:(m:Int)<D:=I;clear ai hx;go_wp2;go_quiet (fail);go_wp2;go_roundw
     case rel=>exact⟨m+1,I,by go_num,zb<|n.z.drewN _⟩
     simp[intOf];omega
    have h2:=H1.z.kD n.z;have m:=h2.fz 9;obtain⟨_,tv⟩:=h2.rowOf (r:=6) rfl lc;have L:=zj.mz (s':={ q with due:=[] }) (V':={ Y with due:=.slice none 0 0 }) (j:=9) (W1:=wr) h2 (E1.z.z.mod n.z) hi (r:=6) lc lc tv (World.ownsRow_nil _ 0 34 1) rS (λg X=>by cases X) rfl rfl (λq _ g=>by unfold DV;split<;>first|rfl|exact absurd rO g|exact absurd (.inr rfl) g) (λ_ _ _ _=>rfl);have g:=zb<|Dx.trans (DK.mk E1.z.lH E1.z.new<|E1.z.z.mod n.z) (M1.z.trans<|n.z.mono rQ) L;clear h2 tv L d7 E;go_wp2;go_ret;exact⟨rfl,g.z⟩
 have R:=XV h ht hi a cap u ho X h0 ok aa ab;have hb:((s.closed:Int)==0)=false:=AM.2 I;unfold zq at R ⊢;have KA:=zb R;clear h ht X ho ok bd R h0 G;go_enter func21,ntmps21;go_wp2_with fail;refine(KA.z).mono ?_;rintro e Z ⟨rfl,l9⟩;have L9:=zb l9;clear l9 KA;go_wp2;go_ret;exact⟨rfl,L9.z⟩
end
section
variable {tag tag':qr} {W W1:rT} {i:Nat} {p p':Nat->Pc}
variable{cs:Array rU}{e j r t:Nat}{v v':rU}
def DM.mz(h:DM tag i p W)(C:zL tag W)(hi:0<i){D:Nat}(K:r≠1)(hb:p 1=.kr b cs t){n:qt}(u:∀g,v.ownBlock=some g->tag g=(i,r))(own:W1.ownsRow 0 e sz v' D n)(m1:C9 (λg=>v.ownBlock=some g) W W1)(E:Dh W v v')
  (L:p' r=.row e sz v' D n) (M:p' 1=.kr b (cs.setIfInBounds j v') t) (N:∀q,¬(q=1\/q=r)->p' q=p q) :
  Dx tag i W (λx=>x=p') (W1.setCell (b,j) v'):=by
 obtain⟨e,tb⟩:=h.kr hb;have z:¬v.ownBlock=some b:=λx=>by
  have:=u b x;rw[tb]at this;simp at this;omega
 have O:=m1.obj z e;have A:=(AJ.1 e).1;have G:C9 (λg=>v.ownBlock=some g\/g=b) W (W1.setCell (b,j) v'):=(m1.mono<|λg a=>.inl<|.inl a).setCell (p:=(b,j)) (.inl<|.inr rfl) _;have R:C9 (λg=>g=b) W1 (W1.setCell (b,j) v'):=(C9.refl (λg=>g=b) _).setCell (p:=(b,j)) rO _;have B:∀g,v'.ownBlock=some g->g≠b:=λg a x=>by
  subst x;rcases E g a with y|y
  .exact z y
  omega
 refine⟨zT tag W W1 (i,r),_,rfl,?_,?_,G.mono<|λg a=>.inl ?_⟩
 .refine DM.lq h (λq=>q=1\/q=r) G (λg a=>?_) (λg a=>zx<|Ds C (i:=i) (r:=(tag g).2) (by rw[<-a]) hi) (λq m=>?_) N
  .rcases a with a|a
   .exact⟨r,.inr rfl,u g a⟩
   exact⟨1,.inl rfl,by rw[a,tb]⟩
  rcases m with m|m
  .subst m;rw[M];exact⟨zc O,by rw[zx A,tb]⟩
  subst m;rw[L];refine⟨R.owns own B,λg a=>?_⟩;rcases E g a with y|y
  .rw[zx (Ds C (u g y) hi),u g y]
  rw[FH y (zI own g a)]
 .have:=Gf (i:=i) (r:=r) (tag:=tag) m1.size;exact⟨this.lH,this.new,λg a=>this.z g<|qp a⟩
 rcases a with a|a
 .rw[u g a]
 rw[a,tb]
variable{q:Nat}
def DM.alloc(h:DM tag i p W)(n:zL tag W)(hi:0<i)(a:p q=.no)(u:p' q=.kr W.heap.size cs t)(y:∀r,r≠q->p' r=p r):∃tag',DM tag' i p' (W.alloc (.cells cs t))/\DK i tag tag' W (W.alloc (.cells cs t)):=by
 have m:C9 DA W (W.alloc<|.cells cs t):=rS.alloc _;refine⟨zT tag W (W.alloc<|.cells cs t) (i,q),?_,Gf m.size⟩;refine DM.lq h (λr=>r=q) m rQ (λg a=>zx<|Ds n (i:=i) (r:=(tag g).2) (by rw[<-a]) hi) (λr e=>?_)<|λr e=>y r e;subst e;rw[u];exact⟨heap_alloc_new W _,FH (AI _) nl⟩
def DM.push(h:DM tag i p W)(D:zL tag W)(hi:0<i){bytes tb:Nat}{z u:rU}(A:r≠1)(hb:p 1=.kr b cs tb)(L:prog.underlying t=some (.slice e))(y:(prog.info? e).map (λi=>(i.zero,i.size,i.bytes))=some (some z,1,bytes))(M:z.cells.size=1)(B:bytes<=104)
  (q:p r=.row e 1 v n xs) (N:u.oneCell'=true) (O:n<=1099511627776) (p':rU->Nat->Pc)
  (R:∀m,p' m r=.row e 1 m (n+1) (xs++[u])) (X:∀m,p' m 1=.kr b (cs.setIfInBounds j m) tb) (Y:∀m q,¬(q=1\/q=r)->p' m q=p q) (Z:j<cs.size) :
  ∃m W1,(∀a,(Builtin.append_ #[t,t] a #[v,.slice W 1 1]).run prog (W.alloc<|.cells #[u] e)=.ok m W1) /\
   Dx tag i W (λx=>x=p' m) (W1.setCell (b,j) m)/\W1.frozen? ⟨b,j,none⟩=false/\(∃x,W1.cell? (b,j)=some x)/\(∃a c,m=.slice a (n+1) c)/\C9 (λg=>v.ownBlock=some g) W W1:=by
 obtain⟨a,E⟩:=h.row q;obtain⟨m,W1,hr,G,C,n1⟩:=Jl L y M lc a [u] rfl (λy K=>by simp at K;subst K;exact N) O B;have n:=(C9.refl DA W).alloc<|.cells #[u] e;have e:=h.kI n;have L:=DM.mz (j:=j) e (D.mod n) hi A hb E G (rS.grown C<|λg a=>.inl a) n1 (R m) (X m)<|Y m;obtain⟨q,h⟩:=e.kr hb;have e:=(rS.grown C<|λg a=>.inl a).obj (S:=λg=>v.ownBlock=some g) (λx=>by
  have:=E b x;rw[h]at this;simp at this;omega) q
 obtain⟨h,q,u,_⟩:=zi G;exact⟨m,W1,hr,L.lJ D hi n,zd e,⟨_,za e<|by rw[CN Z]⟩,⟨h,q,u⟩,(n.mono rQ).trans<|rS.grown C<|λg a=>.inl a⟩
end
def Ik:SO:=⟨[],false,false,0,0⟩
def Il:SI:=⟨[],[],0,0,false,false,0,0,0⟩
def Dp(b:Nat)(s:SS)(V:SV)(n0 n1 n2 n3:Nat)(r:Nat):Pc :=
 if r=7 then .row 92 1 V.outs n0 ((List.range n0).map λk=>zq<|V.ob k)
 else if r=8 then .row 95 1 V.ins n1 ((List.range n1).map λk=>zq<|V.ib k)
 else if r=9 then .row 34 1 V.kS n2 (ES<|(List.range n2).map s.kS)
 else if r=10 then .row 34 1 V.given n3 (ES<|(List.range n3).map s.given)
 else if 16<=r/\r<24 then(if r<16+n0 then .kr (V.ob<|r-16) (E5 Ik) 94 else .no)
 else if 24<=r/\r<32 then(if r<24+n1 then .kr (V.ib<|r-24) (Ee Il rV<|.slice none 0 0) 98 else .no)
 else if r<16 then DV b s V r else .no
section
variable {tag tag':qr} {W W1:rT} {i b k:Nat} {s:SS} {V:SV} {n0 n1 n2 n3:Nat}
def Oi(f:Nat->Nat)(k x:Nat):((List.range k).map λj=>zq (zh f k x j))=(List.range k).map λj=>zq (f j):=by
 refine List.map_congr_left<|λj a=>?_;rw[zl _ _ (qm<|CJ.1 a)]
def XS(h:DM tag i (Dp b s V k n1 n2 n3) W)(z:zL tag W)(hi:0<i)(a:k<8):∃m y tag' V',(∀a,(Builtin.append_ #[87,87] a #[V.outs,.slice (W.heap.size+1,0) 1 1]).run prog ((W.alloc (.cells (E5 Ik) 94)).alloc (.cells #[zq W.heap.size] 92))=.ok m y) /\
   DM tag' i (Dp b s V' (k+1) n1 n2 n3) (y.setCell (b,10) m)/\DK i tag tag' W (y.setCell (b,10) m)/\C9 (λg=>(tag g).1=i) W (y.setCell (b,10) m)/\y.frozen? ⟨b,10,none⟩=false/\(∃x,y.cell? (b,10)=some x)/\(∃a c,m=.slice a (k+1) c):=by
 obtain⟨W1,n⟩:=nm<|W.alloc<|.cells (E5 Ik) 94;have E:=AC n;have K:=AB n;obtain⟨a,u,D⟩:=h.alloc (p':=λr=>if r=16+k then .kr W.heap.size (E5 Ik) 94 else Dp b s V k n1 n2 n3 r) (q:=16+k) (cs:=E5 Ik) (t:=94) z hi (by unfold Dp;rw[AH I,AH I,AH I,AH I,AL I,AH I]) (AL rfl)<|λr a=>AH a;rw[n]at u D;have a:(λr=>if r=16+k then Pc.kr W.heap.size (E5 Ik) 94 else Dp b s V k n1 n2 n3 r) 1=.kr b (zz s V).toArray 91:=by
  show(if 1=16+k then _ else Dp b s V k n1 n2 n3 1)=_;rw[AH I];rfl
 have g:(λr=>if r=16+k then Pc.kr W.heap.size (E5 Ik) 94 else Dp b s V k n1 n2 n3 r) 7=.row 92 1 V.outs k ((List.range k).map λk=>zq<|V.ob k):=by
  show(if 7=16+k then _ else Dp b s V k n1 n2 n3 7)=_;rw[AH I];rfl
 obtain⟨m,y,A,L,M,N,O,h⟩:=u.push D.z hi (t:=87) (j:=10) (u:=zq W.heap.size) (bytes:=8) (z:=.pointer none) lc a underlying87 kw rfl lc g rfl I (λm=>Dp b s { V with outs:=m,ob:=zh V.ob k W.heap.size } (k+1) n1 n2 n3) (λm=>by
   show Pc.row _ _ _ _ _=_;rw[BK,A9,Oi];simp[zf]) (λm=>by
   show Pc.kr b (zz s { V with outs:=m,ob:=zh V.ob k W.heap.size }).toArray _=_;rw[Ab];rfl) (λm q a=>by
   have G:q≠1:=λx=>a<|.inl x
   have B:q≠7:=λx=>a<|.inr x
   unfold Dp;by_cases e:q=16+k
   .subst e;rw[AH I,AH I,AH I,AH I,AL I,AL I,AL rfl];simp[zf]
   rw[AH e,AH B,AH B];by_cases a:q=8
   .rw[AL a,AL a]
   rw[AH a,AH a];by_cases a:q=9
   .rw[AL a,AL a]
   rw[AH a,AH a];by_cases a:q=10
   .rw[AL a,AL a]
   rw[AH a,AH a];by_cases a:16<=q/\q<24
   .rw[AL a,AL a];by_cases e:q<16+k
    .rw[AL e,AL I];show Pc.kr (zh V.ob k W.heap.size<|q-16) _ _=_;rw[zl _ _ I]
    rw[AH e,AH I]
   rw[AH a,AH a];split
   .rfl
   split
   .unfold DV;split<;>first|rfl|exact absurd rfl G|exact absurd rfl B
   rfl) (by show 10<24;decide)
 rw[E]at A;obtain⟨C,_,rfl,R,X,Y⟩:=L;exact⟨m,y,C,_,by rw[n];exact A,R,D.trans X K.size,I6 D (K.mono rQ) Y,M,N,O⟩
def VT(h:DM tag i (Dp b s V n0 k n2 n3) W)(z:zL tag W)(hi:0<i)(a:k<8):∃m y tag' V',(∀a,(Builtin.append_ #[88,88] a #[V.ins,.slice (W.heap.size+1,0) 1 1]).run prog ((W.alloc (.cells (Ee Il rV (.slice none 0 0)) 98)).alloc (.cells #[zq W.heap.size] 95))=.ok m y) /\
   DM tag' i (Dp b s V' n0 (k+1) n2 n3) (y.setCell (b,11) m)/\DK i tag tag' W (y.setCell (b,11) m)/\C9 (λg=>(tag g).1=i) W (y.setCell (b,11) m)/\y.frozen? ⟨b,11,none⟩=false/\(∃x,y.cell? (b,11)=some x)/\(∃a c,m=.slice a (k+1) c):=by
 obtain⟨W1,n⟩:=nm<|W.alloc<|.cells (Ee Il rV<|.slice none 0 0) 98;have E:=AC n;have K:=AB n;obtain⟨a,u,D⟩:=h.alloc (p':=λr=>if r=24+k then .kr W.heap.size (Ee Il rV<|.slice none 0 0) 98 else Dp b s V n0 k n2 n3 r) (q:=24+k) (cs:=Ee Il rV<|.slice none 0 0) (t:=98) z hi (by unfold Dp;rw[AH I,AH I,AH I,AH I,AH I,AL I,AH I]) (AL rfl)<|λr a=>AH a;rw[n]at u D;have a:(λr=>if r=24+k then Pc.kr W.heap.size (Ee Il rV<|.slice none 0 0) 98 else Dp b s V n0 k n2 n3 r) 1=.kr b (zz s V).toArray 91:=by
  show(if 1=24+k then _ else Dp b s V n0 k n2 n3 1)=_;rw[AH I];rfl
 have g:(λr=>if r=24+k then Pc.kr W.heap.size (Ee Il rV<|.slice none 0 0) 98 else Dp b s V n0 k n2 n3 r) 8=.row 95 1 V.ins k ((List.range k).map λk=>zq<|V.ib k):=by
  show(if 8=24+k then _ else Dp b s V n0 k n2 n3 8)=_;rw[AH I];rfl
 obtain⟨m,y,A,L,M,N,O,h⟩:=u.push D.z hi (t:=88) (j:=11) (u:=zq W.heap.size) (bytes:=8) (z:=.pointer none) lc a underlying88 kw rfl lc g rfl I (λm=>Dp b s { V with ins:=m,ib:=zh V.ib k W.heap.size } n0 (k+1) n2 n3) (λm=>by
   show Pc.row _ _ _ _ _=_;rw[BK,A9,Oi];simp[zf]) (λm=>by
   show Pc.kr b (zz s { V with ins:=m,ib:=zh V.ib k W.heap.size }).toArray _=_;rw[Ab];rfl) (λm q a=>by
   have G:q≠1:=λx=>a<|.inl x
   have B:q≠8:=λx=>a<|.inr x
   unfold Dp;by_cases e:q=24+k
   .subst e;rw[AH I,AH I,AH I,AH I,AH I,AL I,AL I,AL rfl];simp[zf]
   rw[AH e,AH B,AH B];by_cases a:q=7
   .rw[AL a,AL a]
   rw[AH a,AH a];by_cases a:q=9
   .rw[AL a,AL a]
   rw[AH a,AH a];by_cases a:q=10
   .rw[AL a,AL a]
   rw[AH a,AH a];by_cases a:16<=q/\q<24
   .rw[AL a,AL a]
   rw[AH a,AH a];by_cases a:24<=q/\q<32
   .rw[AL a,AL a];by_cases e:q<24+k
    .rw[AL e,AL I];show Pc.kr (zh V.ib k W.heap.size<|q-24) _ _=_;rw[zl _ _ I]
    rw[AH e,AH I]
   rw[AH a,AH a];split
   .unfold DV;split<;>first|rfl|exact absurd rfl G|exact absurd rfl B
   rfl) (by show 11<24;decide)
 rw[E]at A;obtain⟨C,_,rfl,R,X,Y⟩:=L;exact⟨m,y,C,_,by rw[n];exact A,R,D.trans X K.size,I6 D (K.mono rQ) Y,M,N,O⟩
def gI(h:DM tag i (Dp b s V n0 n1 k n3) W)(q:zL tag W)(hi:0<i)(a:k<8):∃e m tag' V',(∀a,(Builtin.append_ #[86,86] a #[V.kS,.slice W 1 1]).run prog (W.alloc (.cells #[.int .u64 (s.kS k:Int)] 34))=.ok e m) /\
   DM tag' i (Dp b s V' n0 n1 (k+1) n3) (m.setCell (b,12) e)/\DK i tag tag' W (m.setCell (b,12) e)/\C9 (λg=>(tag g).1=i) W (m.setCell (b,12) e)/\m.frozen? ⟨b,12,none⟩=false/\(∃x,m.cell? (b,12)=some x)/\(∃a c,e=.slice a (k+1) c)/\C9 (λg=>V.kS.ownBlock=some g) W m:=by
 obtain⟨e,m,n,⟨y,_,rfl,A,B,C⟩,D,E,G,K⟩:=h.push q hi (t:=86) (r:=9) (j:=12) (u:=.int .u64 (s.kS k:Int)) (bytes:=8) (z:=.int .u64 0) lc (show Dp b s V n0 n1 k n3 1=.kr b (zz s V).toArray 91 from rfl) underlying86 kw rfl lc (show Dp b s V n0 n1 k n3 9=.row 34 1 V.kS k (ES<|(List.range k).map s.kS)from rfl) rfl I (λe=>Dp b s { V with kS:=e } n0 n1 (k+1) n3) (λe=>by
   show Pc.row _ _ _ _ _=_;rw[BK,A9];unfold ES;rw[A9];rfl) (λe=>by
   show Pc.kr b (zz s { V with kS:=e }).toArray _=_;rw[Ab];rfl) (λe q h=>by
   have g:q≠1:=λx=>h<|.inl x
   have a:q≠9:=λx=>h<|.inr x
   unfold Dp;rw[AH a,AH a];split
   .rfl
   split
   .rfl
   split
   .rfl
   split
   .rfl
   split
   .rfl
   split
   .unfold DV;split<;>first|rfl|exact absurd rfl g|exact absurd rfl a
   rfl) (by show 12<24;decide)
 exact⟨e,m,y,_,n,A,B,C,D,E,G,K⟩
def gH(h:DM tag i (Dp b s V n0 n1 n2 k) W)(q:zL tag W)(hi:0<i)(a:k<8):∃e m tag' V',(∀a,(Builtin.append_ #[86,86] a #[V.given,.slice W 1 1]).run prog (W.alloc (.cells #[.int .u64 (s.given k:Int)] 34))=.ok e m) /\
   DM tag' i (Dp b s V' n0 n1 n2<|k+1) (m.setCell (b,14) e)/\DK i tag tag' W (m.setCell (b,14) e)/\C9 (λg=>(tag g).1=i) W (m.setCell (b,14) e)/\m.frozen? ⟨b,14,none⟩=false/\(∃x,m.cell? (b,14)=some x)/\(∃a c,e=.slice a (k+1) c)/\C9 (λg=>V.given.ownBlock=some g) W m:=by
 obtain⟨e,m,n,⟨y,_,rfl,A,B,C⟩,D,E,G,K⟩:=h.push q hi (t:=86) (r:=10) (j:=14) (u:=.int .u64 (s.given k:Int)) (bytes:=8) (z:=.int .u64 0) lc (show Dp b s V n0 n1 n2 k 1=.kr b (zz s V).toArray 91 from rfl) underlying86 kw rfl lc (show Dp b s V n0 n1 n2 k 10=.row 34 1 V.given k (ES<|(List.range k).map s.given)from rfl) rfl I (λe=>Dp b s { V with given:=e } n0 n1 n2<|k+1) (λe=>by
   show Pc.row _ _ _ _ _=_;rw[BK,A9];unfold ES;rw[A9];rfl) (λe=>by
   show Pc.kr b (zz s { V with given:=e }).toArray _=_;rw[Ab];rfl) (λe q h=>by
   have a:q≠1:=λx=>h<|.inl x
   have g:q≠10:=λx=>h<|.inr x
   unfold Dp;split
   .rfl
   split
   .rfl
   split
   .rfl
   split
   .rfl
   split
   .rfl
   split
   .unfold DV;split<;>first|rfl|exact absurd rfl a|exact absurd rfl g
   rfl) (by show 14<24;decide)
 exact⟨e,m,y,_,n,A,B,C,D,E,G,K⟩
def YX(h:DM tag i (Dp b s V 8 8 8 8) W)(G:∀k,s.outs k=Ik)(hi:∀k,s.ins k=Il):zj tag i b s { V with dv:=λ_=>.slice none 0 0,tv:=λ_=>.slice none 0 0 } W:=by
 intro r;have a:=h r;unfold Dp at a;by_cases m:r<16
 .rw[GM m];by_cases z:r=7
  .subst z;exact a
  by_cases A:r=8
  .subst A;exact a
  by_cases B:r=9
  .subst B;exact a
  by_cases n:r=10
  .subst n;exact a
  rw[AH z,AH A,AH B,AH n,AH I,AH I,AL m]at a;have e:DV b s { V with dv:=λ_=>.slice none 0 0,tv:=λ_=>.slice none 0 0 } r=DV b s V r:=by unfold DV;split<;>rfl
  rw[e];exact a
 by_cases u:r<48
 .obtain⟨q,k,e,K,L⟩:∃q k,r=16+8*q+k/\q<4/\k<8:=⟨(r-16) / 8,(r-16) % 8,I,I,I⟩;subst e;rw[GL K L];unfold D7;by_cases C:q=0
  .subst C;rw[AH I,AH I,AH I,AH I,AL I,AL I,(I:16+8*0+k-16=k)]at a;rw[AL rfl,G];exact a
  rw[AH C];by_cases D:q=1
  .subst D;rw[AH I,AH I,AH I,AH I,AH I,AL I,AL I,(I:16+8*1+k-24=k)]at a;rw[AL rfl,hi];exact a
  rw[AH D];by_cases E:q=2
  .rw[AL E,hi];exact⟨World.ownsRow_nil _ 0 _ 1,λg y=>by cases y⟩
  rw[AH E,hi];exact⟨World.ownsRow_nil _ 0 _ 1,λg y=>by cases y⟩
 unfold EC;rw[AH m,AH u];trivial
end
end
end Go.Proofs.YtddfdpbaiedcjabGreatDoor
