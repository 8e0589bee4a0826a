/- A part of Given's proof. Conditions: none. Part 11 of 15. -/
import Derived.Test.YtddfdpbaiedcjaaGreatDoorGiv10
import Derived.Test.YtddfdpbaiedcjaaGreatDoorGiv9
set_option maxRecDepth 100000
set_option maxHeartbeats 16000000
set_option linter.all false
namespace Go.Proofs.YtddfdpbaiedcjaaGreatDoor
section
open Go.RowKit Go.Proofs.Tryz
structure OG(J:List DV->rq->Prop)(N g o cap:Nat):Prop where
 obj:∀R w,0<N->J R w->∃cur,w.heap[g]?=some (.cells cur 65 (0,0))
 st:∀R w (i:Nat) (f:DV),J R w->i<N->f∈R->J (R.set i f) ((((((((((w.setCell (g,o+i*10) (.int .i64 f.kind)).setCell (g,o+i*10+1) (.int .i64 f.stream)).setCell (g,o+i*10+2) (.int .u64 f.off)).setCell (g,o+i*10+3) (.int .u64 f.rel)).setCell (g,o+i*10+4) (.int .u64 f.mF)).setCell (g,o+i*10+5) (.bool f.fin)).setCell (g,o+i*10+6) (.int .u64 f.id)).setCell (g,o+i*10+7) (.int .u64 f.dl)).setCell (g,o+i*10+8) (.string (zu f.data))).setCell (g,o+i*10+9) (.slice none 0 0))
 cl:∀R w (i:Nat),J R w->i<N->∃w2 R2,(∀ty,(Builtin.clear_ #[54] ty #[.slice (g,o+i*10) (N-i) (cap-i)]).run prog w=.ok (.tuple #[]) w2)/\J R2 w2/\R2.take i=R.take i
def Lu(J:List DV->rq->Prop)(now:Nat)(L:List DV)(a:rE)(cap:Nat)(e:Ending)(w':rq):Prop :=
 ∃(i:Nat) (R:List DV),e=.returned (.slice a i cap)/\i<=L.length/\J R w'/\R.take i=L.filter (λx => !decide (x.dl<now))
variable{now:Nat}
def Vm{l:List DV}(h:∀x∈l,decide (x.dl<now)=false):l.filter (λx => !decide (x.dl<now))=l :=
 CN.2 (λx a=>by rw[h x a];rfl)
theorem jW(J:List DV->rq->Prop)(L:List DV)(N g o cap b O now:Nat)(a:rE)(p:L.length=N)(u:N<=1099511627776)(ar:N<=cap)(ab:cap<=maxLen)(ha:0<N->a=some ⟨g,o,none⟩)(hJ:Lt J N g o b O now)(hK:OG J N g o cap)
  (w:rq) (h0:J L w) :
  rT 47 #[.slice a N cap,.func (.func 48) #[] #[.pointer O]] w (Lu J now L a cap):=by
 have ki:=fZ J L N g o cap b O now a p u ha hJ w h0;unfold maxLen at ab;have E:=zb hJ;have HK:=zb hK;have HA:=zb ha;have HN:=zb p;have a:=zb ki;clear hJ hK h0 ha p ki;go_enter func47,ntmps47;go_wp2_with fail;refine(a.z).mono ?_;clear a;rintro e a (⟨k,rfl,c,s,t,l⟩|⟨rfl,s,t⟩)
 .have ac:k<N:=by rw[<-HN.z];exact c
  have ad:=HA.z I;subst ad;have z:=zb l;have a:AA (L.take k=(L.take<|k+1).filter (λx => !decide (x.dl<now))):=zb (by
   obtain⟨x,d⟩:∃x,L[k]?=some x:=⟨L[k],AJ c⟩;have h9:=t x d;rw[BG,d,B3,Vm s];simp only[Option.toList_some,List.filter_cons,h9];simp)
  have d1:((k:Int) == -1)=false:=by rw[AR];omega
  clear c s t l;go_wp2_with fail
  go_loopw [5,6] (λl c wr=>∃(i j:Nat) (R:List DV),l=.int .i64 i/\c=.int .i64 j/\i<j/\j<=N/\AA (J R wr/\R.take i=(L.take j).filter (λx => !decide (x.dl<now))/\R.drop j=L.drop j)) (λ_ c _=>N-(intOf c).toNat)
  case atStart=>exact⟨k,k+1,L,rfl,by go_num,I,I,zb ⟨z.z,a.z,rfl⟩⟩
  case round =>
   clear z a d1 ac;obtain⟨i,j,R,rfl,rfl,ae,a,A⟩:=hrel;have o:=E.z.len R wr A.z.1;by_cases a:j<N
   .obtain⟨f,d⟩:∃x,R[j]?=some x:=⟨R[j]' I,AJ I⟩;have p:L[j]?=some f:=by
     have h1:=A8 (λl=>l[0]?) A.z.2.2;simp only[BA,B5]at h1;rw[<-h1];exact d
    obtain⟨af,ag,ah,ai,aj,ak,al,am,an,ao⟩:=Ji<|E.z.rd R wr A.z.1 j f d;obtain⟨Y,u⟩:=nm<|wr.alloc<|.cells (zj f ru) 65;have mY:=AB u;have a:zl Y wr.heap.size f (.slice none 0 0):=by rw[<-u];exact heap_alloc_new wr _
    have jY:=E.z.box _ _ _ A.z.1 mY;have kc:=UI f ru b O now Y (E.z.cb R Y jY)<|E.z.now R Y jY;obtain⟨y0,y1,y2,y3,y4,y5,y6,y7,y8,y9⟩:=a.cells;unfold zj at kc u;have HX:=zb<|And.intro d p;obtain⟨dv,c⟩:=nm<|decide<|f.dl<now;rw[c]at kc;have ap:=zb c;have KC:=zb kc;have T:=zb o;have JY:=zb jY;have h:=zb a;obtain⟨yb,l⟩:=nm wr.heap.size;rw[l]at y0 y1 y2 y3 y4 y5 y6 y7 y8 y9 h;have HY:=zb u;have O:=zb l;clear kc d p c o jY a mY u l;go_upto_region 8 with fail;rw[O.z,HY.z];go_wp2_with fail;refine(KC.z).mono ?_;rintro e q ⟨rfl,v⟩;have m6:DO DQ Y q:=by rw[v];exact((DO.refl DQ Y).alloc _).drew
    have K:zl q yb f (.slice none 0 0):=m6.obj rk h.z;have X:=E.z.box _ _ _ JY.z m6;obtain⟨a,c,d,e,l,o,p,u,O,Y⟩:=K.cells;have J6:=zb X;have B:i<N:=I;have Z:AA ((L.take<|j+1).filter (λx => !decide (x.dl<now))=(L.take j).filter (λx => !decide (x.dl<now))++(if dv then []else [f])):=zb (by
     rw[BG,HX.z.2,B3];congr 1;have h9:=ap.z;simp only[Option.toList_some,List.filter_cons,h9];cases dv<;>simp)
    have aa:=zb (by
     have h1:=A8 (List.drop 1) A.z.2.2;simpa [CX]using h1)
    clear KC y0 y1 y2 y3 y4 y5 y6 y7 y8 y9 af ag ah ai aj ak al am an ao v m6 K JY h;cases dv with
    | true =>
     clear X;go_wp2_with fail;go_roundw
     case rel=>exact⟨i,j+1,R,rfl,by go_num,I,I,zb ⟨J6.z,by rw[Z.z,A.z.2.1];simp,aa.z⟩⟩
     simp[intOf];omega
    | false =>
     obtain⟨c,a⟩:=HK.z.obj _ _ I X;obtain⟨c,Y⟩:∃c,R[i]?=some c:=⟨R[i]'(by rw[T.z];exact B),AJ<|by rw[T.z];exact B⟩;obtain⟨O,d,e,h,l,o,p,u,v,K⟩:=Ji<|E.z.rd R q X i c Y;have f0:∀p,q.frozen? ⟨g,p,none⟩=false:=λp=>zg a
     have d:∀p1 c p,(q.setCell ⟨g,p1,none⟩ c).frozen? ⟨g,p,none⟩=false:=λp1 c p=>zg<|zc a
     have e:∀p1 c p2 d p,((q.setCell ⟨g,p1,none⟩ c).setCell ⟨g,p2,none⟩ d).frozen? ⟨g,p,none⟩=false:=λp1 c p2 d p=>zg<|zc<|zc a
     have h:∀p1 c p2 d p3 e p,(((q.setCell ⟨g,p1,none⟩ c).setCell ⟨g,p2,none⟩ d).setCell ⟨g,p3,none⟩ e).frozen? ⟨g,p,none⟩=false:=λp1 c p2 d p3 e p=>zg<|zc<|zc<|zc a
     have l:∀p1 c p2 d p3 e p4 h p,((((q.setCell ⟨g,p1,none⟩ c).setCell ⟨g,p2,none⟩ d).setCell ⟨g,p3,none⟩ e).setCell ⟨g,p4,none⟩ h).frozen? ⟨g,p,none⟩=false:=λp1 c p2 d p3 e p4 h p=>zg<|zc<|zc<|zc<|zc a
     have u:∀p1 c p2 d p3 e p4 h l o p,(((((q.setCell ⟨g,p1,none⟩ c).setCell ⟨g,p2,none⟩ d).setCell ⟨g,p3,none⟩ e).setCell ⟨g,p4,none⟩ h).setCell ⟨g,l,none⟩ o).frozen? ⟨g,p,none⟩=false:=λp1 c p2 d p3 e p4 h l o p=>zg<|zc<|zc<|zc<|zc<|zc a
     have K:∀p1 c p2 d p3 e p4 h l o u v p,((((((q.setCell ⟨g,p1,none⟩ c).setCell ⟨g,p2,none⟩ d).setCell ⟨g,p3,none⟩ e).setCell ⟨g,p4,none⟩ h).setCell ⟨g,l,none⟩ o).setCell ⟨g,u,none⟩ v).frozen? ⟨g,p,none⟩=false:=λp1 c p2 d p3 e p4 h l o u v p=>zg<|zc<|zc<|zc<|zc<|zc<|zc a
     have f7:∀p1 c p2 d p3 e p4 h l o u v K O p,(((((((q.setCell ⟨g,p1,none⟩ c).setCell ⟨g,p2,none⟩ d).setCell ⟨g,p3,none⟩ e).setCell ⟨g,p4,none⟩ h).setCell ⟨g,l,none⟩ o).setCell ⟨g,u,none⟩ v).setCell ⟨g,K,none⟩ O).frozen? ⟨g,p,none⟩=false:=λp1 c p2 d p3 e p4 h l o u v K O p=>zg<|zc<|zc<|zc<|zc<|zc<|zc<|zc a
     have f8:∀p1 c p2 d p3 e p4 h l o u v K O p8 v8 p,((((((((q.setCell ⟨g,p1,none⟩ c).setCell ⟨g,p2,none⟩ d).setCell ⟨g,p3,none⟩ e).setCell ⟨g,p4,none⟩ h).setCell ⟨g,l,none⟩ o).setCell ⟨g,u,none⟩ v).setCell ⟨g,K,none⟩ O).setCell ⟨g,p8,none⟩ v8).frozen? ⟨g,p,none⟩=false:=λp1 c p2 d p3 e p4 h l o u v K O p8 v8 p=>zg<|zc<|zc<|zc<|zc<|zc<|zc<|zc<|zc a
     have f9:∀p1 c p2 d p3 e p4 h l o u v K O p8 v8 p9 v9 p,(((((((((q.setCell ⟨g,p1,none⟩ c).setCell ⟨g,p2,none⟩ d).setCell ⟨g,p3,none⟩ e).setCell ⟨g,p4,none⟩ h).setCell ⟨g,l,none⟩ o).setCell ⟨g,u,none⟩ v).setCell ⟨g,K,none⟩ O).setCell ⟨g,p8,none⟩ v8).setCell ⟨g,p9,none⟩ v9).frozen? ⟨g,p,none⟩=false:=λp1 c p2 d p3 e p4 h l o u v K O p8 v8 p9 v9 p=>zg<|zc<|zc<|zc<|zc<|zc<|zc<|zc<|zc<|zc a
     have c:=zb<|HK.z.st R q i f X B<|AW HX.z.1;clear X a Y;go_wp2_with fail;go_roundw
     case rel =>
      refine⟨i+1,j+1,R.set i f,by go_num,by go_num,I,I,zb ⟨c.z,?_,?_⟩⟩
      .rw[Rp (by rw[T.z];exact B),Z.z,A.z.2.1];rfl
      rw[Ro I,aa.z]
     simp[intOf];omega
   have aq:j=N:=I;subst aq;obtain⟨d,f,c,a,e⟩:=HK.z.cl R wr i A.z.1 ae;have c:=zb a;have d:=zb e;have h:¬cap=i:=I;have d1:i<=cap:=I;clear a e;have h:=HN.z;have a:f.take i=L.filter (λx => !decide (x.dl<now)):=by
    rw[d.z,A.z.2.1,Ab I]
   have d:=zb a;have e:=zb h;clear h a;go_wp2_with fail;go_ret;exact⟨i,f,rfl,by rw[e.z];omega,c.z,d.z⟩
 clear E HK;have z:=zb t;have a:=zb<|Vm s;clear s t;go_wp2_with fail;go_ret;exact⟨N,L,rfl,by rw[HN.z];exact AF _,z.z,by rw[a.z,<-HN.z,Ab ro]⟩
def KW(w:rq)(g c n sz:Nat)(xs:rF):Prop:=∃a,w.heap[g]?=some (.cells a 65 (0,0))/\(a.toList.drop c).take n=xs/\a.size=sz
variable{g sz:Nat}{w:rq}{xs:rF}
def KW.set{a n:Nat}(h:KW w g a n sz xs)(m:Nat)(v:rt):KW (w.setCell (g,a+m) v) g a n sz (xs.set m v):=by
 obtain⟨c,d,e,f⟩:=h;refine⟨_,zc d,?_,by simp[f]⟩;rw[<-e,Array.toList_setIfInBounds,List.drop_set,AH I,DK,(I:a+m-a=m)]
def Rv(f:DV)(l:List DV):zs (f::l)=(.int .i64 f.kind)::(.int .i64 f.stream)::(.int .u64 f.off)::(.int .u64 f.rel)::(.int .u64 f.mF)::(.bool f.fin)::(.int .u64 f.id)::(.int .u64 f.dl)::(.string (zu f.data))::(.slice none 0 0)::zs l:=rfl
theorem Th:∀(R:List DV) (i:Nat) (f:DV),i<R.length->zs (R.set i f)=((((((((((zs R).set (i*10) (.int .i64 f.kind)).set (i*10+1) (.int .i64 f.stream)).set (i*10+2) (.int .u64 f.off)).set (i*10+3) (.int .u64 f.rel)).set (i*10+4) (.int .u64 f.mF)).set (i*10+5) (.bool f.fin)).set (i*10+6) (.int .u64 f.id)).set (i*10+7) (.int .u64 f.dl)).set (i*10+8) (.string (zu f.data))).set (i*10+9) (.slice none 0 0)
 | [],_,_,h=>by simp at h
 | y::R,0,f,_=>by simp[Rv]
 | y::R,i+1,f,h=>by
  have a:=Th R i f<|rB h;rw[CQ,Rv,Rv,a,(I:(i+1)*10=i*10+10)];simp[CQ]
theorem Tg:∀(R:List DV) (j:Nat) (f:DV),R[j]?=some f->∀q x,(zj f ru)[q]?=some x->(zs R)[j*10+q]?=some x
 | [],j,f,h=>by simp at h
 | y::R,0,f,h=>by
  simp at h;subst h;intro q x a;have c:q<10:=(AI.1 a).1;have e:zs (y::R)=(zj y ru).toList++zs R:=rfl;rw[e,CP,Aw,Al<|by exact c,Bk];exact a
 | y::R,j+1,f,h=>by
  intro q x a;have c:=Tg R j f (rB h) q x a;have e:zs (y::R)=(zj y ru).toList++zs R:=rfl;have a:(zj y ru).toList.length=10:=rfl;rw[e,Aa<|by rw[a];omega,a,(I:(j+1)*10+q-10=j*10+q)];exact c
variable{N cap o:Nat}
def EK.pt(h:EK w 65 10 (.slice (g,o) N cap) N xs):∃d,KW w g o (N*10) d xs/\N<=cap/\cap<=maxLen/\∃c,o=c*10/\(c+cap)*10<=d:=by
 rcases h.2 with⟨e,_⟩|⟨h,c,d,a,e,f,l,p,q,s⟩
 .cases e
 cases e;exact⟨a.size,⟨a,f,s,rfl⟩,l,p,c,rfl,q⟩
def KW.own(h:KW w g (o*10) (N*10) sz xs)(e:xs.length=N*10)(f:N<=cap)(l:cap<=maxLen)(p:(o+cap)*10<=sz):EK w 65 10 (.slice (g,o*10) N cap) N xs:=by
 obtain⟨d,a,b,c⟩:=h;exact⟨e,.inr ⟨g,o,cap,d,rfl,a,f,l,by rw[c];exact p,b⟩⟩
variable{V:CV}{W W':rq}{b i:Nat}{c:CS}{tag:rD}
def zi.wait{R':List DV}(h:zi tag i b c V W)(m:DO (λq=>q=g) W W')(e:Value.mu V.wt=some g)(d:EK W' 65 10 V.wt R'.length (zs R')):zi tag i b { c with waits:=R' } V W':=by
 have a:=h.ni g e;have c:b≠g:=λe=>by
  rw[<-e,h.tb]at a;simp at a
 refine h.build (R:=λr=>r=6) m (λq e=>⟨6,rfl,by rw[show q=g from e];exact a⟩) (λ_ _=>rfl) (m.obj c h.obj) rY (λk a=>.inl rW) (λk a=>.inl rW) (λk a=>.inl rW) (λk a=>.inl rW) (λk a=>.inl rW) rY (.inr ⟨d,h.ni⟩) rV rV
def Gw(tag:rD)(i b:Nat)(a:rq)(c:CS)(V:CV)(N:Nat)(R:List DV)(w:rq):Prop:=R.length=N/\zi tag i b { c with waits:=R } V w/\Dm tag w/\DO (Dr i tag) a w
variable{W0 w':rq}
def Gw.mz{R R':List DV}(h:Gw tag i b W0 c V N R w)(m:DO (λq=>q=g) w w')(d:Value.mu V.wt=some g)(e:R'.length=N)(a:EK w' 65 10 V.wt N (zs R')):Gw tag i b W0 c V N R' w':=by
 obtain⟨_,c,f,l⟩:=h;refine⟨e,c.wait m d<|by rw[e];exact a,f.mod m,l.trans<|m.mono<|λq a=>.inl<|EU (r:=6) (by rw[show q=g from a];exact c.ni g d) lc⟩
def Gw.row{R:List DV}(h:Gw tag i b W0 c V N R w):EK w 65 10 V.wt N (zs R):=by
 have:=h.2.1.wt;simp only[h.1]at this;exact this
variable{cb:Nat}
def Gw.qy(e:W0 cb=some (.pointer b))(f:¬Dr i tag cb)(d:c.now=now)(l:0<N->V.wt=.slice (g,o) N cap):Lt (Gw tag i b W0 c V N) N g o b cb now:=by
 refine⟨λR w w' h m=>⟨h.1,h.2.1.lK m,h.2.2.1.mod m,h.2.2.2.trans<|m.mono rm⟩,λR w h=>h.1,λR w h=>h.2.2.2.cell (a:=cb) f e,λR w h=>by rw[<-d];exact h.2.1.hd (j:=3) rfl,λR w h j f a q x c=>?_⟩;have d:0<N:=by
  have:=(AO.1 a).1;have:=h.1;omega
 have:=h.row.cells (l d) (j*10+q) x<|Tg R j f a q x c;rw[<-Nat.add_assoc]at this;exact this
def Gf:DV:={ kind:=0,stream:=0,off:=0,rel:=0,mF:=0,fin:=false,id:=0,dl:=0,data:=[],lF:=[] }
def Yf(w:rq):(zeroValue 65).run prog w=.ok (.agg (zj Gf ru)) w:=kw
theorem jT(n:Nat):(Builtin.zeroCells (Value.agg (zj Gf ru)).cells n).toList=zs (List.replicate n Gf):=by
 have h:∀n,(Builtin.zeroCells (Value.agg<|zj Gf ru).cells n).toList=(List.range<|n*10).map (λi=>(zj Gf ru)[i % 10]!):=λn=>by
  simp[Builtin.zeroCells,Value.cells,zj]
 rw[h];clear h
 induction n with
 | zero=>rfl
 | succ n ih =>
  have a:zs (List.replicate (n+1) Gf)=(zj Gf ru).toList++zs (List.replicate n Gf):=by rw[List.replicate_succ];rfl
  rw[a,<-ih,(I:(n+1)*10=10+n*10),List.range_add,BX,Ca];have e:((λi=>(zj Gf ru)[i % 10]!) ∘ λx=>10+x)=λi=>(zj Gf ru)[i % 10]!:=by
   funext q;simp only[Function.comp,Nat.add_mod_left]
  rw[e];rfl
def Rt(A B:List DV):zs (A++B)=zs A++zs B:=by simp[zs]
def Gw.qm(s:0<N->V.wt=.slice (g,o) N cap):OG (Gw tag i b W0 c V N) N g o cap:=by
 refine⟨λR w l h=>?_,λR w j f h q c=>?_,λR w j h q=>?_⟩
 .have e:=h.row;rw[s l]at e;obtain⟨sz,⟨a,t,_⟩,_⟩:=e.pt;exact⟨a,t⟩
 .have l:0<N:=I;have e:=h.row;rw[s l]at e;obtain⟨sz,A,u,v,d,rfl,z⟩:=e.pt;have c:=A.set (j*10)<|.int .i64 f.kind;have o:=c.set (j*10+1)<|.int .i64 f.stream;have c:=o.set (j*10+2)<|.int .u64 f.off;have o:=c.set (j*10+3)<|.int .u64 f.rel;have c:=o.set (j*10+4)<|.int .u64 f.mF;have o:=c.set (j*10+5)<|.bool f.fin;have c:=o.set (j*10+6)<|.int .u64 f.id;have o:=c.set (j*10+7)<|.int .u64 f.dl;have A:=o.set (j*10+8)<|.string<|zu f.data;have c:=A.set (j*10+9)<|.slice none 0 0;rw[<-Th R j f (by rw[h.1];exact q)]at c;simp only[<-Nat.add_assoc]at c;refine h.mz (g:=g) ?_ (by rw[s l];rfl) (by rw[Bf];exact h.1) ?_
  .refine((((((((((DO.refl (λq=>q=g) w).setCell (p:=⟨g,_,none⟩) rj _).setCell (p:=⟨g,_,none⟩) rj _).setCell (p:=⟨g,_,none⟩) rj _).setCell (p:=⟨g,_,none⟩) rj _).setCell (p:=⟨g,_,none⟩) rj _).setCell (p:=⟨g,_,none⟩) rj _).setCell (p:=⟨g,_,none⟩) rj _).setCell (p:=⟨g,_,none⟩) rj _).setCell (p:=⟨g,_,none⟩) rj _).setCell (p:=⟨g,_,none⟩) rj _
  rw[s l];exact c.own (by rw[Js,Bf,h.1]) u v z
 have l:0<N:=I;have e:=h.row;rw[s l]at e;obtain⟨sz,⟨a,t,B,E⟩,u,v,d,rfl,z⟩:=e.pt;have o:w.heap[g]?=some (.cells a.toList.toArray 65 (0,0)):=rB t;have c:a.toList.length=sz:=rB E;have hb:d*10+N*10<=sz:=I;have e:(R.take j).length=j:=by rw[AU,h.1];omega
 have f:(zs<|List.replicate (N-j) Gf).length=(N-j)*10:=by rw[Js,Bj]
 refine⟨_,R.take j++List.replicate (N-j) Gf,λp=>Mf (P:=prog) w 54 p 65 (.agg<|zj Gf ru) 10 underlying54 Yf rfl (by simp[Value.cells,Value.oneCell',zj]) g (d*10+j*10) (N-j) _ a.toList _ o (by rw[c];omega),?_,?_⟩
 .rw[jT];refine h.mz (g:=g) (PL w g _) (by rw[s l];rfl) (by rw[AG,e,Bj];omega) ?_;rw[s l];have h:(splice a.toList (d*10+j*10)<|zs<|List.replicate (N-j) Gf).length=sz:=by rw[length_splice _ _ _ (by rw[f,c];omega),c]
  refine KW.own (sz:=sz) ⟨_,setRow_heap w g _ _ _ _ t,?_,by rw[An,h]⟩ (by rw[Js,AG,e,Bj];omega) u v z;have h:(a.toList.drop<|d*10).take (j*10)=zs (R.take j):=by
   have l:zs R=zs (R.take j)++zs (R.drop j):=by rw[<-Rt,Bx]
   have o:(a.toList.drop<|d*10).take (j*10)=((a.toList.drop<|d*10).take<|N*10).take (j*10):=by rw[Be,BY I]
   rw[o,B,l,BF<|by rw[Js,e];omega,Ab (by rw[Js,e];omega)]
  have l:(a.toList.take<|d*10+j*10).drop (d*10)=zs (R.take j):=by
   rw[C4,(I:d*10+j*10-d*10=j*10),h]
  unfold splice;simp only[DJ];rw[List.drop_append_of_le_length (by rw[AU,c];omega),l,Rt,<-List.append_assoc];have a:(zs (R.take j)++zs (List.replicate (N-j) Gf)).length=N*10:=by rw[AG,f,Js,e];omega
  rw[BF I,Ab I]
 rw[BF I,Be,CY]
variable{a:rE}
def fY{n:Nat}{R:List DV}(h:EK w 65 10 (.slice a N cap) N (zs R))(d:R.length=N)(f:n<=N):EK w 65 10 (.slice a n cap) n (zs (R.take n)):=by
 by_cases a:n=N
 .rw[a,Ab I];exact h
 rcases h.2 with⟨e,h⟩|⟨g,o,a,c,e,l,t,p,q,s⟩
 .omega
 cases e;refine⟨by rw[Js,AU,d,BY f],.inr ⟨g,o,cap,c,rfl,l,I,p,q,?_⟩⟩;have a:zs R=zs (R.take n)++zs (R.drop n):=by rw[<-Rt,Bx]
 have e:(zs<|R.take n).length=n*10:=by rw[Js,AU,d,BY f]
 have d:(c.toList.drop<|o*10).take (n*10)=((c.toList.drop<|o*10).take<|N*10).take (n*10):=by rw[Be,BY I]
 rw[d,s,a,BF I,Ab I]
def Gw.done{n:Nat}{R:List DV}(h:Gw tag i b W0 c V N R w)(e:V.wt=.slice a N cap)(s:n<=N):zi tag i b { c with waits:=R.take n } { V with wt:=.slice a n cap } (w.setCell (b,238) (.slice a n cap)):=by
 have d:=h.row;rw[e]at d;have d:=fY d h.1 s;obtain⟨t,l,s,u⟩:=h;have m:DO (λq=>q=b) w (w.setCell (U b 238)<|.slice a n cap):=(DO.refl (λq=>q=b) w).setCell (p:=⟨b,_,none⟩) rj _;have f:∀g,Value.mu (.slice a n cap)=some g->tag g=(i,6):=λg o=>l.ni g<|by rw[e];cases a<;>exact o
 have p:∀g,Value.mu (.slice a n cap)=some g->¬g=b:=λg o e=>by
  have h:=f g o;rw[e,l.tb]at h;simp at h
 have e:(R.take n).length=n:=by rw[AU,t];omega
 refine l.build (R:=λr=>r=1) m (λq h=>⟨1,rfl,by rw[show q=b from h];exact l.tb⟩) (λ_ _=>rfl) ?_ rY (λk h=>.inl rW) (λk h=>.inl rW) (λk h=>.inl rW) (λk h=>.inl rW) (λk h=>.inl rW) rY (.inr ⟨?_,f⟩) rV rV
 .rw[zc l.obj];simp only[Ao];rw[show(238:Nat)=233+5 from rfl,GA (j:=5) { c with waits:=R } { c with waits:=R.take n } V { V with wt:=.slice a n cap } (.slice a n cap) rfl rfl rfl rfl]
 simp only[e];exact d.mod m p
def CS.lX(c:CS):CS:={ c with now:=c.now+1,waits:=c.waits.filter (λf => !decide (f.dl<c.now+1)) }
def Ye(h:zi tag i b c V W)(ht:Dm tag W)(hi:0<i)(f:c.now<=zF)(hw:c.waits.length<=1099511627776)(hb:c.kx.length<=1099511627776)(ok:Kg c.lX):rT 26 #[(b,0)] W (EI tag i b W (.tuple #[]) c.tick):=by
 obtain⟨N,Y⟩:=nm c.waits.length;obtain⟨a,cap,Z,q1,q2,g,o,u⟩:∃a cap,V.wt=.slice a N cap/\N<=cap/\cap<=maxLen/\∃g o,0<N->a=some ⟨g,o,none⟩:=by
  rcases h.wt.2 with⟨e,l⟩|⟨g,o,cap,d,e,_,O,h3,_⟩
  .have d:N=0:=I;exact⟨none,0,by rw[e,d],I,lw,0,0,λx=>I⟩
  exact⟨_,cap,by rw[e,Y],I,h3,g,o*10,λ_=>rfl⟩
 obtain⟨nw,d⟩:=nm c.now;rw[d]at f;unfold zF at f;obtain⟨W1,v⟩:=nm<|W.alloc<|.cells #[(b,0)] 69;have m1:=AB v;have f:W1 W=some (.pointer b):=by rw[<-v];exact za (heap_alloc_new W _) rfl
 have l:¬Dr i tag W.heap.size:=λx=>by
  have s:=x.1;rw[ht _ ro]at s;simp at s;omega
 have s:=h.lK m1;obtain⟨E,t⟩:=nm W.heap.size;rw[t]at f l;have aa:E≠b:=λe=>l<|by rw[e];exact EU h.tb lc
 obtain⟨z,A⟩:=nm<|W1.setCell (U b 3)<|.int .u64<|(nw:Int)+1;have m2:DO (λq=>q=b) W1 z:=by rw[<-A];exact(DO.refl (λq=>q=b) W1).setCell (p:=⟨b,_,none⟩) rj _
 have O:zi tag i b { c with now:=c.now+1 } V z:=by
  have:=s.store 3 _ (Ku c { c with now:=c.now+1 } V V (j:=3) _ lc rfl rfl rfl rfl) ⟨rfl,λ_ _=>⟨rfl,rfl,rfl⟩,λ_ _=>⟨rfl,rfl⟩,rfl,rfl,rfl,rfl⟩;rw[<-A,<-d];exact this
 have ab:=(ht.mod m1).mod m2;have B:=m2.cell (a:=E) aa f;have kd:=jW (Gw tag i b z { c with now:=c.now+1 } V N) c.waits N g o cap b E (nw+1) a Y I q1 q2 u (Gw.qy (cap:=cap) B l (by rw[d])<|λx=>by rw[Z,u x]) (Gw.qm<|λx=>by rw[Z,u x]) z.drew ⟨Y,O.lK (DO.refl DQ z).drew,ab.mod (DO.refl DQ z).drew,(DO.refl _ z).drew⟩;have c3:W1 (b,3)=some (.int .u64 nw):=by rw[<-d];exact s.hd (j:=3) rfl
 have o:=s.fz 3;have ac:z (b,238)=some (.slice a N cap):=by rw[<-Z];exact O.tl (j:=5) rfl
 have fz:=O.fz 238;have yw:=wu ((nw:Int)+1) I;have MW:AA (DO (Dr i tag) W z):=zb ((m1.mono rm).trans (m2.mono (λq hq=>.inl (EU (r:=1) (by rw[show q=b from hq];exact h.tb) lc))));have KD:=zb kd;have HT:=zb ht;have HI:=zb hi;have ad:=zb l;have ag:=zb B;have HN:=zb Y;have z:=zb v;have ah:=zb A;have ai:=zb t;have aj:=zb ok;have HB:=zb hb;have HV:=zb Z;have ak:=zb d;clear kd ht hi m1 m2 l Y h s O ab ok hb hw v A t aa Z d u q1 q2;go_enter func26,ntmps26;go_upto_region 1 with fail;rw[z.z,ai.z];go_upto_region 2 with fail;rw[ah.z];clear c3 o f;refine zH ?_;refine zn 9 (λw'=>w' E=some (.pointer b)/\w' (U b 238)=some (.slice a N cap)/\w'.frozen? ⟨b,238,none⟩=false) (⟨B,ac,fz⟩) ?_;refine GI 0 ?_;iterate 6
  refine GV rfl ?_;try simp only[PS]
 refine zz 6 rfl (λK hK=>?_);go_simp
 with_reducible refine(KD.z).mono ?_
 rintro e X ⟨n,R,rfl,ae,hj,hR⟩;have HJ:=zb<|And.intro ae<|And.intro hj hR;have d:X E=some (.pointer b)/\X (b,238)=some (.slice a N cap)/\X.frozen? ⟨b,238,none⟩=false:=by
  obtain⟨f,s,O,h3⟩:=hj;exact⟨h3.cell (a:=E) ad.z ag.z,by rw[<-HV.z];exact s.tl (j:=5) rfl,s.fz 238⟩
 clear hj ae hR;go_simp;refine hK.z _ _ d ?_;obtain⟨p0,p1,p2⟩:=d;clear hK K;try simp only[PS]
 refine GI 7 ?_;iterate 2
  refine GV rfl ?_;try simp only[PS]
 refine zY rfl (λK hK=>?_);go_simp;refine hK.z _ _ ?_;clear hK K;try simp only[PS]
 refine zq ?_;refine⟨rfl,?_⟩;obtain⟨Z,h⟩:=nm<|X.setCell (U b 238)<|.slice a n cap;have d:DO (λq=>q=b) X Z:=by rw[<-h];exact(DO.refl (λq=>q=b) X).setCell (p:=⟨b,_,none⟩) rj _
 have f:zi tag i b c.lX { V with wt:=.slice a n cap } Z:=by
  obtain⟨c,l,o⟩:=HJ.z;have:=l.done HV.z (by rw[<-HN.z];exact c);rw[h,o,<-ak.z]at this;exact this
 have c:=HJ.z.2.1.2.2.1.mod d;have l:=T9 f c HI.z aj.z HB.z;have o:=d.cell (a:=E) (λe=>ad.z<|by rw[show E=b from e];exact EU f.tb lc) p0;have a:=zb l;have MZ:=zb d;have HC:=zb f;clear l d f c p0 p1 p2 B ac fz;try rw[h]
 go_wp2_with fail;refine(a.z).mono ?_;rintro e a ⟨rfl,af,V9,r1,r2,r3⟩;have a:=zb<|And.intro r1<|And.intro r2 r3;clear r1 r2 r3;go_wp2_with fail
 go_end0
 refine⟨rfl,af,V9,a.z.1,?_,?_⟩
 .exact(Di.same HT.z<|(MW.z.trans HJ.z.2.1.2.2.2).trans<|MZ.z.mono<|λq hq=>.inl<|EU (r:=1) (by rw[show q=b from hq];exact HC.z.tb) lc).trans a.z.2.1 (by have s:=MW.z.size;have O:=HJ.z.2.1.2.2.2.size;have h3:=MZ.z.size;omega)
 exact((MW.z.trans HJ.z.2.1.2.2.2).trans<|MZ.z.mono<|λq hq=>.inl<|EU (r:=1) (by rw[show q=b from hq];exact HC.z.tb) lc).oL.trans a.z.2.2
def Za(f:DV):Prop:=(∃k:Nat,k<8/\f.stream=(k:Int))/\(f.kind=4->f.off+f.data.length<=zF/\f.data.length<=1099511627776)
structure RS.Inv(G:Nat)(x:RS):Prop where
 lC:x.lC.Ok
 pc:∀j,j<x.lC.rs.length->DP x.lC.rs j<x.high
 bl:x.b.length=x.high
 rd:x.read<=x.high
 hg:x.high<=x.kz
 gr:x.kz<=G
 fin:x.fin<=zF
 lG:x.lG<=zF
 st:x.state=2->x.cut=true/\x.lG<=x.read
structure CS.Inv(T:Nat)(c:CS):Prop where
 lZ:64<=c.lZ/\c.lZ<=65536
 mj:c.lD<=4096
 nA:c.total<=4096
 kz:c.kz<=zF
 lA:c.lA<=zF
 ws:∀k,k<8->(c k).Ok
 rs:∀k,k<8->(c.rs k).Inv (4096*(T+1))
 waits:(∀f∈c.waits,f.Fits)/\c.waits.length<=16
 fl:c.kx.length<=12
 mC:∀p∈c.kx,p.n<=zF/\p.at_<=zF/\p.fs.length<=1099511627776/\∀f∈p.fs,Za f
 now:c.now<=T
 next:c.next<=32*T
 lQ:c.lQ.Ok/\c.lQ.most<=8
 nd:(c.seen.map (·.1)).Nodup
 ids:∀p∈c.seen,p.1<=zF
 sl:c.seen.length<=T
 most:c.most<=zF
 cl:c.lC.length<=T
def Db:Nat:=268435455
def RS.Inv.mono{G a:Nat}{x:RS}(h:x.Inv G)(c:G<=a):x.Inv a:=⟨h.lC,h.pc,h.bl,h.rd,h.hg,AK h.gr c,h.fin,h.lG,h.st⟩
variable{T:Nat}
def CS.Inv.mono{a:Nat}(h:c.Inv T)(d:T<=a):c.Inv a :=
 ⟨h.lZ,h.mj,h.nA,h.kz,h.lA,h.ws,λk a=>(h.rs k a).mono I,h.waits,h.fl,h.mC,pp h.now,pp h.next,h.lQ,h.nd,h.ids,pp h.sl,h.most,pp h.cl⟩
def RS.Inv.used{G:Nat}{x:RS}(h:x.Inv G)(a:G<=1099511627776):(x.used<=zF/\x.kz<=zF)/\(x.mb=true->x.used<=G):=by
 have a:=h.rd;have a:=h.hg;have a:=h.gr;have a:=h.fin;unfold zF at *;refine⟨⟨?_,I⟩,λc=>?_⟩
 .unfold RS.used;split<;>omega
 unfold RS.used;split
 .rename_i e;obtain⟨a,b⟩:=h.st e;unfold RS.mb at c;rw[a]at c;simp[e]at c;omega
 omega
def CS.Inv.ok(h:c.Inv T)(a:T<=Db):c.Ok:=by
 unfold Db at a;refine⟨h.lZ.2,h.mj,h.nA,h.kz,h.lA,h.ws,λk c=>?_,h.waits.1⟩;obtain⟨a,b⟩:=(h.rs k c).used I;exact⟨a,λa=>pp<|b a⟩
variable{rs:zE}
def I1{r:Nat×Nat}(h:r∈rs):∃j,j<rs.length/\DU rs j=r.1/\DP rs j=r.2:=by
 obtain⟨j,a,rfl⟩:=Cs.1 h;have e:rs.getD j (0,0)=rs[j]:=by simp[List.getD,a]
 exact⟨j,a,by unfold DU;rw[e],by unfold DP;rw[e]⟩
variable{s:Df}
def Df.Ok.mem(h:s.Ok){r:Nat×Nat}(a:r∈s.rs):r.2<=zF:=by
 obtain⟨j,c,_,e⟩:=I1 a;rw[<-e];exact h.hi j c
theorem Df.Ok.me:∀(l:zE) {s:Df},s.Ok->(∀r∈l,r.2<=zF)->(s.me l).Ok
 | [],_,h,_=>h
 | r::l,s,h,hl=>Df.Ok.me l (h.add r.1<|hl r AQ)<|λq a=>hl q<|AV _ a
variable{x:WS}
def WS.Ok.again(h:x.Ok)(f:DV):(x.again f).Ok:=by
 refine⟨?_,h.lC,h.cut,h.len,h.lA,h.high⟩;unfold WS.again;refine Df.Ok.me _ ?_<|λr a=>h.lC.mem<|List.mem_reverse.1 a;exact Rq _ _ _ _ (λr a=>h.lJ.mem a)<|In _ h.lJ.most
variable{f:DV}
def WS.Ok.ln(h:x.Ok)(a:f.off+f.data.length<=zF):(x.ln f).Ok :=
 ⟨h.lJ.add _ I,h.lC.add _ I,h.cut,h.len,h.lA,h.high⟩
structure Ep(c c':CS):Prop where
 hd:c'.lZ=c.lZ/\c'.lD=c.lD/\c'.total=c.total/\c'.now=c.now/\c'.closed=c.closed/\c'.said=c.said/\c'.next=c.next/\c'.lQ=c.lQ/\c'.answer=c.answer
 tl:c'.lA=c.lA/\c'.kz=c.kz/\c'.kx=c.kx/\c'.lI=c.lI/\c'.waits=c.waits/\c'.l8=c.l8/\c'.mI=c.mI/\c'.seen=c.seen/\c'.most=c.most/\c'.lC=c.lC
 rs:∀k,k<8->∃a,c'.rs k={ c.rs k with lU:=a }
def Ep.refl(c:CS):Ep c c:=⟨⟨rfl,rfl,rfl,rfl,rfl,rfl,rfl,rfl,rfl⟩,⟨rfl,rfl,rfl,rfl,rfl,rfl,rfl,rfl,rfl,rfl⟩,λk _=>⟨(c.rs k).lU,rfl⟩⟩
variable{c':CS}
def Ep.trans{a:CS}(h:Ep c c')(k:Ep c' a):Ep c a:=by
 obtain⟨d,e,f,l,o,p,q,s,t⟩:=h.hd;obtain⟨u,v,z,A,B,E,K,N,O⟩:=k.hd;obtain⟨c1,c2,c3,c4,T,X,Y,Z,c9,a⟩:=h.tl;obtain⟨d1,d2,d3,d4,d5,d6,d7,d8,d9,c⟩:=k.tl;refine⟨⟨u.trans d,v.trans e,z.trans f,A.trans l,B.trans o,E.trans p,K.trans q,N.trans s,O.trans t⟩,⟨d1.trans c1,d2.trans c2,d3.trans c3,d4.trans c4,d5.trans T,d6.trans X,d7.trans Y,d8.trans Z,d9.trans c9,c.trans a⟩,λq a=>?_⟩;obtain⟨x,c⟩:=h.rs q a;obtain⟨y,d⟩:=k.rs q a;exact⟨y,by rw[d,c]⟩
def RS.Inv.lU{G:Nat}{x:RS}(h:x.Inv G)(a:Bool):({ x with lU:=a }:RS).Inv G:=⟨h.lC,h.pc,h.bl,h.rd,h.hg,h.gr,h.fin,h.lG,h.st⟩
def CS.Inv.but(h:c.Inv T)(s:Ep c c')(a:∀k,k<8->(c' k).Ok):c'.Inv T:=by
 obtain⟨e,f,l,o,c,d,p,q,t⟩:=s.hd;obtain⟨c1,c2,c3,c4,t,v,z,c,u,d⟩:=s.tl;exact
  {lZ:=by rw[e];exact h.lZ
   mj:=by rw[f];exact h.mj
   nA:=by rw[l];exact h.nA
   kz:=by rw[c2];exact h.kz
   lA:=by rw[c1];exact h.lA
   ws:=a
   rs:=λk f=>by obtain⟨a,e⟩:=s.rs k f;rw[e];exact(h.rs k f).lU a
   waits:=by rw[t];exact h.waits
   fl:=by rw[c3];exact h.fl
   mC:=by rw[c3];exact h.mC
   now:=by rw[o];exact h.now
   next:=by rw[p];exact h.next
   lQ:=by rw[q];exact h.lQ
   nd:=by rw[c];exact h.nd
   ids:=by rw[c];exact h.ids
   sl:=by rw[c];exact h.sl
   most:=by rw[u];exact h.most
   cl:=by rw[d];exact h.cl }
def dO(c:CS)(f:DV):Ep c (c.again f):=by
 have a:=Ep.refl c;unfold CS.again;split
 .exact⟨a.hd,a.tl,a.rs⟩
 split
 .exact⟨a.hd,a.tl,a.rs⟩
 split
 .exact⟨a.hd,a.tl,a.rs⟩
 split
 .refine⟨a.hd,a.tl,λk _=>?_⟩;by_cases e:k=f.stream.toNat
  .subst e;exact⟨(c.rs f.stream.toNat).lU||f.mF==(c.rs f.stream.toNat).kz,by simp only[zf]⟩
  exact⟨(c.rs k).lU,by simp only[zd _ _ e]⟩
 exact a
def Yd(f:DV)(h:∀k,k<8->(c k).Ok):∀k,k<8->((c.again f).ws k).Ok:=by
 intro k a;unfold CS.again;split
 .by_cases e:k=f.stream.toNat
  .subst e;simp only[zf];exact(h _ a).again f
  simp only[zd _ _ e];exact h k a
 split
 .by_cases e:k=f.stream.toNat
  .subst e;simp only[zf];have w:=h _ a;exact⟨w.lJ,w.lC,w.cut,w.len,w.lA,w.high⟩
  simp only[zd _ _ e];exact h k a
 split
 .exact h k a
 split
 .exact h k a
 exact h k a
theorem VB:∀(a:List DV) (c:CS),Ep c (c.ly a)
 | [],c=>Ep.refl c
 | f::a,c=>(dO c f).trans<|VB a<|c.again f
theorem Qs:∀(a:List DV) {c:CS},(∀k,k<8->(c k).Ok)->∀k,k<8->((c.ly a).ws k).Ok
 | [],_,h=>h
 | f::a,_,h=>Qs a<|Yd f h
def dN(c:CS)(p:DW):Ep c (c.ma p):=by
 unfold CS.ma;split
 .exact VB _ _
 exact Ep.refl c
def Yc(p:DW)(h:∀k,k<8->(c k).Ok):∀k,k<8->((c.ma p).ws k).Ok:=by
 unfold CS.ma;split
 .exact Qs _ h
 exact h
theorem I9:∀(l:List DW) (c:CS),Ep c (c.mO l)
 | [],c=>Ep.refl c
 | p::l,c=>(dN c p).trans<|I9 l<|c.ma p
theorem Qa:∀(l:List DW) {c:CS},(∀k,k<8->(c k).Ok)->∀k,k<8->((c.mO l).ws k).Ok
 | [],_,h=>h
 | p::l,_,h=>Qa l<|Yc p h
def CS.Inv.o8(h:c.Inv T):Kg c:=by
 refine⟨λp a=>⟨(h.mC p a).1,(h.mC p a).2.1,(h.mC p a).2.2.1⟩,λk p a _ j f e=>?_⟩;obtain⟨⟨q,l,d⟩,o⟩:=(h.mC p<|AW a).2.2.2 f<|AW e;have a:=Qs (p.fs.take j) (Qa (c.kx.take k) h.ws) q l;refine⟨λe=>?_,λ_=>I,λ_=>I⟩;rw[d,Ad];exact⟨l,d,a.lJ,a.lC,(o e).1,(o e).2⟩
def CS.Inv.sub(h:c.Inv T)(p:DW->Bool):(c.mC (c.kx.filter p)).Inv T :=
 {lZ:=h.lZ,mj:=h.mj,nA:=h.nA,kz:=h.kz,lA:=h.lA,ws:=h.ws,rs:=h.rs,waits:=h.waits,now:=h.now,next:=h.next,lQ:=h.lQ,nd:=h.nd,ids:=h.ids,sl:=h.sl,most:=h.most,cl:=h.cl
  fl:=AK (Ck _ _) h.fl
  mC:=λq a=>h.mC q (BI.1 a).1 }
def CS.Inv.nF(h:c.Inv T):c.nF.Inv T:=by
 have d:=h.but (I9 c.kx c)<|Qa c.kx h.ws;rw[Hj];have a:=d.sub<|λp => !c.late p;rw[(I9 c.kx c).tl.2.2.1]at a;exact a
def CS.Inv.lX(h:c.Inv T):c.lX.Inv (T+1):=by
 have a:=h.mono (I:T<=T+1);exact
  {lZ:=h.lZ,mj:=h.mj,nA:=h.nA,kz:=h.kz,lA:=h.lA,ws:=h.ws,rs:=a.rs,fl:=h.fl,mC:=h.mC,next:=a.next,lQ:=h.lQ,nd:=h.nd,ids:=h.ids,sl:=a.sl,most:=h.most,cl:=a.cl
   now:=by have:=h.now;show c.now+1<=_;omega
   waits:=⟨λf a=>h.waits.1 f (BI.1 a).1,AK (Ck _ _) h.waits.2⟩ }
def CS.Inv.tick(h:c.Inv T):c.tick.Inv (T+1):=h.lX.nF
def Yb(c:CS)(f:DV):Ep c (c.lY f):=by
 have a:=Ep.refl c;unfold CS.lY;split
 .exact⟨a.hd,a.tl,a.rs⟩
 exact a
def XQ(l:Za f)(h:∀k,k<8->(c k).Ok):∀k,k<8->((c.lY f).ws k).Ok:=by
 intro k a;unfold CS.lY;split
 .rename_i e;by_cases d:k=f.stream.toNat
  .subst d;simp only[zf];exact(h _ a).ln (l.2 e.1).1
  simp only[zd _ _ d];exact h k a
 exact h k a
theorem UH:∀(a:List DV) (c:CS),Ep c (a.foldl CS.lY c)
 | [],c=>Ep.refl c
 | f::a,c=>(Yb c f).trans<|UH a<|c.lY f
theorem QZ:∀(a:List DV) {c:CS},(∀f∈a,Za f)->(∀k,k<8->(c k).Ok)->∀k,k<8->((a.foldl CS.lY c).ws k).Ok
 | [],_,_,h=>h
 | f::a,_,hf,h=>QZ a (λg a=>hf g<|AV _ a)<|XQ (hf f AQ) h
def Ya(c:CS)(rs:zE)(p:DW):Ep c (c.nE rs p):=by
 unfold CS.nE;split
 .exact UH _ _
 exact Ep.refl c
def XP(rs:zE){p:DW}(a:∀f∈p.fs,Za f)(h:∀k,k<8->(c k).Ok):∀k,k<8->((c.nE rs p).ws k).Ok:=by
 unfold CS.nE;split
 .exact QZ _ a h
 exact h
theorem Jq(rs:zE):∀(l:List DW) (c:CS),Ep c (c.mT rs l)
 | [],c=>Ep.refl c
 | p::l,c=>(Ya c rs p).trans<|Jq rs l<|c.nE rs p
theorem QY(rs:zE):∀(l:List DW) {c:CS},(∀p∈l,∀f∈p.fs,Za f)->(∀k,k<8->(c k).Ok)->∀k,k<8->((c.mT rs l).ws k).Ok
 | [],_,_,h=>h
 | p::l,_,hp,h=>QY rs l (λq a=>hp q<|AV _ a)<|XP rs (hp p AQ) h
def CS.Inv.pY(h:c.Inv T)(n:Nat):({ c with lI:=n }:CS).Inv T :=
 {lZ:=h.lZ,mj:=h.mj,nA:=h.nA,kz:=h.kz,lA:=h.lA,ws:=h.ws,rs:=h.rs,waits:=h.waits,now:=h.now,next:=h.next,lQ:=h.lQ,nd:=h.nd,ids:=h.ids,sl:=h.sl,most:=h.most,cl:=h.cl,fl:=h.fl,mC:=h.mC }
def CS.Inv.pU(h:c.Inv T)(rs:zE):Mz c rs:=by
 refine⟨λp d=>(h.mC p d).2.2.1,λk p d _ j f l=>?_⟩;have a:=AW d;have e:=AW l;have d:=(h.mC p a).2.2.2 f e;refine⟨d.1,λf _=>?_⟩;obtain⟨⟨q,l,e⟩,hb⟩:=d;have d:=QZ (p.fs.take j) (λg o=>(h.mC p a).2.2.2 g<|BP o) (QY rs (c.kx.take k) (λr a=>(h.mC r<|BP a).2.2.2) h.ws) q l;exact⟨q,l,e,d.lJ,d.lC,(hb f).1,(hb f).2⟩
def CS.Inv.mS(h:c.Inv T)(rs:zE):(c.mS rs).Inv T:=by
 have a:=h.pY<|max c.lI<|DP rs 0;have d:=a.but (Jq rs c.kx _)<|QY rs c.kx (λp e=>(h.mC p e).2.2.2) a.ws;have a:=d.sub<|λp => !Dw rs p;rw[(Jq rs c.kx _).tl.2.2.1]at a;exact a
def CS.Inv.ln(h:c.Inv T)(rs:zE):(c.ln rs).2.Inv T:=by
 by_cases a:c.next<=DP rs 0
 .unfold CS.ln;rw[AM a];exact h
 rw[Ou c rs a];exact(h.mS rs).nF
structure Ev(f:DV):Prop where
 sound:Dx f=true
 dl:f.data.length<=1099511627776
 rl:f.lF.length<=1099511627776
def Ev.ns(h:Ev f):f.off<=zF/\f.rel<=zF/\f.mF<=zF/\f.id<=zF/\f.dl<=zF:=by
 have a:=h.sound;unfold Dx Ec nums at a;simp only[AZ,List.all_cons,List.all_nil,Ah]at a;unfold zF;omega
def Ev.st(h:Ev f):∃k:Nat,k<8/\f.stream=(k:Int):=by
 have a:=h.sound;unfold Dx Eg at a;simp only[AZ,Ah]at a;exact⟨f.stream.toNat,I,I⟩
def Ev.qT(h:Ev f)(c:f.kind=4):f.end_<=zF:=by
 have a:=h.sound;unfold Dx zR at a;rw[c]at a;simp only[AZ]at a;have c:=a.2;simp at c;unfold DV.end_ zF;omega
def Ev.oZ(h:Ev f)(c:f.kind=2):0<f.lF.length:=by
 have a:=h.sound;unfold Dx zR at a;rw[c]at a;simp only[AZ,A9]at a;have c:=a.2;unfold E4 at c;simp only[AZ,Ah]at c;exact c.2
variable{B hi lo:Nat}
def QX(h:s.Ok)(hb:∀j,j<s.rs.length->DP s.rs j<=B)(e:hi<=B)(a:hi<=zF):∀j,j<(s.add lo hi).rs.length->DP (s.add lo hi).rs j<=B:=by
 unfold Df.add;split
 .exact hb
 have d:=zV (Dv s.rs<|max lo s.fl) s.rs.length;have c:=zV (D8 s.rs hi) s.rs.length;have a:=Jm h.wf I d c;have d:=O5 (m:=max lo s.fl) a c.1 hb e;split
 .intro j a;rw[(IH _ 1 j).2];exact d _<|by rw[Ag]at a;omega
 exact d
theorem YY(a:Nat)(data:rC)(e H:Nat)(c:e<=H)(d:e<=zF):∀n lo (b:rC) (s:Df),b.length=H->s.Ok->(∀j,j<s.rs.length->DP s.rs j<H) ->
  (En a data e n lo b s).1.length=H/\(En a data e n lo b s).2.Ok/\∀j,j<(En a data e n lo b s).2.rs.length->DP (En a data e n lo b s).2.rs j<H:=by
 intro n
 induction n with
 | zero=>intro lo b s c a d;exact⟨c,a,d⟩
 | succ n ih =>
  intro lo b s c a d;unfold En;split
  .rename_i f;split
   .exact⟨c,a,d⟩
   rename_i h;obtain⟨_,h⟩:=NN s.rs lo e f I;have f:=If s.rs lo e;refine ih _ _ _ ?_ (a.add _ I)<|λj f=>?_
   .rw[NT _ _ _ (by rw[AU];omega)];exact c
   have:=QX a (B:=H-1) (lo:=(Dd s.rs lo e).1) (hi:=(Dd s.rs lo e).2-1) (λj f=>pp<|d j f) I I j f;omega
  exact⟨c,a,d⟩
def RS.Inv.data{G:Nat}{x:RS}(h:x.Inv G)(c:f.end_<=zF)(d:x.high<f.end_->f.end_<=x.kz):(x.data f).Inv G:=by
 have hb:=h.bl;have a:=h.hg;have a:=YY f.off f.data f.end_ (max x.high f.end_) (Cm _ _) c (f.data.length+1) f.off (JW x.b<|max x.high f.end_) x.lC (by unfold JW;simp;omega) h.lC<|λj e=>A7 (h.pc j e)<|BO _ _;refine⟨a.2.1,a.2.2,a.1,AK h.rd<|BO _ _,?_,h.gr,?_,h.lG,h.st⟩
 .show max x.high f.end_<=x.kz;by_cases q:x.high<f.end_
  .have:=d q;omega
  omega
 show(if f.fin then f.end_ else x.fin)<=zF;split
 .exact c
 exact h.fin
def CS.Inv.qd(h:c.Inv T)(k:Nat){x:RS}(a:x.Inv (4096*(T+1))):({ c with rs:=ze c.rs k x }:CS).Inv T :=
 {lZ:=h.lZ,mj:=h.mj,nA:=h.nA,kz:=h.kz,lA:=h.lA,ws:=h.ws,waits:=h.waits,now:=h.now,next:=h.next,lQ:=h.lQ,nd:=h.nd,ids:=h.ids,sl:=h.sl,most:=h.most,cl:=h.cl,fl:=h.fl,mC:=h.mC
  rs:=λq d=>by
   by_cases e:q=k
   .subst e;simp only[zf];exact a
   simp only[zd _ _ e];exact h.rs q d }
def CS.Inv.qZ(h:c.Inv T)(k:Nat)(d:k<8->x.Ok):({ c with ws:=ze c.ws k x }:CS).Inv T :=
 {lZ:=h.lZ,mj:=h.mj,nA:=h.nA,kz:=h.kz,lA:=h.lA,rs:=h.rs,waits:=h.waits,now:=h.now,next:=h.next,lQ:=h.lQ,nd:=h.nd,ids:=h.ids,sl:=h.sl,most:=h.most,cl:=h.cl,fl:=h.fl,mC:=h.mC
  ws:=λq a=>by
   by_cases e:q=k
   .subst e;simp only[zf];exact d a
   simp only[zd _ _ e];exact h.ws q a }
def CS.Inv.data(h:c.Inv T)(d:Ev f)(e:f.kind=4):(c.data f).2.Inv T:=by
 obtain⟨k,c,a⟩:=d.st;unfold CS.data;rw[a,Ad];split
 .exact h
 split
 .exact h
 rename_i a;exact h.qd k<|(h.rs k c).data (d.qT e)<|λq=>DB<|λg=>a ⟨q,.inl g⟩
def CS.Inv.lq(h:c.Inv T)(d:Ev f):(c.lq f).2.Inv T:=by
 obtain⟨k,e,a⟩:=d.st;obtain⟨l,o,_⟩:=d.ns;unfold CS.lq;rw[a,Ad];split
 .exact h
 have r:=h.rs k e;refine h.qd k ⟨r.lC,r.pc,r.bl,r.rd,r.hg,r.gr,l,?_,λe=>?_⟩
 .unfold RS.lq;simp only;split
  .exact o
  exact r.lG
 obtain⟨a,b⟩:=r.st e;refine⟨rfl,?_⟩;unfold RS.lq;simp only[a];show(if (!true||decide (f.rel<(c.rs k).lG))=true then f.rel else(c.rs k).lG)<=(c.rs k).read;split
 .rename_i q;simp at q;omega
 exact b
def CS.Inv.message(h:c.Inv T)(a:Ev f):(c.message f).Inv (T+1):=by
 obtain⟨_,_,_,q,d⟩:=a.ns;have a:=h.mono (I:T<=T+1);unfold CS.message;split
 .exact a
 rename_i d;have l:¬f.id∈c.seen.map (·.1):=λx=>by
  obtain⟨p,o,e⟩:=BL.1 x;refine d ?_;have:(c.seen.any λp=>p.1==f.id)=true:=Bg.2 ⟨p,o,by simp[e]⟩;rw[this];rfl
 have d:((c.seen++[(f.id,f.dl)]).filter λp => !D9 (max c.most f.id) p.1).Sublist (c.seen++[(f.id,f.dl)]):=List.filter_sublist;exact
  {lZ:=h.lZ,mj:=h.mj,nA:=h.nA,kz:=h.kz,lA:=h.lA,ws:=h.ws,rs:=a.rs,waits:=h.waits,now:=a.now,next:=a.next,lQ:=h.lQ,fl:=h.fl,mC:=h.mC
   nd:=by
    refine List.Nodup.sublist (d.map _) ?_;rw[BX,C7];refine⟨h.nd,lm,λa s b hb e=>?_⟩;have:b=f.id:=rB hb;exact l<|by rw[<-this,<-e];exact s
   ids:=λp o=>by
    rcases Ak.1 (d.subset o)with x|x
    .exact h.ids p x
    have:p=(f.id,f.dl):=rB x;rw[this];exact q
   sl:=by
    have:=d.length_le;have:=h.sl;simp only[AG,Ac]at *;omega
   most:=by have:=h.most;show max c.most f.id<=zF;omega
   cl:=by have:=h.cl;simp only[AG,Ac];omega }
def CS.Inv.pq(h:c.Inv T)(a:T<=Db)(d:Ev f):OV c f:=by
 unfold Db at a;obtain⟨a,e,l,f,o⟩:=d.ns;have l:∀j,j<8->(c.rs j).high<=1099511627776/\(c.rs j).kz<=1099511627776:=λj c=>by
  have a:=(h.rs j c).hg;have b:=(h.rs j c).gr;exact⟨I,I⟩
 have a:=h.fl;have a:=h.now;have a:=h.sl;have a:=h.cl;refine⟨λe=>⟨d.oZ e,d.rl,I,λ_=>⟨(h.pY _).pU _,(h.mS _).o8⟩⟩,λ_=>d.st,λe=>?_,λ_=>d.st,λ_=>⟨h.most,f,o,by unfold zF;omega,h.nd,h.ids,I,I⟩⟩;obtain⟨k,a,f⟩:=d.st;exact⟨k,a,f,λj c=>(l j c).1,(l k a).2,h.kz,(h.rs k a).fin,d.qT e,d.dl,(h.rs k a).lC,Az (h.rs k a).bl⟩
def CS.Inv.take(h:c.Inv T)(d:Ev f):(c.take f).2.Inv (T+1):=by
 have a:∀{e:CS},e.Inv T->e.Inv (T+1):=λx=>x.mono I
 obtain⟨e,l,o,p,q⟩:=d.ns;unfold CS.take;split
 .exact a (h.ln _)
 split
 .exact a (h.lq d)
 split
 .rename_i e;exact a<|h.data d e
 split
 .exact a
   {lZ:=h.lZ,mj:=h.mj,nA:=h.nA,kz:=h.kz,ws:=h.ws,rs:=h.rs,waits:=h.waits,now:=h.now,next:=h.next,lQ:=h.lQ,nd:=h.nd,ids:=h.ids,sl:=h.sl,most:=h.most,cl:=h.cl,fl:=h.fl,mC:=h.mC
    lA:=by have:=h.lA;show max c.lA f.mF<=zF;omega }
 split
 .refine a (h.qZ _<|λc=>?_);have w:=h.ws _ c;exact⟨w.lJ,w.lC,w.cut,w.len,by have:=w.lA;show max _ f.mF<=zF;omega,w.high⟩
 split
 .exact h.message d
 split
 .exact a h
 exact a h
def CS.Inv.o7(h:c.Inv T)(cl:Nat)(a d:Bool):({ c with closed:=cl,said:=a,answer:=d }:CS).Inv T :=
 {lZ:=h.lZ,mj:=h.mj,nA:=h.nA,kz:=h.kz,lA:=h.lA,ws:=h.ws,rs:=h.rs,waits:=h.waits,now:=h.now,next:=h.next,lQ:=h.lQ,nd:=h.nd,ids:=h.ids,sl:=h.sl,most:=h.most,cl:=h.cl,fl:=h.fl,mC:=h.mC }
theorem CS.Inv.oW:∀(a:List DV) {T:Nat} {c:CS},c.Inv T->T+a.length<=Db->(∀f∈a,Ev f)->My a c
 | [],_,_,_,_,_=>trivial
 | f::a,T,c,h,hT,hf=>by
  simp only[AS]at hT;have d:=hf f AQ;exact⟨h.pq I d,λ_=>CS.Inv.oW a ((h.take d).o7 (c.take f).2.closed (c.take f).2.said _) I<|λg a=>hf g<|AV _ a⟩
theorem CS.Inv.lk:∀(a:List DV) {T:Nat} {c:CS},c.Inv T->(∀f∈a,Ev f)->(CS.lk a c).2.Inv (T+a.length)
 | [],_,_,h,_=>h
 | f::a,T,c,h,hf=>by
  have d:=h.take<|hf f AQ;unfold CS.lk;split
  .exact(d.o7 (c.take f).1 ((c.take f).1==13) (c.take f).2.answer).mono (by simp only[AS];omega)
  have:=CS.Inv.lk a (d.o7 (c.take f).2.closed (c.take f).2.said<|(c.take f).2.answer||f.kind != 2)<|λg c=>hf g<|AV _ c;rw[show T+(f::a).length=T+1+a.length by simp only[AS];omega];exact this
variable{bs:rC}{pos:Nat}
def fR{r:DV×Nat}(a:bs.length<1099511627776)(c:pos<bs.length)(h:Gm bs pos=some r):Ev r.1/\pos<r.2/\r.2<=bs.length:=by
 unfold Gm at h;split at h
 .cases h
 rename_i t _;rw[Ar]at h;obtain⟨k,e,h⟩:=h;rw[Ar]at h;obtain⟨⟨f,p⟩,hb,h⟩:=h;simp only at h;split at h
 .rename_i l;cases h;obtain⟨_,a,b,c,d⟩:=WC e I hb;exact⟨⟨l,by show f.data.length<=_;omega,by show f.lF.length<=_;omega⟩,by show pos<p;omega,b⟩
 cases h
theorem UG(bs:rC)(e:bs.length<1099511627776):∀fuel num pos (a:List DV) n fs,pos<=bs.length->a.length<=pos->(∀f∈a,Ev f)->Id bs fuel num pos a=.ok n fs->n=num/\fs.length<=bs.length/\∀f∈fs,Ev f
 | 0,_,_,_,_,_,_,_,_,h=>by cases h
 | fuel+1,num,pos,a,n,fs,hp,ha,hf,h=>by
  unfold Id at h;split at h
  .rename_i d;cases hr:Gm bs pos with
   | none=>rw[hr]at h;cases h
   | some r =>
    rw[hr]at h;obtain⟨a,b,c⟩:=fR e d hr;refine UG bs e fuel num r.2 _ n fs c ?_ (λf c=>?_) h
    .rw[AG,Ac];omega
    rcases Ak.1 c with x|x
    .exact hf f x
    rw[Af.1 x];exact a
  cases h;exact⟨rfl,I,hf⟩
variable{fs:List DV}
def Kf{n:Nat}(a:bs.length<1099511627776)(h:dec bs=.ok n fs):n<=zF/\fs.length<=bs.length/\∀f∈fs,Ev f:=by
 unfold dec at h;split at h
 .cases h
 split at h
 .unfold Fg at h;split at h
  .cases h
  rename_i q d;obtain⟨a,b,c⟩:=Ef d;split at h
  .cases h
  obtain⟨d,e,g⟩:=UG _ (by rw[AU];omega) _ _ _ _ _ _ b (AN _) (λf l=>by cases l) h;rw[AU]at e;exact⟨by unfold zF;omega,I,g⟩
 cases h
def CS.Inv.pD(h:c.Inv T){n:Nat}(a:n<=zF):({ c with lQ:=c.lQ.add n n }:CS).Inv T :=
 {lZ:=h.lZ,mj:=h.mj,nA:=h.nA,kz:=h.kz,lA:=h.lA,ws:=h.ws,rs:=h.rs,waits:=h.waits,now:=h.now,next:=h.next,nd:=h.nd,ids:=h.ids,sl:=h.sl,most:=h.most,cl:=h.cl,fl:=h.fl,mC:=h.mC
  lQ:=⟨h.lQ.1.add n a,by
   have:=h.lQ.2;unfold Df.add;split
   .exact this
   split<;>exact this⟩ }
def CS.Inv.pv(h:c.Inv T)(d:T+bs.length<=Db):OR c bs:=by
 intro _ n c hd;obtain⟨a,b,g⟩:=Kf (by unfold Db at d;omega) hd;exact⟨h.lQ.1,a,λ_=>CS.Inv.oW c (h.pD a) I g⟩
def CS.Inv.lM(h:c.Inv T)(e:T+bs.length<=Db):(c.lM bs).2.Inv (T+bs.length):=by
 have d:∀{a:CS},a.Inv T->a.Inv (T+bs.length):=λx=>x.mono I
 unfold CS.lM;split
 .exact d h
 split
 .exact d h
 .exact d (h.o7 8 c.said c.answer)
 rename_i n c hd;obtain⟨a,b,g⟩:=Kf (by unfold Db at e;omega) hd;split
 .exact d h
 exact(CS.Inv.lk c (h.pD a) g).mono I
def CS.Inv.send(h:c.Inv T)(k:Int)(s:rC):(c.send k s).2.Inv T:=by
 unfold CS.send;split
 .exact h
 split
 .exact h
 split
 .exact h
 rename_i a _ d;obtain⟨a,d,_⟩:=Md (I:c.stream k=0);refine h.qZ _<|λa=>?_;have w:=h.ws _ a;have e:((c k.toNat).b++s).length=(c k.toNat).b.length+s.length:=AG;have a:=w.high;exact⟨w.lJ,w.lC,w.cut,by show((c k.toNat).b++s).length<=_;omega,w.lA,by show(c k.toNat).high<=((c k.toNat).b++s).length;omega⟩
def CS.Inv.finish(h:c.Inv T)(k:Int):(c.finish k).2.Inv T:=by
 unfold CS.finish;split
 .exact h
 split
 .exact h
 refine h.qZ _<|λa=>?_;have w:=h.ws _ a;exact⟨w.lJ,w.lC,w.cut,w.len,w.lA,w.high⟩
theorem CS.Inv.reset(h:c.Inv T)(k lG:Int):(c.reset k lG).2.Inv T:=by
 unfold CS.reset;split
 .exact h
 refine h.qZ _<|λa=>?_;have w:=h.ws _ a;have a:=w.len;have a:=w.high;have a:=w.cut;have d:min lG.toNat (c k.toNat).b.length<=(c k.toNat).b.length:=Nat.min_le_right _ _;generalize min lG.toNat (c k.toNat).b.length=n at d;refine⟨w.lJ,w.lC,?_,w.len,w.lA,w.high⟩;unfold WS.nM;simp only;unfold zF at *;cases(c k.toNat).cut with
 | true =>
  simp only[Bool.not_true,Cc,A9,Ah];split<;>omega
 | false =>
  simp only[Bool.not_false,Bool.true_or,A9,BT,BZ];omega
def XJ{id a:Nat}{s:rC}(c:id<=zF)(d:a<=zF)(e:s.length<=1048576):(Gs id a s).Fits:=by
 have hb:=Mb (Gs id a s) rfl;have hd:(Gs id a s).data.length=s.length:=rfl;refine⟨?_,rfl,by rw[hd];exact e,by rw[hd]at hb;omega⟩;unfold zF at c d;simp[Dx,Ec,nums,Eg,zR,Gs];omega
def CS.Inv.lH(h:c.Inv T)(id a:Nat)(s:rC):(c.lH id a s).2.Inv T:=by
 unfold CS.lH;split
 .exact h
 split
 .exact h
 split
 .exact h
 split
 .exact h
 rename_i _ hb d e;have d:=h.lZ;exact
  {lZ:=h.lZ,mj:=h.mj,nA:=h.nA,kz:=h.kz,lA:=h.lA,ws:=h.ws,rs:=h.rs,now:=h.now,next:=h.next,lQ:=h.lQ,nd:=h.nd,ids:=h.ids,sl:=h.sl,most:=h.most,cl:=h.cl,fl:=h.fl,mC:=h.mC
   waits:=by
    have d:=h.waits;show(∀f∈(if c.now<=a then c.waits++[Gs id a s]else c.waits),f.Fits)/\(if c.now<=a then c.waits++[Gs id a s]else c.waits).length<=16;split
    .refine⟨λf a=>?_,by rw[AG,Ac];omega⟩;rcases Ak.1 a with x|x
     .exact d.1 f x
     rw[Af.1 x];exact XJ I I I
    exact d }
def CS.Inv.lO(h:c.Inv T):c.lO.2.Inv T :=
 {lZ:=h.lZ,mj:=h.mj,nA:=h.nA,kz:=h.kz,lA:=h.lA,ws:=h.ws,rs:=h.rs,waits:=h.waits,now:=h.now,next:=h.next,lQ:=h.lQ,nd:=h.nd,ids:=h.ids,sl:=h.sl,most:=h.most,fl:=h.fl,mC:=h.mC
  cl:=AN _ }
theorem UF(rs:zE):∀a c,a<=(Dd rs a c).1:=by
 induction rs with
 | nil=>intro a c;exact AF _
 | cons r l ih =>
  intro a c;unfold Dd;split
  .exact ih a c
  split
  .exact AF _
  have:=ih (r.2+1) c;omega
variable{H:Nat}
theorem Tf(rs:zE):∀a c,a<=H->(∀r∈rs,r.2<H)->(Dd rs a c).1<=H:=by
 induction rs with
 | nil=>intro a c h _;exact h
 | cons r l ih =>
  intro a c h d;have e:=d r AQ;have e:=λx f=>d x<|AV _ f
  unfold Dd;split
  .exact ih a c h e
  split
  .exact h
  exact ih _ c I e
def RS.Inv.lead{G:Nat}{x:RS}(h:x.Inv G):x.read<=(Dd x.lC.rs x.read x.high).1/\(Dd x.lC.rs x.read x.high).1<=x.high :=
 ⟨UF _ _ _,Tf _ _ _ h.rd (λr a=>by obtain⟨j,c,_,e⟩:=I1 a;rw[<-e];exact h.pc j c)⟩
def RS.Inv.np{G:Nat}{x:RS}(h:x.Inv G)(a:G<=1099511627776):MH x:=by
 obtain⟨a,b⟩:=h.lead;have c:=h.hg;have c:=h.gr;have c:=h.bl;have c:=h.lC.rl;have c:=h.lC.most;exact⟨I,a,I,λk a=>pp<|h.pc k a,I,h.lG,h.fin⟩
def CS.Inv.np(h:c.Inv T)(a:T<=Db):∀k,k<8->MH (c.rs k):=λk c=>(h.rs k c).np (by unfold Db at a;omega)
def RS.Inv.lp{G:Nat}{x:RS}(h:x.Inv G)(n:Nat):x.lp n<=x.high:=by
 obtain⟨a,b⟩:=h.lead;have:=h.rd;unfold RS.lp;split<;>omega
def CS.Inv.read(h:c.Inv T)(k a:Int):(c.read k a).2.Inv T:=by
 unfold CS.read;split
 .exact h
 split
 .exact h
 rename_i e _;obtain⟨e,f,_⟩:=Md (I:c.stream k=0);have x:=h.rs k.toNat I;refine h.qd _ ⟨x.lC,x.pc,x.bl,x.lp _,x.hg,x.gr,x.fin,x.lG,λe=>?_⟩;have d:(c.rs k.toNat).l7 ((c.rs k.toNat).lp a.toNat)=2:=e;unfold RS.l7 at d;split at d
 .rename_i a;simp only[AZ,Ah]at a;exact a
 split at d<;>cases d
def CS.Inv.new{lZ a c:Nat}(h:64<=lZ/\lZ<=400)(f:a<=4096)(l:c<=4096):(CS.new lZ a c).Inv 0 :=
 {lZ:=⟨h.1,by show lZ<=_;omega⟩,mj:=f,nA:=l
  kz:=by show c<=_;unfold zF;omega
  lA:=by show c<=_;unfold zF;omega
  ws:=λ_ _=>⟨In _ I,In _ I,⟨AF _,AN _,AN _⟩,AN _,by show a<=_;unfold zF;omega,AF _⟩
  rs:=λ_ _=>⟨In _ I,λj c=>absurd c<|A6 j,rfl,AF _,AN _,by show a<=_;omega,AN _,AN _,λe=>by cases e⟩
  waits:=⟨λf o=>(by cases o),AN _⟩
  fl:=AN _
  mC:=λp d=>(by cases d)
  now:=AF _
  next:=AF _
  lQ:=⟨In _ I,AF _⟩
  nd:=DI
  ids:=λp d=>(by cases d)
  sl:=AF _
  most:=AN _
  cl:=AF _ }
def HB(G:Nat)(c:CS):Prop:=∀k,k<8->(c.rs k).mb=true->(c.rs k).used<=G
structure D6(G:Nat)(c c':CS):Prop where
 hd:c'.lZ=c.lZ/\c'.lD=c.lD/\c'.total=c.total/\c'.now=c.now/\c'.closed=c.closed/\c'.said=c.said/\c'.lQ=c.lQ/\c'.answer=c.answer
 tl:c'.lA=c.lA/\c'.lI=c.lI/\c'.l8=c.l8/\c'.mI=c.mI/\c'.seen=c.seen/\c'.most=c.most/\c'.lC=c.lC
 wl:c'.waits.length<=c.waits.length
 rs:∀k,k<8->∃g a,c'.rs k={ c.rs k with kz:=g,lU:=a }/\((g=(c.rs k).kz/\a=(c.rs k).lU)\/((c.rs k).used<=G/\g=max (c.rs k).kz ((c.rs k).used+c.lD)))
def D6.refl(G:Nat)(c:CS):D6 G c c:=⟨⟨rfl,rfl,rfl,rfl,rfl,rfl,rfl,rfl⟩,⟨rfl,rfl,rfl,rfl,rfl,rfl,rfl⟩,AF _,λk _=>⟨(c.rs k).kz,(c.rs k).lU,rfl,.inl ⟨rfl,rfl⟩⟩⟩
def Te(x:RS)(g:Nat)(a:Bool):({ x with kz:=g,lU:=a }:RS).used=x.used:=rfl
def D6.trans{G:Nat}{a:CS}(h:D6 G c c')(k:D6 G c' a):D6 G c a:=by
 obtain⟨a,c,e,f,l,o,p,q⟩:=h.hd;obtain⟨s,t,v,z,A,B,E,K⟩:=k.hd;obtain⟨c1,c2,c3,c4,N,O,T⟩:=h.tl;obtain⟨X,Y,Z,d4,d5,d6,d7⟩:=k.tl;refine⟨⟨s.trans a,t.trans c,v.trans e,z.trans f,A.trans l,B.trans o,E.trans p,K.trans q⟩,⟨X.trans c1,Y.trans c2,Z.trans c3,d4.trans c4,d5.trans N,d6.trans O,d7.trans T⟩,AK k.wl h.wl,λq f=>?_⟩;obtain⟨g,a,e,hg⟩:=h.rs q f;obtain⟨a,h,l,d⟩:=k.rs q f;refine⟨a,h,by rw[l,e],?_⟩;rw[e,Te,c]at d;simp only at d;rcases hg with⟨rfl,rfl⟩|⟨u,rfl⟩
 .exact d
 rcases d with⟨rfl,rfl⟩|⟨_,rfl⟩
 .exact .inr ⟨u,rfl⟩
 exact .inr ⟨u,I⟩
def HB.but{G:Nat}(h:HB G c)(p:D6 G c c'):HB G c':=by
 intro k d f;obtain⟨g,a,e,l⟩:=p.rs k d;rw[e]at f ⊢;rw[Te];rcases l with⟨rfl,rfl⟩|⟨u,_⟩
 .exact h k d f
 exact u
variable{d:DX}
theorem YU{G:Nat}(h:HB G c):∀n k t,n+k=8->∀x,(EO c d n k t).1=some x->D6 G c x.1:=by
 intro n
 induction n with
 | zero=>intro k t _ x f;cases f
 | succ n ih =>
  intro k t d x f;have d:k<8:=I;have l:=ih (k+1) (min (t+(c.rs k).used) zF) I;unfold EO at f;split at f
  .rename_i a;simp only[AZ]at a;split at f
   .cases f;refine⟨⟨rfl,rfl,rfl,rfl,rfl,rfl,rfl,rfl⟩,⟨rfl,rfl,rfl,rfl,rfl,rfl,rfl⟩,AF _,λj o=>?_⟩;by_cases e:j=k
    .subst e;refine⟨_,false,?_,.inr ⟨h j o a.2,rfl⟩⟩;show ze c.rs j _ j=_;rw[zf]
    refine⟨(c.rs j).kz,(c.rs j).lU,?_,.inl ⟨rfl,rfl⟩⟩;show ze c.rs k _ j=_;rw[zd _ _ e]
   exact l x f
  exact l x f
theorem Td{G:Nat}:∀n k x,ER c d n k=some x->D6 G c x.1:=by
 intro n
 induction n with
 | zero=>intro k x a;cases a
 | succ n ih =>
  intro k x a;unfold ER at a;split at a
  .split at a
   .cases a;exact⟨⟨rfl,rfl,rfl,rfl,rfl,rfl,rfl,rfl⟩,⟨rfl,rfl,rfl,rfl,rfl,rfl,rfl⟩,AF _,(D6.refl G c).rs⟩
   exact ih _ x a
  exact ih _ x a
def iX{G:Nat}(h:HB G c):∀x,c.control d=some x->D6 G c x.1:=by
 intro x a;unfold CS.control at a;split at a
 .rename_i y e;cases a;exact YU h 8 0 c.total rfl _ e
 unfold Iu at a;split at a
 .split at a
  .cases a;exact⟨⟨rfl,rfl,rfl,rfl,rfl,rfl,rfl,rfl⟩,⟨rfl,rfl,rfl,rfl,rfl,rfl,rfl⟩,AF _,(D6.refl G c).rs⟩
  exact Td 8 0 x a
 exact Td 8 0 x a
variable{k:Nat}
def Vj{G:Nat}{fin:Bool}:D6 G c (c.ll d k lo hi fin).2.1:=by
 unfold CS.ll;split
 .exact D6.refl G c
 exact⟨⟨rfl,rfl,rfl,rfl,rfl,rfl,rfl,rfl⟩,⟨rfl,rfl,rfl,rfl,rfl,rfl,rfl⟩,AF _,(D6.refl G c).rs⟩
def VA{G:Nat}:D6 G c (c.mE d k lo hi).2.1:=by
 unfold CS.mE;split
 .split
  .exact D6.refl G c
  exact Vj
 exact Vj
def eD{G:Nat}:D6 G c (c.bytes d k).2.1:=by
 unfold CS.bytes;split
 .exact D6.refl G c
 split
 .split
  .exact D6.refl G c
  exact VA
 exact VA
theorem St{G:Nat}(h:HB G c):∀q,D6 G c (c.put d q).2.1
 | 0=>by
  show D6 G c ((c.control d).getD (c,d)).1;cases hc:c.control d with
  | none=>exact D6.refl G c
  | some x=>exact iX h x hc
 | 1=>by
  show D6 G c ((c.lT d).getD (c,d)).1;unfold CS.lT;cases hw:c.waits with
  | nil=>exact D6.refl G c
  | cons f l =>
   cases hd:d.add f with
   | none=>simp only[hd,Option.map_none];exact D6.refl G c
   | some d' =>
    simp only[hd,A5];exact⟨⟨rfl,rfl,rfl,rfl,rfl,rfl,rfl,rfl⟩,⟨rfl,rfl,rfl,rfl,rfl,rfl,rfl⟩,by rw[hw];exact Bv _,(D6.refl G c).rs⟩
 | k+2=>eD
variable{q:Nat}
theorem Tc{G:Nat}:∀n (c:CS) (d:DX),HB G c->D6 G c (CS.lu q n c d).1
 | 0,c,_,_=>D6.refl G c
 | n+1,c,d,h=>by
  have p:=St (d:=d) h q;unfold CS.lu;split
  .exact p.trans (Tc n _ _<|h.but p)
  exact p
theorem Uc{G:Nat}:∀n (c:CS) (d:DX),HB G c->D6 G c (CS.ld n c d).1
 | 0,c,_,_=>D6.refl G c
 | n+1,c,d,h=>by
  have p:=Tc (q:=9-n) (d.room+1) c d h;unfold CS.ld;exact p.trans<|Uc n _ _<|h.but p
structure Ez(d:DX):Prop where
 fs:∀f∈d.fs,Za f
 fit:d.fs≠[]->d.b.length+4<=d.room
def Za.fits(h:f.Fits):Za f:=by
 have a:=h.sound;have hd:=h.data;unfold Dx Eg at a;simp only[AZ,Ah]at a;refine⟨⟨f.stream.toNat,I,I⟩,λe=>⟨?_,I⟩⟩;have c:=a.2;unfold zR at c;rw[e]at c;simp at c;unfold zF;omega
def Za.pK(l:zE):Za (lY l):=⟨⟨0,lc,rfl⟩,λe=>absurd e (by simp[lY])⟩
variable{d':DX}
def Ez.add(h:Ez d)(c:Za f)(a:d.add f=some d'):Ez d':=by
 obtain⟨_,d,e,_,_,f⟩:=DX.mK a;refine⟨λg a=>?_,λ_=>I⟩;rw[d]at a;rcases Ak.1 a with x|x
 .exact h.fs g x
 rw[Af.1 x];exact c
theorem Ez.put{r:Bool}(h:Ez d)(p:GZ c d r c' d'):Ez d':=by
 cases r with
 | true =>
  obtain⟨f,a,_,c⟩:=p.yes rfl;exact h.add (Za.fits a) c
 | false =>
  obtain⟨_,e|e⟩:=p.no rfl
  .rw[e];exact h
  rw[e];exact⟨h.fs,h.fit⟩
theorem Ez.lu(a:q<10):∀n (c:CS) (d:DX),c.Ok->Ez d->Ez (CS.lu q n c d).2
 | 0,_,_,_,h=>h
 | n+1,c,d,hc,h=>by
  have p:=JZ (d:=d) hc a;unfold CS.lu;split
  .exact Ez.lu a n _ _ p.ok (h.put p)
  exact h.put p
theorem Ez.ld:∀n (c:CS) (d:DX),n<=10->c.Ok->d.Ok->Ez d->Ez (CS.ld n c d).2
 | 0,_,_,_,_,_,h=>h
 | n+1,c,d,hn,hc,hd,h=>by
  have r:=Oi (q:=9-n) I (d.room+1) c d hc hd;unfold CS.ld;exact Ez.ld n _ _ I r.1 r.2.1<|h.lu I (d.room+1) c d hc
theorem Ez.told(h:Ez d)(l:zE):Ez (zp d l).1:=by
 unfold zp;split
 .exact h
 show Ez ((d.add _).getD d);cases ha:d.add (lY<|l.take<|EY d l l.length)with
 | none=>exact h
 | some d'=>exact h.add (Za.pK _) ha
def Mj(l:List DW):Prop:=∀p∈l,p.n<=zF/\p.at_<=zF/\p.fs.length<=1099511627776/\∀f∈p.fs,Za f
structure Ss(G:Nat)(c:CS)(l:zE)(n:Nat)(r:List rC×CS):Prop where
 but:D6 G c r.2
 ok:r.2.Ok
 fl:r.2.kx.length<=12
 mC:Mj r.2.kx
 next:r.2.next<=c.next+Fo c l
 z:r.1.length<=n/\∀x∈r.1,x.length<=c.lZ
def Tb(n:Nat):(EP n).length=4:=rfl
theorem Qr{G:Nat}:∀n (c:CS) (l:zE),Gv c l->HB G c->Mj c.kx->c.now<=zF->Ss G c l n (CS.mH n c l)
 | 0,c,l,h,_,hf,_=>⟨D6.refl G c,h.ok,h.fl,hf,by show c.next<=_;omega,AF _,λx d=>by cases d⟩
 | n+1,c,l,h,hb,hf,hn=>by
  obtain⟨p,z,s,e,u,o,A⟩:=h.round;have t:=NB (JB h.ok) l;have a:D6 G c (c.lL (zp c.lB l).1).1:=by
   unfold CS.lL;split
   .exact Uc 10 c _ hb
   exact D6.refl G c
  have q:Ez (c.lL (zp c.lB l).1).2/\(c.lL (zp c.lB l).1).2.room=c.lZ:=by
   have v:Ez (zp c.lB l).1:=Ez.told ⟨λf hf=>(by cases hf),λx=>absurd rfl x⟩ l;unfold CS.lL;split
   .exact⟨v.ld 10 c _ ro h.ok p,(Qj 10 c _ ro h.ok p).2.2.1.trans t.2.1⟩
   exact⟨v,t.2.1⟩
  unfold CS.mH;split
  .exact⟨a,z,by show(c.lL _).1.kx.length<=12;rw[o];exact h.fl,by show Mj (c.lL _).1.kx;rw[o];exact hf,by show(c.lL _).1.next<=_;rw[e];omega,AN _,λx d=>by cases d⟩
  rename_i f;obtain⟨t,p⟩:=A f;have bd:D6 G c ((c.lL (zp c.lB l).1).1.lV (c.lL (zp c.lB l).1).2):=⟨a.hd,a.tl,a.wl,a.rs⟩;have d:=h.next;have h:Mj ((c.lL (zp c.lB l).1).1.lV (c.lL (zp c.lB l).1).2).kx:=by
   show Mj (if (c.lL (zp c.lB l).1).2.lh then(c.lL (zp c.lB l).1).1.kx++[⟨(c.lL (zp c.lB l).1).1.next,(c.lL (zp c.lB l).1).1.now,(c.lL (zp c.lB l).1).2.fs⟩]else(c.lL (zp c.lB l).1).1.kx);rw[e,u,o];split
   .intro p a;rcases Ak.1 a with x|x
    .exact hf p x
    rw[Af.1 x];have:=s.fs;have:=s.b;exact⟨by show c.next<=_;omega,hn,by show(c.lL _).2.fs.length<=_;omega,q.1.fs⟩
   exact hf
  have a:=Qr n _ _ t (hb.but bd) h (by show(c.lL _).1.now<=_;rw[u];exact hn);have h:((c.lL (zp c.lB l).1).1.lV (c.lL (zp c.lB l).1).2).next=c.next+1:=by show(c.lL _).1.next+1=_;rw[e]
  have c:=a.next;rw[h]at c;refine⟨bd.trans a.but,a.ok,a.fl,a.mC,?_,?_,λx d=>?_⟩
  .show(CS.mH n _ _).2.next<=_;omega
  .show(CS.mH n _ _).1.length+1<=_;have:=a.z.1;omega
  rcases Ay.1 d with e|e
  .rw[e];have:=q.1.fit f;have:=q.2;unfold E9;rw[AG,Tb];omega
  have:=a.z.2 x e;have a:=bd.hd.1;omega
def RS.Inv.again{G c:Nat}{x:RS}(h:x.Inv G)(g:Nat)(a:Bool)(d:x.kz<=g)(e:g<=c):({ x with kz:=g,lU:=a }:RS).Inv c:=⟨h.lC,h.pc,h.bl,h.rd,AK h.hg d,e,h.fin,h.lG,h.st⟩
def CS.Inv.lW(h:c.Inv T):c.lW.2.Inv T/\IE c.lW.1/\c.lW.1.length<=8:=by
 unfold CS.lW;split
 .refine⟨h.o7 c.closed c.said false,h.lQ.1.desc,?_⟩;have:=h.lQ.1.rl;have:=h.lQ.2;show c.lQ.rs.reverse.length<=8;rw[List.length_reverse];omega
 exact⟨h,λi a=>absurd a<|A6 i,AN _⟩
def CS.Inv.pN(h:c.Inv T)(e:T<=Db):Gv c.lW.2 c.lW.1:=by
 obtain⟨a,b,d⟩:=h.lW;have c:=a.next;have c:=a.fl;unfold Db at e;exact⟨a.ok<|by unfold Db;omega,a.lZ.1,b,I,c,by unfold Fo zF;omega⟩
def CS.Inv.hb(h:c.Inv T)(a:T<=Db):HB (4096*(T+1)) c:=λk c d=>((h.rs k c).used (by unfold Db at a;omega)).2 d
def CS.Inv.nX(h:c.Inv T)(e:T<=Db):Ss (4096*(T+1)) c.lW.2 c.lW.1 (12-c.kx.length+c.lW.1.length+1) c.lE:=by
 obtain⟨a,b,d⟩:=h.lW;exact Qr _ _ _ (h.pN e) (a.hb e) a.mC (by have:=a.now;unfold Db at e;unfold zF;omega)
def CS.Inv.lE(h:c.Inv T)(d:T<=Db):c.lE.2.Inv (T+1):=by
 have p:=h.nX d;obtain⟨a,_,d⟩:=h.lW;obtain⟨c,d,e,q,h,u,s,z⟩:=p.but.hd;obtain⟨c1,c2,c3,c4,f,t,v⟩:=p.but.tl;have o:=p.ok;exact
  {lZ:=by rw[c];exact a.lZ
   mj:=o.mj
   nA:=o.nA
   kz:=o.kz
   lA:=o.lA
   ws:=o.ws
   rs:=λk c=>by
    obtain⟨g,x,e,l⟩:=p.but.rs k c;rw[e];have r:=a.rs k c;have c:=a.mj;have c:=r.gr;refine r.again g x ?_ ?_
    .rcases l with⟨rfl,_⟩|⟨_,rfl⟩<;>omega
    rcases l with⟨rfl,_⟩|⟨u,rfl⟩<;>omega
   waits:=⟨o.waits,AK p.but.wl a.waits.2⟩
   fl:=p.fl
   mC:=p.mC
   now:=by rw[q];have:=a.now;omega
   next:=by have:=p.next;have:=a.next;have:=a.fl;unfold Fo at *;omega
   lQ:=by rw[s];exact a.lQ
   nd:=by rw[f];exact a.nd
   ids:=by rw[f];exact a.ids
   sl:=by rw[f];have:=a.sl;omega
   most:=by rw[t];exact a.most
   cl:=by rw[v];have:=a.cl;omega }
def Fh(e:EN):Array rt:=#[.string (zu e.wrote),.bool e.fin,.bool e.cut,.int .i64 e.lG,.int .i64 e.read,.int .i64 e.state]
def Kl(s:SN):Array rt:=#[.int .u64 s.id,.int .u64 s.dl,.string (zu s.data),.bool s.lC]
def zO(l:List (Nat×rC)):List rt:=l.flatMap λp=>[.int .i64 p.1,.string (zu p.2)]
def Eu(b:Nat):rt:=.pointer b
theorem kK(l:List (Nat×rC)):(zO l).length=l.length*2:=by
 induction l with
 | nil=>rfl
 | cons p l ih =>
  have e:zO (p::l)=[.int .i64 p.1,.string (zu p.2)]++zO l:=rfl;rw[e,AG,ih];simp only[AS,Ae];omega
structure NV where
 x:rt
 ev:rt
 gv:rt
 nx:rt
 bg:rt
 ct:rt
 b:Nat->Nat
 V:Nat->CV
 er:Nat->rt
 eb:Nat->Nat->Nat
 gr:Nat->rt
 gb:Nat->List Nat
def MU(n:NS)(M:NV):Array rt:=#[M.x,M.ev,M.gv,M.nx,.int .u64 n.now,.int .i64 n.lZ,.int .i64 n.lD,.int .i64 n.total,M.bg,M.ct]
structure Em(tag:rD)(r e sz:Nat)(v:rt)(n:Nat)(xs:rF)(W:rq):Prop where
 own:W.ownsRow 0 e sz v n xs
 tag:∀g,v.ownBlock=some g->tag g=(3,r)
structure Ew(tag:rD)(r b:Nat)(cs:Array rt)(t:Nat)(W:rq):Prop where
 obj:W.heap[b]?=some (.cells cs t (0,0))
 tag:tag b=(3,r)
section
variable {S:Nat->Prop} {tag ky:rD} {W W':rq}
variable{e:Nat}{v:rt}
def Em.mod{r n:Nat}(h:Em tag r e sz v n xs W)(m:DO S W W')(c:∀g,S g->tag g≠(3,r))(d:∀g,tag g≠(0,0)->ky g=tag g):Em ky r e sz v n xs W' :=
 ⟨m.owns h.own<|λg a x=>c g x<|h.tag g a,λg a=>by rw[d g (by rw[h.tag g a];simp),h.tag g a]⟩
variable{cs:Array rt}{t:Nat}
def Ew.mod{r:Nat}(h:Ew tag r b cs t W)(m:DO S W W')(a:∀g,S g->tag g≠(3,r))(c:∀g,tag g≠(0,0)->ky g=tag g):Ew ky r b cs t W' :=
 ⟨m.obj (λx=>a b x h.tag) h.obj,by rw[c b (by rw[h.tag];simp),h.tag]⟩
variable{j:Nat}
def Ew.cell{r:Nat}(h:Ew tag r b cs t W)(a:cs[j]?=some v):W (b,j)=some v:=za h.obj a
def Ew.fz{r:Nat}(h:Ew tag r b cs t W)(j:Nat):W.frozen? ⟨b,j,none⟩=false:=zg h.obj
end
structure Du(tag:rD)(nb:Nat)(n:NS)(M:NV)(W:rq):Prop where
 obj:Ew tag 0 nb (MU n M) 48 W
 x:Em tag 1 69 1 M.x 2 [Eu (M.b 0),Eu (M.b 1)] W
 ev:Em tag 2 87 1 M.ev 2 [M.er 0,M.er 1] W
 gv:Em tag 3 49 1 M.gv 2 [M.gr 0,M.gr 1] W
 nx:Em tag 4 43 1 M.nx 2 [.int .u64 (n.next 0:Int),.int .u64 (n.next 1:Int)] W
 ct:Em tag 5 43 1 M.ct 2 [.int .u64 (n.count 0:Int),.int .u64 (n.count 1:Int)] W
 bg:Em tag 6 62 2 M.bg n.lP.length (zO n.lP) W
 er:∀i,i<2->Em tag (7+i) 86 1 (M.er i) 8 ((List.range 8).map λk=>Eu<|M.eb i k) W
 en:∀i,i<2->∀k,k<8->Ew tag (20+8*i+k) (M.eb i k) (Fh<|n.e i k) 89 W
 gr:∀i,i<2->Em tag (9+i) 52 1 (M.gr i) (M.gb i).length ((M.gb i).map Eu) W
 gl:∀i,i<2->(M.gb i).length=(n.g i).length
 gn:∀i,i<2->∀(j b:Nat) (s:SN),(M.gb i)[j]?=some b->(n.g i)[j]?=some s->Ew tag (40+2*j+i) b (Kl s) 51 W
structure Ka(n n':NS):Prop where
 hd:n'.lZ=n.lZ/\n'.lD=n.lD/\n'.total=n.total/\n'.now=n.now/\n'.lP=n.lP
 e:∀i,i<2->n'.e i=n.e i
 g:∀i,i<2->n'.g i=n.g i
 ct:∀i,i<2->n'.next i=n.next i/\n'.count i=n.count i
def Ka.refl(n:NS):Ka n n:=⟨⟨rfl,rfl,rfl,rfl,rfl⟩,λ_ _=>rfl,λ_ _=>rfl,λ_ _=>⟨rfl,rfl⟩⟩
def Ka.lS(n:NS)(i:Nat)(c:CS):Ka n (n.lS i c):=⟨⟨rfl,rfl,rfl,rfl,rfl⟩,λ_ _=>rfl,λ_ _=>rfl,λ_ _=>⟨rfl,rfl⟩⟩
variable{M:NV}{n n':NS}{nb:Nat}
def Du.same(h:Du tag nb n M W)(s:Ka n n')(V:Nat->CV):Du tag nb n' { M with V:=V } W:=by
 obtain⟨a,c,d,f,l⟩:=s.hd;exact
  {obj:=by
    have e:MU n' { M with V:=V }=MU n M:=by unfold MU;rw[a,c,d,f]
    rw[e];exact h.obj
   x:=h.x
   ev:=h.ev
   gv:=h.gv
   nx:=by rw[(s.ct 0 lc).1,(s.ct 1 lc).1];exact h.nx
   ct:=by rw[(s.ct 0 lc).2,(s.ct 1 lc).2];exact h.ct
   bg:=by rw[l];exact h.bg
   er:=h.er
   en:=λi a k c=>by rw[s.e i a];exact h.en i a k c
   gr:=h.gr
   gl:=λi a=>by rw[s.g i a];exact h.gl i a
   gn:=λi a=>by rw[s.g i a];exact h.gn i a }
variable{S:Nat->Prop}{ky:rD}
def Du.mod(h:Du tag nb n M W)(m:DO S W W')(c:∀g,S g->(tag g).1≠3)(a:∀g,tag g≠(0,0)->ky g=tag g):Du ky nb n M W':=by
 have q:∀{r:Nat} g,S g->tag g≠(3,r):=λg x e=>c g x<|by rw[e]
 exact
  {obj:=h.obj.mod m q a
   x:=h.x.mod m q a
   ev:=h.ev.mod m q a
   gv:=h.gv.mod m q a
   nx:=h.nx.mod m q a
   ct:=h.ct.mod m q a
   bg:=h.bg.mod m q a
   er:=λi c=>(h.er i c).mod m q a
   en:=λi c k d=>(h.en i c k d).mod m q a
   gr:=λi c=>(h.gr i c).mod m q a
   gl:=h.gl
   gn:=λi c j b s hb d=>(h.gn i c j b s hb d).mod m q a }
structure DZ(w:rq)(tag:rD)(nb:Nat)(n:NS)(M:NV)(W:rq):Prop where
 o:Du tag nb n M W
 cn:∀i,i<2->zi tag (i+1) (M.b i) (n i) (M.V i) W
 env:D0 1 tag W
 nd:∀i,i<2->GD (i+1) tag
 mod:DO DQ w W
 t1:∀g,tag g≠(0,0)->w.heap.size<=g
def zw(w:rq)(tag:rD)(nb:Nat)(W:rq)(n':NS)(W':rq):Prop :=
 ∃ky M',DZ w ky nb n' M' W'/\(∀g,g<W.heap.size->ky g=tag g)/\DO (λg=>tag g≠(0,0)) W W'
variable{j:Nat}
def D0.to(h:D0 i tag W)(a:0<j):D0 j tag W:=⟨h.ok,a,h.err,h.tab,h.g0,h.g1⟩
def DZ.left(h:DZ w tag nb n M W):zw w tag nb W n W:=⟨tag,M,h,λ_ _=>rfl,DO.refl _ _⟩
variable{W'':rq}
def zw.trans(d:∀g,g<W.heap.size->ky g=tag g)(e:DO (λg=>tag g≠(0,0)) W W')(h:zw w ky nb W' n' W''):zw w tag nb W n' W'':=by
 obtain⟨t,M',a,b,c⟩:=h;refine⟨t,M',a,λg a=>(b g<|A7 a e.size).trans<|d g a,e.then c<|λg a=>?_⟩;by_cases q:g<W.heap.size
 .exact .inl (by rw[<-d g q];exact a)
 exact .inr I
def DZ.free(h:DZ w tag nb n M W)(m:DO S W W')(d:∀g,S g->W.heap.size<=g):DZ w tag nb n M W':=by
 have q:=λg c=>h.env.ok g<|d g c
 have a:DO DQ W W':=m.mono<|λg c=>.inr<|d g c;exact⟨h.o.mod a rm<|λ_ _=>rfl,λi c=>(h.cn i c).lK a,h.env.lK a,h.nd,h.mod.trans a,h.t1⟩
def Dk.qO(L:Dk tag i b W c' W')(hi:0<i)(f:GD i tag):∃ky c,zi ky i b c' c W'/\Di i tag ky W W'/\DO (λg=>(tag g).1=i) W W'/\GD i ky:=by
 obtain⟨t,c,a,e,m⟩:=L;refine⟨λg=>if (t g).1=i/\90<=(t g).2 then(0,0)else t g,c,a.n6<|λg r d a=>?_,⟨λg a=>?_,λg a=>?_,λg a=>?_⟩,m,λg r d=>?_⟩
 .rw[AH (by rw[a];simp only;omega),a]
 .show(if _ then _ else _)=_;rw[e.mL g a,AH];rintro⟨x,y⟩;exact f g (tag g).2 y<|by rw[<-x]
 .by_cases c:(t g).1=i/\90<=(t g).2
  .exact .inr (AM c)
  have y:(if (t g).1=i/\90<=(t g).2 then((0,0):Nat×Nat)else t g)=t g:=AH c;simp only[y];exact e.new g a
 .show(if _ then _ else _)=_;split
  .rfl
  exact e.z g a
 show(if _ then _ else _)≠_;split
 .intro x;have:=A8 Prod.fst x;simp only at this;omega
 rename_i c;intro x;rw[x]at c;exact c ⟨rfl,d⟩
def GD.other(h:GD j tag)(e:Di i tag ky W W')(c:0<j)(a:j≠i):GD j ky:=by
 intro g r c x;by_cases q:g<W.heap.size
 .rw[e.mL g q]at x;exact h g r c x
 rcases e.new g I with y|y
 .rw[x]at y;exact a y
 rw[x]at y;have:=A8 Prod.fst y;simp only at this;omega
def DZ.conn(h:DZ w tag nb n M W)(hi:i<2)(p:Dk tag (i+1) (M.b i) W c' W'):∃ky f,DZ w ky nb (n.lS i c') { M with V:=f } W'/\(∀g,g<W.heap.size->ky g=tag g)/\DO (λg=>(tag g).1=i+1) W W':=by
 obtain⟨ky,f,a,e,m,d⟩:=p.qO I<|h.nd i hi;have l:∀g,tag g≠(0,0)->ky g=tag g:=λg c=>by
  by_cases q:g<W.heap.size
  .exact e.mL g q
  exact absurd (h.env.ok g I) c
 refine⟨ky,ze M.V i f,⟨(h.o.mod m (λg c x=>I) l).same (Ka.lS n i c') _,λj o=>?_,?_,λj o=>?_,h.mod.then m<|λg c=>?_,λg c=>?_⟩,e.mL,m⟩
 .by_cases q:j=i
  .subst q;show zi ky (j+1) (M.b j) (ze n.c j c' j) (ze M.V j f j) W';rw[zf,zf];exact a
  show zi ky (j+1) (M.b j) (ze n.c i c' j) (ze M.V i f j) W';rw[zd _ _ q,zd _ _ q];exact(h.cn j o).mod m (λg c x=>I) (λg c=>l g<|λx=>by rw[x]at c;simp at c)
 .exact((h.env.to (j:=i+1) I).left e m).to I
 .by_cases q:j=i
  .subst q;exact d
  exact(h.nd j o).other e I I
 .refine .inr (h.t1 g<|λx=>?_);rw[x]at c;simp at c
 by_cases q:g<W.heap.size
 .exact h.t1 g (by rw[<-e.mL g q];exact c)
 have:=h.mod.size;omega
structure EN.Inv(e:EN):Prop where
 wl:e.wrote.length<=2048
 rd:e.read<=e.wrote.length
 lG:e.lG<=2048
structure NS.Inv(T:Nat)(n:NS):Prop where
 lZ:64<=n.lZ/\n.lZ<=400
 mj:(16<=n.lD/\n.lD<=4096)/\(16<=n.total/\n.total<=4096)
 c:∀i,i<2->(n i).Inv T
 e:∀i,i<2->∀k,k<8->(n.e i k).Inv
 now:n.now<=T
 next:∀i,i<2->n.next i<=4*T
 count:∀i,i<2->n.count i<=32*T
 gl:∀i,i<2->(n.g i).length<=T
 g:∀i,i<2->∀s∈n.g i,s.id<=4*T/\s.dl<=T+8/\s.data.length<=400
 bl:n.lP.length<=32*T
 lP:∀p∈n.lP,p.1<2/\0<p.2.length/\p.2.length<=400
def NS.Inv.mono{a:Nat}(h:n.Inv T)(c:T<=a):n.Inv a :=
 ⟨h.lZ,h.mj,λi a=>(h.c i a).mono c,h.e,AK h.now c,λi a=>pp<|h.next i a,λi a=>pp<|h.count i a,λi a=>AK (h.gl i a) c,λi a s c=>pp<|h.g i a s c,pp h.bl,h.lP⟩
def NS.Inv.lS(h:n.Inv T)(i:Nat)(d:i<2->c.Inv T):(n.lS i c).Inv T :=
 ⟨h.lZ,h.mj,λj a=>by
  show(ze n.c i c j).Inv T;by_cases q:j=i
  .subst q;rw[zf];exact d a
  rw[zd _ _ q];exact h.c j a,h.e,h.now,h.next,h.count,h.gl,h.g,h.bl,h.lP⟩
def NS.Inv.nC(h:n.Inv T)(i k:Nat){e:EN}(d:i<2->k<8->e.Inv):(n.nC i k e).Inv T :=
 ⟨h.lZ,h.mj,h.c,λj a q c=>by
  show(ze n.e i (ze (n.e i) k e) j q).Inv;by_cases x:j=i
  .subst x;rw[zf];by_cases y:q=k
   .subst y;rw[zf];exact d a c
   rw[zd _ _ y];exact h.e j a q c
  rw[zd _ _ x];exact h.e j a q c,h.now,h.next,h.count,h.gl,h.g,h.bl,h.lP⟩
def NS.Inv.send(h:n.Inv T)(i k:Nat)(s:rC):(n.send i k s).2.Inv T:=by
 have a:=h.lS i (c:=((n i).send k s).2)<|λc=>(h.c i c).send _ _;unfold NS.send;split
 .exact a
 split
 .exact a
 refine a.nC i k<|λc a=>?_;have e:=h.e i c k a;exact⟨by show((n.e i k).wrote++s).length<=_;rw[AG];omega,by have:=e.rd;show _<=((n.e i k).wrote++s).length;rw[AG];show(n.e i k).read<=_;omega,e.lG⟩
def NS.Inv.finish(h:n.Inv T)(i k:Nat):(n.finish i k).2.Inv T:=by
 have d:=h.lS i (c:=((n i).finish k).2)<|λa=>(h.c i a).finish _;unfold NS.finish;split
 .exact d
 refine d.nC i k<|λa c=>?_;have e:=h.e i a k c;exact⟨e.wl,e.rd,e.lG⟩
def NS.Inv.reset(h:n.Inv T)(i k:Nat)(b:Int):(n.reset i k b).2.Inv T:=by
 unfold NS.reset NS.nk;refine(h.lS i<|λa=>(h.c i a).reset _ _).nC i k (λa c=>?_);have e:=h.e i a k c;refine⟨e.wl,e.rd,?_⟩;have:=zU b ((n.e i k).wrote.length+1)<|Nat.succ_pos _;have:=e.wl;have:=e.lG;show(if _ then _ else _)<=_;split<;>omega
def NS.Inv.lH(h:n.Inv T)(i:Nat)(s:Dh):(n.lH i s).2.Inv (T+1):=by
 have f:=h.mono<|Bv T;unfold NS.lH;split
 .exact(h.lS i<|λl=>(h.c i l).lH _ _ _).mono (Bv T)
 have a:=(h.lS i (c:=((n i).lH (n.next i) (n.now+DR s.a 9) s.s).2)<|λl=>(h.c i l).lH _ _ _).mono<|Bv T;split
 .exact a
 split
 .exact a
 rename_i c _ _;have c:=zU s.a _ (I:0<9);have p3:=zU s.b _ (I:0<3);have c:=h.now;have c:=h.lZ;refine⟨a.lZ,a.mj,a.c,a.e,a.now,λj d=>?_,a.count,λj d=>?_,λj d x o=>?_,a.bl,a.lP⟩
 .show ze n.next i _ j<=_;by_cases q:j=i
  .subst q;have:=h.next j d;rw[zf];omega
  rw[zd _ _ q];exact f.next j d
 .show(ze n.g i _ j).length<=_;by_cases q:j=i
  .subst q;have:=h.gl j d;rw[zf,AG,Ac];omega
  rw[zd _ _ q];exact f.gl j d
 have e:x∈ze n.g i (n.g i++[⟨n.next i,n.now+DR s.a 9,s.s,false⟩]) j:=o;by_cases q:j=i
 .subst q;rw[zf]at e;rcases Ak.1 e with y|y
  .exact f.g j d x y
  rw[Af.1 y];have:=h.next j d;exact⟨by show n.next j<=_;omega,by show n.now+DR s.a 9<=_;omega,by show s.s.length<=_;omega⟩
 rw[zd _ _ q]at e;exact f.g j d x e
def NS.Inv.tick(h:n.Inv T):n.tick.Inv (T+1):=by
 have a:=h.mono<|Bv T;refine⟨a.lZ,a.mj,λi c=>?_,a.e,by have:=h.now;show n.now+1<=_;omega,a.next,a.count,a.gl,a.g,a.bl,a.lP⟩;show(ze (ze n.c 0 (n.c 0).tick) 1 (n.c 1).tick i).Inv _;by_cases q:i=1
 .subst q;rw[zf];exact(h.c 1 c).tick
 have:i=0:=I;subst this;rw[zd _ _ q,zf];exact(h.c 0 c).tick
def NS.Inv.drop(h:n.Inv T)(k:Nat):(n.drop k).Inv T:=by
 refine⟨h.lZ,h.mj,h.c,h.e,h.now,h.next,h.count,h.gl,h.g,?_,λp a=>?_⟩
 .have:=h.bl;show(n.lP.take k++n.lP.drop (k+1)).length<=_;rw[AG,AU,Ag];omega
 rcases Ak.1 a with x|x
 .exact h.lP p (BP x)
 exact h.lP p<|Bo x
theorem XH{b:rC}{n:Nat}(h:dec b=.ok n fs):0<b.length:=by
 cases b with
 | nil=>revert h;unfold dec;simp
 | cons x l=>simp
theorem PQ(i:Nat):∀(l:List rC) (n:NS),∃a m,(NS.mM i l n).2={ n with count:=ze n.count i a,lP:=n.lP++m }/\a<=n.count i+l.length/\m.length<=l.length/\∀p∈m,p.1=1-i/\0<p.2.length/\p.2.length<=n.lZ
 | [],n=>⟨n.count i,[],by show n=_;rw[Fd,Bw],AF _,AF _,λp c=>(by cases c)⟩
 | b::l,n=>by
  have same:∃a m,n={ n with count:=ze n.count i a,lP:=n.lP++m }/\a<=n.count i+(b::l).length/\m.length<=(b::l).length/\∀p∈m,p.1=1-i/\0<p.2.length/\p.2.length<=n.lZ :=
   ⟨n.count i,[],by rw[Fd,Bw],I,AN _,λp c=>(by cases c)⟩
  unfold NS.mM;cases hd:dec b with
  | sum=>exact same
  | bad p=>exact same
  | ok num fs =>
   simp only;split
   .exact same
   rename_i d;split
   .exact⟨n.count i+1,[],by rw[Bw],lm,AN _,λp c=>(by cases c)⟩
   obtain⟨a,m,d,f,o,h⟩:=PQ i l { n with count:=ze n.count i<|n.count i+1,lP:=n.lP++[(1-i,b)] };refine⟨a,(1-i,b)::m,?_,?_,by simp only[AS];omega,λp c=>?_⟩
   .rw[d];have e:ze (ze n.count i<|n.count i+1) i a=ze n.count i a:=by
     funext j;by_cases q:j=i
     .subst q;rw[zf,zf]
     rw[zd _ _ q,zd _ _ q,zd _ _ q]
    simp only[e,Ap,List.singleton_append]
   .simp only[zf]at f;simp only[AS];omega
   rcases Ay.1 c with x|x
   .rw[x];exact⟨rfl,XH hd,by show b.length<=_;omega⟩
   exact h p x
def NS.Inv.flush(e:T<=Db)(h:n.Inv T)(hi:i<2):(n.flush i).2.Inv (T+1):=by
 have d:=(h.c i hi).nX e;have a:=(h.c i hi).lW.2.2;have a:(n i).lE.1.length<=21:=pp d.z.1;have a:=(h.mono<|Bv T).lS i (c:=(n i).lE.2)<|λ_=>(h.c i hi).lE e;unfold NS.flush;obtain⟨c,m,e,l,o,f⟩:=PQ i (n i).lE.1<|n.lS i (n i).lE.2;rw[e];have e:=h.count i hi;have hb:=h.bl;have e:=h.lZ;have e:(n.lS i (n i).lE.2).count=n.count:=rfl;have o:(n.lS i (n i).lE.2).lP=n.lP:=rfl;have o:(n.lS i (n i).lE.2).lZ=n.lZ:=rfl;rw[e]at l;rw[o]at f;refine⟨a.lZ,a.mj,a.c,a.e,a.now,a.next,λj s=>?_,a.gl,a.g,?_,λp d=>?_⟩
 .show ze n.count i c j<=_;by_cases q:j=i
  .subst q;rw[zf];omega
  rw[zd _ _ q];have:=h.count j s;omega
 .show(n.lP++m).length<=_;rw[AG];omega
 rcases Ak.1 d with x|x
 .exact h.lP p x
 obtain⟨a,b,d⟩:=f p x;exact⟨I,b,I⟩
theorem PU(now id:Nat)(data:rC):∀(l:List SN) (r:Bool),(EL now id data l r).2.length=l.length/\∀s∈(EL now id data l r).2,∃s'∈l,s.id=s'.id/\s.dl=s'.dl/\s.data=s'.data
 | [],r=>⟨rfl,λs c=>(by cases c)⟩
 | g::l,r=>by
  unfold EL;split
  .obtain⟨a,b⟩:=PU now id data l<|g.data==data && !g.lC&&decide (now<=g.dl);refine⟨by simp only[AS,a],λs c=>?_⟩;rcases Ay.1 c with x|x
   .exact⟨g,AQ,by rw[x];exact ri⟩
   obtain⟨s',d,e⟩:=b s x;exact⟨s',AV _ d,e⟩
  obtain⟨a,b⟩:=PU now id data l r;refine⟨by simp only[AS,a],λs c=>?_⟩;rcases Ay.1 c with x|x
  .exact⟨g,AQ,by rw[x];exact ri⟩
  obtain⟨s',d,e⟩:=b s x;exact⟨s',AV _ d,e⟩
theorem Pc(now:Nat):∀(l:List (Nat×rC)) (G:List SN),(FK now l G).2.length=G.length/\∀s∈(FK now l G).2,∃s'∈G,s.id=s'.id/\s.dl=s'.dl/\s.data=s'.data
 | [],G=>⟨rfl,λs c=>⟨s,c,rfl,rfl,rfl⟩⟩
 | m::l,G=>by
  obtain⟨a,b⟩:=PU now m.1 m.2 G false;unfold FK;split
  .obtain⟨d,e⟩:=Pc now l (EL now m.1 m.2 G false).2;refine⟨d.trans a,λs c=>?_⟩;obtain⟨s',d,f,h,l⟩:=e s c;obtain⟨c,e,o,p,q⟩:=b s' d;exact⟨c,e,f.trans o,h.trans p,l.trans q⟩
  exact⟨a,b⟩
def NS.Inv.lC(h:n.Inv T)(i:Nat):(n.lC i).2.Inv T:=by
 have d:=h.lS i (c:=(n i).lO.2)<|λc=>(h.c i c).lO;obtain⟨a,b⟩:=Pc n.now (n i).lO.1<|n.g<|1-i;refine⟨d.lZ,d.mj,d.c,d.e,d.now,d.next,d.count,λj f=>?_,λj f s l=>?_,d.bl,d.lP⟩
 .show(ze n.g (1-i) _ j).length<=_;by_cases q:j=1-i
  .subst q;rw[zf,a];exact h.gl _ f
  rw[zd _ _ q];exact h.gl j f
 have e:s∈ze n.g (1-i) (FK n.now (n i).lO.1<|n.g<|1-i).2 j:=l;by_cases q:j=1-i
 .subst q;rw[zf]at e;obtain⟨a,c,d,l,o⟩:=b s e;rw[d,l,o];exact h.g _ f a c
 rw[zd _ _ q]at e;exact h.g j f s e
def NS.Inv.recv(h:n.Inv T)(i:Nat)(b:rC)(a:T+b.length<=Db):(n.recv i b).2.2.Inv (T+b.length):=by
 unfold NS.recv;exact((h.mono<|DN T b.length).lS i<|λc=>(h.c i c).lM a).lC i
def Vi(b:rC)(x:UInt8)(a:k<b.length):(Hy b k x).length=b.length:=by
 unfold Hy;simp only[AG,AU,Ag,Ac];omega
def NS.Inv.carry(h:n.Inv T)(s:Dh)(c:T+400<=Db):(n.carry s).2.Inv (T+400):=by
 have a:=h.mono (I:T<=T+400);unfold NS.carry;split
 .exact a
 rename_i hb;have c:DR s.a n.lP.length<n.lP.length:=zU _ _<|BM.2 hb;have d:n.lP.getD (DR s.a n.lP.length) (0,[])∈n.lP:=by simp[List.getD,c]
 obtain⟨_,p1,p2⟩:=h.lP _ d;generalize DR s.a n.lP.length=k at *;generalize n.lP.getD k (0,[])=f at *;unfold NS.nR;split
 .have c:(if DR s.b 2=0 then n.drop k else n).Inv T:=by
   split
   .exact h.drop k
   exact h
  exact(c.recv f.1 f.2 I).mono I
 split
 .exact a.drop k
 split
 .have e:=Vi f.2 (IS s.s)<|zU s.b _ p1;exact(h.recv f.1 _ I).mono I
 exact a
def NS.Inv.read(h:n.Inv T)(i k a:Nat):(n.read i k a).2.Inv T:=by
 have e:=h.lS i (c:=((n i).read k a).2)<|λc=>(h.c i c).read _ _;unfold NS.read;split
 .exact e
 rename_i d;refine e.nC (1-i) k<|λc f=>?_;have e:=h.e (1-i) c k f;unfold EN.mP at d;simp only[CO,BW,Aj]at d;obtain⟨⟨⟨⟨_,_⟩,c⟩,_⟩,_⟩:=d;refine⟨e.wl,by show(n.e (1-i) k).read+((n i).read k a).1.1.length<=(n.e (1-i) k).wrote.length;omega,e.lG⟩
def GF(c:Int):DR c 2<2:=zU c 2 I
def NS.Inv.step(h:n.Inv T)(s:Dh)(a:T+401<=Db):(n.step s).2.Inv (T+401):=by
 have a:∀{m:NS} {c:Nat},m.Inv c->c<=T+401->m.Inv (T+401):=λx y=>x.mono y
 unfold NS.step;split
 .exact a (h.send _ _ _) I
 split
 .exact a (h.finish _ _) I
 split
 .exact a (h.reset _ _ _) I
 split
 .exact a (h.lH _ _) I
 split
 .exact a (h.tick.carry s I) I
 split
 .exact a (h.flush I<|GF _) I
 split
 .exact a (h.read _ _ _) I
 exact a (h.carry s I) I
def NS.Up(n:NS):Prop:=∀i,i<2->(n i).closed=0
def NS.Up.lS(h:n.Up)(i:Nat)(d:i<2->c.closed=0):(n.lS i c).Up:=by
 intro j a;show(ze n.c i c j).closed=0;by_cases q:j=i
 .subst q;rw[zf];exact d a
 rw[zd _ _ q];exact h j a
def iW(c:CS)(k:Int)(s:rC):(c.send k s).2.closed=c.closed:=by
 unfold CS.send;split
 .rfl
 split
 .rfl
 split<;>rfl
def jv(c:CS)(k:Int):(c.finish k).2.closed=c.closed:=by
 unfold CS.finish;split
 .rfl
 split<;>rfl
def jp(c:CS)(k n:Int):(c.reset k n).2.closed=c.closed:=by
 unfold CS.reset;split<;>rfl
def WN(c:CS)(id a:Nat)(s:rC):(c.lH id a s).2.closed=c.closed:=by
 unfold CS.lH;split
 .rfl
 split
 .rfl
 split
 .rfl
 split<;>rfl
def VU(c:CS):c.nF.closed=c.closed:=by
 rw[Hj];exact(I9 c.kx c).hd.2.2.2.2.1
def VT(c:CS):c.tick.closed=c.closed:=VU c.lX
def jo(c:CS)(l:zE):(c.ln l).2.closed=c.closed:=by
 by_cases a:c.next<=DP l 0
 .unfold CS.ln;rw[AM a]
 rw[Ou c l a];exact(VU<|c.mS l).trans (Jq l c.kx _).hd.2.2.2.2.1
def iV(c:CS)(k n:Int):(c.read k n).2.closed=c.closed:=by
 unfold CS.read;split
 .rfl
 split<;>rfl
def iU(c:CS)(f:DV):(c.take f).2.closed=c.closed:=by
 unfold CS.take;split
 .exact jo c _
 split
 .unfold CS.lq;split<;>rfl
 split
 .unfold CS.data;split
  .rfl
  split<;>rfl
 split
 .rfl
 split
 .rfl
 split
 .unfold CS.message;split<;>rfl
 split<;>rfl
theorem Rf:∀(a:List DV) (c:CS),(CS.lk a c).1=0->(CS.lk a c).2.closed=c.closed
 | [],_,_=>rfl
 | f::a,c,h=>by
  unfold CS.lk at h ⊢;split at h
  .rename_i d;exact absurd h d
  rename_i d;rw[AH d];exact(Rf a _ h).trans (iU c f)
def fP(c:CS)(f:DV):(c.take f).1≠7:=by
 unfold CS.take;split
 .unfold CS.ln;split<;>simp
 split
 .unfold CS.lq;split<;>simp
 split
 .unfold CS.data;split
  .simp
  split<;>simp
 split
 .simp
 split
 .simp
 split
 .simp
 split<;>simp
theorem VS:∀(a:List DV) (c:CS),(CS.lk a c).1≠7
 | [],_=>by simp[CS.lk]
 | f::a,c=>by
  unfold CS.lk;split
  .exact fP c f
  exact VS a _
theorem kT(c:CS)(bs:rC)(h:(c.lM bs).1.1=0\/(c.lM bs).1.1=7)(a:c.closed=0):(c.lM bs).2.closed=0:=by
 unfold CS.lM at h ⊢;rw[AH I]at h ⊢;cases hd:dec bs with
 | sum=>exact a
 | bad p =>
  rw[hd]at h;simp at h
 | ok n fs =>
  rw[hd]at h;simp only at h ⊢;split at h
  .rename_i hb;rw[AM hb];exact a
  rename_i hb;rw[AH hb];rcases h with h|h
  .exact(Rf fs _ h).trans a
  exact absurd h<|VS fs _
def NS.Up.lE(a:T<=Db)(h:n.Inv T)(u:n.Up)(hi:i<2):(n i).lE.2.closed=0:=by
 have e:=((h.c i hi).nX a).but.hd.2.2.2.2.1;rw[e];have a:(n i).lW.2.closed=(n i).closed:=by
  unfold CS.lW;split<;>rfl
 rw[a];exact u i hi
def NS.Up.flush(a:T<=Db)(h:n.Inv T)(u:n.Up)(hi:i<2):(n.flush i).2.Up:=by
 unfold NS.flush;obtain⟨d,m,c,_⟩:=PQ i (n i).lE.1<|n.lS i (n i).lE.2;rw[c];exact u.lS i<|λ_=>u.lE a h hi
def NS.Up.send(u:n.Up)(i k:Nat)(s:rC):(n.send i k s).2.Up:=by
 have a:=u.lS i (c:=((n i).send k s).2)<|λc=>(iW _ _ _).trans<|u i c;unfold NS.send;split
 .exact a
 split<;>exact a
def NS.Up.finish(u:n.Up)(i k:Nat):(n.finish i k).2.Up:=by
 have a:=u.lS i (c:=((n i).finish k).2)<|λc=>(jv _ _).trans<|u i c;unfold NS.finish;split<;>exact a
def NS.Up.reset(u:n.Up)(i k:Nat)(b:Int):(n.reset i k b).2.Up:=by
 unfold NS.reset NS.nk;exact u.lS i<|λa=>(jp _ _ _).trans<|u i a
def NS.Up.lH(u:n.Up)(i:Nat)(s:Dh):(n.lH i s).2.Up:=by
 unfold NS.lH;split
 .exact u.lS i (λa=>(WN _ _ _ _).trans<|u i a)
 have d:=u.lS i (c:=((n i).lH (n.next i) (n.now+DR s.a 9) s.s).2)<|λa=>(WN _ _ _ _).trans<|u i a;split
 .exact d
 split<;>exact d
def NS.Up.tick(u:n.Up):n.tick.Up:=by
 intro i a;show(ze (ze n.c 0 (n.c 0).tick) 1 (n.c 1).tick i).closed=0;by_cases q:i=1
 .subst q;rw[zf];exact(VT _).trans (u 1 a)
 have:i=0:=I;subst this;rw[zd _ _ q,zf];exact(VT _).trans (u 0 a)
def NS.Up.lC(u:n.Up)(i:Nat):(n.lC i).2.Up:=u.lS i (c:=(n i).lO.2) (λa=>u i a)
def NS.Up.recv(u:n.Up)(i:Nat)(b:rC)(h:(n.recv i b).1=0\/(n.recv i b).1=7):(n.recv i b).2.2.Up :=
 NS.Up.lC (u.lS i (c:=((n i).lM b).2)<|λa=>kT _ _ h<|u i a) i
def NS.Up.drop(u:n.Up)(k:Nat):(n.drop k).Up:=u
def NS.Up.carry(u:n.Up)(s:Dh)(h:(n.carry s).1=true):(n.carry s).2.Up:=by
 unfold NS.carry at h ⊢;split at h
 .rename_i hb;rw[AM hb];exact u
 rename_i hb;rw[AH hb];generalize DR s.a n.lP.length=k at *;generalize n.lP.getD k (0,[])=f at *;unfold NS.nR at h ⊢;split at h
 .rename_i a;rw[AM a];have c:(if DR s.b 2=0 then n.drop k else n).Up:=by
   split
   .exact u.drop k
   exact u
  simp only[AZ,Ce]at h;exact c.recv f.1 f.2<|.inl h.1
 rename_i a;rw[AH a];split at h
 .rename_i a;rw[AM a];exact u.drop k
 rename_i a;rw[AH a];split at h
 .rename_i a;rw[AM a];simp only[AZ,Ce]at h;exact u.recv f.1 _<|.inr h.1
 rename_i a;rw[AH a];exact u
def NS.Up.read(u:n.Up)(i k a:Nat):(n.read i k a).2.Up:=by
 have d:=u.lS i (c:=((n i).read k a).2)<|λa=>(iV _ _ _).trans<|u i a;unfold NS.read;split<;>exact d
def NS.Up.step(h:n.Inv T)(u:n.Up)(s:Dh)(a:T+401<=Db)(ok:(n.step s).1=true):(n.step s).2.Up:=by
 unfold NS.step at ok ⊢;split at ok
 .rename_i e;rw[AM e];exact u.send _ _ _
 rename_i e;rw[AH e];split at ok
 .rename_i e;rw[AM e];exact u.finish _ _
 rename_i e;rw[AH e];split at ok
 .rename_i e;rw[AM e];exact u.reset _ _ _
 rename_i e;rw[AH e];split at ok
 .rename_i e;rw[AM e];exact u.lH _ _
 rename_i e;rw[AH e];split at ok
 .rename_i e;rw[AM e];exact u.tick.carry s ok
 rename_i e;rw[AH e];split at ok
 .rename_i e;rw[AM e];exact NS.Up.flush I h u<|GF _
 rename_i e;rw[AH e];split at ok
 .rename_i e;rw[AM e];exact u.read _ _ _
 rename_i e;rw[AH e];exact u.carry s ok
section
variable {S:Nat->Prop} {tag ky:rD} {w W W':rq} {nb:Nat} {n n':NS} {M M':NV}
def DZ.own(h:DZ w tag nb n M W)(o:Du ky nb n' M' W')(l:n'.c=n.c)(hb:M'.b=M.b)(p:M'.V=M.V)(m:DO S W W')(f:∀g,S g->(tag g).1=3\/W.heap.size<=g)(e:Di 3 tag ky W W'):DZ w ky nb n' M' W':=by
 have c:∀g,tag g≠(0,0)->ky g=tag g:=λg a=>by
  by_cases q:g<W.heap.size
  .exact e.mL g q
  exact absurd (h.env.ok g I) a
 have d:=m.mono f;refine⟨o,λi f=>?_,((h.env.to (j:=3) I).left e d).to I,λi f=>(h.nd i f).other e I I,h.mod.then d<|λg a=>.inr<|h.t1 g<|λx=>?_,λg a=>?_⟩
 .rw[l,hb,p];exact(h.cn i f).mod d (λg a x=>I) (λg a=>c g<|λx=>by rw[x]at a;simp at a)
 .rw[x]at a;simp at a
 by_cases q:g<W.heap.size
 .exact h.t1 g (by rw[<-e.mL g q];exact a)
 have:=h.mod.size;omega
variable{cs:Array rt}{t:Nat}
def Ew.mz{r:Nat}{a:Array rt}(h:Ew tag r b cs t W)(obj:W'.heap[b]?=some (.cells a t (0,0))):Ew tag r b a t W':=⟨obj,h.tag⟩
variable{e:Nat}{v:rt}
def Em.kept{r a:Nat}(h:Em tag r e sz v q xs W)(m:DO (λg=>g=b) W W')(hb:tag b=(3,a))(c:r≠a):Em tag r e sz v q xs W' :=
 h.mod m (λg a x=>by rw[show g=b from a,hb]at x;simp at x;exact c x.symm) (λ_ _=>rfl)
def Ew.kept{r a c:Nat}(h:Ew tag r c cs t W)(m:DO (λg=>g=b) W W')(hb:tag b=(3,a))(d:r≠a):Ew tag r c cs t W' :=
 h.mod m (λg a x=>by rw[show g=b from a,hb]at x;simp at x;exact d x.symm) (λ_ _=>rfl)
def Du.oi(h:Du tag nb n M W)(hi:i<2)(f:k<8)(a:EN)(m:DO (λg=>g=M.eb i k) W W')(obj:W'.heap[M.eb i k]?=some (.cells (Fh a) 89 (0,0))):Du tag nb (n.nC i k a) M W':=by
 have c:=(h.en i hi k f).tag;exact
  {obj:=h.obj.kept m c I
   x:=h.x.kept m c I
   ev:=h.ev.kept m c I
   gv:=h.gv.kept m c I
   nx:=h.nx.kept m c I
   ct:=h.ct.kept m c I
   bg:=h.bg.kept m c I
   er:=λj d=>(h.er j d).kept m c I
   en:=λj d q e=>by
    show Ew tag (20+8*j+q) (M.eb j q) (Fh<|ze n.e i (ze (n.e i) k a) j q) 89 W';by_cases x:j=i
    .subst x;rw[zf];by_cases y:q=k
     .subst y;rw[zf];exact(h.en j d q e).mz obj
     rw[zd _ _ y];exact(h.en j d q e).kept m c I
    rw[zd _ _ x];exact(h.en j d q e).kept m c I
   gr:=λj d=>(h.gr j d).kept m c I
   gl:=h.gl
   gn:=λj d a b s hb e=>(h.gn j d a b s hb e).kept m c I }
def Du.head(h:Du tag nb n M W)(s:n'.lZ=n.lZ/\n'.lD=n.lD/\n'.total=n.total/\n'.lP=n.lP)(f:n'.e=n.e)(e:n'.g=n.g)(a:n'.next=n.next/\n'.count=n.count)(m:DO (λg=>g=nb) W W')(obj:W'.heap[nb]?=some (.cells (MU n' M) 48 (0,0))):Du tag nb n' M W':=by
 have c:=h.obj.tag;obtain⟨l,o,p,d⟩:=s;exact
  {obj:=h.obj.mz obj
   x:=h.x.kept m c I
   ev:=h.ev.kept m c I
   gv:=h.gv.kept m c I
   nx:=by rw[a.1];exact h.nx.kept m c I
   ct:=by rw[a.2];exact h.ct.kept m c I
   bg:=by rw[d];exact h.bg.kept m c I
   er:=λj d=>(h.er j d).kept m c I
   en:=λj d q a=>by rw[f];exact(h.en j d q a).kept m c I
   gr:=λj d=>(h.gr j d).kept m c I
   gl:=by rw[e];exact h.gl
   gn:=λj d a b s hb f=>by rw[e]at f;exact(h.gn j d a b s hb f).kept m c I }
def Du.om(h:Du tag nb n M W)(v:rt)(l:List (Nat×rC))(m:DO S W W')(a:∀g,S g->tag g=(3,0)\/tag g=(3,6)\/tag g=(0,0))(c:∀g,tag g≠(0,0)->ky g=tag g)
  (obj:W'.heap[nb]?=some (.cells (MU { n with lP:=l } { M with bg:=v }) 48 (0,0))) (row:W'.ownsRow 0 62 2 v l.length (zO l)) (d:∀g,v.ownBlock=some g->ky g=(3,6)):Du ky nb { n with lP:=l } { M with bg:=v } W':=by
 have q:∀{r:Nat},r≠0->r≠6->∀g,S g->tag g≠(3,r):=λe f g l x=>by
  rcases a g l with y|y|y<;>rw[x]at y<;>simp at y
  .exact e y
  exact f y
 exact
  {obj:=⟨obj,by rw[c nb (by rw[h.obj.tag];simp),h.obj.tag]⟩
   x:=h.x.mod m (q I I) c
   ev:=h.ev.mod m (q I I) c
   gv:=h.gv.mod m (q I I) c
   nx:=h.nx.mod m (q I I) c
   ct:=h.ct.mod m (q I I) c
   bg:=⟨row,d⟩
   er:=λj d=>(h.er j d).mod m (q I I) c
   en:=λj d a e=>(h.en j d a e).mod m (q I I) c
   gr:=λj d=>(h.gr j d).mod m (q I I) c
   gl:=h.gl
   gn:=λj d a b s hb e=>(h.gn j d a b s hb e).mod m (q I I) c }
def QW(v:rt)(h:W.ownsRow 0 e 1 (.slice g N cap) N xs):(W.setCell (g,i) v).ownsRow 0 e 1 (.slice g N cap) N (xs.set i v):=by
 have c:=h.1;rcases h.2 with⟨e,_⟩|⟨h,a,d,e,_,f,l,o,p,q⟩
 .cases e
 cases e;refine⟨by rw[Bf];exact c,.inr ⟨g,cap,_,rfl,AN _,zc f,l,o,by simp[p],?_⟩⟩;rw[<-q];simp[DK]
def Ij(h:W.ownsRow 0 e 1 (.slice g N cap) N xs)(a:xs[i]?=some v):W (g,i)=some v/\W.frozen? ⟨g,i,none⟩=false:=by
 have c:=h.1;rcases h.2 with⟨e,_⟩|⟨h,c,f,e,_,d,o,p,q,l⟩
 .cases e
 cases e;have c:=(AO.1 a).1;refine⟨za d ?_,zg d⟩;rw[<-l,BH I,Bk]at a;exact a
def Ub(h:W.ownsRow 0 e sz v N xs)(c:0<N):∃g a,v=.slice (some ⟨g,0,none⟩) N a/\N<=a/\a<=maxLen:=by
 rcases h.2 with⟨_,e⟩|⟨g,a,c,rfl,_,_,d,f,_⟩
 .omega
 exact⟨g,a,rfl,d,f⟩
def Em.form{r:Nat}(h:Em tag r e sz v N xs W)(d:0<N):∃g a,v=.slice (some ⟨g,0,none⟩) N a/\N<=a/\a<=maxLen/\tag g=(3,r):=by
 obtain⟨g,a,c,e,f⟩:=Ub h.own d;exact⟨g,a,c,e,f,h.tag g<|by rw[c];rfl⟩
def Du.qi(h:Du tag nb n M W)(hi:i<2)(x:Nat)(d:M.nx=.slice g 2 cap):Du tag nb { n with next:=ze n.next i x } M (W.setCell (g,i) (.int .u64 x)):=by
 have c:=h.nx.tag g (by rw[d];rfl);have m:DO (λq=>q=g) W (W.setCell (g,i)<|.int .u64 x):=(DO.refl (λq=>q=g) W).setCell (p:=(g,i)) rj _;exact
  {obj:=h.obj.kept m c I
   x:=h.x.kept m c I
   ev:=h.ev.kept m c I
   gv:=h.gv.kept m c I
   nx:=by
    have a:=h.nx;rw[d]at a;refine⟨?_,h.nx.tag⟩;rw[d];have b:=QW (i:=i) (.int .u64 x) a.own;rcases(I:i=0\/i=1)with rfl|rfl
    .exact b
    exact b
   ct:=h.ct.kept m c I
   bg:=h.bg.kept m c I
   er:=λj d=>(h.er j d).kept m c I
   en:=λj d q e=>(h.en j d q e).kept m c I
   gr:=λj d=>(h.gr j d).kept m c I
   gl:=h.gl
   gn:=λj d a b s hb e=>(h.gn j d a b s hb e).kept m c I }
def Du.qn(h:Du tag nb n M W)(hi:i<2)(x:Nat)(d:M.ct=.slice g 2 cap):Du tag nb { n with count:=ze n.count i x } M (W.setCell (g,i) (.int .u64 x)):=by
 have c:=h.ct.tag g (by rw[d];rfl);have m:DO (λq=>q=g) W (W.setCell (g,i)<|.int .u64 x):=(DO.refl (λq=>q=g) W).setCell (p:=(g,i)) rj _;exact
  {obj:=h.obj.kept m c I
   x:=h.x.kept m c I
   ev:=h.ev.kept m c I
   gv:=h.gv.kept m c I
   nx:=h.nx.kept m c I
   ct:=by
    have a:=h.ct;rw[d]at a;refine⟨?_,h.ct.tag⟩;rw[d];have b:=QW (i:=i) (.int .u64 x) a.own;rcases(I:i=0\/i=1)with rfl|rfl
    .exact b
    exact b
   bg:=h.bg.kept m c I
   er:=λj d=>(h.er j d).kept m c I
   en:=λj d q e=>(h.en j d q e).kept m c I
   gr:=λj d=>(h.gr j d).kept m c I
   gl:=h.gl
   gn:=λj d a b s hb e=>(h.gn j d a b s hb e).kept m c I }
def Du.pA(h:Du tag nb n M W)(hi:i<2)(hb:(M.gb i)[j]?=some b)(p:SN)(m:DO (λg=>g=b) W W')(obj:W'.heap[b]?=some (.cells (Kl p) 51 (0,0))):Du tag nb { n with g:=ze n.g i ((n.g i).set j p) } M W':=by
 have f:j<(n.g i).length:=by
  have:=(AO.1 hb).1;have:=h.gl i hi;omega
 have e:=(h.gn i hi j b _ hb<|AJ f).tag;exact
  {obj:=h.obj.kept m e I
   x:=h.x.kept m e I
   ev:=h.ev.kept m e I
   gv:=h.gv.kept m e I
   nx:=h.nx.kept m e I
   ct:=h.ct.kept m e I
   bg:=h.bg.kept m e I
   er:=λj f=>(h.er j f).kept m e I
   en:=λj f q l=>(h.en j f q l).kept m e I
   gr:=λj f=>(h.gr j f).kept m e I
   gl:=λq l=>by
    show _=(ze n.g i _ q).length;by_cases x:q=i
    .subst x;rw[zf,Bf];exact h.gl q l
    rw[zd _ _ x];exact h.gl q l
   gn:=λq l a c s o t=>by
    have d:(ze n.g i ((n.g i).set j p) q)[a]?=some s:=t;by_cases x:q=i
    .subst x;rw[zf]at d;by_cases y:a=j
     .subst y;rw[hb]at o;cases o;rw[List.getElem?_set_self f]at d;cases d;exact⟨obj,e⟩
     rw[List.getElem?_set_ne I]at d;exact(h.gn q l a c s o d).kept m e I
    rw[zd _ _ x]at d;exact(h.gn q l a c s o d).kept m e I }
def Du.pB(h:Du tag nb n M W)(hi:i<2)(o:SN)(v:rt)(m:DO S W W')(p:∀g,S g->tag g=(3,3)\/tag g=(3,9+i)\/tag g=(0,0))(l:∀g,tag g≠(0,0)->ky g=tag g)
  (gv:Em ky 3 49 1 M.gv 2 [ze M.gr i v 0,ze M.gr i v 1] W')
  (row:W'.ownsRow 0 52 1 v ((M.gb i).length+1) ((M.gb i++[b]).map Eu)) (t:∀g,v.ownBlock=some g->ky g=(3,9+i)) (obj:W'.heap[b]?=some (.cells (Kl o) 51 (0,0))) (u:ky b=(3,40+2*(M.gb i).length+i)) :
  Du ky nb { n with g:=ze n.g i (n.g i++[o]) } { M with gr:=ze M.gr i v,gb:=ze M.gb i (M.gb i++[b]) } W':=by
 have q:∀{r:Nat},r≠3->r≠9+i->∀g,S g->tag g≠(3,r):=λz A g B x=>by
  rcases p g B with y|y|y<;>rw[x]at y<;>simp at y
  .exact z y
  exact A y
 exact
  {obj:=h.obj.mod m (q I I) l
   x:=h.x.mod m (q I I) l
   ev:=h.ev.mod m (q I I) l
   gv:=gv
   nx:=h.nx.mod m (q I I) l
   ct:=h.ct.mod m (q I I) l
   bg:=h.bg.mod m (q I I) l
   er:=λj f=>(h.er j f).mod m (q I I) l
   en:=λj f a p=>(h.en j f a p).mod m (q I I) l
   gr:=λj f=>by
    show Em ky (9+j) 52 1 (ze M.gr i v j) (ze M.gb i (M.gb i++[b]) j).length ((ze M.gb i (M.gb i++[b]) j).map Eu) W';by_cases x:j=i
    .subst x;rw[zf,zf,AG,Ac];exact⟨row,t⟩
    rw[zd _ _ x,zd _ _ x];exact(h.gr j f).mod m (q I I) l
   gl:=λj f=>by
    show(ze M.gb i (M.gb i++[b]) j).length=(ze n.g i (n.g i++[o]) j).length;by_cases x:j=i
    .subst x;rw[zf,zf,AG,AG,h.gl j f];rfl
    rw[zd _ _ x,zd _ _ x];exact h.gl j f
   gn:=λj f a c s p t=>by
    have d:(ze M.gb i (M.gb i++[b]) j)[a]?=some c:=p;have e:(ze n.g i (n.g i++[o]) j)[a]?=some s:=t;by_cases x:j=i
    .subst x;rw[zf]at d e;have E:=h.gl j f;by_cases y:a<(M.gb j).length
     .rw[Al y]at d;rw[Al I]at e;exact(h.gn j f a c s d e).mod m (q I I) l
     have o:=(AO.1 d).1;rw[AG,Ac]at o;have:a=(M.gb j).length:=I;subst this;rw[Aa ro,Ch]at d;rw[Aa I,<-E,Ch]at e;cases d;cases e;exact⟨obj,u⟩
    rw[zd _ _ x]at d e;exact(h.gn j f a c s d e).mod m (q I I) l }
end
section
variable {tag:rD} {W:rq} {nb:Nat} {n:NS} {M:NV}
def Du.ny(h:Du tag nb n M W)(hi:i<2)(l:k<8):∃g d q c,W (nb,1)=some (.slice (some ⟨g,0,none⟩) 2 d)/\(2<=d/\d<=9223372036854775807)/\W ⟨g,i,none⟩=some (.slice (some ⟨q,0,none⟩) 8 c)/\(8<=c/\c<=9223372036854775807)/\W ⟨q,k,none⟩=some (.pointer (M.eb i k,0)):=by
 obtain⟨g,d,e,o,p,_⟩:=h.ev.form I;obtain⟨q,c,f,s,t,_⟩:=(h.er i hi).form I;have c0:W (nb,1)=some M.ev:=h.obj.cell (j:=1) rfl;rw[e]at c0;have a:=h.ev.own;rw[e]at a;have c1:W (g,i)=some (M.er i):=(Ij a (i:=i) (by
  rcases(I:i=0\/i=1)with rfl|rfl<;>rfl)).1
 rw[f]at c1;have b:=(h.er i hi).own;rw[f]at b;unfold maxLen at p t;exact⟨g,d,q,c,c0,⟨o,I⟩,c1,⟨s,I⟩,(Ij b (i:=k)<|by simp[l,Eu]).1⟩
def Du.nJ(h:Du tag nb n M W)(hi:i<2):∃g c,W nb=some (.slice (some ⟨g,0,none⟩) 2 c)/\(2<=c/\c<=9223372036854775807)/\W ⟨g,i,none⟩=some (.pointer (M.b i,0)):=by
 obtain⟨g,c,d,e,f,_⟩:=h.x.form I;have c0:W nb=some M.x:=h.obj.cell (j:=0) rfl;rw[d]at c0;have a:=h.x.own;rw[d]at a;unfold maxLen at f;exact⟨g,c,c0,⟨e,I⟩,(Ij a (i:=i) (by
  rcases(I:i=0\/i=1)with rfl|rfl<;>rfl)).1⟩
structure OI(W:rq)(eb:Nat)(o:EN):Prop where
 wrote:W eb=some (.string<|zu o.wrote)
 fin:W (eb,1)=some (.bool o.fin)
 cut:W (eb,2)=some (.bool o.cut)
 lG:W (eb,3)=some (.int .i64 o.lG)
 read:W (eb,4)=some (.int .i64 o.read)
 state:W (eb,5)=some (.int .i64 o.state)
 fz:∀j,W.frozen? ⟨eb,j,none⟩=false
def Du.oH(h:Du tag nb n M W)(hi:i<2)(c:k<8):OI W (M.eb i k) (n.e i k) :=
 have a:=h.en i hi k c
 ⟨a.cell (j:=0) rfl,a.cell (j:=1) rfl,a.cell (j:=2) rfl,a.cell (j:=3) rfl,a.cell (j:=4) rfl,a.cell (j:=5) rfl,λj=>a.fz j⟩
def EX(w:rq)(tag:rD)(nb:Nat)(W:rq)(r:Bool×NS)(e:Ending)(W':rq):Prop:=e=.returned (.bool r.1)/\zw w tag nb W r.2 W'
def DZ.oi(h:DZ w tag nb n M W)(hi:i<2)(c:k<8)(a:EN)(m:DO (λg=>g=M.eb i k) W W')(obj:W'.heap[M.eb i k]?=some (.cells (Fh a) 89 (0,0))):DZ w tag nb (n.nC i k a) M W' :=
 h.own (h.o.oi hi c a m obj) rfl rfl rfl m (λg a=>.inl<|by rw[show g=M.eb i k from a,(h.o.en i hi k c).tag]) (Di.same h.env.ok m)
end
def zw.mf(h:zw w tag nb W n W')(m:DO DQ W' W''):zw w tag nb W n W'':=by
 obtain⟨t,M,a,b,c⟩:=h;exact⟨t,M,a.free m rm,b,c.trans<|m.mono rm⟩
def Gj(a b:Nat):((a:Int)==(b:Int))=(a==b):=by
 by_cases h:a=b
 .subst h;simp
 rw[AR.2 h,AR.2 (I:(a:Int)≠(b:Int))]
def QJ(a b:Nat):((a:Int) != (b:Int))=(a != b):=by
 unfold bne;rw[Gj]
def Ua(h:DZ w tag nb n M W)(hI:n.Inv T)(hT:T<=Db){a:Nat}(hi:i<2)(A:k<8)(q:a<=4096):rT 35 #[(nb,0),[i],[k],[a]] W (EX w tag nb W (n.read i k a)):=by
 obtain⟨j,hj⟩:=nm<|1-i;have l:j<2:=I;have q:IntKind.i64.wrap (1-(i:Int))=(j:Int):=by rw[IntKind.wrap_i64];omega
 have q:(1:Int)-(i:Int)=(j:Int):=I;obtain⟨g,am,q,T,a1,⟨a2,a3⟩,a4,⟨a5,a6⟩,a7⟩:=h.o.ny (i:=j) (k:=k) l A;obtain⟨q,T,b1,⟨b2,b3⟩,b4⟩:=h.o.nJ (i:=i) hi;have q:((n i).read k a).1.1.length<=2199023255552:=by
  have r:=(hI.c i hi).np hT;unfold CS.read;split
  .simp
  split
  .simp
  rename_i T _;obtain⟨k0,k8,_⟩:=Md (I:(n i).stream k=0);have:=(r k A).len;simp only[Ad,AU,Ag];omega
 have kc:=eF (h.cn i hi) (h.env.to (j:=i+1) I) (k:Int) (a:Int) I ((hI.c i hi).np hT) (by
  have r:=(hI.c i hi).np hT;unfold CS.read;split
  .simp
  split
  .simp
  rename_i T _;have:=(r k A).len;simp only[Ad,AU,Ag];omega)
 have T:=hI.e j l k A;have ab:=T.wl;have ac:=T.rd;have ad:=T.lG;clear T;unfold NS.read;rw[hj];obtain⟨R,hR⟩:=nm<|(n i).read k a;rw[hR]at kc q ⊢;obtain⟨⟨s,st,er⟩,c'⟩:=R;simp only at kc q ⊢;obtain⟨o,T⟩:=nm<|n.e j k;rw[T]at ab ac ad ⊢;have HO:=zb T;obtain⟨RR,q⟩:∃RR:Bool×NS,(if o.mP a (s,st,er)=true then(false,n.lS i c')else((o.more (s,st,er)).fits,(n.lS i c').nC j k<|o.more (s,st,er)))=RR:=⟨_,rfl⟩;rw[q];have p:=zb q;clear q;have HN:=zb h;clear h hI hR T;go_enter func35,ntmps35;go_upto_region 3 with(go_at_call 29;refine kc.mono ?_;rintro _ W1 ⟨rfl,hL⟩;obtain⟨ky,V',T,q,m1⟩:=HN.z.conn hi hL);have e0:=T.o.oH l A;have h:(n.lS i c').e j k=o:=HO.z;rw[h]at e0;obtain⟨c0,c1,c2,c3,c4,c5,cz⟩:=e0;have H1:=zb T;have E:=zb h;have f:=zb q;have HM:=zb m1;clear T q m1 hL kc HN HO a1 a4 a7 b1 b4 a2 a3 a5 a6 b2 b3 h;obtain⟨eb,h⟩:=nm<|M.eb j k;dsimp only at c0 c1 c2 c3 c4 c5 cz ⊢;rw[h]at c0 c1 c2 c3 c4 c5 cz ⊢;have aa:=zb h;clear h;have t:AA (∀W',DO DQ W1 W'->zw w tag nb W (n.lS i c') W'):=zb λW' m=>zw.trans f.z (HM.z.mono<|λg u=>.inl<|λx=>by rw[x]at u;simp at u)<|zw.mf H1.z.left m
 obtain⟨S,h⟩:=nm<|n.lS i c';rw[h]at H1 t E;have K:AA ((if o.mP a (s,st,er)=true then(false,S)else((o.more (s,st,er)).fits,S.nC j k<|o.more (s,st,er)))=RR):=by
  show _=_;rw[<-p.z,h]
 clear h p;have h:=zG s;have h:=zG o.wrote
 go_cut [10,99] (λh p q=>h=.string (zu s)/\p=.bool (o.mP a (s,st,er))/\AA (DO DQ W1 q))
 case first =>
  refine wp_region_quiet_lit kw kw ?_;repeat (go_big_quiet_step (fail))
  by_cases p1:er=0;rotate_left
  .have d1:((er:Int) != 0)=true:=Cd.2 I;have e:o.mP a (s,st,er)=true:=by unfold EN.mP;simp[p1]
   simp only[d1];repeat (go_big_quiet_step (fail))
   refine wpQuiet_nil ?_;intro _ d;obtain⟨N,c⟩:=d;subst c;go_wp2_with fail;go_meet;exact⟨rfl,by rw[e],zb<|(DO.refl DQ W1).drewN _⟩
  have d1:((er:Int) != 0)=false:=by simp[p1]
  simp only[d1];repeat (go_big_quiet_step (fail))
  by_cases p2:a<s.length
  .have d2:=Au I;have e:o.mP a (s,st,er)=true:=by unfold EN.mP;simp[p2]
   simp only[d2];repeat (go_big_quiet_step (fail))
   refine wpQuiet_nil ?_;intro _ d;obtain⟨N,c⟩:=d;subst c;go_wp2_with fail;go_meet;exact⟨rfl,by rw[e],zb<|(DO.refl DQ W1).drewN _⟩
  have d2:=As I;simp only[d2];repeat (go_big_quiet_step (fail))
  by_cases p3:o.wrote.length<o.read+s.length
  .have d3:decide ((o.wrote.length:Int)-(o.read:Int)<(s.length:Int))=true:=Au I;have e:o.mP a (s,st,er)=true:=by unfold EN.mP;simp[p3]
   simp only[d3];repeat (go_big_quiet_step (fail))
   refine wpQuiet_nil ?_;intro _ d;obtain⟨N,c⟩:=d;subst c;go_wp2_with fail;go_meet;exact⟨rfl,by rw[e],zb<|(DO.refl DQ W1).drewN _⟩
  have d3:decide ((o.wrote.length:Int)-(o.read:Int)<(s.length:Int))=false:=As I;simp only[d3];have h:(o.read:Int)+(s.length:Int)<=(o.wrote.length:Int):=I;have h:o.read+s.length<=o.wrote.length:=I
  repeat (go_big_quiet_step (fail))
  have e4:((zu o.wrote).extract o.read<|o.read+s.length).toList=(o.wrote.drop o.read).take s.length:=by
   rw[ByteArray.toList_eq,PT,Ip,Cg]
  have e5:(zu s).toList=s:=by rw[ByteArray.toList_eq,Ip]
  by_cases p4:(o.wrote.drop o.read).take s.length=s;rotate_left
  .have d4:(!((zu o.wrote).extract o.read<|o.read+s.length).toList==(zu s).toList)=true:=by
    rw[e4,e5];simp[p4]
   have e:o.mP a (s,st,er)=true:=by unfold EN.mP;simp[p4]
   simp only[d4];repeat (go_big_quiet_step (fail))
   refine wpQuiet_nil ?_;intro _ d;obtain⟨N,c⟩:=d;subst c;go_wp2_with fail;go_meet;exact⟨rfl,by rw[e],zb<|(DO.refl DQ W1).drewN _⟩
  have d4:(!((zu o.wrote).extract o.read<|o.read+s.length).toList==(zu s).toList)=false:=by
   rw[e4,e5];simp[p4]
  simp only[d4];repeat (go_big_quiet_step (fail))
  by_cases p5:o.state=0
  .have d5:((o.state:Int) != 0)=false:=by simp[p5]
   have e:o.mP a (s,st,er)=false:=by unfold EN.mP;simp[p1,p4,p5];omega
   simp only[d5];repeat (go_big_quiet_step (fail))
   refine wpQuiet_nil ?_;intro _ d;obtain⟨N,c⟩:=d;subst c;go_wp2_with fail;go_meet;exact⟨rfl,by rw[e],zb<|(DO.refl DQ W1).drewN _⟩
  have d5:((o.state:Int) != 0)=true:=Cd.2 I;simp only[d5];repeat (go_big_quiet_step (fail))
  by_cases p6:s=[];rotate_left
  .have d6:(!s.isEmpty)=true:=by simp[p6]
   have e:o.mP a (s,st,er)=true:=by unfold EN.mP;simp[p5,p6]
   simp only[d6];repeat (go_big_quiet_step (fail))
   refine wpQuiet_nil ?_;intro _ d;obtain⟨N,c⟩:=d;subst c;go_wp2_with fail;go_meet;exact⟨rfl,by rw[e],zb<|(DO.refl DQ W1).drewN _⟩
  have d6:(!s.isEmpty)=false:=by simp[p6]
  simp only[d6];have e:o.mP a (s,st,er)=((st:Int) != (o.state:Int)):=by
   have h:(er != 0)=false:=by simp[p1]
   have p:=As p2;have q:=As p3;have T:((o.wrote.drop o.read).take s.length != s)=false:=by simp[p4]
   have w5:=Cd.2 p5;have w6:(s != [])=false:=by simp[p6]
   unfold EN.mP;have e7:((st:Int) != (o.state:Int))=(st != o.state):=by
    by_cases x:st=o.state
    .simp[x]
    have:(st:Int)≠(o.state:Int):=I;rw[Cd.2 this,Cd.2 x]
   rw[e7];simp only[h,p,q,T,w5,w6,Cc,Bh]
  repeat (go_big_quiet_step (fail))
  refine wpQuiet_nil ?_;intro _ d;obtain⟨N,c⟩:=d;subst c;go_wp2_with fail;go_meet;exact⟨rfl,by rw[e],zb<|(DO.refl DQ W1).drewN _⟩
 case rest =>
 obtain⟨rfl,rfl,hM⟩:=hcut;obtain⟨Z,ae⟩:=nn wc;subst ae;by_cases e:o.mP a (s,st,er)=true
 .have F:=zb<|t.z _ hM.z;have hr:=K.z.symm.trans<|AM e;subst hr;rw[e];clear t H1 f HM c0 c1 c2 c3 c4 c5 cz;go_wp2_with fail;go_ret;exact⟨rfl,F.z⟩
 have hr:=K.z.symm.trans<|AH e;subst hr;have e:o.mP a (s,st,er)=false:=rB e;rw[e];have a:o.read+s.length<=o.wrote.length:=by
  unfold EN.mP at e;simp only[BW,Aj]at e;omega
 have q:=hM.z;have af:=q.cell rk c0;have ag:=q.cell rk c1;have ah:=q.cell rk c2;have ai:=q.cell rk c3;have aj:=q.cell rk c4;have ak:=q.cell rk c5;have N2:=H1.z.free q rm;have h:=(N2.o.en j l k A).obj;have T:=E.z;rw[T]at h;have d:({ M with V:=V' }:NV).eb j k=eb:=aa.z;rw[d]at h;have al:∀p,Z.frozen? ⟨eb,p,none⟩=false:=λp=>zg h
 obtain⟨c,N⟩:=nm<|o.read+s.length;have e:AA (∀W',DO DQ ((Z.setCell (eb,4)<|.int .i64 c).setCell (eb,5)<|.int .i64 st) W'->zw w tag nb W (S.nC j k<|o.more (s,st,er)) W'):=by
  refine zb λW' m'=>?_
  have m3:DO (λg=>g=eb) Z ((Z.setCell (U eb 4)<|.int .i64 c).setCell (U eb 5)<|.int .i64 st):=((DO.refl (λg=>g=eb) Z).setCell (p:=U eb 4) rj _).setCell (p:=U eb 5) rj _;have a:=zc (i:=5) (v:=.int .i64 st)<|zc (i:=4) (v:=.int .i64 c) h;rw[<-d]at a m3;have p:((Fh o).setIfInBounds 4<|.int .i64 c).setIfInBounds 5 (.int .i64 st)=Fh (o.more (s,st,er)):=by
   rw[<-N];rfl
  rw[p]at a;have p:=N2.oi l A (o.more (s,st,er)) m3 a;have tg:∀g,g=({ M with V:=V' }:NV).eb j k->ky g≠(0,0):=λg u x=>by
   have:=(N2.o.en j l k A).tag;rw[<-u,x]at this;simp at this
  rw[d]at p m3;exact zw.trans f.z ((HM.z.mono<|λg u=>.inl<|λx=>by rw[x]at u;simp at u).trans<|q.mono rm)<|zw.mf ⟨ky,_,p,λ_ _=>rfl,m3.mono<|λg u=>.inl<|tg g<|u.trans d.symm⟩ m'
 have O:AA ((o.more (s,st,er)).fits=if st=0 then true else if st=1 then o.fin&&c==o.wrote.length else if st=2 then o.cut&&decide (o.lG<=c)else false):=by
  rw[<-N];rfl
 have u:(o.read:Int)+(s.length:Int)=(c:Int):=I;obtain⟨p,l⟩:=nm<|(Z.setCell (U eb 4)<|.int .i64 c).setCell (U eb 5)<|.int .i64 st;have a:=zc (i:=5) (v:=.int .i64 st)<|zc (i:=4) (v:=.int .i64 c) h;rw[l]at a e;have k0:p eb=some (.string<|zu o.wrote):=za a rfl;have k1:p (eb,1)=some (.bool o.fin):=za a rfl;have k2:p (eb,2)=some (.bool o.cut):=za a rfl;have v:p (eb,3)=some (.int .i64 o.lG):=za a rfl;have v:p (eb,4)=some (.int .i64 c):=za a rfl;have c:=zb l;clear t hM q a l H1 f HM h N2 T c0 c1 c2 c3 c4 c5 cz K N d aa E;go_upto_region 7 with fail;rw[c.z];clear c af ag ah ai aj ak al u;obtain⟨c,a⟩:=nm<|S.nC j k<|o.more (s,st,er);rw[a]at e;have FR:AA (∀b W',b=(o.more (s,st,er)).fits->DO DQ p W'->EX w tag nb W ((o.more (s,st,er)).fits,S.nC j k<|o.more (s,st,er)) (.returned<|.bool b) W'):=zb λb W' hb m=>⟨by rw[hb],by rw[a];exact e.z W' m⟩
 clear e a;by_cases B:st=0
 .have z:=O.z.trans<|AM B;subst B;go_wp2_with fail;go_ret;exact FR.z _ _ z.symm rp
 have b0:((st:Int)==0)=false:=AR.2 I;by_cases t1:st=1
 .have z:=O.z.trans<|(AH B).trans<|AM t1;subst t1;have X:=zb z;clear z O B b0;go_upto_region 11 with fail;obtain⟨fn,Y⟩:=nm o.fin;rw[Y]at k1 X;cases fn
  .go_quiet (fail);go_wp2_with fail;go_ret;exact FR.z _ _ (by rw[X.z];rfl)<|rp.drewN _
  go_quiet (fail);go_wp2_with fail;go_ret;exact FR.z _ _ (by rw[X.z,Gj];rfl)<|rp.drewN _
 have b1:((st:Int)==1)=false:=AR.2 I;by_cases t2:st=2
 .have z:=O.z.trans<|(AH B).trans<|(AH t1).trans<|AM t2;subst t2;have X:=zb z;clear z O B b0 t1 b1;go_upto_region 13 with fail;obtain⟨fn,Y⟩:=nm o.cut;rw[Y]at k2 X;cases fn
  .go_quiet (fail);go_wp2_with fail;go_ret;exact FR.z _ _ (by rw[X.z];rfl)<|rp.drewN _
  go_quiet (fail);go_wp2_with fail;go_ret;exact FR.z _ _ (by rw[X.z];simp)<|rp.drewN _
 have b2:((st:Int)==2)=false:=AR.2 I;have z:=O.z.trans<|(AH B).trans<|(AH t1).trans<|AH t2;clear O B t1 t2;go_wp2_with fail;go_ret;exact FR.z _ _ z.symm rp
def YT:(prog.info? 62).map (λi=>(i.zero,i.size,i.bytes))=some (some (.agg #[.int .i64 0,.string ⟨#[]⟩]),2,24):=kw
def kJ(a b:List (Nat×rC)):zO (a++b)=zO a++zO b:=by simp[zO]
def Rw(p:Nat×rC)(l:List (Nat×rC)):zO (p::l)=(.int .i64 p.1)::(.string (zu p.2))::zO l:=rfl
theorem Vh:∀(l:List (Nat×rC)) (j:Nat) (p:Nat×rC),l[j]?=some p->(zO l)[j*2]?=some (.int .i64 p.1)/\(zO l)[j*2+1]?=some (.string (zu p.2))
 | [],j,p,h=>by simp at h
 | q::l,0,p,h=>by
  simp at h;subst h;exact rZ
 | q::l,j+1,p,h=>by
  have a:=Vh l j p<|rB h;rw[Rw,(I:(j+1)*2=j*2+2)];simpa using a
theorem WM:∀(l:List (Nat×rC)) (k:Nat),(zO l).take (k*2)=zO (l.take k)
 | [],k=>by simp[zO]
 | p::l,0=>by simp[zO]
 | p::l,k+1=>by
  rw[(I:(k+1)*2=k*2+1+1),Rw];simp only[Cb];rw[WM l k];rfl
theorem WK:∀(l:List (Nat×rC)) (k:Nat),(zO l).drop (k*2)=zO (l.drop k)
 | [],k=>by simp[zO]
 | p::l,0=>lm
 | p::l,k+1=>by
  rw[(I:(k+1)*2=k*2+1+1),Rw];simp only[List.drop_succ_cons];exact WK l k
def jn(l:List (Nat×rC)):∀u∈zO l,u.oneCell'=true:=by
 intro u a;unfold zO at a;rw[List.mem_flatMap]at a;obtain⟨p,_,c⟩:=a;simp at c;rcases c with rfl|rfl<;>rfl
def QI(w:rq)(v:rt)(l d:List (Nat×rC))(a:Addr)(c:Nat)(h:w.ownsRow 0 62 2 v l.length (zO l))(p:∀(j:Nat) u,(zO d)[j]?=some u->w (a.add j)=some u)(e:l.length+d.length<=1099511627776):∃e w',(∀f,(Builtin.append_ #[46,46] f #[v,.slice (some a) d.length c]).run prog w=.ok e w')/\w'.ownsRow 0 62 2 e (l++d).length (zO (l++d))/\w.grownBy w' v.ownBlock/\D4 w v e:=by
 obtain⟨i,e,q,f,o⟩:=info_parts YT;rw[kJ,AG];exact zN (P:=prog) w 46 62 i _ 2 24 underlying46 e q f o rfl lc v l.length (zO l) h a d.length c (zO d) (kK d) p (jn d) lw I
def Sr{l:List (Nat×rC)}(h:w.ownsRow 0 62 2 (.slice g l.length cap) l.length (zO l))(o m:Nat):∀(j:Nat) u,(zO ((l.drop o).take m))[j]?=some u->w ((⟨g,o*2,none⟩:Addr).add j)=some u:=by
 intro j u a;rcases h.2 with⟨e,_⟩|⟨h,c,d,e,_,f,q,s,t,p⟩
 .cases e
 cases e;rw[zX];refine za f ?_;rw[<-WM,<-WK,<-p]at a;have c:j<m*2:=by
  have:=(AO.1 a).1;simp at this;omega
 rw[BH c,BA]at a;have c:o*2+j<l.length*2:=by
  have:=(AO.1 a).1;simp at this;omega
 rw[BH c,Bk]at a;exact a
variable{W1:rq}{v:rt}
def DZ.om(h:DZ w tag nb n M W){l:List (Nat×rC)}(m:DO S W W1)(o:∀g,S g->tag g=(3,6)\/W.heap.size<=g)(row:W1.ownsRow 0 62 2 v l.length (zO l))(u:∀g,v.ownBlock=some g->tag g=(3,6)\/(W.heap.size<=g/\g<W1.heap.size)):zw w tag nb W { n with lP:=l } (W1.setCell (nb,8) v):=by
 obtain⟨ky,d⟩:=nm<|(λg=>if W.heap.size<=g/\v.ownBlock=some g/\g<W1.heap.size then(3,6)else tag g);have f:∀g,g<W.heap.size->ky g=tag g:=λg a=>by
  rw[<-d];exact AH<|λx=>I
 have e:∀g,tag g≠(0,0)->ky g=tag g:=λg a=>by
  by_cases q:g<W.heap.size
  .exact f g q
  exact absurd (h.env.ok g I) a
 have c:=h.o.obj.tag;have z:¬S nb:=λx=>by
  rcases o nb x with y|y
  .rw[c]at y;simp at y
  have:=h.env.ok nb y;rw[c]at this;simp at this
 have s:v.ownBlock≠some nb:=λx=>by
  rcases u nb x with y|⟨y,_⟩
  .rw[c]at y;simp at y
  have:=h.env.ok nb y;rw[c]at this;simp at this
 have t:DO (λg=>S g\/g=nb) W (W1.setCell (U nb 8) v):=(m.mono<|λg a=>.inl<|.inl a).setCell (p:=U nb 8) (.inl<|.inr rfl) v;have A:=(DO.refl (λg=>g=nb) W1).setCell (p:=U nb 8) rj v;have p:(W1.setCell (nb,8) v).heap.size=W1.heap.size:=by simp[World.setCell]
 have B:Du ky nb { n with lP:=l } { M with bg:=v } (W1.setCell (U nb 8) v):=by
  refine h.o.om v l t (λg a=>?_) e ?_ (A.owns row<|λg a x=>s<|by rw[a,show g=nb from x])<|λg a=>?_
  .rcases a with x|x
   .rcases o g x with y|y
    .exact .inr (.inl y)
    exact .inr<|.inr<|h.env.ok g y
   rw[x];exact .inl c
  .rw[zc (m.obj z h.o.obj.obj)];rfl
  rcases u g a with y|⟨y,z⟩
  .rw[e g (by rw[y];simp),y]
  rw[<-d];exact AM ⟨y,a,z⟩
 refine⟨ky,_,h.own B rfl rfl rfl t (λg a=>?_) ⟨f,λg a=>?_,λg a=>?_⟩,f,t.mono<|λg a=>?_⟩
 .rcases a with x|x
  .rcases o g x with y|y
   .exact .inl (by rw[y])
   exact .inr y
  rw[x];exact .inl<|by rw[c]
 .by_cases q:W.heap.size<=g/\v.ownBlock=some g/\g<W1.heap.size
  .exact .inl (by rw[<-d];simp only[AM q])
  exact .inr<|by rw[<-d];simp only[AH q];exact h.env.ok g a
 .rw[p]at a;rw[<-d];simp only;rw[AH (λx=>I)];have:=m.size;exact h.env.ok g I
 rcases a with x|x
 .rcases o g x with y|y
  .exact .inl (by rw[y];simp)
  exact .inr y
 rw[x];exact .inl<|by rw[c];simp
def Du.pC(h:Du tag nb n M W)(hi:i<2):∃g d a c,W (nb,2)=some (.slice (some ⟨g,0,none⟩) 2 d)/\(2<=d/\d<=9223372036854775807)/\W ⟨g,i,none⟩=some (.slice a (n.g i).length c)/\((n.g i).length<=c/\c<=9223372036854775807)/\∀(j b:Nat),(M.gb i)[j]?=some b->∃q,a=some ⟨q,0,none⟩/\W ⟨q,j,none⟩=some (.pointer b):=by
 obtain⟨g,d,e,l,o,_⟩:=h.gv.form I;obtain⟨a,c,f,t,p,s⟩:=zk (h.gr i hi).own;have c0:W (nb,2)=some M.gv:=h.obj.cell (j:=2) rfl;rw[e]at c0;have x:=h.gv.own;rw[e]at x;have c1:W (g,i)=some (M.gr i):=(Ij x (i:=i) (by
  rcases(I:i=0\/i=1)with rfl|rfl<;>rfl)).1
 have e:=h.gl i hi;rw[f,e]at c1;unfold maxLen at o p;refine⟨g,d,a,c,c0,⟨l,I⟩,c1,⟨I,I⟩,λj b hb=>?_⟩;have a:=(AO.1 hb).1;obtain⟨q,rfl⟩:=s I;have y:=(h.gr i hi).own;rw[f]at y;exact⟨q,rfl,(Ij y (i:=j)<|by rw[Bc,hb];rfl).1⟩
structure OC(W:rq)(b:Nat)(s:SN):Prop where
 id:W b=some (.int .u64 s.id)
 dl:W (b,1)=some (.int .u64 s.dl)
 data:W (b,2)=some (.string<|zu s.data)
 lC:W (b,3)=some (.bool s.lC)
 fz:W.frozen? ⟨b,3,none⟩=false
def Du.qf(h:Du tag nb n M W){s:SN}(hi:i<2)(hb:(M.gb i)[j]?=some b)(c:(n.g i)[j]?=some s):OC W b s :=
 have a:=h.gn i hi j b s hb c
 ⟨a.cell (j:=0) rfl,a.cell (j:=1) rfl,a.cell (j:=2) rfl,a.cell (j:=3) rfl,a.fz 3⟩
theorem Sq:∀(l:List (Nat×rC)) (j:Nat) (p:Nat×rC),l[j]?=some p->(E1 l)[j*2]?=some (.int .u64 p.1)/\(E1 l)[j*2+1]?=some (.string (zu p.2))
 | [],j,p,h=>by simp at h
 | q::l,0,p,h=>by
  simp at h;subst h;exact rZ
 | q::l,j+1,p,h=>by
  have a:=Sq l j p<|rB h;have e:E1 (q::l)=(.int .u64 q.1)::(.string<|zu q.2)::E1 l:=rfl;rw[e,(I:(j+1)*2=j*2+2)];simpa using a
def XG{l:List (Nat×rC)}(h:w.ownsRow 0 154 2 (.slice g N cap) N (E1 l))(f:l.length=N){p:Nat×rC}(c:l[j]?=some p):w (g,j*2)=some (.int .u64 p.1)/\w (g,j*2+1)=some (.string (zu p.2)):=by
 obtain⟨a,b⟩:=Sq l j p c;have f:=(AO.1 c).1;rcases h.2 with⟨e,_⟩|⟨h,c,f,e,_,d,l,p,q,o⟩
 .cases e
 cases e;rw[<-o,BH I,Bk]at a b;exact⟨za d a,za d b⟩
def PI.left{l:List (Nat×rC)}{e:Ending}(a:Dm tag W)(hb:tag b=(i,1))(h:PI tag i b W l c' e W'):∃v,e=.returned v/\W'.ownsRow 0 154 2 v l.length (E1 l)/\(∀g,v.ownBlock=some g->tag g=(i,8))/\Dk tag i b W c' W':=by
 obtain⟨v,c,d,e,f,l,_,m⟩:=h;exact⟨v,d,e,f,tag,c,l,Di.same a m,m.mono<|λg a=>.inl<|by rw[show g=b from a,hb]⟩
variable{G:List SN}
def UZ{id:Nat}{data:rC}{g:SN}(a:G[j]?=some g)(r:Bool):EL now id data (G.drop j) r=if g.id=id then((EL now id data (G.drop (j+1)) (g.data==data && !g.lC&&decide (now<=g.dl))).1,{ g with lC:=true }::(EL now id data (G.drop (j+1)) (g.data==data && !g.lC&&decide (now<=g.dl))).2)
   else((EL now id data (G.drop<|j+1) r).1,g::(EL now id data (G.drop<|j+1) r).2):=by
 have c:=(AO.1 a).1;have e:G.drop j=g::G.drop (j+1):=by
  rw[CH c];congr 1;rw[AJ c]at a;exact Bt a
 rw[e,EL]
def eC{l:List (Nat×rC)}{m:Nat×rC}(a:l[k]?=some m)(G:List SN):FK now (l.drop k) G=if (EL now m.1 m.2 G false).1 then FK now (l.drop (k+1)) (EL now m.1 m.2 G false).2 else(false,(EL now m.1 m.2 G false).2):=by
 have c:=(AO.1 a).1;have e:l.drop k=m::l.drop (k+1):=by
  rw[CH c];congr 1;rw[AJ c]at a;exact Bt a
 rw[e,FK]
def eB(S:NS)(J:Nat):({ S with g:=ze S.g J (S.g J) }:NS)=S:=by rw[Fd]
def DZ.pA{S:NS}{J:Nat}{s:SN}(h:DZ w tag nb { S with g:=ze S.g J G } M W)(c:J<2)(hb:(M.gb J)[j]?=some b)(d:G[j]?=some s):DZ w tag nb { S with g:=ze S.g J (G.set j { s with lC:=true }) } M (W.setCell (b,3) (.bool true))/\tag b=(3,40+2*j+J):=by
 have e:({ S with g:=ze S.g J G }:NS).g J=G:=zf _ _ _;have a:=h.o.gn J c j b s hb (by rw[e];exact d);have m:DO (λg=>g=b) W (W.setCell (U b 3)<|.bool true):=(DO.refl (λg=>g=b) W).setCell (p:=U b 3) rj _;have o:=h.o.pA c hb { s with lC:=true } m (by rw[zc a.obj];rfl);have c:({ ({ S with g:=ze S.g J G }:NS)with g:=ze ({ S with g:=ze S.g J G }:NS).g J ((({ S with g:=ze S.g J G }:NS).g J).set j { s with lC:=true }) }:NS)={ S with g:=ze S.g J (G.set j { s with lC:=true }) }:=by
  rw[e];show({ S with g:=ze (ze S.g J G) J _ }:NS)=_;rw[Kn]
 rw[c]at o;exact⟨h.own o rfl rfl rfl m (λg c=>.inl<|by rw[show g=b from c,a.tag]) (Di.same h.env.ok m),a.tag⟩
def KU(tag:rD):Nat->Prop:=λg=>∃r,40<=r/\tag g=(3,r)
def Ge(w:rq)(tag:rD)(nb:Nat)(S:NS)(M:NV)(W1:rq)(J:Nat)(G:List SN)(nw:Nat)(m:Nat×rC)(RB:Bool)(RL:List SN)(j:Nat)(r:Bool)(wr:rq):Prop :=
 ∃A:List SN,A.length=j/\DZ w tag nb { S with g:=ze S.g J (A++G.drop j) } M wr/\DO (KU tag) W1 wr/\(EL nw m.1 m.2 (G.drop j) r).1=RB/\A++(EL nw m.1 m.2 (G.drop j) r).2=RL
section
variable {w:rq} {tag:rD} {nb:Nat} {S:NS} {M:NV} {W1 wr W':rq} {J:Nat} {G:List SN} {nw:Nat} {m:Nat×rC} {RB:Bool} {RL:List SN} {j b:Nat} {r:Bool} {g:SN}
variable{j:Nat}
def MT{α : Type}{G:List α}{g : α}(a:G[j]?=some g):G.drop j=g::G.drop (j+1):=by
 have c:=(AO.1 a).1;rw[CH c];congr 1;rw[AJ c]at a;exact Bt a
def Ge.qx(h:Ge w tag nb S M W1 J G nw m RB RL j r wr)(s:J<2)(c:G[j]?=some g)(hb:(M.gb J)[j]?=some b)(d:g.id=m.1)(l:DO DQ (wr.setCell (b,3) (.bool true)) W'):Ge w tag nb S M W1 J G nw m RB RL (j+1) (g.data==m.2 && !g.lC&&decide (nw<=g.dl)) W':=by
 obtain⟨A,f,t,u,o,q⟩:=h;have e:(A++G.drop j)[j]?=some g:=by
  rw[Aa I,f,Ch,BA,B5];exact c
 obtain⟨a,h⟩:=t.pA s hb e;have e:=UZ (now:=nw) (id:=m.1) (data:=m.2) c r;rw[AM d]at e;rw[e]at o q;refine⟨A++[{ g with lC:=true }],by rw[AG,f];rfl,?_,(u.setCell (p:=U b 3) (.inl ⟨_,I,h⟩) _).trans<|l.mono rm,o,?_⟩
 .have e:(A++G.drop j).set j { g with lC:=true }=(A++[{ g with lC:=true }])++G.drop (j+1):=by
   rw[MT c,Bi _ _ I,f,Ch,List.set_cons_zero,Ap];rfl
  rw[e]at a;exact a.free l rm
 rw[Ap];exact q
def Ge.ql(h:Ge w tag nb S M W1 J G nw m RB RL j r wr)(c:G[j]?=some g)(a:¬g.id=m.1)(d:DO DQ wr W'):Ge w tag nb S M W1 J G nw m RB RL (j+1) r W':=by
 obtain⟨A,o,e,p,f,l⟩:=h;have h:=UZ (now:=nw) (id:=m.1) (data:=m.2) c r;rw[AH a]at h;rw[h]at f l;refine⟨A++[g],by rw[AG,o];rfl,?_,p.trans<|d.mono rm,f,by rw[Ap];exact l⟩;rw[MT c]at e;rw[Ap];exact e.free d rm
def Ge.start(c:DZ w tag nb { S with g:=ze S.g J G } M wr)(d:DO (KU tag) W1 wr)(a:EL nw m.1 m.2 G false=(RB,RL)):Ge w tag nb S M W1 J G nw m RB RL 0 false wr :=
 ⟨[],rfl,by rw[B6,Aq];exact c,d,by rw[B6,a],by rw[B6,a];rfl⟩
def Ge.done(h:Ge w tag nb S M W1 J G nw m RB RL j r wr)(f:j=G.length):r=RB/\DZ w tag nb { S with g:=ze S.g J RL } M wr/\DO (KU tag) W1 wr:=by
 obtain⟨A,e,c,l,d,a⟩:=h;have e:G.drop j=[]:=by rw[f];exact CB
 rw[e]at d a c;have a:A=RL:=by
  rw[<-a];exact(Bw A).symm
 subst a;rw[Bw]at c;exact⟨d,c,l⟩
def Ge.look(h:Ge w tag nb S M W1 J G nw m RB RL j r wr)(p:J<2)(u:S.now=nw)(a:j<=G.length):wr (nb,4)=some (.int .u64 nw)/\∃f c l d,wr (nb,2)=some (.slice (some ⟨f,0,none⟩) 2 c)/\(2<=c/\c<=9223372036854775807)/\wr ⟨f,J,none⟩=some (.slice l G.length d)/\(G.length<=d/\d<=9223372036854775807)/\DO (KU tag) W1 wr /\
  ∀g,G[j]?=some g->∃q b,l=some ⟨q,0,none⟩/\(M.gb J)[j]?=some b/\wr ⟨q,j,none⟩=some (.pointer<|some ⟨b,0,none⟩)/\OC wr b g:=by
 obtain⟨A,s,o,z,a,e⟩:=h;have a:({ S with g:=ze S.g J (A++G.drop j) }:NS).g J=A++G.drop j:=zf _ _ _;have e:(A++G.drop j).length=G.length:=by rw[AG,s,Ag];omega
 obtain⟨f,c,l,d,B,E,h,t,K⟩:=o.o.pC p;rw[a,e]at h t;refine⟨?_,f,c,l,d,B,E,h,t,z,λg f=>?_⟩
 .have:=o.o.obj.cell (j:=4) (v:=.int .u64 S.now) rfl;rw[u]at this;exact this
 have c:(A++G.drop j)[j]?=some g:=by
  rw[Aa I,s,Ch,BA,B5];exact f
 have d:=(AO.1 f).1;obtain⟨b,hb⟩:∃b,(M.gb J)[j]?=some b:=⟨(M.gb J)[j]'(by rw[o.o.gl J p,a,e];exact d),AJ _⟩;obtain⟨q,e,d⟩:=K j b hb;exact⟨q,b,e,hb,d,o.o.qf p hb<|by rw[a];exact c⟩
end
def Qq(w:rq)(k:Nat)(p:Addr)(v:rt):DO DQ (w.setCell p v) ((w.drewN k).setCell p v):=(DO.refl DQ (w.setCell p v)).drewN k
def Qp(h:DZ w tag nb n M W)(hI:n.Inv T)(hT:T<=Db)(hi:i<2):rT 34 #[(nb,0),[i]] W (EX w tag nb W (n.lC i)):=by
 obtain⟨J,A⟩:=nm<|1-i;have z:J<2:=I;have B:IntKind.i64.wrap (1-(i:Int))=(J:Int):=by rw[IntKind.wrap_i64];omega
 have B:(1:Int)-(i:Int)=(J:Int):=I;obtain⟨B,E,b1,⟨b2,b3⟩,b4⟩:=h.o.nJ (i:=i) hi;have kc:=fQ<|h.cn i hi;have ap:(n.g J).length<=268435455:=by
  have:=hI.gl J z;unfold Db at hT;omega
 have aq:(n i).lO.1.length<=268435455:=by
  have:=(hI.c i hi).cl;unfold Db at hT;show(n i).lC.length<=_;omega
 unfold NS.lC;rw[A];obtain⟨l,T⟩:=nm<|(n i).lO.1;obtain⟨c',A⟩:=nm<|(n i).lO.2;obtain⟨nw,B⟩:=nm n.now;obtain⟨R,hR⟩:=nm<|FK nw l<|n.g J;obtain⟨Y,E⟩:=nm<|(n.g J).length;obtain⟨L,Z⟩:=nm l.length;rw[T,A]at kc;rw[T,Z]at aq;rw[T,A,B,hR];rw[E]at ap;have HN:=zb h;have HR:=zb hR;have ar:=zb E;have aa:=zb B;have hE:=h.env.ok;have ab:=(h.cn i hi).tb;clear hI hR E B T A hT;go_enter func34,ntmps34;go_upto_region 2 with(go_at_call 67;refine kc.mono ?_;intro e W1 ac;obtain⟨v,rfl,d,ad,ae⟩:=ac.left hE ab;obtain⟨ky,A,h1,K,m1⟩:=HN.z.conn hi ae);obtain⟨S,hS⟩:=nm<|n.lS i c';have af:S.g=n.g:=by rw[<-hS];rfl
 have ag:S.now=n.now:=by rw[<-hS];rfl
 obtain⟨p,ah⟩:∃p:NV,({ M with V:=A }:NV)=p:=⟨_,rfl⟩;have h1:DZ w ky nb S p W1:=by rw[<-hS,<-ah];exact h1
 have ai:AA (∀(G:List SN) wr W',DZ w ky nb { S with g:=ze S.g J G } p wr->DO (KU ky) W1 wr->DO DQ wr W'->zw w tag nb W { n.lS i c' with g:=ze n.g J G } W'):=by
  refine zb λG wr W' A m m'=>?_
  have e:({ S with g:=ze S.g J G }:NS)={ n.lS i c' with g:=ze n.g J G }:=by rw[<-hS];rfl
  rw[<-e];exact zw.trans K (m1.mono<|λg c=>.inl<|λx=>by rw[x]at c;simp at c) ⟨ky,p,A.free m' rm,λ_ _=>rfl,(m.mono<|λg c=>.inl (by obtain⟨r,_,e⟩:=c;rw[e];simp)).trans<|m'.mono rm⟩
 have aj:∀g,v.ownBlock=some g->ky g=(i+1,8):=λg c=>by
  have A:=ad g c;have B:=EZ hE A I;rw[K g B,A]
 have q:AA (∀wr,DO (KU ky) W1 wr->wr.ownsRow 0 154 2 v l.length (E1 l)):=zb λwr m=>m.owns d (λg c x=>by
  obtain⟨r,_,e⟩:=x;rw[aj g c]at e;simp at e;omega)
 obtain⟨v,A,rfl,au,av,ak⟩:=zk d;rw[Z]at au ak q;unfold maxLen at av;have ST:AA (DZ w ky nb { S with g:=ze S.g J (n.g J) } p W1):=by
  refine zb ?_;rw[<-af,eB];exact h1
 have al:AA (S.now=nw):=ag.trans aa.z;have N:=zb Z;rw[Z];clear h hE ab ad d h1 K m1 af ag aj b1 b2 b3 b4 kc ac ae hS ah HN Z aa;go_wp2_with fail
 go_loopw [6] (λd wr=>∃(k:Nat) (G:List SN),k<=L/\d=.int .i64 k/\AA (DZ w ky nb { S with g:=ze S.g J G } p wr/\DO (KU ky) W1 wr/\FK nw (l.drop k) G=R/\G.length=Y)) (λd _=>L-(intOf d).toNat)
 case atStart=>exact⟨0,n.g J,AN _,rfl,zb ⟨ST.z,DO.refl _ _,HR.z,ar.z⟩⟩
 case round =>
  obtain⟨k,G,d,rfl,O⟩:=hrel;by_cases am:k<L
  .obtain⟨m,hm⟩:∃m,l[k]?=some m:=⟨l[k]'(by rw[N.z];exact am),AJ _⟩;obtain⟨d,rfl⟩:=ak I;have HM:=zb hm;obtain⟨RB,RL,d⟩:∃RB RL,EL nw m.1 m.2 G false=(RB,RL):=⟨_,_,rfl⟩;have s:=zb d;clear d hm;go_wp2_with fail
   go_loopw [7,8] (λh d wr=>∃(j:Nat) (r:Bool),j<=Y/\h=.bool r/\d=.int .i64 j/\AA (Ge w ky nb S p W1 J G nw m RB RL j r wr)) (λ_ d _=>Y-(intOf d).toNat)
   case atStart =>
    obtain⟨d,h,v,A⟩:=O.z;exact⟨0,false,AN _,rfl,rfl,zb<|Ge.start d h s.z⟩
   case round =>
    obtain⟨j,r,d,rfl,rfl,HJ⟩:=hrel;have t:=O.z.2.2.2;obtain⟨c4,v,A,B,E,K,⟨T,Z⟩,d,⟨h,d6⟩,X,d7⟩:=HJ.z.look z al.z I;rw[t]at d h;obtain⟨d,h⟩:=XG (q.z wr X) N.z HM.z;by_cases aw:j<Y
    .obtain⟨g,c⟩:∃g,G[j]?=some g:=⟨G[j]' I,AJ _⟩;obtain⟨q,b,rfl,hb,d,⟨h,v,A,e3,B⟩⟩:=d7 g c;have h:=zb c;have HB:=zb hb;have d:(zu g.data).toList=g.data:=by rw[ByteArray.toList_eq,Ip]
     have d:(zu m.2).toList=m.2:=by rw[ByteArray.toList_eq,Ip]
     clear d7 X c hb t;by_cases c:g.id=m.1;rotate_left
     .have d:((g.id:Int)==(m.1:Int))=false:=by rw[Gj];exact AR.2 c
      have u:=zb c;clear c;go_wp2_with fail;go_quiet (fail);go_wp2_with fail;go_roundw
      case rel=>exact⟨j+1,r,I,rfl,by go_num,zb<|HJ.z.ql h.z u.z<|rp.drewN _⟩
      simp[intOf];omega
     have d:((g.id:Int)==(m.1:Int))=true:=by rw[Gj];exact Ce.2 c
     have u:AA (∀d,d=(g.data==m.2 && !g.lC&&decide (nw<=g.dl))->∀W',DO DQ (wr.setCell (b,3)<|.bool true) W'->Ge w ky nb S p W1 J G nw m RB RL (j+1) d W'):=zb λd hr W' m'=>by
      rw[hr];exact HJ.z.qx z h.z HB.z c m'
     clear c;go_wp2_with fail;go_quiet (fail);go_upto_region 11 with fail;by_cases f:g.data=m.2
     .have q2:(g.data==m.2)=true:=by rw[f];exact beq_self_eq_true _
      obtain⟨cm,c⟩:=nm g.lC;rw[c]at e3 u;rw[q2]at u;cases cm
      .go_quiet (fail);go_wp2_with fail;go_roundw
       case rel=>exact⟨j+1,_,I,rfl,by go_num,zb<|u.z _ lm _<|Qq _ _ _ _⟩
       simp[intOf];omega
      go_quiet (fail);go_wp2_with fail;go_roundw
      case rel=>exact⟨j+1,_,I,rfl,by go_num,zb<|u.z _ lm _<|Qq _ _ _ _⟩
      simp[intOf];omega
     have q2:=AR.2 f;rw[q2]at u;clear f;go_quiet (fail);go_wp2_with fail;go_roundw
     case rel=>exact⟨j+1,_,I,rfl,by go_num,zb<|u.z _ lm _<|Qq _ _ _ _⟩
     simp[intOf];omega
    have ax:j=Y:=I;subst ax;obtain⟨f1,f2,f3⟩:=HJ.z.done t.symm;subst f1;have HC:=zb<|eC (now:=nw) HM.z G;have an:=zb f2;have ao:=zb f3;clear d7 X f2 f3 aw;cases r
    .have o:AA (R=(false,RL)):=by
      show _=_;have a:=HC.z;rw[s.z,O.z.2.2.1]at a;exact a
     have hr:=o.z;subst hr;go_wp2_with fail;go_ret;exact⟨rfl,ai.z RL wr _ an.z ao.z rp⟩
    have o:AA (FK nw (l.drop<|k+1) RL=R):=by
     show _=_;have a:=HC.z;rw[s.z,O.z.2.2.1]at a;exact a.symm
    have c:AA (RL.length=j):=by
     show _=_;have a:=(PU nw m.1 m.2 G false).1;rw[s.z]at a;exact a.trans t
    go_wp2_with fail;go_roundw
    case rel=>exact⟨k+1,RL,I,by go_num,zb ⟨an.z,ao.z,o.z,c.z⟩⟩
    simp[intOf];omega
  have ay:k=L:=I;subst ay;have o:AA (R=(true,G)):=by
   show _=_;have a:=O.z.2.2.1;have e:l.drop k=[]:=by rw[<-N.z];exact CB
   rw[e]at a;exact a.symm
  have hr:=o.z;subst hr;clear am;go_wp2_with fail;go_ret;exact⟨rfl,ai.z G wr _ O.z.1 O.z.2.1 rp⟩
variable{V':CV}
def DZ.mz(h:DZ w tag nb n M W)(hi:i<2)(a:zi ky (i+1) (M.b i) c' V' W')(e:Di (i+1) tag ky W W')(m:DO (λg=>(tag g).1=i+1) W W')(d:GD (i+1) ky):DZ w ky nb (n.lS i c') { M with V:=ze M.V i V' } W':=by
 have f:∀g,tag g≠(0,0)->ky g=tag g:=λg c=>by
  by_cases q:g<W.heap.size
  .exact e.mL g q
  exact absurd (h.env.ok g I) c
 refine⟨(h.o.mod m (λg c x=>I) f).same (Ka.lS n i c') _,λj l=>?_,?_,λj l=>?_,h.mod.then m<|λg c=>?_,λg c=>?_⟩
 .by_cases q:j=i
  .subst q;show zi ky (j+1) (M.b j) (ze n.c j c' j) (ze M.V j V' j) W';rw[zf,zf];exact a
  show zi ky (j+1) (M.b j) (ze n.c i c' j) (ze M.V i V' j) W';rw[zd _ _ q,zd _ _ q];exact(h.cn j l).mod m (λg c x=>I) (λg c=>f g<|λx=>by rw[x]at c;simp at c)
 .exact((h.env.to (j:=i+1) I).left e m).to I
 .by_cases q:j=i
  .subst q;exact d
  exact(h.nd j l).other e I I
 .refine .inr (h.t1 g<|λx=>?_);rw[x]at c;simp at c
 by_cases q:g<W.heap.size
 .exact h.t1 g (by rw[<-e.mL g q];exact c)
 have:=h.mod.size;omega
theorem fN{l:List rC}{b:rC}(hb:l[k]?=some b)(n:NS):NS.mM i (l.drop k) n=match dec b with
  | .ok num fs =>
   if n.lZ<b.length\/num≠n.count i\/fs=[]then(false,n)
   else if fs.any (FM n.now)then(false,{ n with count:=ze n.count i (n.count i+1) })
   else NS.mM i (l.drop<|k+1) { n with count:=ze n.count i<|n.count i+1,lP:=n.lP++[(1-i,b)] }
  | _=>(false,n):=by
 rw[MT hb,NS.mM];cases dec b<;>rfl
def dy(i:Nat)(l:List rC)(n:NS):NS.mM i (l.drop l.length) n=(true,n):=by rw[CB];rfl
def Du.qo(h:Du tag nb n M W)(hi:i<2):∃g a,M.ct=.slice (some ⟨g,0,none⟩) 2 a/\W (nb,9)=some (.slice (some ⟨g,0,none⟩) 2 a)/\(2<=a/\a<=9223372036854775807)/\W ⟨g,i,none⟩=some (.int .u64 (n.count i:Int))/\W.frozen? ⟨g,i,none⟩=false/\tag g=(3,5):=by
 obtain⟨g,a,c,d,e,f⟩:=h.ct.form I;have c0:W (nb,9)=some M.ct:=h.obj.cell (j:=9) rfl;have x:=h.ct.own;rw[c]at c0 x;have y:=Ij x (i:=i) (v:=.int .u64 (n.count i:Int)) (by
  rcases(I:i=0\/i=1)with rfl|rfl<;>rfl)
 unfold maxLen at e;exact⟨g,a,c,c0,⟨d,I⟩,y.1,y.2,f⟩
def DZ.qn(h:DZ w tag nb n M W)(hi:i<2)(x:Nat)(a:M.ct=.slice g 2 cap):DZ w tag nb { n with count:=ze n.count i x } M (W.setCell (g,i) (.int .u64 x)):=by
 have c:=h.o.ct.tag g (by rw[a];rfl);have m:DO (λq=>q=g) W (W.setCell (g,i)<|.int .u64 x):=(DO.refl (λq=>q=g) W).setCell (p:=(g,i)) rj _;exact h.own (h.o.qn hi x a) rfl rfl rfl m (λq a=>.inl<|by rw[show q=g from a,c]) (Di.same h.env.ok m)
def XD{l:List rC}(h:w.ownsRow 0 9 1 (.slice g N cap) N (Fy l)){s:rC}(a:l[k]?=some s):w (g,k)=some (.string (zu s)) :=
 (Ij h (i:=k)<|by unfold Fy;rw[Bc,a];rfl).1
def gV(a:fs[j]?=some f)(h:(fs.take j).any (FM now)=false):(fs.take (j+1)).any (FM now)=FM now f:=by
 rw[BG,a,List.any_append,h];simp
def dx(a:fs[j]?=some f)(h:FM now f=true):fs.any (FM now)=true :=
 Bg.2 ⟨f,AW a,h⟩
def DZ.pQ(h:DZ w tag nb n M W)(tt:Nat)(b:rC)(f:n.lP.length<=1000000000000):∃a f d,(∀o,(Builtin.append_ #[46,46] o #[M.bg,.slice W 1 1]).run prog (W.alloc (.cells #[[tt],.string (zu b)] 62))=.ok (.slice a (n.lP.length+1) f) d)/\d.frozen? ⟨nb,8,none⟩=false/\d.cell? (nb,8)=some M.bg/\DO (λq=>M.bg.ownBlock=some q) W d /\
   ∀W',DO DQ (d.setCell (nb,8)<|.slice a (n.lP.length+1) f) W'->zw w tag nb W { n with lP:=n.lP++[(tt,b)] } W':=by
 obtain⟨o,z⟩:=nm<|(Obj.cells #[[tt],.string (zu b)] 62 (0,0));have f:DO DQ W (W.alloc o):=(DO.refl _ W).alloc o;have A:∀(j:Nat) u,(zO [(tt,b)])[j]?=some u->(W.alloc o) ((⟨W.heap.size,0,none⟩:Addr).add j)=some u:=λj u u=>by
  rw[zX,<-z];refine za (heap_alloc_new W _) ?_;rw[Aw,<-Array.getElem?_toList];exact u
 obtain⟨u,d,B,s,E,K⟩:=QI (W.alloc o) M.bg n.lP [(tt,b)] ⟨W.heap.size,0,none⟩ 1 (f.owns h.o.bg.own<|λ_ _ x=>x) A ls;have t:=(f.mono rm).grown E<|λq c=>.inl c;have v:∀q,u.ownBlock=some q->q<d.heap.size:=λq c=>by
  rcases s.2 with⟨e,_⟩|⟨o,u,f,e,_,x,_⟩
  .rw[e]at c;cases c
  rw[e]at c;cases c;exact(AI.1 x).1
 have F:=h.om t (λq x=>.inl<|h.o.bg.tag q x) s (λq c=>by
  rcases K q c with x|x
  .exact .inl (h.o.bg.tag q x)
  refine .inr ⟨?_,v q c⟩;simp at x;omega)
 have c:¬M.bg.ownBlock=some nb:=λx=>by
  have a:=h.o.bg.tag nb x;rw[h.o.obj.tag]at a;simp at a
 have l:=t.obj c h.o.obj.obj;obtain⟨N,c2,p,-⟩:=zk s;have a:(n.lP++[(tt,b)]).length=n.lP.length+1:=lm;rw[a]at p;subst p;rw[z];exact⟨N,c2,d,B,zg l,za l rfl,t,λW' a=>F.mf a⟩
def Dh.cells(s:Dh):Array rt:=#[.int .i64 s.kind,.int .i64 s.side,.int .i64 s.a,.int .i64 s.b,.string (zu s.s)]
structure Dh.Ok(s:Dh):Prop where
 kind : -9223372036854775808<=s.kind/\s.kind<=9223372036854775807
 side : -9223372036854775808<=s.side/\s.side<=9223372036854775807
 a : -9223372036854775808<=s.a/\s.a<=9223372036854775807
 b : -9223372036854775808<=s.b/\s.b<=9223372036854775807
 s:s.s.length<=1099511627776
structure Hh(W:rq)(b:Nat)(s:Dh):Prop where
 c0:W b=some (.int .i64 s.kind)
 c1:W (b,1)=some (.int .i64 s.side)
 c2:W (b,2)=some (.int .i64 s.a)
 c3:W (b,3)=some (.int .i64 s.b)
 c4:W (b,4)=some (.string<|zu s.s)
variable{fz:Nat×Nat}{t:Nat}
def Hh.of{s:Dh}(h:W.heap[b]?=some (.cells s.cells t fz)):Hh W b s :=
 ⟨za h rfl,za h rfl,za h rfl,za h rfl,za h rfl⟩
def Hh.mod{s:Dh}(h:Hh W b s)(m:DO S W W')(c:¬S b):Hh W' b s :=
 ⟨m.cell (a:=b) c h.c0,m.cell (a:=U b 1) c h.c1,m.cell (a:=U b 2) c h.c2,m.cell (a:=U b 3) c h.c3,m.cell (a:=U b 4) c h.c4⟩
def DZ.alloc(h:DZ w tag nb n M W)(o:Obj):DZ w tag nb n M (W.alloc o) :=
 h.free ((DO.refl DQ W).alloc o) rm
def zw.mG(m:DO DQ W W')(h:zw w tag nb W' n' W''):zw w tag nb W n' W'' :=
 zw.trans (λ_ _=>rfl) (m.mono rm) h
def U8(h:DZ w tag nb n M W)(hb:n.lP=[])(s:Dh):rT 41 #[(nb,0),.agg s.cells] W (EX w tag nb W (n.carry s)):=by
 obtain⟨W1,c⟩:=nm<|W.alloc<|.cells s.cells 37;have d:DZ w tag nb n M W1:=by rw[<-c];exact h.alloc _
 have f:=AB c;obtain⟨a,e,l,p,q,_⟩:=zk d.o.bg.own;have o:W1 (nb,8)=some M.bg:=d.o.obj.cell (j:=8) rfl;rw[l,hb]at o;have F:=zb<|zw.mG f d.left;have e:n.carry s=(true,n):=by unfold NS.carry;rw[AM hb]
 rw[e];have a:=zb c;simp only[Ae]at o;clear h hb d f l c p q e;unfold Dh.cells at a ⊢;go_enter func41,ntmps41;go_upto_region 1 with fail;rw[a.z];go_wp2_with fail;go_ret;exact⟨rfl,F.z⟩
end
end Go.Proofs.YtddfdpbaiedcjaaGreatDoor
