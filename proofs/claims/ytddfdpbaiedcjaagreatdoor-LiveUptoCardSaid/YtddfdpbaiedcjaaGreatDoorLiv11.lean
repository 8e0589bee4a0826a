/- A part of Live's proof. Conditions: none. Part 11 of 15. -/
import Derived.Test.YtddfdpbaiedcjaaGreatDoorLiv10
import Derived.Test.YtddfdpbaiedcjaaGreatDoorLiv9
set_option maxRecDepth 100000
set_option maxHeartbeats 16000000
set_option linter.all false
namespace Go.Proofs.YtddfdpbaiedcjaaGreatDoor
section
open Go.RowKit Go.Proofs.Tryz
structure OT(J:List Da->World->Prop)(N g o cap:Nat):Prop where
 obj:∀R w,0<N->J R w->∃cur,w.heap[g]?=some (.cells cur 65 (0,0))
 st:∀R w (i:Nat) (f:Da),J R w->i<N->f∈R->J (R.set i f) ((((((((((w.setCell (g,o+i*10) (.int .i64 f.kind)).setCell (g,o+i*10+1) (.int .i64 f.stream)).setCell (g,o+i*10+2) (.int .u64 f.off)).setCell (g,o+i*10+3) (.int .u64 f.rel)).setCell (g,o+i*10+4) (.int .u64 f.lim)).setCell (g,o+i*10+5) (.bool f.fin)).setCell (g,o+i*10+6) (.int .u64 f.id)).setCell (g,o+i*10+7) (.int .u64 f.dl)).setCell (g,o+i*10+8) (.string (zu f.data))).setCell (g,o+i*10+9) (.slice none 0 0))
 cl:∀R w (i:Nat),J R w->i<N->∃w2 R2,(∀ty,(Builtin.clear_ #[54] ty #[.slice (g,o+i*10) (N-i) (cap-i)]).run prog w=.ok (.tuple #[]) w2)/\J R2 w2/\R2.take i=R.take i
def Lx(J:List Da->World->Prop)(now:Nat)(L:List Da)(a:nI)(cap:Nat)(e:Ending)(w':World):Prop :=
 ∃(i:Nat) (R:List Da),e=.returned (.slice a i cap)/\i<=L.length/\J R w'/\R.take i=L.filter (λx => !decide (x.dl<now))
variable{now:Nat}
def WG{l:List Da}(h:∀x∈l,decide (x.dl<now)=false):l.filter (λx => !decide (x.dl<now))=l :=
 CQ.2 (λx hx=>by rw[h x hx];rfl)
theorem kN(J:List Da->World->Prop)(L:List Da)(N g o cap b cb now:Nat)(a:nI)(X:L.length=N)(Z:N<=1099511627776)(ay:N<=cap)(aa:cap<=maxLen)(ha:0<N->a=some ⟨g,o,none⟩)(hJ:Lw J N g o b cb now)(hK:OT J N g o cap)
  (w:World) (h0:J L w) :
  Calls prog 47 #[.slice a N cap,.func (.func 48) #[] #[.pointer cb]] w (Lx J now L a cap):=by
 have ki:=jh J L N g o cap b cb now a X Z ha hJ w h0;unfold maxLen at aa;have s:=zb hJ;have S:=zb hK;have HA:=zb ha;have T:=zb X;have KI:=zb ki;clear hJ hK h0 ha X ki;go_enter func47,ntmps47;go_wp2_with fail;refine(KI.z).mono ?_;clear KI;rintro e w1 (⟨k,rfl,t,h,m,C⟩|⟨rfl,h,m⟩)
 .have ab:k<N:=by rw[<-T.z];exact t
  have ac:=HA.z I;subst ac;have n:=zb C;have D:AA (L.take k=(L.take (k+1)).filter (λx => !decide (x.dl<now))):=zb (by
   obtain⟨x,hx⟩:∃x,L[k]?=some x:=⟨L[k],AK t⟩;have h9:=m x hx;rw[BG,hx,Bz,WG h];simp only[Option.toList_some,List.filter_cons,h9];simp)
  have d1:((k:Int) == -1)=false:=by rw[AS];omega
  clear t h m C;go_wp2_with fail
  go_loopw [5,6] (λiv jv wr=>∃(i j:Nat) (R:List Da),iv=.int .i64 i/\jv=.int .i64 j/\i<j/\j<=N/\AA (J R wr/\R.take i=(L.take j).filter (λx => !decide (x.dl<now))/\R.drop j=L.drop j)) (λ_ jv _=>N-(intOf jv).toNat)
  case atStart=>exact⟨k,k+1,L,rfl,by go_num,I,I,zb ⟨n.z,D.z,rfl⟩⟩
  case round =>
   clear n D d1 ab;obtain⟨i,j,R,rfl,rfl,ad,hj,q⟩:=hrel;have E:=s.z.len R wr q.z.1;by_cases hlt:j<N
   .obtain⟨f,hx⟩:∃x,R[j]?=some x:=⟨R[j]' I,AK I⟩;have F:L[j]?=some f:=by
     have h1:=A8 (λl=>l[0]?) q.z.2.2;simp only[BD,B7]at h1;rw[<-h1];exact hx
    obtain⟨ae,af,ah,ai,aj,ak,al,am,an,ao⟩:=Jh (s.z.rd R wr q.z.1 j f hx);obtain⟨Y,G⟩:=nm (wr.alloc (.cells (zl f (.slice none 0 0)) 65));have mY:=AB G;have u:zj Y wr.heap.size f (.slice none 0 0):=by rw[<-G];exact heap_alloc_new wr _
    have V:=s.z.box _ _ _ q.z.1 mY;have W:=Ue f (.slice none 0 0) b cb now Y (s.z.cb R Y V) (s.z.now R Y V);obtain⟨y0,y1,y2,y3,y4,y5,y6,y7,y8,y9⟩:=u.cells;unfold zl at W G;have HX:=zb (And.intro hx F);obtain⟨dv,v⟩:=nm (decide (f.dl<now));rw[v]at W;have ap:=zb v;have KC:=zb W;have y:=zb E;have JY:=zb V;have z:=zb u;obtain⟨yb,A⟩:=nm wr.heap.size;rw[A]at y0 y1 y2 y3 y4 y5 y6 y7 y8 y9 z;have HY:=zb G;have aq:=zb A;clear W hx F v E V u mY G A;go_upto_region 8 with fail;rw[aq.z,HY.z];go_wp2_with fail;refine(KC.z).mono ?_;rintro e d ⟨rfl,H⟩;have m6:DW DY Y d:=by rw[H];exact((DW.refl DY Y).alloc _).drew
    have K:zj d yb f (.slice none 0 0):=m6.obj (λx=>x) z.z;have B:=s.z.box _ _ _ JY.z m6;obtain⟨z0,z1,z2,z3,z4,z5,z6,z7,z8,z9⟩:=K.cells;have J6:=zb B;have r:i<N:=I;have M:AA ((L.take (j+1)).filter (λx => !decide (x.dl<now))=(L.take j).filter (λx => !decide (x.dl<now))++(if dv then []else [f])):=zb (by
     rw[BG,HX.z.2,Bz];congr 1;have h9:=ap.z;simp only[Option.toList_some,List.filter_cons,h9];cases dv<;>simp)
    have O:=zb (by
     have h1:=A8 (List.drop 1) q.z.2.2;simpa [Cc]using h1)
    clear KC y0 y1 y2 y3 y4 y5 y6 y7 y8 y9 ae af ah ai aj ak al am an ao H m6 K JY z;cases dv with
    | true =>
     clear B;go_wp2_with fail;go_roundw
     case rel=>exact⟨i,j+1,R,rfl,by go_num,I,I,zb ⟨J6.z,by rw[M.z,q.z.2.1];simp,O.z⟩⟩
     simp[intOf];omega
    | false =>
     obtain⟨cur,c⟩:=S.z.obj _ _ I B;obtain⟨xi,P⟩:∃xi,R[i]?=some xi:=⟨R[i]'(by rw[y.z];exact r),AK (by rw[y.z];exact r)⟩;obtain⟨w0,w1',w2',w3',w4',w5',w6',w7',w8',w9'⟩:=Jh (s.z.rd R d B i xi P);have f0:∀p,d.frozen? ⟨g,p,none⟩=false:=λp=>zg c
     have f1:∀p1 v1 p,(d.setCell ⟨g,p1,none⟩ v1).frozen? ⟨g,p,none⟩=false:=λp1 v1 p=>zg (zc c)
     have f2:∀p1 v1 p2 v2 p,((d.setCell ⟨g,p1,none⟩ v1).setCell ⟨g,p2,none⟩ v2).frozen? ⟨g,p,none⟩=false:=λp1 v1 p2 v2 p=>zg (zc (zc c))
     have f3:∀p1 v1 p2 v2 p3 v3 p,(((d.setCell ⟨g,p1,none⟩ v1).setCell ⟨g,p2,none⟩ v2).setCell ⟨g,p3,none⟩ v3).frozen? ⟨g,p,none⟩=false:=λp1 v1 p2 v2 p3 v3 p=>zg (zc (zc (zc c)))
     have f4:∀p1 v1 p2 v2 p3 v3 p4 v4 p,((((d.setCell ⟨g,p1,none⟩ v1).setCell ⟨g,p2,none⟩ v2).setCell ⟨g,p3,none⟩ v3).setCell ⟨g,p4,none⟩ v4).frozen? ⟨g,p,none⟩=false:=λp1 v1 p2 v2 p3 v3 p4 v4 p=>zg (zc (zc (zc (zc c))))
     have f5:∀p1 v1 p2 v2 p3 v3 p4 v4 p5 v5 p,(((((d.setCell ⟨g,p1,none⟩ v1).setCell ⟨g,p2,none⟩ v2).setCell ⟨g,p3,none⟩ v3).setCell ⟨g,p4,none⟩ v4).setCell ⟨g,p5,none⟩ v5).frozen? ⟨g,p,none⟩=false:=λp1 v1 p2 v2 p3 v3 p4 v4 p5 v5 p=>zg (zc (zc (zc (zc (zc c)))))
     have f6:∀p1 v1 p2 v2 p3 v3 p4 v4 p5 v5 p6 v6 p,((((((d.setCell ⟨g,p1,none⟩ v1).setCell ⟨g,p2,none⟩ v2).setCell ⟨g,p3,none⟩ v3).setCell ⟨g,p4,none⟩ v4).setCell ⟨g,p5,none⟩ v5).setCell ⟨g,p6,none⟩ v6).frozen? ⟨g,p,none⟩=false:=λp1 v1 p2 v2 p3 v3 p4 v4 p5 v5 p6 v6 p=>zg (zc (zc (zc (zc (zc (zc c))))))
     have f7:∀p1 v1 p2 v2 p3 v3 p4 v4 p5 v5 p6 v6 p7 v7 p,(((((((d.setCell ⟨g,p1,none⟩ v1).setCell ⟨g,p2,none⟩ v2).setCell ⟨g,p3,none⟩ v3).setCell ⟨g,p4,none⟩ v4).setCell ⟨g,p5,none⟩ v5).setCell ⟨g,p6,none⟩ v6).setCell ⟨g,p7,none⟩ v7).frozen? ⟨g,p,none⟩=false:=λp1 v1 p2 v2 p3 v3 p4 v4 p5 v5 p6 v6 p7 v7 p=>zg (zc (zc (zc (zc (zc (zc (zc c)))))))
     have f8:∀p1 v1 p2 v2 p3 v3 p4 v4 p5 v5 p6 v6 p7 v7 p8 v8 p,((((((((d.setCell ⟨g,p1,none⟩ v1).setCell ⟨g,p2,none⟩ v2).setCell ⟨g,p3,none⟩ v3).setCell ⟨g,p4,none⟩ v4).setCell ⟨g,p5,none⟩ v5).setCell ⟨g,p6,none⟩ v6).setCell ⟨g,p7,none⟩ v7).setCell ⟨g,p8,none⟩ v8).frozen? ⟨g,p,none⟩=false:=λp1 v1 p2 v2 p3 v3 p4 v4 p5 v5 p6 v6 p7 v7 p8 v8 p=>zg (zc (zc (zc (zc (zc (zc (zc (zc c))))))))
     have f9:∀p1 v1 p2 v2 p3 v3 p4 v4 p5 v5 p6 v6 p7 v7 p8 v8 p9 v9 p,(((((((((d.setCell ⟨g,p1,none⟩ v1).setCell ⟨g,p2,none⟩ v2).setCell ⟨g,p3,none⟩ v3).setCell ⟨g,p4,none⟩ v4).setCell ⟨g,p5,none⟩ v5).setCell ⟨g,p6,none⟩ v6).setCell ⟨g,p7,none⟩ v7).setCell ⟨g,p8,none⟩ v8).setCell ⟨g,p9,none⟩ v9).frozen? ⟨g,p,none⟩=false:=λp1 v1 p2 v2 p3 v3 p4 v4 p5 v5 p6 v6 p7 v7 p8 v8 p9 v9 p=>zg (zc (zc (zc (zc (zc (zc (zc (zc (zc c)))))))))
     have J7:=zb (S.z.st R d i f B r (AV HX.z.1));clear B c P;go_wp2_with fail;go_roundw
     case rel =>
      refine⟨i+1,j+1,R.set i f,by go_num,by go_num,I,I,zb ⟨J7.z,?_,?_⟩⟩
      .rw[Rt (by rw[y.z];exact r),M.z,q.z.2.1];rfl
      rw[Rs I,O.z]
     simp[intOf];omega
   have ar:j=N:=I;subst ar;obtain⟨w2,R2,kcl,j2,t2⟩:=S.z.cl R wr i q.z.1 ad;have au:=zb j2;have av:=zb t2;have e1:¬cap=i:=I;have d1:i<=cap:=I;clear j2 t2;have HL:=T.z;have Q:R2.take i=L.filter (λx => !decide (x.dl<now)):=by
    rw[av.z,q.z.2.1,Aa I]
   have aw:=zb Q;have ax:=zb HL;clear HL Q;go_wp2_with fail;go_ret;exact⟨i,R2,rfl,by rw[ax.z];omega,au.z,aw.z⟩
 clear s S;have n:=zb m;have HF:=zb (WG h);clear h m;go_wp2_with fail;go_ret;exact⟨N,L,rfl,by rw[T.z];exact AF _,n.z,by rw[HF.z,<-T.z,Aa (AF _)]⟩
def Ka(w:World)(g off n sz:Nat)(xs:nJ):Prop:=∃cur,w.heap[g]?=some (.cells cur 65 (0,0))/\(cur.toList.drop off).take n=xs/\cur.size=sz
variable{g sz:Nat}{w:World}{xs:nJ}
def Ka.set{off n:Nat}(h:Ka w g off n sz xs)(m:Nat)(v:Value):Ka (w.setCell (g,off+m) v) g off n sz (xs.set m v):=by
 obtain⟨cur,h1,h2,h3⟩:=h;refine⟨_,zc h1,?_,by simp[h3]⟩;rw[<-h2,Array.toList_setIfInBounds,List.drop_set,AI I,DO,(I:off+m-off=m)]
def SC(f:Da)(l:List Da):zt (f::l)=(.int .i64 f.kind)::(.int .i64 f.stream)::(.int .u64 f.off)::(.int .u64 f.rel)::(.int .u64 f.lim)::(.bool f.fin)::(.int .u64 f.id)::(.int .u64 f.dl)::(.string (zu f.data))::(.slice none 0 0)::zt l:=rfl
theorem T7:∀(R:List Da) (i:Nat) (f:Da),i<R.length->zt (R.set i f)=((((((((((zt R).set (i*10) (.int .i64 f.kind)).set (i*10+1) (.int .i64 f.stream)).set (i*10+2) (.int .u64 f.off)).set (i*10+3) (.int .u64 f.rel)).set (i*10+4) (.int .u64 f.lim)).set (i*10+5) (.bool f.fin)).set (i*10+6) (.int .u64 f.id)).set (i*10+7) (.int .u64 f.dl)).set (i*10+8) (.string (zu f.data))).set (i*10+9) (.slice none 0 0)
 | [],_,_,h=>by simp at h
 | y::R,0,f,_=>by simp[SC]
 | y::R,i+1,f,h=>by
  have ih:=T7 R i f (nF h);rw[CT,SC,SC,ih,(I:(i+1)*10=i*10+10)];simp[CT]
theorem T6:∀(R:List Da) (j:Nat) (f:Da),R[j]?=some f->∀q x,(zl f (.slice none 0 0))[q]?=some x->(zt R)[j*10+q]?=some x
 | [],j,f,h=>by simp at h
 | y::R,0,f,h=>by
  simp at h;subst h;intro q x hx;have hq:q<10:=(AH.1 hx).1;have e:zt (y::R)=(zl y (.slice none 0 0)).toList++zt R:=rfl;rw[e,Cd,A6,Ao (by exact hq),Bl];exact hx
 | y::R,j+1,f,h=>by
  intro q x hx;have ih:=T6 R j f (nF h) q x hx;have e:zt (y::R)=(zl y (.slice none 0 0)).toList++zt R:=rfl;have hl:(zl y (.slice none 0 0)).toList.length=10:=rfl;rw[e,Ab (by rw[hl];omega),hl,(I:(j+1)*10+q-10=j*10+q)];exact ih
variable{N cap o:Nat}
def Er.rowO(h:Er w 65 10 (.slice (g,o) N cap) N xs):∃sz,Ka w g o (N*10) sz xs/\N<=cap/\cap<=maxLen/\∃o',o=o'*10/\(o'+cap)*10<=sz:=by
 rcases h.2 with⟨e,_⟩|⟨g',o',b,a,e,h1,h2,h3,h4,h5⟩
 .cases e
 cases e;exact⟨a.size,⟨a,h1,h5,rfl⟩,h2,h3,o',rfl,h4⟩
def Ka.own(h:Ka w g (o*10) (N*10) sz xs)(hl:xs.length=N*10)(h2:N<=cap)(h3:cap<=maxLen)(h4:(o+cap)*10<=sz):Er w 65 10 (.slice (g,o*10) N cap) N xs:=by
 obtain⟨d,a,b,c⟩:=h;exact⟨hl,.inr ⟨g,o,cap,d,rfl,a,h2,h3,by rw[c];exact h4,b⟩⟩
variable{V:CV}{W W':World}{b i:Nat}{c:CS}{tag:nH}
def zi.wait{R':List Da}(h:zi tag i b c V W)(m:DW (λq=>q=g) W W')(hg:Value.blk V.wt=some g)(d:Er W' 65 10 V.wt R'.length (zt R')):zi tag i b { c with waits:=R' } V W':=by
 have a:=h.twt g hg;have f:b≠g:=λe=>by
  rw[<-e,h.tb]at a;simp at a
 refine h.build (R:=λr=>r=6) m (λq hq=>⟨6,rfl,by rw[show q=g from hq];exact a⟩) (λ_ _=>rfl) (m.obj f h.obj) (.inl ⟨rfl,rfl,rfl,I,I⟩) (λk hk=>.inl ⟨rfl,rfl,I⟩) (λk hk=>.inl ⟨rfl,rfl,I⟩) (λk hk=>.inl ⟨rfl,rfl,I⟩) (λk hk=>.inl ⟨rfl,rfl,I⟩) (λk hk=>.inl ⟨rfl,rfl,I⟩) (.inl ⟨rfl,rfl,rfl,I,I⟩) (.inr ⟨d,h.twt⟩) (.inl ⟨rfl,rfl,I⟩) (.inl ⟨rfl,rfl,I⟩)
def Gx(tag:nH)(i b:Nat)(W0:World)(c:CS)(V:CV)(N:Nat)(R:List Da)(w:World):Prop:=R.length=N/\zi tag i b { c with waits:=R } V w/\Dv tag w/\DW (Dx i tag) W0 w
variable{W0 w':World}
def Gx.turn{R R':List Da}(h:Gx tag i b W0 c V N R w)(m:DW (λq=>q=g) w w')(hg:Value.blk V.wt=some g)(hl:R'.length=N)(a:Er w' 65 10 V.wt N (zt R')):Gx tag i b W0 c V N R' w':=by
 obtain⟨_,h1,h2,h3⟩:=h;refine⟨hl,h1.wait m hg (by rw[hl];exact a),h2.mod m,h3.trans (m.mono (λq hq=>.inl (EW (r:=6) (by rw[show q=g from hq];exact h1.twt g hg) mu)))⟩
def Gx.row{R:List Da}(h:Gx tag i b W0 c V N R w):Er w 65 10 V.wt N (zt R):=by
 have:=h.2.1.wt;simp only[h.1]at this;exact this
variable{cb:Nat}
def Gx.frm(e:W0.cell? cb=some (.pointer b))(k:¬Dx i tag cb)(d:c.now=now)(hv:0<N->V.wt=.slice (g,o) N cap):Lw (Gx tag i b W0 c V N) N g o b cb now:=by
 refine⟨λR w w' h m=>⟨h.1,h.2.1.mod0 m,h.2.2.1.mod m,h.2.2.2.trans (m.mono (λ_ x=>x.elim))⟩,λR w h=>h.1,λR w h=>h.2.2.2.cell (a:=cb) k e,λR w h=>by rw[<-d];exact h.2.1.hd (j:=3) rfl,λR w h j f hf q x hx=>?_⟩;have hN:0<N:=by
  have:=(AN.1 hf).1;have:=h.1;omega
 have:=h.row.cells (hv hN) (j*10+q) x (T6 R j f hf q x hx);rw[<-Nat.add_assoc]at this;exact this
def Gi:Da:={ kind:=0,stream:=0,off:=0,rel:=0,lim:=0,fin:=false,id:=0,dl:=0,data:=[],rngs:=[] }
def YF(w:World):(zeroValue 65).run prog w=.ok (.agg (zl Gi (.slice none 0 0))) w:=mr
theorem kM(n:Nat):(Builtin.zeroCells (Value.agg (zl Gi (.slice none 0 0))).cells n).toList=zt (List.replicate n Gi):=by
 have h:∀n,(Builtin.zeroCells (Value.agg (zl Gi (.slice none 0 0))).cells n).toList=(List.range (n*10)).map (λi=>(zl Gi (.slice none 0 0))[i % 10]!):=λn=>by
  simp[Builtin.zeroCells,Value.cells,zl]
 rw[h];clear h
 induction n with
 | zero=>rfl
 | succ n ih =>
  have e0:zt (List.replicate (n+1) Gi)=(zl Gi (.slice none 0 0)).toList++zt (List.replicate n Gi):=by rw[List.replicate_succ];rfl
  rw[e0,<-ih,(I:(n+1)*10=10+n*10),List.range_add,Ba,Cg];have e:((λi=>(zl Gi (.slice none 0 0))[i % 10]!) ∘ λx=>10+x)=λi=>(zl Gi (.slice none 0 0))[i % 10]!:=by
   funext q;simp only[Function.comp,Nat.add_mod_left]
  rw[e];rfl
def SF(A B:List Da):zt (A++B)=zt A++zt B:=by simp[zt]
def Gx.frmK(n:0<N->V.wt=.slice (g,o) N cap):OT (Gx tag i b W0 c V N) N g o cap:=by
 refine⟨λR w l h=>?_,λR w j f h y hf=>?_,λR w j h y=>?_⟩
 .have m:=h.row;rw[n l]at m;obtain⟨sz,⟨a,h1,_⟩,_⟩:=m.rowO;exact⟨a,h1⟩
 .have l:0<N:=I;have m:=h.row;rw[n l]at m;obtain⟨sz,ro,t,u,e,rfl,v⟩:=m.rowO;have r1:=ro.set (j*10) (.int .i64 f.kind);have r2:=r1.set (j*10+1) (.int .i64 f.stream);have r3:=r2.set (j*10+2) (.int .u64 f.off);have r4:=r3.set (j*10+3) (.int .u64 f.rel);have r5:=r4.set (j*10+4) (.int .u64 f.lim);have r6:=r5.set (j*10+5) (.bool f.fin);have r7:=r6.set (j*10+6) (.int .u64 f.id);have r8:=r7.set (j*10+7) (.int .u64 f.dl);have r9:=r8.set (j*10+8) (.string (zu f.data));have r:=r9.set (j*10+9) (.slice none 0 0);rw[<-T7 R j f (by rw[h.1];exact y)]at r;simp only[<-Nat.add_assoc]at r;refine h.turn (g:=g) ?_ (by rw[n l];rfl) (by rw[Bg];exact h.1) ?_
  .refine((((((((((DW.refl (λq=>q=g) w).setCell (p:=⟨g,_,none⟩) (.inl rfl) _).setCell (p:=⟨g,_,none⟩) (.inl rfl) _).setCell (p:=⟨g,_,none⟩) (.inl rfl) _).setCell (p:=⟨g,_,none⟩) (.inl rfl) _).setCell (p:=⟨g,_,none⟩) (.inl rfl) _).setCell (p:=⟨g,_,none⟩) (.inl rfl) _).setCell (p:=⟨g,_,none⟩) (.inl rfl) _).setCell (p:=⟨g,_,none⟩) (.inl rfl) _).setCell (p:=⟨g,_,none⟩) (.inl rfl) _).setCell (p:=⟨g,_,none⟩) (.inl rfl) _
  rw[n l];exact r.own (by rw[Jv,Bg,h.1]) t u v
 have l:0<N:=I;have m:=h.row;rw[n l]at m;obtain⟨sz,⟨a,h1,h2,h3⟩,t,u,e,rfl,v⟩:=m.rowO;have x:w.heap[g]?=some (.cells a.toList.toArray 65 (0,0)):=nF h1;have d:a.toList.length=sz:=nF h3;have hb:e*10+N*10<=sz:=I;have k:(R.take j).length=j:=by rw[AU,h.1];omega
 have s:(zt (List.replicate (N-j) Gi)).length=(N-j)*10:=by rw[Jv,Bk]
 refine⟨_,R.take j++List.replicate (N-j) Gi,λty=>Mn (P:=prog) w 54 ty 65 (.agg (zl Gi (.slice none 0 0))) 10 underlying54 YF rfl (by simp[Value.cells,Value.oneCell',zl]) g (e*10+j*10) (N-j) _ a.toList _ x (by rw[d];omega),?_,?_⟩
 .rw[kM];refine h.turn (g:=g) (PY w g _) (by rw[n l];rfl) (by rw[AG,k,Bk];omega) ?_;rw[n l];have hs:(splice a.toList (e*10+j*10) (zt (List.replicate (N-j) Gi))).length=sz:=by rw[length_splice _ _ _ (by rw[s,d];omega),d]
  refine Ka.own (sz:=sz) ⟨_,setRow_heap w g _ _ _ _ h1,?_,by rw[Am,hs]⟩ (by rw[Jv,AG,k,Bk];omega) t u v;have h6:(a.toList.drop (e*10)).take (j*10)=zt (R.take j):=by
   have h7:zt R=zt (R.take j)++zt (R.drop j):=by rw[<-SF,Bx]
   have h8:(a.toList.drop (e*10)).take (j*10)=((a.toList.drop (e*10)).take (N*10)).take (j*10):=by rw[Bf,BZ I]
   rw[h8,h2,h7,BF (by rw[Jv,k];omega),Aa (by rw[Jv,k];omega)]
  have h9:(a.toList.take (e*10+j*10)).drop (e*10)=zt (R.take j):=by
   rw[C9,(I:e*10+j*10-e*10=j*10),h6]
  unfold splice;simp only[DM];rw[List.drop_append_of_le_length (by rw[AU,d];omega),h9,SF,<-List.append_assoc];have h10:(zt (R.take j)++zt (List.replicate (N-j) Gi)).length=N*10:=by rw[AG,s,Jv,k];omega
  rw[BF I,Aa I]
 rw[BF I,Bf,Ce]
variable{a:nI}
def jg{n:Nat}{R:List Da}(h:Er w 65 10 (.slice a N cap) N (zt R))(c:R.length=N)(d:n<=N):Er w 65 10 (.slice a n cap) n (zt (R.take n)):=by
 by_cases h0:n=N
 .rw[h0,Aa I];exact h
 rcases h.2 with⟨e,e2⟩|⟨g,o,f,b,e,h1,h2,h3,h4,h5⟩
 .omega
 cases e;refine⟨by rw[Jv,AU,c,BZ d],.inr ⟨g,o,cap,b,rfl,h1,I,h3,h4,?_⟩⟩;have h7:zt R=zt (R.take n)++zt (R.drop n):=by rw[<-SF,Bx]
 have hl:(zt (R.take n)).length=n*10:=by rw[Jv,AU,c,BZ d]
 have h8:(b.toList.drop (o*10)).take (n*10)=((b.toList.drop (o*10)).take (N*10)).take (n*10):=by rw[Bf,BZ I]
 rw[h8,h5,h7,BF I,Aa I]
def Gx.done{n:Nat}{R:List Da}(h:Gx tag i b W0 c V N R w)(s:V.wt=.slice a N cap)(hn:n<=N):zi tag i b { c with waits:=R.take n } { V with wt:=.slice a n cap } (w.setCell (b,238) (.slice a n cap)):=by
 have d:=h.row;rw[s]at d;have d:=jg d h.1 hn;obtain⟨hl,h1,h2,h3⟩:=h;have m:DW (λq=>q=b) w (w.setCell (U b 238) (.slice a n cap)):=(DW.refl (λq=>q=b) w).setCell (p:=⟨b,_,none⟩) (.inl rfl) _;have f:∀g,Value.blk (.slice a n cap)=some g->tag g=(i,6):=λg hg=>h1.twt g (by rw[s];cases a<;>exact hg)
 have o:∀g,Value.blk (.slice a n cap)=some g->¬g=b:=λg hg e=>by
  have h4:=f g hg;rw[e,h1.tb]at h4;simp at h4
 have l:(R.take n).length=n:=by rw[AU,hl];omega
 refine h1.build (R:=λr=>r=1) m (λq hq=>⟨1,rfl,by rw[show q=b from hq];exact h1.tb⟩) (λ_ _=>rfl) ?_ (.inl ⟨rfl,rfl,rfl,I,I⟩) (λk hk=>.inl ⟨rfl,rfl,I⟩) (λk hk=>.inl ⟨rfl,rfl,I⟩) (λk hk=>.inl ⟨rfl,rfl,I⟩) (λk hk=>.inl ⟨rfl,rfl,I⟩) (λk hk=>.inl ⟨rfl,rfl,I⟩) (.inl ⟨rfl,rfl,rfl,I,I⟩) (.inr ⟨?_,f⟩) (.inl ⟨rfl,rfl,I⟩) (.inl ⟨rfl,rfl,I⟩)
 .rw[zc h1.obj];simp only[Aq];rw[show(238:Nat)=233+5 from rfl,G8 (j:=5) { c with waits:=R } { c with waits:=R.take n } V { V with wt:=.slice a n cap } (.slice a n cap) rfl rfl rfl rfl]
 simp only[l];exact d.mod m o
def CS.ticked(c:CS):CS:={ c with now:=c.now+1,waits:=c.waits.filter (λf => !decide (f.dl<c.now+1)) }
def YE(h:zi tag i b c V W)(M:Dv tag W)(hi:0<i)(hn:c.now<=zF)(hw:c.waits.length<=1099511627776)(hb:c.flight.length<=1099511627776)(ok:Kj c.ticked):Calls prog 26 #[(b,0)] W (Ej tag i b W (.tuple #[]) c.tick):=by
 obtain⟨N,y⟩:=nm c.waits.length;obtain⟨a,cap,z,q1,q2,g,o,m⟩:∃a cap,V.wt=.slice a N cap/\N<=cap/\cap<=maxLen/\∃g o,0<N->a=some ⟨g,o,none⟩:=by
  rcases h.wt.2 with⟨e,e2⟩|⟨g,o,cap,cur,e,_,h2,h3,_⟩
  .have S:N=0:=I;exact⟨none,0,by rw[e,S],I,mz,0,0,λx=>I⟩
  exact⟨_,cap,by rw[e,y],I,h3,g,o*10,λ_=>rfl⟩
 obtain⟨nw,d⟩:=nm c.now;rw[d]at hn;unfold zF at hn;obtain⟨W1,s⟩:=nm (W.alloc (.cells #[(b,0)] 69));have m1:=AB s;have f:W1.cell? W.heap.size=some (.pointer b):=by rw[<-s];exact za (heap_alloc_new W _) rfl
 have k:¬Dx i tag W.heap.size:=λx=>by
  have h1:=x.1;rw[M _ (AF _)]at h1;simp at h1;omega
 have h1:=h.mod0 m1;obtain⟨cb,l⟩:=nm W.heap.size;rw[l]at f k;have A:cb≠b:=λe=>k (by rw[e];exact EW h.tb mu)
 obtain⟨W2,t⟩:=nm (W1.setCell (U b 3) (.int .u64 ((nw:Int)+1)));have O:DW (λq=>q=b) W1 W2:=by rw[<-t];exact(DW.refl (λq=>q=b) W1).setCell (p:=⟨b,_,none⟩) (.inl rfl) _
 have h2:zi tag i b { c with now:=c.now+1 } V W2:=by
  have:=h1.store 3 _ (Kx c { c with now:=c.now+1 } V V (j:=3) _ mu rfl rfl rfl rfl) ⟨rfl,λ_ _=>⟨rfl,rfl,rfl⟩,λ_ _=>⟨rfl,rfl⟩,rfl,rfl,rfl,rfl⟩;rw[<-t,<-d];exact this
 have B:=(M.mod m1).mod O;have u:=O.cell (a:=cb) A f;have kd:=kN (Gx tag i b W2 { c with now:=c.now+1 } V N) c.waits N g o cap b cb (nw+1) a y I q1 q2 m (Gx.frm (cap:=cap) u k (by rw[d]) (λx=>by rw[z,m x])) (Gx.frmK (λx=>by rw[z,m x])) W2.drew ⟨y,h2.mod0 (DW.refl DY W2).drew,B.mod (DW.refl DY W2).drew,(DW.refl _ W2).drew⟩;have c3:W1.cell? (b,3)=some (.int .u64 nw):=by rw[<-d];exact h1.hd (j:=3) rfl
 have T:=h1.fz 3;have C:W2.cell? (b,238)=some (.slice a N cap):=by rw[<-z];exact h2.tl (j:=5) rfl
 have fz:=h2.fz 238;have yw:=wu ((nw:Int)+1) I;have X:AA (DW (Dx i tag) W W2):=zb ((m1.mono (λ_ x=>x.elim)).trans (O.mono (λq D=>.inl (EW (r:=1) (by rw[show q=b from D];exact h.tb) mu))));have KD:=zb kd;have HT:=zb M;have HI:=zb hi;have E:=zb k;have Y:=zb u;have HN:=zb y;have aa:=zb s;have ab:=zb t;have ac:=zb l;have ad:=zb ok;have HB:=zb hb;have HV:=zb z;have ae:=zb d;clear kd M hi m1 O k y h h1 h2 B ok hb hw s t l A z d m q1 q2;go_enter func26,ntmps26;go_upto_region 1 with fail;rw[aa.z,ac.z];go_upto_region 2 with fail;rw[ab.z];clear c3 T f;refine zG ?_;refine zo 9 (λw'=>w'.cell? cb=some (.pointer b)/\w'.cell? (U b 238)=some (.slice a N cap)/\w'.frozen? ⟨b,238,none⟩=false) (⟨u,C,fz⟩) ?_;refine GI 0 ?_;iterate 6
  refine GV rfl ?_;try simp only[PS]
 refine zE 6 rfl (λK F=>?_);go_simp
 with_reducible refine(KD.z).mono ?_
 rintro e w ⟨n,R,rfl,G,hj,hR⟩;have H:=zb (And.intro G (And.intro hj hR));have hF:w.cell? cb=some (.pointer b)/\w.cell? (b,238)=some (.slice a N cap)/\w.frozen? ⟨b,238,none⟩=false:=by
  obtain⟨hl,h1,h2,h3⟩:=hj;exact⟨h3.cell (a:=cb) E.z Y.z,by rw[<-HV.z];exact h1.tl (j:=5) rfl,h1.fz 238⟩
 clear hj G hR;go_simp;refine F.z _ _ hF ?_;obtain⟨p0,p1,p2⟩:=hF;clear F K;try simp only[PS]
 refine GI 7 ?_;iterate 2
  refine GV rfl ?_;try simp only[PS]
 refine EX rfl (λK F=>?_);go_simp;refine F.z _ _ ?_;clear F K;try simp only[PS]
 refine zr ?_;refine⟨rfl,?_⟩;obtain⟨Z,hZ⟩:=nm (w.setCell (U b 238) (.slice a n cap));have P:DW (λq=>q=b) w Z:=by rw[<-hZ];exact(DW.refl (λq=>q=b) w).setCell (p:=⟨b,_,none⟩) (.inl rfl) _
 have Q:zi tag i b c.ticked { V with wt:=.slice a n cap } Z:=by
  obtain⟨j1,j2,j3⟩:=H.z;have:=j2.done HV.z (by rw[<-HN.z];exact j1);rw[hZ,j3,<-ae.z]at this;exact this
 have J:=H.z.2.1.2.2.1.mod P;have kl:=T9 Q J HI.z ad.z HB.z;have zcb:=P.cell (a:=cb) (λe=>E.z (by rw[show cb=b from e];exact EW Q.tb mu)) p0;have KL:=zb kl;have MZ:=zb P;have HC:=zb Q;clear kl P Q J p0 p1 p2 u C fz;try rw[hZ]
 go_wp2_with fail;refine(KL.z).mono ?_;rintro e w9 ⟨rfl,L,V9,r1,r2,r3⟩;have R9:=zb (And.intro r1 (And.intro r2 r3));clear r1 r2 r3;go_wp2_with fail
 go_end0
 refine⟨rfl,L,V9,R9.z.1,?_,?_⟩
 .exact(Dn.same HT.z ((X.z.trans H.z.2.1.2.2.2).trans (MZ.z.mono (λq D=>.inl (EW (r:=1) (by rw[show q=b from D];exact HC.z.tb) mu))))).trans R9.z.2.1 (by have h1:=X.z.size;have h2:=H.z.2.1.2.2.2.size;have h3:=MZ.z.size;omega)
 exact((X.z.trans H.z.2.1.2.2.2).trans (MZ.z.mono (λq D=>.inl (EW (r:=1) (by rw[show q=b from D];exact HC.z.tb) mu)))).ofC.trans R9.z.2.2
def FS(f:Da):Prop:=(∃k:Nat,k<8/\f.stream=(k:Int))/\(f.kind=4->f.off+f.data.length<=zF/\f.data.length<=1099511627776)
structure RS.Inv(G:Nat)(x:RS):Prop where
 came:x.came.Ok
 in_:∀j,j<x.came.rs.length->DX x.came.rs j<x.high
 bl:x.b.length=x.high
 rd:x.read<=x.high
 hg:x.high<=x.grant
 gr:x.grant<=G
 fin:x.fin<=zF
 keep:x.keep<=zF
 st:x.state=2->x.cut=true/\x.keep<=x.read
structure CS.Inv(T:Nat)(c:CS):Prop where
 mtu:64<=c.mtu/\c.mtu<=65536
 win:c.window<=4096
 tot:c.total<=4096
 grant:c.grant<=zF
 credit:c.credit<=zF
 ws:∀k,k<8->(c.ws k).Ok
 rs:∀k,k<8->(c.rs k).Inv (4096*(T+1))
 waits:(∀f∈c.waits,f.Fits)/\c.waits.length<=16
 fl:c.flight.length<=12
 fly:∀p∈c.flight,p.n<=zF/\p.at_<=zF/\p.fs.length<=1099511627776/\∀f∈p.fs,FS f
 now:c.now<=T
 next:c.next<=32*T
 got:c.got.Ok/\c.got.most<=8
 nd:(c.seen.map (·.1)).Nodup
 ids:∀p∈c.seen,p.1<=zF
 sl:c.seen.length<=T
 most:c.most<=zF
 cl:c.came.length<=T
def Dg:Nat:=268435455
def RS.Inv.mono{G a:Nat}{x:RS}(h:x.Inv G)(hG:G<=a):x.Inv a:=⟨h.came,h.in_,h.bl,h.rd,h.hg,AJ h.gr hG,h.fin,h.keep,h.st⟩
variable{T:Nat}
def CS.Inv.mono{a:Nat}(h:c.Inv T)(hT:T<=a):c.Inv a :=
 ⟨h.mtu,h.win,h.tot,h.grant,h.credit,h.ws,λk hk=>(h.rs k hk).mono I,h.waits,h.fl,h.fly,nC h.now,nC h.next,h.got,h.nd,h.ids,nC h.sl,h.most,nC h.cl⟩
def RS.Inv.used{G:Nat}{x:RS}(h:x.Inv G)(hG:G<=1099511627776):(x.used<=zF/\x.grant<=zF)/\(x.hopes=true->x.used<=G):=by
 have h1:=h.rd;have h2:=h.hg;have h3:=h.gr;have h4:=h.fin;unfold zF at *;refine⟨⟨?_,I⟩,λc=>?_⟩
 .unfold RS.used;split<;>omega
 unfold RS.used;split
 .rename_i e;obtain⟨a,b⟩:=h.st e;unfold RS.hopes at c;rw[a]at c;simp[e]at c;omega
 omega
def CS.Inv.ok(h:c.Inv T)(hT:T<=Dg):c.Ok:=by
 unfold Dg at hT;refine⟨h.mtu.2,h.win,h.tot,h.grant,h.credit,h.ws,λk hk=>?_,h.waits.1⟩;obtain⟨a,b⟩:=(h.rs k hk).used I;exact⟨a,λhh=>nC (b hh)⟩
variable{rs:zC}
def I5{r:Nat×Nat}(h:r∈rs):∃j,j<rs.length/\DZ rs j=r.1/\DX rs j=r.2:=by
 obtain⟨j,a,rfl⟩:=Cv.1 h;have e:rs.getD j (0,0)=rs[j]:=by simp[List.getD,a]
 exact⟨j,a,by unfold DZ;rw[e],by unfold DX;rw[e]⟩
variable{s:Dl}
def Dl.Ok.mem(h:s.Ok){r:Nat×Nat}(hr:r∈s.rs):r.2<=zF:=by
 obtain⟨j,hj,_,e⟩:=I5 hr;rw[<-e];exact h.hi j hj
theorem Dl.Ok.adds:∀(l:zC) {s:Dl},s.Ok->(∀r∈l,r.2<=zF)->(s.adds l).Ok
 | [],_,h,_=>h
 | r::l,s,h,hl=>Dl.Ok.adds l (h.add r.1 (hl r AO)) (λq hq=>hl q (AW _ hq))
variable{x:WS}
def WS.Ok.again(h:x.Ok)(f:Da):(x.again f).Ok:=by
 refine⟨?_,h.came,h.cut,h.len,h.credit,h.high⟩;unfold WS.again;refine Dl.Ok.adds _ ?_ (λr a=>h.came.mem (List.mem_reverse.1 a));exact Ru _ _ _ _ (λr a=>h.sent.mem a) (It _ h.sent.most)
variable{f:Da}
def WS.Ok.acked(h:x.Ok)(hf:f.off+f.data.length<=zF):(x.acked f).Ok :=
 ⟨h.sent.add _ I,h.came.add _ I,h.cut,h.len,h.credit,h.high⟩
structure Ev(c c':CS):Prop where
 hd:c'.mtu=c.mtu/\c'.window=c.window/\c'.total=c.total/\c'.now=c.now/\c'.closed=c.closed/\c'.said=c.said/\c'.next=c.next/\c'.got=c.got/\c'.answer=c.answer
 tl:c'.credit=c.credit/\c'.grant=c.grant/\c'.flight=c.flight/\c'.largest=c.largest/\c'.waits=c.waits/\c'.lastID=c.lastID/\c'.anyID=c.anyID/\c'.seen=c.seen/\c'.most=c.most/\c'.came=c.came
 rs:∀k,k<8->∃a,c'.rs k={ c.rs k with anew:=a }
def Ev.refl(c:CS):Ev c c:=⟨⟨rfl,rfl,rfl,rfl,rfl,rfl,rfl,rfl,rfl⟩,⟨rfl,rfl,rfl,rfl,rfl,rfl,rfl,rfl,rfl,rfl⟩,λk _=>⟨(c.rs k).anew,rfl⟩⟩
variable{c':CS}
def Ev.trans{a:CS}(h:Ev c c')(k:Ev c' a):Ev c a:=by
 obtain⟨a1,a2,a3,a4,a5,a6,a7,a8,a9⟩:=h.hd;obtain⟨b1,b2,b3,b4,b5,b6,b7,b8,b9⟩:=k.hd;obtain⟨c1,c2,c3,c4,c5,c6,c7,c8,c9,b⟩:=h.tl;obtain⟨d1,d2,d3,d4,d5,d6,d7,d8,d9,d⟩:=k.tl;refine⟨⟨b1.trans a1,b2.trans a2,b3.trans a3,b4.trans a4,b5.trans a5,b6.trans a6,b7.trans a7,b8.trans a8,b9.trans a9⟩,⟨d1.trans c1,d2.trans c2,d3.trans c3,d4.trans c4,d5.trans c5,d6.trans c6,d7.trans c7,d8.trans c8,d9.trans c9,d.trans b⟩,λq e=>?_⟩;obtain⟨x,hx⟩:=h.rs q e;obtain⟨y,hy⟩:=k.rs q e;exact⟨y,by rw[hy,hx]⟩
def RS.Inv.anew{G:Nat}{x:RS}(h:x.Inv G)(a:Bool):({ x with anew:=a }:RS).Inv G:=⟨h.came,h.in_,h.bl,h.rd,h.hg,h.gr,h.fin,h.keep,h.st⟩
def CS.Inv.but(h:c.Inv T)(s:Ev c c')(hw:∀k,k<8->(c'.ws k).Ok):c'.Inv T:=by
 obtain⟨a1,a2,a3,a4,a5,a6,a7,a8,a9⟩:=s.hd;obtain⟨c1,c2,c3,c4,c5,c6,c7,b,c9,d⟩:=s.tl;exact
  {mtu:=by rw[a1];exact h.mtu
   win:=by rw[a2];exact h.win
   tot:=by rw[a3];exact h.tot
   grant:=by rw[c2];exact h.grant
   credit:=by rw[c1];exact h.credit
   ws:=hw
   rs:=λk hk=>by obtain⟨a,e⟩:=s.rs k hk;rw[e];exact(h.rs k hk).anew a
   waits:=by rw[c5];exact h.waits
   fl:=by rw[c3];exact h.fl
   fly:=by rw[c3];exact h.fly
   now:=by rw[a4];exact h.now
   next:=by rw[a7];exact h.next
   got:=by rw[a8];exact h.got
   nd:=by rw[b];exact h.nd
   ids:=by rw[b];exact h.ids
   sl:=by rw[b];exact h.sl
   most:=by rw[c9];exact h.most
   cl:=by rw[d];exact h.cl }
def ee(c:CS)(f:Da):Ev c (c.again f):=by
 have rf:=Ev.refl c;unfold CS.again;split
 .exact⟨rf.hd,rf.tl,rf.rs⟩
 split
 .exact⟨rf.hd,rf.tl,rf.rs⟩
 split
 .exact⟨rf.hd,rf.tl,rf.rs⟩
 split
 .refine⟨rf.hd,rf.tl,λk _=>?_⟩;by_cases e:k=f.stream.toNat
  .subst e;exact⟨(c.rs f.stream.toNat).anew||f.lim==(c.rs f.stream.toNat).grant,by simp only[ze]⟩
  exact⟨(c.rs k).anew,by simp only[zd _ _ e]⟩
 exact rf
def YD(f:Da)(h:∀k,k<8->(c.ws k).Ok):∀k,k<8->((c.again f).ws k).Ok:=by
 intro k hk;unfold CS.again;split
 .by_cases e:k=f.stream.toNat
  .subst e;simp only[ze];exact(h _ hk).again f
  simp only[zd _ _ e];exact h k hk
 split
 .by_cases e:k=f.stream.toNat
  .subst e;simp only[ze];have w:=h _ hk;exact⟨w.sent,w.came,w.cut,w.len,w.credit,w.high⟩
  simp only[zd _ _ e];exact h k hk
 split
 .exact h k hk
 split
 .exact h k hk
 exact h k hk
theorem VX:∀(fs:List Da) (c:CS),Ev c (c.agains fs)
 | [],c=>Ev.refl c
 | f::fs,c=>(ee c f).trans (VX fs (c.again f))
theorem Q6:∀(fs:List Da) {c:CS},(∀k,k<8->(c.ws k).Ok)->∀k,k<8->((c.agains fs).ws k).Ok
 | [],_,h=>h
 | f::fs,_,h=>Q6 fs (YD f h)
def eY(c:CS)(p:Dc):Ev c (c.lose1 p):=by
 unfold CS.lose1;split
 .exact VX _ _
 exact Ev.refl c
def Y1(p:Dc)(h:∀k,k<8->(c.ws k).Ok):∀k,k<8->((c.lose1 p).ws k).Ok:=by
 unfold CS.lose1;split
 .exact Q6 _ h
 exact h
theorem JE:∀(l:List Dc) (c:CS),Ev c (c.loses l)
 | [],c=>Ev.refl c
 | p::l,c=>(eY c p).trans (JE l (c.lose1 p))
theorem Qu:∀(l:List Dc) {c:CS},(∀k,k<8->(c.ws k).Ok)->∀k,k<8->((c.loses l).ws k).Ok
 | [],_,h=>h
 | p::l,_,h=>Qu l (Y1 p h)
def CS.Inv.loseOk(h:c.Inv T):Kj c:=by
 refine⟨λp a=>⟨(h.fly p a).1,(h.fly p a).2.1,(h.fly p a).2.2.1⟩,λk p a _ j f hf=>?_⟩;obtain⟨⟨q,d,b⟩,h4⟩:=(h.fly p (AV a)).2.2.2 f (AV hf);have g:=Q6 (p.fs.take j) (Qu (c.flight.take k) h.ws) q d;refine⟨λe=>?_,λ_=>I,λ_=>I⟩;rw[b,Ae];exact⟨d,b,g.sent,g.came,(h4 e).1,(h4 e).2⟩
def CS.Inv.sub(h:c.Inv T)(p:Dc->Bool):(c.fly (c.flight.filter p)).Inv T :=
 {mtu:=h.mtu,win:=h.win,tot:=h.tot,grant:=h.grant,credit:=h.credit,ws:=h.ws,rs:=h.rs,waits:=h.waits,now:=h.now,next:=h.next,got:=h.got,nd:=h.nd,ids:=h.ids,sl:=h.sl,most:=h.most,cl:=h.cl
  fl:=AJ (Co _ _) h.fl
  fly:=λq hq=>h.fly q (BI.1 hq).1 }
def CS.Inv.lose(h:c.Inv T):c.lose.Inv T:=by
 have h1:=h.but (JE c.flight c) (Qu c.flight h.ws);rw[Hs];have h2:=h1.sub (λp => !c.late p);rw[(JE c.flight c).tl.2.2.1]at h2;exact h2
def CS.Inv.ticked(h:c.Inv T):c.ticked.Inv (T+1):=by
 have a:=h.mono (I:T<=T+1);exact
  {mtu:=h.mtu,win:=h.win,tot:=h.tot,grant:=h.grant,credit:=h.credit,ws:=h.ws,rs:=a.rs,fl:=h.fl,fly:=h.fly,next:=a.next,got:=h.got,nd:=h.nd,ids:=h.ids,sl:=a.sl,most:=h.most,cl:=a.cl
   now:=by have:=h.now;show c.now+1<=_;omega
   waits:=⟨λf hf=>h.waits.1 f (BI.1 hf).1,AJ (Co _ _) h.waits.2⟩ }
def CS.Inv.tick(h:c.Inv T):c.tick.Inv (T+1):=h.ticked.lose
def Yz(c:CS)(f:Da):Ev c (c.ackF f):=by
 have rf:=Ev.refl c;unfold CS.ackF;split
 .exact⟨rf.hd,rf.tl,rf.rs⟩
 exact rf
def XE(hf:FS f)(h:∀k,k<8->(c.ws k).Ok):∀k,k<8->((c.ackF f).ws k).Ok:=by
 intro k hk;unfold CS.ackF;split
 .rename_i e;by_cases a:k=f.stream.toNat
  .subst a;simp only[ze];exact(h _ hk).acked (hf.2 e.1).1
  simp only[zd _ _ a];exact h k hk
 exact h k hk
theorem Ud:∀(fs:List Da) (c:CS),Ev c (fs.foldl CS.ackF c)
 | [],c=>Ev.refl c
 | f::fs,c=>(Yz c f).trans (Ud fs (c.ackF f))
theorem Qt:∀(fs:List Da) {c:CS},(∀f∈fs,FS f)->(∀k,k<8->(c.ws k).Ok)->∀k,k<8->((fs.foldl CS.ackF c).ws k).Ok
 | [],_,_,h=>h
 | f::fs,_,hf,h=>Qt fs (λg hg=>hf g (AW _ hg)) (XE (hf f AO) h)
def Yy(c:CS)(rs:zC)(p:Dc):Ev c (c.ackP rs p):=by
 unfold CS.ackP;split
 .exact Ud _ _
 exact Ev.refl c
def XD(rs:zC){p:Dc}(hp:∀f∈p.fs,FS f)(h:∀k,k<8->(c.ws k).Ok):∀k,k<8->((c.ackP rs p).ws k).Ok:=by
 unfold CS.ackP;split
 .exact Qt _ hp h
 exact h
theorem Jr(rs:zC):∀(l:List Dc) (c:CS),Ev c (c.ackPs rs l)
 | [],c=>Ev.refl c
 | p::l,c=>(Yy c rs p).trans (Jr rs l (c.ackP rs p))
theorem Qs(rs:zC):∀(l:List Dc) {c:CS},(∀p∈l,∀f∈p.fs,FS f)->(∀k,k<8->(c.ws k).Ok)->∀k,k<8->((c.ackPs rs l).ws k).Ok
 | [],_,_,h=>h
 | p::l,_,hp,h=>Qs rs l (λq hq=>hp q (AW _ hq)) (XD rs (hp p AO) h)
def CS.Inv.large(h:c.Inv T)(n:Nat):({ c with largest:=n }:CS).Inv T :=
 {mtu:=h.mtu,win:=h.win,tot:=h.tot,grant:=h.grant,credit:=h.credit,ws:=h.ws,rs:=h.rs,waits:=h.waits,now:=h.now,next:=h.next,got:=h.got,nd:=h.nd,ids:=h.ids,sl:=h.sl,most:=h.most,cl:=h.cl,fl:=h.fl,fly:=h.fly }
def CS.Inv.ackedOk(h:c.Inv T)(rs:zC):NG c rs:=by
 refine⟨λp d=>(h.fly p d).2.2.1,λk p d _ j f hf=>?_⟩;have a:=AV d;have e:=AV hf;have b:=(h.fly p a).2.2.2 f e;refine⟨b.1,λh4 _=>?_⟩;obtain⟨⟨q,l,i⟩,hb⟩:=b;have m:=Qt (p.fs.take j) (λg hg=>(h.fly p a).2.2.2 g (BP hg)) (Qs rs (c.flight.take k) (λr hr=>(h.fly r (BP hr)).2.2.2) h.ws) q l;exact⟨q,l,i,m.sent,m.came,(hb h4).1,(hb h4).2⟩
def CS.Inv.ackedTo(h:c.Inv T)(rs:zC):(c.ackedTo rs).Inv T:=by
 have h0:=h.large (max c.largest (DX rs 0));have h1:=h0.but (Jr rs c.flight _) (Qs rs c.flight (λp hp=>(h.fly p hp).2.2.2) h0.ws);have h2:=h1.sub (λp => !D2 rs p);rw[(Jr rs c.flight _).tl.2.2.1]at h2;exact h2
def CS.Inv.acked(h:c.Inv T)(rs:zC):(c.acked rs).2.Inv T:=by
 by_cases a:c.next<=DX rs 0
 .unfold CS.acked;rw[AQ a];exact h
 rw[PF c rs a];exact(h.ackedTo rs).lose
structure Ez(f:Da):Prop where
 sound:zX f=true
 dl:f.data.length<=1099511627776
 rl:f.rngs.length<=1099511627776
def Ez.ns(h:Ez f):f.off<=zF/\f.rel<=zF/\f.lim<=zF/\f.id<=zF/\f.dl<=zF:=by
 have h1:=h.sound;unfold zX Ef nums at h1;simp only[AZ,List.all_cons,List.all_nil,Ah]at h1;unfold zF;omega
def Ez.st(h:Ez f):∃k:Nat,k<8/\f.stream=(k:Int):=by
 have h1:=h.sound;unfold zX Ek at h1;simp only[AZ,Ah]at h1;exact⟨f.stream.toNat,I,I⟩
def Ez.end4(h:Ez f)(h4:f.kind=4):f.end_<=zF:=by
 have h1:=h.sound;unfold zX zO at h1;rw[h4]at h1;simp only[AZ]at h1;have h2:=h1.2;simp at h2;unfold Da.end_ zF;omega
def Ez.rngs2(h:Ez f)(h2:f.kind=2):0<f.rngs.length:=by
 have h1:=h.sound;unfold zX zO at h1;rw[h2]at h1;simp only[AZ,BC]at h1;have h3:=h1.2;unfold FE at h3;simp only[AZ,Ah]at h3;exact h3.2
variable{B hi lo:Nat}
def Qr(h:s.Ok)(hb:∀j,j<s.rs.length->DX s.rs j<=B)(hh:hi<=B)(hm:hi<=zF):∀j,j<(s.add lo hi).rs.length->DX (s.add lo hi).rs j<=B:=by
 unfold Dl.add;split
 .exact hb
 have s1:=zT (D0 s.rs (max lo s.fl)) s.rs.length;have s2:=zT (EF s.rs hi) s.rs.length;have a:=Jo h.wf I s1 s2;have b:=PJ (m:=max lo s.fl) a s2.1 hb hh;split
 .intro j hj;rw[(Za _ 1 j).2];exact b _ (by rw[Ac]at hj;omega)
 exact b
theorem Yw(off:Nat)(data:nG)(e H:Nat)(he:e<=H)(hm:e<=zF):∀n lo (b:nG) (s:Dl),b.length=H->s.Ok->(∀j,j<s.rs.length->DX s.rs j<H) ->
  (Ep off data e n lo b s).1.length=H/\(Ep off data e n lo b s).2.Ok/\∀j,j<(Ep off data e n lo b s).2.rs.length->DX (Ep off data e n lo b s).2.rs j<H:=by
 intro n
 induction n with
 | zero=>intro lo b s h1 h2 h3;exact⟨h1,h2,h3⟩
 | succ n ih =>
  intro lo b s h1 h2 h3;unfold Ep;split
  .rename_i hlt;split
   .exact⟨h1,h2,h3⟩
   rename_i hg;obtain⟨_,g2⟩:=NZ s.rs lo e hlt I;have g3:=Il s.rs lo e;refine ih _ _ _ ?_ (h2.add _ I) (λj a=>?_)
   .rw[Nj _ _ _ (by rw[AU];omega)];exact h1
   have:=Qr h2 (B:=H-1) (lo:=(Dj s.rs lo e).1) (hi:=(Dj s.rs lo e).2-1) (λj a=>nC (h3 j a)) I I j a;omega
  exact⟨h1,h2,h3⟩
def RS.Inv.data{G:Nat}{x:RS}(h:x.Inv G)(a:f.end_<=zF)(hg:x.high<f.end_->f.end_<=x.grant):(x.data f).Inv G:=by
 have hb:=h.bl;have hh:=h.hg;have hl:=Yw f.off f.data f.end_ (max x.high f.end_) (Cq _ _) a (f.data.length+1) f.off (JT x.b (max x.high f.end_)) x.came (by unfold JT;simp;omega) h.came (λj hj=>A7 (h.in_ j hj) (BO _ _));refine⟨hl.2.1,hl.2.2,hl.1,AJ h.rd (BO _ _),?_,h.gr,?_,h.keep,h.st⟩
 .show max x.high f.end_<=x.grant;by_cases q:x.high<f.end_
  .have:=hg q;omega
  omega
 show(if f.fin then f.end_ else x.fin)<=zF;split
 .exact a
 exact h.fin
def CS.Inv.upR(h:c.Inv T)(k:Nat){x:RS}(hx:x.Inv (4096*(T+1))):({ c with rs:=zf c.rs k x }:CS).Inv T :=
 {mtu:=h.mtu,win:=h.win,tot:=h.tot,grant:=h.grant,credit:=h.credit,ws:=h.ws,waits:=h.waits,now:=h.now,next:=h.next,got:=h.got,nd:=h.nd,ids:=h.ids,sl:=h.sl,most:=h.most,cl:=h.cl,fl:=h.fl,fly:=h.fly
  rs:=λq hq=>by
   by_cases e:q=k
   .subst e;simp only[ze];exact hx
   simp only[zd _ _ e];exact h.rs q hq }
def CS.Inv.upW(h:c.Inv T)(k:Nat)(hx:k<8->x.Ok):({ c with ws:=zf c.ws k x }:CS).Inv T :=
 {mtu:=h.mtu,win:=h.win,tot:=h.tot,grant:=h.grant,credit:=h.credit,rs:=h.rs,waits:=h.waits,now:=h.now,next:=h.next,got:=h.got,nd:=h.nd,ids:=h.ids,sl:=h.sl,most:=h.most,cl:=h.cl,fl:=h.fl,fly:=h.fly
  ws:=λq a=>by
   by_cases e:q=k
   .subst e;simp only[ze];exact hx a
   simp only[zd _ _ e];exact h.ws q a }
def CS.Inv.data(h:c.Inv T)(hf:Ez f)(h4:f.kind=4):(c.data f).2.Inv T:=by
 obtain⟨k,hk,a⟩:=hf.st;unfold CS.data;rw[a,Ae];split
 .exact h
 split
 .exact h
 rename_i hn;exact h.upR k ((h.rs k hk).data (hf.end4 h4) (λq=>DC (λg=>hn ⟨q,.inl g⟩)))
def CS.Inv.resetAt(h:c.Inv T)(hf:Ez f):(c.resetAt f).2.Inv T:=by
 obtain⟨k,hk,d⟩:=hf.st;obtain⟨n1,n2,_⟩:=hf.ns;unfold CS.resetAt;rw[d,Ae];split
 .exact h
 have r:=h.rs k hk;refine h.upR k ⟨r.came,r.in_,r.bl,r.rd,r.hg,r.gr,n1,?_,λe=>?_⟩
 .unfold RS.resetAt;simp only;split
  .exact n2
  exact r.keep
 obtain⟨a,b⟩:=r.st e;refine⟨rfl,?_⟩;unfold RS.resetAt;simp only[a];show(if (!true||decide (f.rel<(c.rs k).keep))=true then f.rel else(c.rs k).keep)<=(c.rs k).read;split
 .rename_i q;simp at q;omega
 exact b
def CS.Inv.message(h:c.Inv T)(hf:Ez f):(c.message f).Inv (T+1):=by
 obtain⟨_,_,_,n4,n5⟩:=hf.ns;have g:=h.mono (I:T<=T+1);unfold CS.message;split
 .exact g
 rename_i hn;have i:¬f.id∈c.seen.map (·.1):=λx=>by
  obtain⟨p,j,e⟩:=BQ.1 x;refine hn ?_;have:(c.seen.any λp=>p.1==f.id)=true:=Bh.2 ⟨p,j,by simp[e]⟩;rw[this];rfl
 have d:((c.seen++[(f.id,f.dl)]).filter λp => !EG (max c.most f.id) p.1).Sublist (c.seen++[(f.id,f.dl)]):=List.filter_sublist;exact
  {mtu:=h.mtu,win:=h.win,tot:=h.tot,grant:=h.grant,credit:=h.credit,ws:=h.ws,rs:=g.rs,waits:=h.waits,now:=g.now,next:=g.next,got:=h.got,fl:=h.fl,fly:=h.fly
   nd:=by
    refine List.Nodup.sublist (d.map _) ?_;rw[Ba,DP];refine⟨h.nd,mv,λa ha b hb e=>?_⟩;have:b=f.id:=nF hb;exact i (by rw[<-this,<-e];exact ha)
   ids:=λp j=>by
    rcases Al.1 (d.subset j)with x|x
    .exact h.ids p x
    have:p=(f.id,f.dl):=nF x;rw[this];exact n4
   sl:=by
    have:=d.length_le;have:=h.sl;simp only[AG,Af]at *;omega
   most:=by have:=h.most;show max c.most f.id<=zF;omega
   cl:=by have:=h.cl;simp only[AG,Af];omega }
def CS.Inv.takeOk(h:c.Inv T)(hT:T<=Dg)(hf:Ez f):Og c f:=by
 unfold Dg at hT;obtain⟨n1,n2,n3,n4,n5⟩:=hf.ns;have i:∀j,j<8->(c.rs j).high<=1099511627776/\(c.rs j).grant<=1099511627776:=λj d=>by
  have a:=(h.rs j d).hg;have b:=(h.rs j d).gr;exact⟨I,I⟩
 have hfl:=h.fl;have l:=h.now;have hsl:=h.sl;have hcl:=h.cl;refine⟨λe=>⟨hf.rngs2 e,hf.rl,I,λ_=>⟨(h.large _).ackedOk _,(h.ackedTo _).loseOk⟩⟩,λ_=>hf.st,λe=>?_,λ_=>hf.st,λ_=>⟨h.most,n4,n5,by unfold zF;omega,h.nd,h.ids,I,I⟩⟩;obtain⟨k,hk,g⟩:=hf.st;exact⟨k,hk,g,λj d=>(i j d).1,(i k hk).2,h.grant,(h.rs k hk).fin,hf.end4 e,hf.dl,(h.rs k hk).came,Ay (h.rs k hk).bl⟩
def CS.Inv.take(h:c.Inv T)(hf:Ez f):(c.take f).2.Inv (T+1):=by
 have up:∀{c':CS},c'.Inv T->c'.Inv (T+1):=λx=>x.mono I
 obtain⟨n1,n2,n3,n4,n5⟩:=hf.ns;unfold CS.take;split
 .exact up (h.acked _)
 split
 .exact up (h.resetAt hf)
 split
 .rename_i e;exact up (h.data hf e)
 split
 .exact up
   {mtu:=h.mtu,win:=h.win,tot:=h.tot,grant:=h.grant,ws:=h.ws,rs:=h.rs,waits:=h.waits,now:=h.now,next:=h.next,got:=h.got,nd:=h.nd,ids:=h.ids,sl:=h.sl,most:=h.most,cl:=h.cl,fl:=h.fl,fly:=h.fly
    credit:=by have:=h.credit;show max c.credit f.lim<=zF;omega }
 split
 .refine up (h.upW _ (λhk=>?_));have w:=h.ws _ hk;exact⟨w.sent,w.came,w.cut,w.len,by have:=w.credit;show max _ f.lim<=zF;omega,w.high⟩
 split
 .exact h.message hf
 split
 .exact up h
 exact up h
def CS.Inv.misc(h:c.Inv T)(cl:Nat)(sd an:Bool):({ c with closed:=cl,said:=sd,answer:=an }:CS).Inv T :=
 {mtu:=h.mtu,win:=h.win,tot:=h.tot,grant:=h.grant,credit:=h.credit,ws:=h.ws,rs:=h.rs,waits:=h.waits,now:=h.now,next:=h.next,got:=h.got,nd:=h.nd,ids:=h.ids,sl:=h.sl,most:=h.most,cl:=h.cl,fl:=h.fl,fly:=h.fly }
theorem CS.Inv.takesOk:∀(fs:List Da) {T:Nat} {c:CS},c.Inv T->T+fs.length<=Dg->(∀f∈fs,Ez f)->NE fs c
 | [],_,_,_,_,_=>trivial
 | f::fs,T,c,h,hT,hf=>by
  simp only[AR]at hT;have h1:=hf f AO;exact⟨h.takeOk I h1,λ_=>CS.Inv.takesOk fs ((h.take h1).misc (c.take f).2.closed (c.take f).2.said _) I (λg hg=>hf g (AW _ hg))⟩
theorem CS.Inv.takes:∀(fs:List Da) {T:Nat} {c:CS},c.Inv T->(∀f∈fs,Ez f)->(CS.takes fs c).2.Inv (T+fs.length)
 | [],_,_,h,_=>h
 | f::fs,T,c,h,hf=>by
  have h1:=h.take (hf f AO);unfold CS.takes;split
  .exact(h1.misc (c.take f).1 ((c.take f).1==13) (c.take f).2.answer).mono (by simp only[AR];omega)
  have:=CS.Inv.takes fs (h1.misc (c.take f).2.closed (c.take f).2.said ((c.take f).2.answer||f.kind != 2)) (λg hg=>hf g (AW _ hg));rw[show T+(f::fs).length=T+1+fs.length by simp only[AR];omega];exact this
variable{bs:nG}{pos:Nat}
def iN{r:Da×Nat}(hl:bs.length<1099511627776)(hp:pos<bs.length)(h:Gl bs pos=some r):Ez r.1/\pos<r.2/\r.2<=bs.length:=by
 unfold Gl at h;split at h
 .cases h
 rename_i t _;rw[Ar]at h;obtain⟨k,hk,h⟩:=h;rw[Ar]at h;obtain⟨⟨f,p⟩,hb,h⟩:=h;simp only at h;split at h
 .rename_i hs;cases h;obtain⟨_,a,b,c,d⟩:=WO hk I hb;exact⟨⟨hs,by show f.data.length<=_;omega,by show f.rngs.length<=_;omega⟩,by show pos<p;omega,b⟩
 cases h
theorem Uc(bs:nG)(hl:bs.length<1099511627776):∀fuel num pos (acc:List Da) n fs,pos<=bs.length->acc.length<=pos->(∀f∈acc,Ez f)->Ij bs fuel num pos acc=.ok n fs->n=num/\fs.length<=bs.length/\∀f∈fs,Ez f
 | 0,_,_,_,_,_,_,_,_,h=>by cases h
 | fuel+1,num,pos,acc,n,fs,hp,ha,hf,h=>by
  unfold Ij at h;split at h
  .rename_i hlt;cases hr:Gl bs pos with
   | none=>rw[hr]at h;cases h
   | some r =>
    rw[hr]at h;obtain⟨a,b,c⟩:=iN hl hlt hr;refine Uc bs hl fuel num r.2 _ n fs c ?_ (λf hm=>?_) h
    .rw[AG,Af];omega
    rcases Al.1 hm with x|x
    .exact hf f x
    rw[Ag.1 x];exact a
  cases h;exact⟨rfl,I,hf⟩
variable{fs:List Da}
def Ki{n:Nat}(hl:bs.length<1099511627776)(h:dec bs=.ok n fs):n<=zF/\fs.length<=bs.length/\∀f∈fs,Ez f:=by
 unfold dec at h;split at h
 .cases h
 split at h
 .unfold Fn at h;split at h
  .cases h
  rename_i q hq;obtain⟨a,b,c⟩:=zY hq;split at h
  .cases h
  obtain⟨d,e,g⟩:=Uc _ (by rw[AU];omega) _ _ _ _ _ _ b (AM _) (λf hf=>by cases hf) h;rw[AU]at e;exact⟨by unfold zF;omega,I,g⟩
 cases h
def CS.Inv.gotAdd(h:c.Inv T){n:Nat}(hn:n<=zF):({ c with got:=c.got.add n n }:CS).Inv T :=
 {mtu:=h.mtu,win:=h.win,tot:=h.tot,grant:=h.grant,credit:=h.credit,ws:=h.ws,rs:=h.rs,waits:=h.waits,now:=h.now,next:=h.next,nd:=h.nd,ids:=h.ids,sl:=h.sl,most:=h.most,cl:=h.cl,fl:=h.fl,fly:=h.fly
  got:=⟨h.got.1.add n hn,by
   have:=h.got.2;unfold Dl.add;split
   .exact this
   split<;>exact this⟩ }
def CS.Inv.recvOk(h:c.Inv T)(hT:T+bs.length<=Dg):Oe c bs:=by
 intro _ n fs hd;obtain⟨a,b,g⟩:=Ki (by unfold Dg at hT;omega) hd;exact⟨h.got.1,a,λ_=>CS.Inv.takesOk fs (h.gotAdd a) I g⟩
def CS.Inv.receive(h:c.Inv T)(hT:T+bs.length<=Dg):(c.receive bs).2.Inv (T+bs.length):=by
 have up:∀{c':CS},c'.Inv T->c'.Inv (T+bs.length):=λx=>x.mono I
 unfold CS.receive;split
 .exact up h
 split
 .exact up h
 .exact up (h.misc 8 c.said c.answer)
 rename_i n fs hd;obtain⟨a,b,g⟩:=Ki (by unfold Dg at hT;omega) hd;split
 .exact up h
 exact(CS.Inv.takes fs (h.gotAdd a) g).mono I
def CS.Inv.send(h:c.Inv T)(k:Int)(s:nG):(c.send k s).2.Inv T:=by
 unfold CS.send;split
 .exact h
 split
 .exact h
 split
 .exact h
 rename_i hs _ hl;obtain⟨k0,k8,_⟩:=Nd (I:c.stream k=0);refine h.upW _ (λhk=>?_);have w:=h.ws _ hk;have e:((c.ws k.toNat).b++s).length=(c.ws k.toNat).b.length+s.length:=AG;have hh:=w.high;exact⟨w.sent,w.came,w.cut,by show((c.ws k.toNat).b++s).length<=_;omega,w.credit,by show(c.ws k.toNat).high<=((c.ws k.toNat).b++s).length;omega⟩
def CS.Inv.finish(h:c.Inv T)(k:Int):(c.finish k).2.Inv T:=by
 unfold CS.finish;split
 .exact h
 split
 .exact h
 refine h.upW _ (λhk=>?_);have w:=h.ws _ hk;exact⟨w.sent,w.came,w.cut,w.len,w.credit,w.high⟩
theorem CS.Inv.reset(h:c.Inv T)(k keep:Int):(c.reset k keep).2.Inv T:=by
 unfold CS.reset;split
 .exact h
 refine h.upW _ (λhk=>?_);have w:=h.ws _ hk;have hl:=w.len;have hh:=w.high;have hc:=w.cut;have hn:min keep.toNat (c.ws k.toNat).b.length<=(c.ws k.toNat).b.length:=Nat.min_le_right _ _;generalize min keep.toNat (c.ws k.toNat).b.length=n at hn;refine⟨w.sent,w.came,?_,w.len,w.credit,w.high⟩;unfold WS.give;simp only;unfold zF at *;cases(c.ws k.toNat).cut with
 | true =>
  simp only[Bool.not_true,DA,BC,Ah];split<;>omega
 | false =>
  simp only[Bool.not_false,Bool.true_or,BC,BX,Be];omega
def Ww{id dl:Nat}{s:nG}(h1:id<=zF)(h2:dl<=zF)(hl:s.length<=1048576):(Lc id dl s).Fits:=by
 have hb:=Mi (Lc id dl s) rfl;have hd:(Lc id dl s).data.length=s.length:=rfl;refine⟨?_,rfl,by rw[hd];exact hl,by rw[hd]at hb;omega⟩;unfold zF at h1 h2;simp[zX,Ef,nums,Ek,zO,Lc];omega
def CS.Inv.datagram(h:c.Inv T)(id dl:Nat)(s:nG):(c.datagram id dl s).2.Inv T:=by
 unfold CS.datagram;split
 .exact h
 split
 .exact h
 split
 .exact h
 split
 .exact h
 rename_i _ hb hm hw;have hmt:=h.mtu;exact
  {mtu:=h.mtu,win:=h.win,tot:=h.tot,grant:=h.grant,credit:=h.credit,ws:=h.ws,rs:=h.rs,now:=h.now,next:=h.next,got:=h.got,nd:=h.nd,ids:=h.ids,sl:=h.sl,most:=h.most,cl:=h.cl,fl:=h.fl,fly:=h.fly
   waits:=by
    have a:=h.waits;show(∀f∈(if c.now<=dl then c.waits++[Lc id dl s]else c.waits),f.Fits)/\(if c.now<=dl then c.waits++[Lc id dl s]else c.waits).length<=16;split
    .refine⟨λf hf=>?_,by rw[AG,Af];omega⟩;rcases Al.1 hf with x|x
     .exact a.1 f x
     rw[Ag.1 x];exact Ww I I I
    exact a }
def CS.Inv.datagramsOut(h:c.Inv T):c.datagramsOut.2.Inv T :=
 {mtu:=h.mtu,win:=h.win,tot:=h.tot,grant:=h.grant,credit:=h.credit,ws:=h.ws,rs:=h.rs,waits:=h.waits,now:=h.now,next:=h.next,got:=h.got,nd:=h.nd,ids:=h.ids,sl:=h.sl,most:=h.most,fl:=h.fl,fly:=h.fly
  cl:=AM _ }
theorem Ub(rs:zC):∀lo hi,lo<=(Dj rs lo hi).1:=by
 induction rs with
 | nil=>intro lo hi;exact AF _
 | cons r l ih =>
  intro lo hi;unfold Dj;split
  .exact ih lo hi
  split
  .exact AF _
  have:=ih (r.2+1) hi;omega
variable{H:Nat}
theorem T5(rs:zC):∀lo hi,lo<=H->(∀r∈rs,r.2<H)->(Dj rs lo hi).1<=H:=by
 induction rs with
 | nil=>intro lo hi h _;exact h
 | cons r l ih =>
  intro lo hi h a;have h0:=a r AO;have h1:=λx hx=>a x (AW _ hx)
  unfold Dj;split
  .exact ih lo hi h h1
  split
  .exact h
  exact ih _ hi I h1
def RS.Inv.lead{G:Nat}{x:RS}(h:x.Inv G):x.read<=(Dj x.came.rs x.read x.high).1/\(Dj x.came.rs x.read x.high).1<=x.high :=
 ⟨Ub _ _ _,T5 _ _ _ h.rd (λr hr=>by obtain⟨j,hj,_,e⟩:=I5 hr;rw[<-e];exact h.in_ j hj)⟩
def RS.Inv.readOk{G:Nat}{x:RS}(h:x.Inv G)(hG:G<=1099511627776):MN x:=by
 obtain⟨a,b⟩:=h.lead;have h1:=h.hg;have h2:=h.gr;have h3:=h.bl;have h4:=h.came.rl;have h5:=h.came.most;exact⟨I,a,I,λk hk=>nC (h.in_ k hk),I,h.keep,h.fin⟩
def CS.Inv.readOk(h:c.Inv T)(hT:T<=Dg):∀k,k<8->MN (c.rs k):=λk hk=>(h.rs k hk).readOk (by unfold Dg at hT;omega)
def RS.Inv.readTo{G:Nat}{x:RS}(h:x.Inv G)(n:Nat):x.readTo n<=x.high:=by
 obtain⟨a,b⟩:=h.lead;have:=h.rd;unfold RS.readTo;split<;>omega
def CS.Inv.read(h:c.Inv T)(k most:Int):(c.read k most).2.Inv T:=by
 unfold CS.read;split
 .exact h
 split
 .exact h
 rename_i hs _;obtain⟨k0,k8,_⟩:=Nd (I:c.stream k=0);have x:=h.rs k.toNat I;refine h.upR _ ⟨x.came,x.in_,x.bl,x.readTo _,x.hg,x.gr,x.fin,x.keep,λe=>?_⟩;have a:(c.rs k.toNat).stateAt ((c.rs k.toNat).readTo most.toNat)=2:=e;unfold RS.stateAt at a;split at a
 .rename_i hh;simp only[AZ,Ah]at hh;exact hh
 split at a<;>cases a
def CS.Inv.new{mtu window total:Nat}(h:64<=mtu/\mtu<=400)(hw:window<=4096)(ht:total<=4096):(CS.new mtu window total).Inv 0 :=
 {mtu:=⟨h.1,by show mtu<=_;omega⟩,win:=hw,tot:=ht
  grant:=by show total<=_;unfold zF;omega
  credit:=by show total<=_;unfold zF;omega
  ws:=λ_ _=>⟨It _ I,It _ I,⟨AF _,AM _,AM _⟩,AM _,by show window<=_;unfold zF;omega,AF _⟩
  rs:=λ_ _=>⟨It _ I,λj hj=>absurd hj (A5 j),rfl,AF _,AM _,by show window<=_;omega,AM _,AM _,λe=>by cases e⟩
  waits:=⟨λf hf=>(by cases hf),AM _⟩
  fl:=AM _
  fly:=λp a=>(by cases a)
  now:=AF _
  next:=AF _
  got:=⟨It _ I,AF _⟩
  nd:=DK
  ids:=λp a=>(by cases a)
  sl:=AF _
  most:=AM _
  cl:=AF _ }
def HB(G:Nat)(c:CS):Prop:=∀k,k<8->(c.rs k).hopes=true->(c.rs k).used<=G
structure D9(G:Nat)(c c':CS):Prop where
 hd:c'.mtu=c.mtu/\c'.window=c.window/\c'.total=c.total/\c'.now=c.now/\c'.closed=c.closed/\c'.said=c.said/\c'.got=c.got/\c'.answer=c.answer
 tl:c'.credit=c.credit/\c'.largest=c.largest/\c'.lastID=c.lastID/\c'.anyID=c.anyID/\c'.seen=c.seen/\c'.most=c.most/\c'.came=c.came
 wl:c'.waits.length<=c.waits.length
 rs:∀k,k<8->∃g a,c'.rs k={ c.rs k with grant:=g,anew:=a }/\((g=(c.rs k).grant/\a=(c.rs k).anew)\/((c.rs k).used<=G/\g=max (c.rs k).grant ((c.rs k).used+c.window)))
def D9.refl(G:Nat)(c:CS):D9 G c c:=⟨⟨rfl,rfl,rfl,rfl,rfl,rfl,rfl,rfl⟩,⟨rfl,rfl,rfl,rfl,rfl,rfl,rfl⟩,AF _,λk _=>⟨(c.rs k).grant,(c.rs k).anew,rfl,.inl ⟨rfl,rfl⟩⟩⟩
def T4(x:RS)(g:Nat)(a:Bool):({ x with grant:=g,anew:=a }:RS).used=x.used:=rfl
def D9.trans{G:Nat}{d:CS}(h:D9 G c c')(k:D9 G c' d):D9 G c d:=by
 obtain⟨a1,f,a3,a4,a5,a6,a7,a8⟩:=h.hd;obtain⟨b1,b2,b3,b4,b5,b6,b7,b8⟩:=k.hd;obtain⟨c1,c2,c3,c4,c5,c6,c7⟩:=h.tl;obtain⟨d1,d2,d3,d4,d5,d6,d7⟩:=k.tl;refine⟨⟨b1.trans a1,b2.trans f,b3.trans a3,b4.trans a4,b5.trans a5,b6.trans a6,b7.trans a7,b8.trans a8⟩,⟨d1.trans c1,d2.trans c2,d3.trans c3,d4.trans c4,d5.trans c5,d6.trans c6,d7.trans c7⟩,AJ k.wl h.wl,λq i=>?_⟩;obtain⟨g,a,e,hg⟩:=h.rs q i;obtain⟨g',a',e',b⟩:=k.rs q i;refine⟨g',a',by rw[e',e],?_⟩;rw[e,T4,f]at b;simp only at b;rcases hg with⟨rfl,rfl⟩|⟨u,rfl⟩
 .exact b
 rcases b with⟨rfl,rfl⟩|⟨_,rfl⟩
 .exact .inr ⟨u,rfl⟩
 exact .inr ⟨u,I⟩
def HB.but{G:Nat}(h:HB G c)(p:D9 G c c'):HB G c':=by
 intro k hk b;obtain⟨g,a,e,hg⟩:=p.rs k hk;rw[e]at b ⊢;rw[T4];rcases hg with⟨rfl,rfl⟩|⟨u,_⟩
 .exact h k hk b
 exact u
variable{d:Dd}
theorem Ys{G:Nat}(h:HB G c):∀n k t,n+k=8->∀x,(ER c d n k t).1=some x->D9 G c x.1:=by
 intro n
 induction n with
 | zero=>intro k t _ x hx;cases hx
 | succ n ih =>
  intro k t hk x hx;have hk8:k<8:=I;have a:=ih (k+1) (min (t+(c.rs k).used) zF) I;unfold ER at hx;split at hx
  .rename_i hcond;simp only[AZ]at hcond;split at hx
   .cases hx;refine⟨⟨rfl,rfl,rfl,rfl,rfl,rfl,rfl,rfl⟩,⟨rfl,rfl,rfl,rfl,rfl,rfl,rfl⟩,AF _,λj hj=>?_⟩;by_cases e:j=k
    .subst e;refine⟨_,false,?_,.inr ⟨h j hj hcond.2,rfl⟩⟩;show zf c.rs j _ j=_;rw[ze]
    refine⟨(c.rs j).grant,(c.rs j).anew,?_,.inl ⟨rfl,rfl⟩⟩;show zf c.rs k _ j=_;rw[zd _ _ e]
   exact a x hx
  exact a x hx
theorem T3{G:Nat}:∀n k x,ET c d n k=some x->D9 G c x.1:=by
 intro n
 induction n with
 | zero=>intro k x hx;cases hx
 | succ n ih =>
  intro k x hx;unfold ET at hx;split at hx
  .split at hx
   .cases hx;exact⟨⟨rfl,rfl,rfl,rfl,rfl,rfl,rfl,rfl⟩,⟨rfl,rfl,rfl,rfl,rfl,rfl,rfl⟩,AF _,(D9.refl G c).rs⟩
   exact ih _ x hx
  exact ih _ x hx
def kJ{G:Nat}(h:HB G c):∀x,c.control d=some x->D9 G c x.1:=by
 intro x hx;unfold CS.control at hx;split at hx
 .rename_i y hy;cases hx;exact Ys h 8 0 c.total rfl _ hy
 unfold I1 at hx;split at hx
 .split at hx
  .cases hx;exact⟨⟨rfl,rfl,rfl,rfl,rfl,rfl,rfl,rfl⟩,⟨rfl,rfl,rfl,rfl,rfl,rfl,rfl⟩,AF _,(D9.refl G c).rs⟩
  exact T3 8 0 x hx
 exact T3 8 0 x hx
variable{k:Nat}
def WE{G:Nat}{fin:Bool}:D9 G c (c.bytesAdd d k lo hi fin).2.1:=by
 unfold CS.bytesAdd;split
 .exact D9.refl G c
 exact⟨⟨rfl,rfl,rfl,rfl,rfl,rfl,rfl,rfl⟩,⟨rfl,rfl,rfl,rfl,rfl,rfl,rfl⟩,AF _,(D9.refl G c).rs⟩
def VW{G:Nat}:D9 G c (c.bytesR d k lo hi).2.1:=by
 unfold CS.bytesR;split
 .split
  .exact D9.refl G c
  exact WE
 exact WE
def eS{G:Nat}:D9 G c (c.bytes d k).2.1:=by
 unfold CS.bytes;split
 .exact D9.refl G c
 split
 .split
  .exact D9.refl G c
  exact VW
 exact VW
theorem TB{G:Nat}(h:HB G c):∀q,D9 G c (c.put d q).2.1
 | 0=>by
  show D9 G c ((c.control d).getD (c,d)).1;cases hc:c.control d with
  | none=>exact D9.refl G c
  | some x=>exact kJ h x hc
 | 1=>by
  show D9 G c ((c.datagrams d).getD (c,d)).1;unfold CS.datagrams;cases hw:c.waits with
  | nil=>exact D9.refl G c
  | cons f l =>
   cases hd:d.add f with
   | none=>simp only[hd,Option.map_none];exact D9.refl G c
   | some d' =>
    simp only[hd,Az];exact⟨⟨rfl,rfl,rfl,rfl,rfl,rfl,rfl,rfl⟩,⟨rfl,rfl,rfl,rfl,rfl,rfl,rfl⟩,by rw[hw];exact Bv _,(D9.refl G c).rs⟩
 | k+2=>eS
variable{q:Nat}
theorem T1{G:Nat}:∀n (c:CS) (d:Dd),HB G c->D9 G c (CS.reps q n c d).1
 | 0,c,_,_=>D9.refl G c
 | n+1,c,d,h=>by
  have p:=TB (d:=d) h q;unfold CS.reps;split
  .exact p.trans (T1 n _ _ (h.but p))
  exact p
theorem UZ{G:Nat}:∀n (c:CS) (d:Dd),HB G c->D9 G c (CS.fillN n c d).1
 | 0,c,_,_=>D9.refl G c
 | n+1,c,d,h=>by
  have p:=T1 (q:=9-n) (d.room+1) c d h;unfold CS.fillN;exact p.trans (UZ n _ _ (h.but p))
structure E7(d:Dd):Prop where
 fs:∀f∈d.fs,FS f
 fit:d.fs≠[]->d.b.length+4<=d.room
def FS.fits(h:f.Fits):FS f:=by
 have a:=h.sound;have hd:=h.data;unfold zX Ek at a;simp only[AZ,Ah]at a;refine⟨⟨f.stream.toNat,I,I⟩,λe=>⟨?_,I⟩⟩;have h4:=a.2;unfold zO at h4;rw[e]at h4;simp at h4;unfold zF;omega
def FS.ack(l:zC):FS (ackF l):=⟨⟨0,mu,rfl⟩,λe=>absurd e (by simp[ackF])⟩
variable{d':Dd}
def E7.add(h:E7 d)(hf:FS f)(ha:d.add f=some d'):E7 d':=by
 obtain⟨_,e2,e3,_,_,e6⟩:=Dd.add_some ha;refine⟨λg hg=>?_,λ_=>I⟩;rw[e2]at hg;rcases Al.1 hg with x|x
 .exact h.fs g x
 rw[Ag.1 x];exact hf
theorem E7.put{r:Bool}(h:E7 d)(p:Ge c d r c' d'):E7 d':=by
 cases r with
 | true =>
  obtain⟨f,hf,_,ha⟩:=p.yes rfl;exact h.add (FS.fits hf) ha
 | false =>
  obtain⟨_,e|e⟩:=p.no rfl
  .rw[e];exact h
  rw[e];exact⟨h.fs,h.fit⟩
theorem E7.reps(a:q<10):∀n (c:CS) (d:Dd),c.Ok->E7 d->E7 (CS.reps q n c d).2
 | 0,_,_,_,h=>h
 | n+1,c,d,hc,h=>by
  have p:=JZ (d:=d) hc a;unfold CS.reps;split
  .exact E7.reps a n _ _ p.ok (h.put p)
  exact h.put p
theorem E7.fillN:∀n (c:CS) (d:Dd),n<=10->c.Ok->d.Ok->E7 d->E7 (CS.fillN n c d).2
 | 0,_,_,_,_,_,h=>h
 | n+1,c,d,hn,hc,hd,h=>by
  have r:=Oy (q:=9-n) I (d.room+1) c d hc hd;unfold CS.fillN;exact E7.fillN n _ _ I r.1 r.2.1 (h.reps I (d.room+1) c d hc)
theorem E7.told(h:E7 d)(l:zC):E7 (zp d l).1:=by
 unfold zp;split
 .exact h
 show E7 ((d.add _).getD d);cases ha:d.add (ackF (l.take (Ee d l l.length)))with
 | none=>exact h
 | some d'=>exact h.add (FS.ack _) ha
def Mr(l:List Dc):Prop:=∀p∈l,p.n<=zF/\p.at_<=zF/\p.fs.length<=1099511627776/\∀f∈p.fs,FS f
structure TA(G:Nat)(c:CS)(l:zC)(n:Nat)(r:List nG×CS):Prop where
 but:D9 G c r.2
 ok:r.2.Ok
 fl:r.2.flight.length<=12
 fly:Mr r.2.flight
 next:r.2.next<=c.next+Fs c l
 z:r.1.length<=n/\∀x∈r.1,x.length<=c.mtu
def Tz(n:Nat):(ES n).length=4:=rfl
theorem Q5{G:Nat}:∀n (c:CS) (l:zC),Gu c l->HB G c->Mr c.flight->c.now<=zF->TA G c l n (CS.pkts n c l)
 | 0,c,l,h,_,hf,_=>⟨D9.refl G c,h.ok,h.fl,hf,by show c.next<=_;omega,AF _,λx hx=>by cases hx⟩
 | n+1,c,l,h,hb,hf,hn=>by
  obtain⟨j,r2,k,g,m,i,r7⟩:=h.round;have t:=NN (JG h.ok) l;have d:D9 G c (c.pkFill (zp c.pkDraft l).1).1:=by
   unfold CS.pkFill;split
   .exact UZ 10 c _ hb
   exact D9.refl G c
  have df:E7 (c.pkFill (zp c.pkDraft l).1).2/\(c.pkFill (zp c.pkDraft l).1).2.room=c.mtu:=by
   have h0:E7 (zp c.pkDraft l).1:=E7.told ⟨λf hf=>(by cases hf),λx=>absurd rfl x⟩ l;unfold CS.pkFill;split
   .exact⟨h0.fillN 10 c _ (AF _) h.ok j,(Qx 10 c _ (AF _) h.ok j).2.2.1.trans t.2.1⟩
   exact⟨h0,t.2.1⟩
  unfold CS.pkts;split
  .exact⟨d,r2,by show(c.pkFill _).1.flight.length<=12;rw[i];exact h.fl,by show Mr (c.pkFill _).1.flight;rw[i];exact hf,by show(c.pkFill _).1.next<=_;rw[g];omega,AM _,λx hx=>by cases hx⟩
  rename_i hne;obtain⟨k1,k2⟩:=r7 hne;have bd:D9 G c ((c.pkFill (zp c.pkDraft l).1).1.pkDone (c.pkFill (zp c.pkDraft l).1).2):=⟨d.hd,d.tl,d.wl,d.rs⟩;have hx:=h.next;have fd:Mr ((c.pkFill (zp c.pkDraft l).1).1.pkDone (c.pkFill (zp c.pkDraft l).1).2).flight:=by
   show Mr (if (c.pkFill (zp c.pkDraft l).1).2.wants then(c.pkFill (zp c.pkDraft l).1).1.flight++[⟨(c.pkFill (zp c.pkDraft l).1).1.next,(c.pkFill (zp c.pkDraft l).1).1.now,(c.pkFill (zp c.pkDraft l).1).2.fs⟩]else(c.pkFill (zp c.pkDraft l).1).1.flight);rw[g,m,i];split
   .intro p hp;rcases Al.1 hp with x|x
    .exact hf p x
    rw[Ag.1 x];have:=k.fs;have:=k.b;exact⟨by show c.next<=_;omega,hn,by show(c.pkFill _).2.fs.length<=_;omega,df.1.fs⟩
   exact hf
  have a:=Q5 n _ _ k1 (hb.but bd) fd (by show(c.pkFill _).1.now<=_;rw[m];exact hn);have e1:((c.pkFill (zp c.pkDraft l).1).1.pkDone (c.pkFill (zp c.pkDraft l).1).2).next=c.next+1:=by show(c.pkFill _).1.next+1=_;rw[g]
  have i1:=a.next;rw[e1]at i1;refine⟨bd.trans a.but,a.ok,a.fl,a.fly,?_,?_,λx hx=>?_⟩
  .show(CS.pkts n _ _).2.next<=_;omega
  .show(CS.pkts n _ _).1.length+1<=_;have:=a.z.1;omega
  rcases Av.1 hx with e|e
  .rw[e];have:=df.1.fit hne;have:=df.2;unfold FV;rw[AG,Tz];omega
  have:=a.z.2 x e;have e2:=bd.hd.1;omega
def RS.Inv.again{G b:Nat}{x:RS}(h:x.Inv G)(g:Nat)(a:Bool)(h1:x.grant<=g)(h2:g<=b):({ x with grant:=g,anew:=a }:RS).Inv b:=⟨h.came,h.in_,h.bl,h.rd,AJ h.hg h1,h2,h.fin,h.keep,h.st⟩
def CS.Inv.acks(h:c.Inv T):c.acks.2.Inv T/\IJ c.acks.1/\c.acks.1.length<=8:=by
 unfold CS.acks;split
 .refine⟨h.misc c.closed c.said false,h.got.1.desc,?_⟩;have:=h.got.1.rl;have:=h.got.2;show c.got.rs.reverse.length<=8;rw[List.length_reverse];omega
 exact⟨h,λi hi=>absurd hi (A5 i),AM _⟩
def CS.Inv.pkOk(h:c.Inv T)(hT:T<=Dg):Gu c.acks.2 c.acks.1:=by
 obtain⟨a,b,d⟩:=h.acks;have hn:=a.next;have hf:=a.fl;unfold Dg at hT;exact⟨a.ok (by unfold Dg;omega),a.mtu.1,b,I,hf,by unfold Fs zF;omega⟩
def CS.Inv.hb(h:c.Inv T)(hT:T<=Dg):HB (4096*(T+1)) c:=λk hk hh=>((h.rs k hk).used (by unfold Dg at hT;omega)).2 hh
def CS.Inv.pkPost(h:c.Inv T)(e:T<=Dg):TA (4096*(T+1)) c.acks.2 c.acks.1 (12-c.flight.length+c.acks.1.length+1) c.packets:=by
 obtain⟨a,b,d⟩:=h.acks;exact Q5 _ _ _ (h.pkOk e) (a.hb e) a.fly (by have:=a.now;unfold Dg at e;unfold zF;omega)
def CS.Inv.packets(h:c.Inv T)(hT:T<=Dg):c.packets.2.Inv (T+1):=by
 have p:=h.pkPost hT;obtain⟨a,_,d⟩:=h.acks;obtain⟨a1,a2,a3,a4,a5,a6,a7,a8⟩:=p.but.hd;obtain⟨c1,c2,c3,c4,b,c6,c7⟩:=p.but.tl;have o:=p.ok;exact
  {mtu:=by rw[a1];exact a.mtu
   win:=o.win
   tot:=o.tot
   grant:=o.grant
   credit:=o.credit
   ws:=o.ws
   rs:=λk hk=>by
    obtain⟨g,x,e,hg⟩:=p.but.rs k hk;rw[e];have r:=a.rs k hk;have hw:=a.win;have hgr:=r.gr;refine r.again g x ?_ ?_
    .rcases hg with⟨rfl,_⟩|⟨_,rfl⟩<;>omega
    rcases hg with⟨rfl,_⟩|⟨u,rfl⟩<;>omega
   waits:=⟨o.waits,AJ p.but.wl a.waits.2⟩
   fl:=p.fl
   fly:=p.fly
   now:=by rw[a4];have:=a.now;omega
   next:=by have:=p.next;have:=a.next;have:=a.fl;unfold Fs at *;omega
   got:=by rw[a7];exact a.got
   nd:=by rw[b];exact a.nd
   ids:=by rw[b];exact a.ids
   sl:=by rw[b];have:=a.sl;omega
   most:=by rw[c6];exact a.most
   cl:=by rw[c7];have:=a.cl;omega }
def G6(e:EN):Array Value:=#[.string (zu e.wrote),.bool e.fin,.bool e.cut,.int .i64 e.keep,.int .i64 e.read,.int .i64 e.state]
def Sz(s:SN):Array Value:=#[.int .u64 s.id,.int .u64 s.dl,.string (zu s.data),.bool s.came]
def zM(l:List (Nat×nG)):List Value:=l.flatMap λp=>[.int .i64 p.1,.string (zu p.2)]
def Fj(b:Nat):Value:=.pointer b
theorem mN(l:List (Nat×nG)):(zM l).length=l.length*2:=by
 induction l with
 | nil=>rfl
 | cons p l ih =>
  have e:zM (p::l)=[.int .i64 p.1,.string (zu p.2)]++zM l:=rfl;rw[e,AG,ih];simp only[AR,Ad];omega
structure NV where
 x:Value
 ev:Value
 gv:Value
 nx:Value
 bg:Value
 ct:Value
 b:Nat->Nat
 V:Nat->CV
 er:Nat->Value
 eb:Nat->Nat->Nat
 gr:Nat->Value
 gb:Nat->List Nat
def Md(n:NS)(M:NV):Array Value:=#[M.x,M.ev,M.gv,M.nx,.int .u64 n.now,.int .i64 n.mtu,.int .i64 n.window,.int .i64 n.total,M.bg,M.ct]
structure E8(tag:nH)(r e sz:Nat)(v:Value)(n:Nat)(xs:nJ)(W:World):Prop where
 own:W.ownsRow 0 e sz v n xs
 tag:∀g,v.ownBlock=some g->tag g=(3,r)
structure E0(tag:nH)(r b:Nat)(cs:Array Value)(t:Nat)(W:World):Prop where
 obj:W.heap[b]?=some (.cells cs t (0,0))
 tag:tag b=(3,r)
section
variable {S:Nat->Prop} {tag tag':nH} {W W':World}
variable{e:Nat}{v:Value}
def E8.mod{r n:Nat}(h:E8 tag r e sz v n xs W)(m:DW S W W')(hS:∀g,S g->tag g≠(3,r))(ht:∀g,tag g≠(0,0)->tag' g=tag g):E8 tag' r e sz v n xs W' :=
 ⟨m.owns h.own (λg hg x=>hS g x (h.tag g hg)),λg hg=>by rw[ht g (by rw[h.tag g hg];simp),h.tag g hg]⟩
variable{cs:Array Value}{t:Nat}
def E0.mod{r:Nat}(h:E0 tag r b cs t W)(m:DW S W W')(hS:∀g,S g->tag g≠(3,r))(ht:∀g,tag g≠(0,0)->tag' g=tag g):E0 tag' r b cs t W' :=
 ⟨m.obj (λx=>hS b x h.tag) h.obj,by rw[ht b (by rw[h.tag];simp),h.tag]⟩
variable{j:Nat}
def E0.cell{r:Nat}(h:E0 tag r b cs t W)(hv:cs[j]?=some v):W.cell? (b,j)=some v:=za h.obj hv
def E0.fz{r:Nat}(h:E0 tag r b cs t W)(j:Nat):W.frozen? ⟨b,j,none⟩=false:=zg h.obj
end
structure ED(tag:nH)(nb:Nat)(n:NS)(M:NV)(W:World):Prop where
 obj:E0 tag 0 nb (Md n M) 48 W
 x:E8 tag 1 69 1 M.x 2 [Fj (M.b 0),Fj (M.b 1)] W
 ev:E8 tag 2 87 1 M.ev 2 [M.er 0,M.er 1] W
 gv:E8 tag 3 49 1 M.gv 2 [M.gr 0,M.gr 1] W
 nx:E8 tag 4 43 1 M.nx 2 [.int .u64 (n.next 0:Int),.int .u64 (n.next 1:Int)] W
 ct:E8 tag 5 43 1 M.ct 2 [.int .u64 (n.count 0:Int),.int .u64 (n.count 1:Int)] W
 bg:E8 tag 6 62 2 M.bg n.bag.length (zM n.bag) W
 er:∀i,i<2->E8 tag (7+i) 86 1 (M.er i) 8 ((List.range 8).map λk=>Fj (M.eb i k)) W
 en:∀i,i<2->∀k,k<8->E0 tag (20+8*i+k) (M.eb i k) (G6 (n.e i k)) 89 W
 gr:∀i,i<2->E8 tag (9+i) 52 1 (M.gr i) (M.gb i).length ((M.gb i).map Fj) W
 gl:∀i,i<2->(M.gb i).length=(n.g i).length
 gn:∀i,i<2->∀(j b:Nat) (s:SN),(M.gb i)[j]?=some b->(n.g i)[j]?=some s->E0 tag (40+2*j+i) b (Sz s) 51 W
structure Mq(n n':NS):Prop where
 hd:n'.mtu=n.mtu/\n'.window=n.window/\n'.total=n.total/\n'.now=n.now/\n'.bag=n.bag
 e:∀i,i<2->n'.e i=n.e i
 g:∀i,i<2->n'.g i=n.g i
 ct:∀i,i<2->n'.next i=n.next i/\n'.count i=n.count i
def Mq.setC(n:NS)(i:Nat)(c:CS):Mq n (n.setC i c):=⟨⟨rfl,rfl,rfl,rfl,rfl⟩,λ_ _=>rfl,λ_ _=>rfl,λ_ _=>⟨rfl,rfl⟩⟩
variable{M:NV}{n n':NS}{nb:Nat}
def ED.same(h:ED tag nb n M W)(s:Mq n n')(V:Nat->CV):ED tag nb n' { M with V:=V } W:=by
 obtain⟨a1,a2,a3,a4,a5⟩:=s.hd;exact
  {obj:=by
    have e:Md n' { M with V:=V }=Md n M:=by unfold Md;rw[a1,a2,a3,a4]
    rw[e];exact h.obj
   x:=h.x
   ev:=h.ev
   gv:=h.gv
   nx:=by rw[(s.ct 0 mu).1,(s.ct 1 mu).1];exact h.nx
   ct:=by rw[(s.ct 0 mu).2,(s.ct 1 mu).2];exact h.ct
   bg:=by rw[a5];exact h.bg
   er:=h.er
   en:=λi hi k hk=>by rw[s.e i hi];exact h.en i hi k hk
   gr:=h.gr
   gl:=λi hi=>by rw[s.g i hi];exact h.gl i hi
   gn:=λi hi=>by rw[s.g i hi];exact h.gn i hi }
variable{S:Nat->Prop}{tag':nH}
def ED.mod(h:ED tag nb n M W)(m:DW S W W')(hS:∀g,S g->(tag g).1≠3)(a:∀g,tag g≠(0,0)->tag' g=tag g):ED tag' nb n M W':=by
 have q:∀{r:Nat} g,S g->tag g≠(3,r):=λg x e=>hS g x (by rw[e])
 exact
  {obj:=h.obj.mod m q a
   x:=h.x.mod m q a
   ev:=h.ev.mod m q a
   gv:=h.gv.mod m q a
   nx:=h.nx.mod m q a
   ct:=h.ct.mod m q a
   bg:=h.bg.mod m q a
   er:=λi hi=>(h.er i hi).mod m q a
   en:=λi hi k hk=>(h.en i hi k hk).mod m q a
   gr:=λi hi=>(h.gr i hi).mod m q a
   gl:=h.gl
   gn:=λi hi j b s hb hs=>(h.gn i hi j b s hb hs).mod m q a }
structure Dh(w:World)(tag:nH)(nb:Nat)(n:NS)(M:NV)(W:World):Prop where
 o:ED tag nb n M W
 cn:∀i,i<2->zi tag (i+1) (M.b i) (n.c i) (M.V i) W
 env:EC 1 tag W
 nd:∀i,i<2->GJ (i+1) tag
 mod:DW DY w W
 t1:∀g,tag g≠(0,0)->w.heap.size<=g
def zB(w:World)(tag:nH)(nb:Nat)(W:World)(n':NS)(W':World):Prop :=
 ∃tag' M',Dh w tag' nb n' M' W'/\(∀g,g<W.heap.size->tag' g=tag g)/\DW (λg=>tag g≠(0,0)) W W'
variable{j:Nat}
def EC.to(h:EC i tag W)(hj:0<j):EC j tag W:=⟨h.ok,hj,h.err,h.tab,h.g0,h.g1⟩
def Dh.left(h:Dh w tag nb n M W):zB w tag nb W n W:=⟨tag,M,h,λ_ _=>rfl,DW.refl _ _⟩
variable{W'':World}
def zB.trans(h1:∀g,g<W.heap.size->tag' g=tag g)(h2:DW (λg=>tag g≠(0,0)) W W')(h:zB w tag' nb W' n' W''):zB w tag nb W n' W'':=by
 obtain⟨t,M',a,b,c⟩:=h;refine⟨t,M',a,λg hg=>(b g (A7 hg h2.size)).trans (h1 g hg),h2.then c (λg hg=>?_)⟩;by_cases q:g<W.heap.size
 .exact .inl (by rw[<-h1 g q];exact hg)
 exact .inr I
def Dh.free(h:Dh w tag nb n M W)(m:DW S W W')(a:∀g,S g->W.heap.size<=g):Dh w tag nb n M W':=by
 have q:=λg hg=>h.env.ok g (a g hg)
 have m0:DW DY W W':=m.mono (λg hg=>.inr (a g hg));exact⟨h.o.mod m0 (λ_ x=>x.elim) (λ_ _=>rfl),λi hi=>(h.cn i hi).mod0 m0,h.env.mod0 m0,h.nd,h.mod.trans m0,h.t1⟩
def Ds.nodr(L:Ds tag i b W c' W')(hi:0<i)(hn:GJ i tag):∃tag' V',zi tag' i b c' V' W'/\Dn i tag tag' W W'/\DW (λg=>(tag g).1=i) W W'/\GJ i tag':=by
 obtain⟨t,V',a,e,m⟩:=L;refine⟨λg=>if (t g).1=i/\90<=(t g).2 then(0,0)else t g,V',a.retag (λg r c hg=>?_),⟨λg hg=>?_,λg hg=>?_,λg hg=>?_⟩,m,λg r c=>?_⟩
 .rw[AI (by rw[hg];simp only;omega),hg]
 .show(if _ then _ else _)=_;rw[e.old g hg,AI];rintro⟨x,y⟩;exact hn g (tag g).2 y (by rw[<-x])
 .by_cases hx:(t g).1=i/\90<=(t g).2
  .exact .inr (AQ hx)
  have y:(if (t g).1=i/\90<=(t g).2 then((0,0):Nat×Nat)else t g)=t g:=AI hx;simp only[y];exact e.new g hg
 .show(if _ then _ else _)=_;split
  .rfl
  exact e.z g hg
 show(if _ then _ else _)≠_;split
 .intro x;have:=A8 Prod.fst x;simp only at this;omega
 rename_i hx;intro x;rw[x]at hx;exact hx ⟨rfl,c⟩
def GJ.other(h:GJ j tag)(e:Dn i tag tag' W W')(hj:0<j)(a:j≠i):GJ j tag':=by
 intro g r hr x;by_cases q:g<W.heap.size
 .rw[e.old g q]at x;exact h g r hr x
 rcases e.new g I with y|y
 .rw[x]at y;exact a y
 rw[x]at y;have:=A8 Prod.fst y;simp only at this;omega
def Dh.conn(h:Dh w tag nb n M W)(hi:i<2)(hc:Ds tag (i+1) (M.b i) W c' W'):∃tag' V',Dh w tag' nb (n.setC i c') { M with V:=V' } W'/\(∀g,g<W.heap.size->tag' g=tag g)/\DW (λg=>(tag g).1=i+1) W W':=by
 obtain⟨tag',V',a,e,m,d⟩:=hc.nodr I (h.nd i hi);have old:∀g,tag g≠(0,0)->tag' g=tag g:=λg hg=>by
  by_cases q:g<W.heap.size
  .exact e.old g q
  exact absurd (h.env.ok g I) hg
 refine⟨tag',zf M.V i V',⟨(h.o.mod m (λg hg x=>I) old).same (Mq.setC n i c') _,λj f=>?_,?_,λj f=>?_,h.mod.then m (λg hg=>?_),λg hg=>?_⟩,e.old,m⟩
 .by_cases q:j=i
  .subst q;show zi tag' (j+1) (M.b j) (zf n.c j c' j) (zf M.V j V' j) W';rw[ze,ze];exact a
  show zi tag' (j+1) (M.b j) (zf n.c i c' j) (zf M.V i V' j) W';rw[zd _ _ q,zd _ _ q];exact(h.cn j f).mod m (λg hg x=>I) (λg hg=>old g (λx=>by rw[x]at hg;simp at hg))
 .exact((h.env.to (j:=i+1) I).left e m).to I
 .by_cases q:j=i
  .subst q;exact d
  exact(h.nd j f).other e I I
 .refine .inr (h.t1 g (λx=>?_));rw[x]at hg;simp at hg
 by_cases q:g<W.heap.size
 .exact h.t1 g (by rw[<-e.old g q];exact hg)
 have:=h.mod.size;omega
structure EN.Inv(e:EN):Prop where
 wl:e.wrote.length<=2048
 rd:e.read<=e.wrote.length
 keep:e.keep<=2048
structure NS.Inv(T:Nat)(n:NS):Prop where
 mtu:64<=n.mtu/\n.mtu<=400
 win:(16<=n.window/\n.window<=4096)/\(16<=n.total/\n.total<=4096)
 c:∀i,i<2->(n.c i).Inv T
 e:∀i,i<2->∀k,k<8->(n.e i k).Inv
 now:n.now<=T
 next:∀i,i<2->n.next i<=4*T
 count:∀i,i<2->n.count i<=32*T
 gl:∀i,i<2->(n.g i).length<=T
 g:∀i,i<2->∀s∈n.g i,s.id<=4*T/\s.dl<=T+8/\s.data.length<=400
 bl:n.bag.length<=32*T
 bag:∀p∈n.bag,p.1<2/\0<p.2.length/\p.2.length<=400
def NS.Inv.mono{b:Nat}(h:n.Inv T)(a:T<=b):n.Inv b :=
 ⟨h.mtu,h.win,λi hi=>(h.c i hi).mono a,h.e,AJ h.now a,λi hi=>nC (h.next i hi),λi hi=>nC (h.count i hi),λi hi=>AJ (h.gl i hi) a,λi hi s hs=>nC (h.g i hi s hs),nC h.bl,h.bag⟩
def NS.Inv.setC(h:n.Inv T)(i:Nat)(hc:i<2->c.Inv T):(n.setC i c).Inv T :=
 ⟨h.mtu,h.win,λj a=>by
  show(zf n.c i c j).Inv T;by_cases q:j=i
  .subst q;rw[ze];exact hc a
  rw[zd _ _ q];exact h.c j a,h.e,h.now,h.next,h.count,h.gl,h.g,h.bl,h.bag⟩
def NS.Inv.setE(h:n.Inv T)(i k:Nat){e:EN}(he:i<2->k<8->e.Inv):(n.setE i k e).Inv T :=
 ⟨h.mtu,h.win,h.c,λj a q b=>by
  show(zf n.e i (zf (n.e i) k e) j q).Inv;by_cases x:j=i
  .subst x;rw[ze];by_cases y:q=k
   .subst y;rw[ze];exact he a b
   rw[zd _ _ y];exact h.e j a q b
  rw[zd _ _ x];exact h.e j a q b,h.now,h.next,h.count,h.gl,h.g,h.bl,h.bag⟩
def NS.Inv.send(h:n.Inv T)(i k:Nat)(s:nG):(n.send i k s).2.Inv T:=by
 have hc:=h.setC i (c:=((n.c i).send k s).2) (λhi=>(h.c i hi).send _ _);unfold NS.send;split
 .exact hc
 split
 .exact hc
 refine hc.setE i k (λhi hk=>?_);have e:=h.e i hi k hk;exact⟨by show((n.e i k).wrote++s).length<=_;rw[AG];omega,by have:=e.rd;show _<=((n.e i k).wrote++s).length;rw[AG];show(n.e i k).read<=_;omega,e.keep⟩
def NS.Inv.finish(h:n.Inv T)(i k:Nat):(n.finish i k).2.Inv T:=by
 have hc:=h.setC i (c:=((n.c i).finish k).2) (λhi=>(h.c i hi).finish _);unfold NS.finish;split
 .exact hc
 refine hc.setE i k (λhi hk=>?_);have e:=h.e i hi k hk;exact⟨e.wl,e.rd,e.keep⟩
def NS.Inv.reset(h:n.Inv T)(i k:Nat)(b:Int):(n.reset i k b).2.Inv T:=by
 unfold NS.reset NS.resetK;refine(h.setC i (λhi=>(h.c i hi).reset _ _)).setE i k (λhi hk=>?_);have e:=h.e i hi k hk;refine⟨e.wl,e.rd,?_⟩;have:=En b ((n.e i k).wrote.length+1) (Nat.succ_pos _);have:=e.wl;have:=e.keep;show(if _ then _ else _)<=_;split<;>omega
def NS.Inv.datagram(h:n.Inv T)(i:Nat)(s:Do):(n.datagram i s).2.Inv (T+1):=by
 have k:=h.mono (Bv T);unfold NS.datagram;split
 .exact(h.setC i (λhi=>(h.c i hi).datagram _ _ _)).mono (Bv T)
 have hc:=(h.setC i (c:=((n.c i).datagram (n.next i) (n.now+Db s.a 9) s.s).2) (λhi=>(h.c i hi).datagram _ _ _)).mono (Bv T);split
 .exact hc
 split
 .exact hc
 rename_i hm _ _;have p9:=En s.a _ (I:0<9);have p3:=En s.b _ (I:0<3);have hn:=h.now;have hmt:=h.mtu;refine⟨hc.mtu,hc.win,hc.c,hc.e,hc.now,λj d=>?_,hc.count,λj d=>?_,λj d x hx=>?_,hc.bl,hc.bag⟩
 .show zf n.next i _ j<=_;by_cases q:j=i
  .subst q;have:=h.next j d;rw[ze];omega
  rw[zd _ _ q];exact k.next j d
 .show(zf n.g i _ j).length<=_;by_cases q:j=i
  .subst q;have:=h.gl j d;rw[ze,AG,Af];omega
  rw[zd _ _ q];exact k.gl j d
 have f:x∈zf n.g i (n.g i++[⟨n.next i,n.now+Db s.a 9,s.s,false⟩]) j:=hx;by_cases q:j=i
 .subst q;rw[ze]at f;rcases Al.1 f with y|y
  .exact k.g j d x y
  rw[Ag.1 y];have:=h.next j d;exact⟨by show n.next j<=_;omega,by show n.now+Db s.a 9<=_;omega,by show s.s.length<=_;omega⟩
 rw[zd _ _ q]at f;exact k.g j d x f
def NS.Inv.tick(h:n.Inv T):n.tick.Inv (T+1):=by
 have a:=h.mono (Bv T);refine⟨a.mtu,a.win,λi hi=>?_,a.e,by have:=h.now;show n.now+1<=_;omega,a.next,a.count,a.gl,a.g,a.bl,a.bag⟩;show(zf (zf n.c 0 (n.c 0).tick) 1 (n.c 1).tick i).Inv _;by_cases q:i=1
 .subst q;rw[ze];exact(h.c 1 hi).tick
 have:i=0:=I;subst this;rw[zd _ _ q,ze];exact(h.c 0 hi).tick
def NS.Inv.drop(h:n.Inv T)(k:Nat):(n.drop k).Inv T:=by
 refine⟨h.mtu,h.win,h.c,h.e,h.now,h.next,h.count,h.gl,h.g,?_,λp hp=>?_⟩
 .have:=h.bl;show(n.bag.take k++n.bag.drop (k+1)).length<=_;rw[AG,AU,Ac];omega
 rcases Al.1 hp with x|x
 .exact h.bag p (BP x)
 exact h.bag p (Bo x)
theorem Wu{b:nG}{n:Nat}(h:dec b=.ok n fs):0<b.length:=by
 cases b with
 | nil=>revert h;unfold dec;simp
 | cons x l=>simp
theorem Pc(i:Nat):∀(l:List nG) (n:NS),∃c' m,(NS.flushL i l n).2={ n with count:=zf n.count i c',bag:=n.bag++m }/\c'<=n.count i+l.length/\m.length<=l.length/\∀p∈m,p.1=1-i/\0<p.2.length/\p.2.length<=n.mtu
 | [],n=>⟨n.count i,[],by show n=_;rw[Fy,Bw],AF _,AF _,λp a=>(by cases a)⟩
 | b::l,n=>by
  have same:∃c' m,n={ n with count:=zf n.count i c',bag:=n.bag++m }/\c'<=n.count i+(b::l).length/\m.length<=(b::l).length/\∀p∈m,p.1=1-i/\0<p.2.length/\p.2.length<=n.mtu :=
   ⟨n.count i,[],by rw[Fy,Bw],I,AM _,λp a=>(by cases a)⟩
  unfold NS.flushL;cases hd:dec b with
  | sum=>exact same
  | bad p=>exact same
  | ok num fs =>
   simp only;split
   .exact same
   rename_i hc;split
   .exact⟨n.count i+1,[],by rw[Bw],mv,AM _,λp a=>(by cases a)⟩
   obtain⟨c',m,h1,h2,h3,h4⟩:=Pc i l { n with count:=zf n.count i (n.count i+1),bag:=n.bag++[(1-i,b)] };refine⟨c',(1-i,b)::m,?_,?_,by simp only[AR];omega,λp a=>?_⟩
   .rw[h1];have e:zf (zf n.count i (n.count i+1)) i c'=zf n.count i c':=by
     funext j;by_cases q:j=i
     .subst q;rw[ze,ze]
     rw[zd _ _ q,zd _ _ q,zd _ _ q]
    simp only[e,Ap,List.singleton_append]
   .simp only[ze]at h2;simp only[AR];omega
   rcases Av.1 a with x|x
   .rw[x];exact⟨rfl,Wu hd,by show b.length<=_;omega⟩
   exact h4 p x
def NS.Inv.flush(k:T<=Dg)(h:n.Inv T)(hi:i<2):(n.flush i).2.Inv (T+1):=by
 have f:=(h.c i hi).pkPost k;have ha:=(h.c i hi).acks.2.2;have hl:(n.c i).packets.1.length<=21:=nC f.z.1;have hc:=(h.mono (Bv T)).setC i (c:=(n.c i).packets.2) (λ_=>(h.c i hi).packets k);unfold NS.flush;obtain⟨c',m,h1,h2,h3,h4⟩:=Pc i (n.c i).packets.1 (n.setC i (n.c i).packets.2);rw[h1];have hct:=h.count i hi;have hb:=h.bl;have hm:=h.mtu;have e1:(n.setC i (n.c i).packets.2).count=n.count:=rfl;have e2:(n.setC i (n.c i).packets.2).bag=n.bag:=rfl;have e3:(n.setC i (n.c i).packets.2).mtu=n.mtu:=rfl;rw[e1]at h2;rw[e3]at h4;refine⟨hc.mtu,hc.win,hc.c,hc.e,hc.now,hc.next,λj hj=>?_,hc.gl,hc.g,?_,λp f=>?_⟩
 .show zf n.count i c' j<=_;by_cases q:j=i
  .subst q;rw[ze];omega
  rw[zd _ _ q];have:=h.count j hj;omega
 .show(n.bag++m).length<=_;rw[AG];omega
 rcases Al.1 f with x|x
 .exact h.bag p x
 obtain⟨a,b,d⟩:=h4 p x;exact⟨I,b,I⟩
theorem Pf(now id:Nat)(data:nG):∀(l:List SN) (r:Bool),(EP now id data l r).2.length=l.length/\∀s∈(EP now id data l r).2,∃s'∈l,s.id=s'.id/\s.dl=s'.dl/\s.data=s'.data
 | [],r=>⟨rfl,λs c=>(by cases c)⟩
 | g::l,r=>by
  unfold EP;split
  .obtain⟨a,b⟩:=Pf now id data l (g.data==data && !g.came&&decide (now<=g.dl));refine⟨by simp only[AR,a],λs c=>?_⟩;rcases Av.1 c with x|x
   .exact⟨g,AO,by rw[x];exact⟨rfl,rfl,rfl⟩⟩
   obtain⟨s',h1,h2⟩:=b s x;exact⟨s',AW _ h1,h2⟩
  obtain⟨a,b⟩:=Pf now id data l r;refine⟨by simp only[AR,a],λs c=>?_⟩;rcases Av.1 c with x|x
  .exact⟨g,AO,by rw[x];exact⟨rfl,rfl,rfl⟩⟩
  obtain⟨s',h1,h2⟩:=b s x;exact⟨s',AW _ h1,h2⟩
theorem Pe(now:Nat):∀(l:List (Nat×nG)) (G:List SN),(FX now l G).2.length=G.length/\∀s∈(FX now l G).2,∃s'∈G,s.id=s'.id/\s.dl=s'.dl/\s.data=s'.data
 | [],G=>⟨rfl,λs c=>⟨s,c,rfl,rfl,rfl⟩⟩
 | m::l,G=>by
  obtain⟨a,b⟩:=Pf now m.1 m.2 G false;unfold FX;split
  .obtain⟨a2,b2⟩:=Pe now l (EP now m.1 m.2 G false).2;refine⟨a2.trans a,λs c=>?_⟩;obtain⟨s',h1,h2,h3,h4⟩:=b2 s c;obtain⟨s2,k1,k2,k3,k4⟩:=b s' h1;exact⟨s2,k1,h2.trans k2,h3.trans k3,h4.trans k4⟩
  exact⟨a,b⟩
def NS.Inv.came(h:n.Inv T)(i:Nat):(n.came i).2.Inv T:=by
 have hc:=h.setC i (c:=(n.c i).datagramsOut.2) (λhi=>(h.c i hi).datagramsOut);obtain⟨a,b⟩:=Pe n.now (n.c i).datagramsOut.1 (n.g (1-i));refine⟨hc.mtu,hc.win,hc.c,hc.e,hc.now,hc.next,hc.count,λj f=>?_,λj f s hs=>?_,hc.bl,hc.bag⟩
 .show(zf n.g (1-i) _ j).length<=_;by_cases q:j=1-i
  .subst q;rw[ze,a];exact h.gl _ f
  rw[zd _ _ q];exact h.gl j f
 have d:s∈zf n.g (1-i) (FX n.now (n.c i).datagramsOut.1 (n.g (1-i))).2 j:=hs;by_cases q:j=1-i
 .subst q;rw[ze]at d;obtain⟨s',h1,h2,h3,h4⟩:=b s d;rw[h2,h3,h4];exact h.g _ f s' h1
 rw[zd _ _ q]at d;exact h.g j f s d
def NS.Inv.recv(h:n.Inv T)(i:Nat)(b:nG)(hT:T+b.length<=Dg):(n.recv i b).2.2.Inv (T+b.length):=by
 unfold NS.recv;exact((h.mono (DU T b.length)).setC i (λhi=>(h.c i hi).receive hT)).came i
def Vz(b:nG)(x:UInt8)(hk:k<b.length):(IA b k x).length=b.length:=by
 unfold IA;simp only[AG,AU,Ac,Af];omega
def NS.Inv.carry(h:n.Inv T)(s:Do)(hT:T+400<=Dg):(n.carry s).2.Inv (T+400):=by
 have c:=h.mono (I:T<=T+400);unfold NS.carry;split
 .exact c
 rename_i hb;have hk:Db s.a n.bag.length<n.bag.length:=En _ _ (BM.2 hb);have hm:n.bag.getD (Db s.a n.bag.length) (0,[])∈n.bag:=by simp[List.getD,hk]
 obtain⟨_,p1,p2⟩:=h.bag _ hm;generalize Db s.a n.bag.length=k at *;generalize n.bag.getD k (0,[])=f at *;unfold NS.carryK;split
 .have hx:(if Db s.b 2=0 then n.drop k else n).Inv T:=by
   split
   .exact h.drop k
   exact h
  exact(hx.recv f.1 f.2 I).mono I
 split
 .exact c.drop k
 split
 .have e:=Vz f.2 (IY s.s) (En s.b _ p1);exact(h.recv f.1 _ I).mono I
 exact c
def NS.Inv.read(h:n.Inv T)(i k most:Nat):(n.read i k most).2.Inv T:=by
 have hc:=h.setC i (c:=((n.c i).read k most).2) (λhi=>(h.c i hi).read _ _);unfold NS.read;split
 .exact hc
 rename_i hw;refine hc.setE (1-i) k (λhi hk=>?_);have e:=h.e (1-i) hi k hk;unfold EN.wrong at hw;simp only[CR,BU,Ai]at hw;obtain⟨⟨⟨⟨_,_⟩,h3⟩,_⟩,_⟩:=hw;refine⟨e.wl,by show(n.e (1-i) k).read+((n.c i).read k most).1.1.length<=(n.e (1-i) k).wrote.length;omega,e.keep⟩
def Gw(c:Int):Db c 2<2:=En c 2 I
def NS.Inv.step(h:n.Inv T)(s:Do)(hT:T+401<=Dg):(n.step s).2.Inv (T+401):=by
 have up:∀{m:NS} {a:Nat},m.Inv a->a<=T+401->m.Inv (T+401):=λx y=>x.mono y
 unfold NS.step;split
 .exact up (h.send _ _ _) I
 split
 .exact up (h.finish _ _) I
 split
 .exact up (h.reset _ _ _) I
 split
 .exact up (h.datagram _ _) I
 split
 .exact up (h.tick.carry s I) I
 split
 .exact up (h.flush I (Gw _)) I
 split
 .exact up (h.read _ _ _) I
 exact up (h.carry s I) I
def NS.Up(n:NS):Prop:=∀i,i<2->(n.c i).closed=0
def NS.Up.setC(h:n.Up)(i:Nat)(hc:i<2->c.closed=0):(n.setC i c).Up:=by
 intro j a;show(zf n.c i c j).closed=0;by_cases q:j=i
 .subst q;rw[ze];exact hc a
 rw[zd _ _ q];exact h j a
def kI(c:CS)(k:Int)(s:nG):(c.send k s).2.closed=c.closed:=by
 unfold CS.send;split
 .rfl
 split
 .rfl
 split<;>rfl
def lU(c:CS)(k:Int):(c.finish k).2.closed=c.closed:=by
 unfold CS.finish;split
 .rfl
 split<;>rfl
def lC(c:CS)(k n:Int):(c.reset k n).2.closed=c.closed:=by
 unfold CS.reset;split<;>rfl
def Wk(c:CS)(id dl:Nat)(s:nG):(c.datagram id dl s).2.closed=c.closed:=by
 unfold CS.datagram;split
 .rfl
 split
 .rfl
 split
 .rfl
 split<;>rfl
def Vj(c:CS):c.lose.closed=c.closed:=by
 rw[Hs];exact(JE c.flight c).hd.2.2.2.2.1
def Vi(c:CS):c.tick.closed=c.closed:=Vj c.ticked
def lB(c:CS)(l:zC):(c.acked l).2.closed=c.closed:=by
 by_cases a:c.next<=DX l 0
 .unfold CS.acked;rw[AQ a]
 rw[PF c l a];exact(Vj (c.ackedTo l)).trans (Jr l c.flight _).hd.2.2.2.2.1
def kH(c:CS)(k n:Int):(c.read k n).2.closed=c.closed:=by
 unfold CS.read;split
 .rfl
 split<;>rfl
def kG(c:CS)(f:Da):(c.take f).2.closed=c.closed:=by
 unfold CS.take;split
 .exact lB c _
 split
 .unfold CS.resetAt;split<;>rfl
 split
 .unfold CS.data;split
  .rfl
  split<;>rfl
 split
 .rfl
 split
 .rfl
 split
 .unfold CS.message;split<;>rfl
 split<;>rfl
theorem Rp:∀(fs:List Da) (c:CS),(CS.takes fs c).1=0->(CS.takes fs c).2.closed=c.closed
 | [],_,_=>rfl
 | f::fs,c,h=>by
  unfold CS.takes at h ⊢;split at h
  .rename_i hx;exact absurd h hx
  rename_i hx;rw[AI hx];exact(Rp fs _ h).trans (kG c f)
def iL(c:CS)(f:Da):(c.take f).1≠7:=by
 unfold CS.take;split
 .unfold CS.acked;split<;>simp
 split
 .unfold CS.resetAt;split<;>simp
 split
 .unfold CS.data;split
  .simp
  split<;>simp
 split
 .simp
 split
 .simp
 split
 .simp
 split<;>simp
theorem Vh:∀(fs:List Da) (c:CS),(CS.takes fs c).1≠7
 | [],_=>by simp[CS.takes]
 | f::fs,c=>by
  unfold CS.takes;split
  .exact iL c f
  exact Vh fs _
theorem mO(c:CS)(bs:nG)(h:(c.receive bs).1.1=0\/(c.receive bs).1.1=7)(h0:c.closed=0):(c.receive bs).2.closed=0:=by
 unfold CS.receive at h ⊢;rw[AI I]at h ⊢;cases hd:dec bs with
 | sum=>exact h0
 | bad p =>
  rw[hd]at h;simp at h
 | ok n fs =>
  rw[hd]at h;simp only at h ⊢;split at h
  .rename_i hb;rw[AQ hb];exact h0
  rename_i hb;rw[AI hb];rcases h with h|h
  .exact(Rp fs _ h).trans h0
  exact absurd h (Vh fs _)
def NS.Up.packets(hT:T<=Dg)(h:n.Inv T)(u:n.Up)(hi:i<2):(n.c i).packets.2.closed=0:=by
 have e:=((h.c i hi).pkPost hT).but.hd.2.2.2.2.1;rw[e];have a:(n.c i).acks.2.closed=(n.c i).closed:=by
  unfold CS.acks;split<;>rfl
 rw[a];exact u i hi
def NS.Up.flush(hT:T<=Dg)(h:n.Inv T)(u:n.Up)(hi:i<2):(n.flush i).2.Up:=by
 unfold NS.flush;obtain⟨c',m,h1,_⟩:=Pc i (n.c i).packets.1 (n.setC i (n.c i).packets.2);rw[h1];exact u.setC i (λ_=>u.packets hT h hi)
def NS.Up.send(u:n.Up)(i k:Nat)(s:nG):(n.send i k s).2.Up:=by
 have hc:=u.setC i (c:=((n.c i).send k s).2) (λhi=>(kI _ _ _).trans (u i hi));unfold NS.send;split
 .exact hc
 split<;>exact hc
def NS.Up.finish(u:n.Up)(i k:Nat):(n.finish i k).2.Up:=by
 have hc:=u.setC i (c:=((n.c i).finish k).2) (λhi=>(lU _ _).trans (u i hi));unfold NS.finish;split<;>exact hc
def NS.Up.reset(u:n.Up)(i k:Nat)(b:Int):(n.reset i k b).2.Up:=by
 unfold NS.reset NS.resetK;exact u.setC i (λhi=>(lC _ _ _).trans (u i hi))
def NS.Up.datagram(u:n.Up)(i:Nat)(s:Do):(n.datagram i s).2.Up:=by
 unfold NS.datagram;split
 .exact u.setC i (λhi=>(Wk _ _ _ _).trans (u i hi))
 have hc:=u.setC i (c:=((n.c i).datagram (n.next i) (n.now+Db s.a 9) s.s).2) (λhi=>(Wk _ _ _ _).trans (u i hi));split
 .exact hc
 split<;>exact hc
def NS.Up.tick(u:n.Up):n.tick.Up:=by
 intro i hi;show(zf (zf n.c 0 (n.c 0).tick) 1 (n.c 1).tick i).closed=0;by_cases q:i=1
 .subst q;rw[ze];exact(Vi _).trans (u 1 hi)
 have:i=0:=I;subst this;rw[zd _ _ q,ze];exact(Vi _).trans (u 0 hi)
def NS.Up.came(u:n.Up)(i:Nat):(n.came i).2.Up:=u.setC i (c:=(n.c i).datagramsOut.2) (λhi=>u i hi)
def NS.Up.recv(u:n.Up)(i:Nat)(b:nG)(h:(n.recv i b).1=0\/(n.recv i b).1=7):(n.recv i b).2.2.Up :=
 NS.Up.came (u.setC i (c:=((n.c i).receive b).2) (λhi=>mO _ _ h (u i hi))) i
def NS.Up.drop(u:n.Up)(k:Nat):(n.drop k).Up:=u
def NS.Up.carry(u:n.Up)(s:Do)(h:(n.carry s).1=true):(n.carry s).2.Up:=by
 unfold NS.carry at h ⊢;split at h
 .rename_i hb;rw[AQ hb];exact u
 rename_i hb;rw[AI hb];generalize Db s.a n.bag.length=k at *;generalize n.bag.getD k (0,[])=f at *;unfold NS.carryK at h ⊢;split at h
 .rename_i h7;rw[AQ h7];have hx:(if Db s.b 2=0 then n.drop k else n).Up:=by
   split
   .exact u.drop k
   exact u
  simp only[AZ,Ci]at h;exact hx.recv f.1 f.2 (.inl h.1)
 rename_i h7;rw[AI h7];split at h
 .rename_i h8;rw[AQ h8];exact u.drop k
 rename_i h8;rw[AI h8];split at h
 .rename_i h9;rw[AQ h9];simp only[AZ,Ci]at h;exact u.recv f.1 _ (.inr h.1)
 rename_i h9;rw[AI h9];exact u
def NS.Up.read(u:n.Up)(i k most:Nat):(n.read i k most).2.Up:=by
 have hc:=u.setC i (c:=((n.c i).read k most).2) (λhi=>(kH _ _ _).trans (u i hi));unfold NS.read;split<;>exact hc
def NS.Up.step(h:n.Inv T)(u:n.Up)(s:Do)(hT:T+401<=Dg)(ok:(n.step s).1=true):(n.step s).2.Up:=by
 unfold NS.step at ok ⊢;split at ok
 .rename_i e;rw[AQ e];exact u.send _ _ _
 rename_i e;rw[AI e];split at ok
 .rename_i e;rw[AQ e];exact u.finish _ _
 rename_i e;rw[AI e];split at ok
 .rename_i e;rw[AQ e];exact u.reset _ _ _
 rename_i e;rw[AI e];split at ok
 .rename_i e;rw[AQ e];exact u.datagram _ _
 rename_i e;rw[AI e];split at ok
 .rename_i e;rw[AQ e];exact u.tick.carry s ok
 rename_i e;rw[AI e];split at ok
 .rename_i e;rw[AQ e];exact NS.Up.flush I h u (Gw _)
 rename_i e;rw[AI e];split at ok
 .rename_i e;rw[AQ e];exact u.read _ _ _
 rename_i e;rw[AI e];exact u.carry s ok
section
variable {S:Nat->Prop} {tag tag':nH} {w W W':World} {nb:Nat} {n n':NS} {M M':NV}
def Dh.own(h:Dh w tag nb n M W)(o:ED tag' nb n' M' W')(hc:n'.c=n.c)(hb:M'.b=M.b)(hV:M'.V=M.V)(m:DW S W W')(hS:∀g,S g->(tag g).1=3\/W.heap.size<=g)(e:Dn 3 tag tag' W W'):Dh w tag' nb n' M' W':=by
 have old:∀g,tag g≠(0,0)->tag' g=tag g:=λg hg=>by
  by_cases q:g<W.heap.size
  .exact e.old g q
  exact absurd (h.env.ok g I) hg
 have a:=m.mono hS;refine⟨o,λi hi=>?_,((h.env.to (j:=3) I).left e a).to I,λi hi=>(h.nd i hi).other e I I,h.mod.then a (λg hg=>.inr (h.t1 g (λx=>?_))),λg hg=>?_⟩
 .rw[hc,hb,hV];exact(h.cn i hi).mod a (λg hg x=>I) (λg hg=>old g (λx=>by rw[x]at hg;simp at hg))
 .rw[x]at hg;simp at hg
 by_cases q:g<W.heap.size
 .exact h.t1 g (by rw[<-e.old g q];exact hg)
 have:=h.mod.size;omega
variable{cs:Array Value}{t:Nat}
def E0.turn{r:Nat}{a:Array Value}(h:E0 tag r b cs t W)(obj:W'.heap[b]?=some (.cells a t (0,0))):E0 tag r b a t W':=⟨obj,h.tag⟩
variable{e:Nat}{v:Value}
def E8.kept{r a:Nat}(h:E8 tag r e sz v q xs W)(m:DW (λg=>g=b) W W')(hb:tag b=(3,a))(hr:r≠a):E8 tag r e sz v q xs W' :=
 h.mod m (λg hg x=>by rw[show g=b from hg,hb]at x;simp at x;exact hr x.symm) (λ_ _=>rfl)
def E0.kept{r a c:Nat}(h:E0 tag r c cs t W)(m:DW (λg=>g=b) W W')(hb:tag b=(3,a))(hr:r≠a):E0 tag r c cs t W' :=
 h.mod m (λg hg x=>by rw[show g=b from hg,hb]at x;simp at x;exact hr x.symm) (λ_ _=>rfl)
def ED.endS(h:ED tag nb n M W)(hi:i<2)(hk:k<8)(f:EN)(m:DW (λg=>g=M.eb i k) W W')(obj:W'.heap[M.eb i k]?=some (.cells (G6 f) 89 (0,0))):ED tag nb (n.setE i k f) M W':=by
 have c:=(h.en i hi k hk).tag;exact
  {obj:=h.obj.kept m c I
   x:=h.x.kept m c I
   ev:=h.ev.kept m c I
   gv:=h.gv.kept m c I
   nx:=h.nx.kept m c I
   ct:=h.ct.kept m c I
   bg:=h.bg.kept m c I
   er:=λj d=>(h.er j d).kept m c I
   en:=λj d q l=>by
    show E0 tag (20+8*j+q) (M.eb j q) (G6 (zf n.e i (zf (n.e i) k f) j q)) 89 W';by_cases x:j=i
    .subst x;rw[ze];by_cases y:q=k
     .subst y;rw[ze];exact(h.en j d q l).turn obj
     rw[zd _ _ y];exact(h.en j d q l).kept m c I
    rw[zd _ _ x];exact(h.en j d q l).kept m c I
   gr:=λj d=>(h.gr j d).kept m c I
   gl:=h.gl
   gn:=λj d a b s hb hs=>(h.gn j d a b s hb hs).kept m c I }
def ED.head(h:ED tag nb n M W)(s:n'.mtu=n.mtu/\n'.window=n.window/\n'.total=n.total/\n'.bag=n.bag)(he:n'.e=n.e)(hg:n'.g=n.g)(f:n'.next=n.next/\n'.count=n.count)(m:DW (λg=>g=nb) W W')(obj:W'.heap[nb]?=some (.cells (Md n' M) 48 (0,0))):ED tag nb n' M W':=by
 have c:=h.obj.tag;obtain⟨s1,s2,s3,s4⟩:=s;exact
  {obj:=h.obj.turn obj
   x:=h.x.kept m c I
   ev:=h.ev.kept m c I
   gv:=h.gv.kept m c I
   nx:=by rw[f.1];exact h.nx.kept m c I
   ct:=by rw[f.2];exact h.ct.kept m c I
   bg:=by rw[s4];exact h.bg.kept m c I
   er:=λj d=>(h.er j d).kept m c I
   en:=λj d q hq=>by rw[he];exact(h.en j d q hq).kept m c I
   gr:=λj d=>(h.gr j d).kept m c I
   gl:=by rw[hg];exact h.gl
   gn:=λj d a b s hb i=>by rw[hg]at i;exact(h.gn j d a b s hb i).kept m c I }
def ED.bagS(h:ED tag nb n M W)(v:Value)(l:List (Nat×nG))(m:DW S W W')(hS:∀g,S g->tag g=(3,0)\/tag g=(3,6)\/tag g=(0,0))(c:∀g,tag g≠(0,0)->tag' g=tag g)
  (obj:W'.heap[nb]?=some (.cells (Md { n with bag:=l } { M with bg:=v }) 48 (0,0))) (row:W'.ownsRow 0 62 2 v l.length (zM l)) (tg:∀g,v.ownBlock=some g->tag' g=(3,6)):ED tag' nb { n with bag:=l } { M with bg:=v } W':=by
 have q:∀{r:Nat},r≠0->r≠6->∀g,S g->tag g≠(3,r):=λr0 r6 g hg x=>by
  rcases hS g hg with y|y|y<;>rw[x]at y<;>simp at y
  .exact r0 y
  exact r6 y
 exact
  {obj:=⟨obj,by rw[c nb (by rw[h.obj.tag];simp),h.obj.tag]⟩
   x:=h.x.mod m (q I I) c
   ev:=h.ev.mod m (q I I) c
   gv:=h.gv.mod m (q I I) c
   nx:=h.nx.mod m (q I I) c
   ct:=h.ct.mod m (q I I) c
   bg:=⟨row,tg⟩
   er:=λj d=>(h.er j d).mod m (q I I) c
   en:=λj d a ha=>(h.en j d a ha).mod m (q I I) c
   gr:=λj d=>(h.gr j d).mod m (q I I) c
   gl:=h.gl
   gn:=λj d a b s hb hs=>(h.gn j d a b s hb hs).mod m (q I I) c }
def Yr(v:Value)(h:W.ownsRow 0 e 1 (.slice g N cap) N xs):(W.setCell (g,i) v).ownsRow 0 e 1 (.slice g N cap) N (xs.set i v):=by
 have hl:=h.1;rcases h.2 with⟨e,_⟩|⟨g',a,cur,e,_,h1,h2,h3,h4,h5⟩
 .cases e
 cases e;refine⟨by rw[Bg];exact hl,.inr ⟨g,cap,_,rfl,AM _,zc h1,h2,h3,by simp[h4],?_⟩⟩;rw[<-h5];simp[DO]
def Ks(h:W.ownsRow 0 e 1 (.slice g N cap) N xs)(a:xs[i]?=some v):W.cell? (g,i)=some v/\W.frozen? ⟨g,i,none⟩=false:=by
 have hl:=h.1;rcases h.2 with⟨e,_⟩|⟨g',b,cur,e,_,h1,h2,h3,h4,h5⟩
 .cases e
 cases e;have hi:=(AN.1 a).1;refine⟨za h1 ?_,zg h1⟩;rw[<-h5,BH I,Bl]at a;exact a
def UY(h:W.ownsRow 0 e sz v N xs)(hN:0<N):∃g cap,v=.slice (some ⟨g,0,none⟩) N cap/\N<=cap/\cap<=maxLen:=by
 rcases h.2 with⟨_,e⟩|⟨g,cap,cur,rfl,_,_,h2,h3,_⟩
 .omega
 exact⟨g,cap,rfl,h2,h3⟩
def E8.form{r:Nat}(h:E8 tag r e sz v N xs W)(hN:0<N):∃g cap,v=.slice (some ⟨g,0,none⟩) N cap/\N<=cap/\cap<=maxLen/\tag g=(3,r):=by
 obtain⟨g,cap,a,e2,e3⟩:=UY h.own hN;exact⟨g,cap,a,e2,e3,h.tag g (by rw[a];rfl)⟩
def ED.ctS(h:ED tag nb n M W)(hi:i<2)(x:Nat)(hg:M.ct=.slice g 2 cap):ED tag nb { n with count:=zf n.count i x } M (W.setCell (g,i) (.int .u64 x)):=by
 have c:=h.ct.tag g (by rw[hg];rfl);have m:DW (λq=>q=g) W (W.setCell (g,i) (.int .u64 x)):=(DW.refl (λq=>q=g) W).setCell (p:=(g,i)) (.inl rfl) _;exact
  {obj:=h.obj.kept m c I
   x:=h.x.kept m c I
   ev:=h.ev.kept m c I
   gv:=h.gv.kept m c I
   nx:=h.nx.kept m c I
   ct:=by
    have a:=h.ct;rw[hg]at a;refine⟨?_,h.ct.tag⟩;rw[hg];have b:=Yr (i:=i) (.int .u64 x) a.own;rcases(I:i=0\/i=1)with rfl|rfl
    .exact b
    exact b
   bg:=h.bg.kept m c I
   er:=λj d=>(h.er j d).kept m c I
   en:=λj d q hq=>(h.en j d q hq).kept m c I
   gr:=λj d=>(h.gr j d).kept m c I
   gl:=h.gl
   gn:=λj d a b s hb hs=>(h.gn j d a b s hb hs).kept m c I }
def ED.gramS(h:ED tag nb n M W)(hi:i<2)(hb:(M.gb i)[j]?=some b)(l:SN)(m:DW (λg=>g=b) W W')(obj:W'.heap[b]?=some (.cells (Sz l) 51 (0,0))):ED tag nb { n with g:=zf n.g i ((n.g i).set j l) } M W':=by
 have f:j<(n.g i).length:=by
  have:=(AN.1 hb).1;have:=h.gl i hi;omega
 have e:=(h.gn i hi j b _ hb (AK f)).tag;exact
  {obj:=h.obj.kept m e I
   x:=h.x.kept m e I
   ev:=h.ev.kept m e I
   gv:=h.gv.kept m e I
   nx:=h.nx.kept m e I
   ct:=h.ct.kept m e I
   bg:=h.bg.kept m e I
   er:=λj f=>(h.er j f).kept m e I
   en:=λj f q k=>(h.en j f q k).kept m e I
   gr:=λj f=>(h.gr j f).kept m e I
   gl:=λq k=>by
    show _=(zf n.g i _ q).length;by_cases x:q=i
    .subst x;rw[ze,Bg];exact h.gl q k
    rw[zd _ _ x];exact h.gl q k
   gn:=λq k a c s hc hs=>by
    have d:(zf n.g i ((n.g i).set j l) q)[a]?=some s:=hs;by_cases x:q=i
    .subst x;rw[ze]at d;by_cases y:a=j
     .subst y;rw[hb]at hc;cases hc;rw[List.getElem?_set_self f]at d;cases d;exact⟨obj,e⟩
     rw[List.getElem?_set_ne I]at d;exact(h.gn q k a c s hc d).kept m e I
    rw[zd _ _ x]at d;exact(h.gn q k a c s hc d).kept m e I }
end
section
variable {tag:nH} {W:World} {nb:Nat} {n:NS} {M:NV}
def ED.endAt(h:ED tag nb n M W)(hi:i<2)(hk:k<8):∃g cap q cap',W.cell? (nb,1)=some (.slice (some ⟨g,0,none⟩) 2 cap)/\(2<=cap/\cap<=9223372036854775807)/\W.cell? ⟨g,i,none⟩=some (.slice (some ⟨q,0,none⟩) 8 cap')/\(8<=cap'/\cap'<=9223372036854775807)/\W.cell? ⟨q,k,none⟩=some (.pointer (M.eb i k,0)):=by
 obtain⟨g,cap,c,e2,e3,_⟩:=h.ev.form I;obtain⟨q,cap',f1,f2,f3,_⟩:=(h.er i hi).form I;have c0:W.cell? (nb,1)=some M.ev:=h.obj.cell (j:=1) rfl;rw[c]at c0;have a:=h.ev.own;rw[c]at a;have c1:W.cell? (g,i)=some (M.er i):=(Ks a (i:=i) (by
  rcases(I:i=0\/i=1)with rfl|rfl<;>rfl)).1
 rw[f1]at c1;have b:=(h.er i hi).own;rw[f1]at b;unfold maxLen at e3 f3;exact⟨g,cap,q,cap',c0,⟨e2,I⟩,c1,⟨f2,I⟩,(Ks b (i:=k) (by simp[hk,Fj])).1⟩
def ED.connIs(h:ED tag nb n M W)(hi:i<2):∃g cap,W.cell? nb=some (.slice (some ⟨g,0,none⟩) 2 cap)/\(2<=cap/\cap<=9223372036854775807)/\W.cell? ⟨g,i,none⟩=some (.pointer (M.b i,0)):=by
 obtain⟨g,cap,c,e2,e3,_⟩:=h.x.form I;have c0:W.cell? nb=some M.x:=h.obj.cell (j:=0) rfl;rw[c]at c0;have a:=h.x.own;rw[c]at a;unfold maxLen at e3;exact⟨g,cap,c0,⟨e2,I⟩,(Ks a (i:=i) (by
  rcases(I:i=0\/i=1)with rfl|rfl<;>rfl)).1⟩
structure OV(W:World)(eb:Nat)(o:EN):Prop where
 wrote:W.cell? eb=some (.string (zu o.wrote))
 fin:W.cell? (eb,1)=some (.bool o.fin)
 cut:W.cell? (eb,2)=some (.bool o.cut)
 keep:W.cell? (eb,3)=some (.int .i64 o.keep)
 read:W.cell? (eb,4)=some (.int .i64 o.read)
 state:W.cell? (eb,5)=some (.int .i64 o.state)
 fz:∀j,W.frozen? ⟨eb,j,none⟩=false
def ED.enAt(h:ED tag nb n M W)(hi:i<2)(hk:k<8):OV W (M.eb i k) (n.e i k) :=
 have a:=h.en i hi k hk
 ⟨a.cell (j:=0) rfl,a.cell (j:=1) rfl,a.cell (j:=2) rfl,a.cell (j:=3) rfl,a.cell (j:=4) rfl,a.cell (j:=5) rfl,λj=>a.fz j⟩
def E4(w:World)(tag:nH)(nb:Nat)(W:World)(r:Bool×NS)(e:Ending)(W':World):Prop:=e=.returned (.bool r.1)/\zB w tag nb W r.2 W'
def Dh.endS(h:Dh w tag nb n M W)(hi:i<2)(hk:k<8)(a:EN)(m:DW (λg=>g=M.eb i k) W W')(obj:W'.heap[M.eb i k]?=some (.cells (G6 a) 89 (0,0))):Dh w tag nb (n.setE i k a) M W' :=
 h.own (h.o.endS hi hk a m obj) rfl rfl rfl m (λg hg=>.inl (by rw[show g=M.eb i k from hg,(h.o.en i hi k hk).tag])) (Dn.same h.env.ok m)
end
def zB.then0(h:zB w tag nb W n W')(m:DW DY W' W''):zB w tag nb W n W'':=by
 obtain⟨t,M,a,b,c⟩:=h;exact⟨t,M,a.free m (λ_ x=>x.elim),b,c.trans (m.mono (λ_ x=>x.elim))⟩
def IC(a b:Nat):((a:Int)==(b:Int))=(a==b):=by
 by_cases h:a=b
 .subst h;simp
 rw[AS.2 h,AS.2 (I:(a:Int)≠(b:Int))]
def Sy(a b:Nat):((a:Int) != (b:Int))=(a != b):=by
 unfold bne;rw[IC]
def UX(h:Dh w tag nb n M W)(hI:n.Inv T)(hT:T<=Dg){most:Nat}(hi:i<2)(hk:k<8)(hm:most<=4096):Calls prog 35 #[(nb,0),[i],[k],[most]] W (E4 w tag nb W (n.read i k most)):=by
 obtain⟨j,hj⟩:=nm (1-i);have B:j<2:=I;have x1:IntKind.i64.wrap (1-(i:Int))=(j:Int):=by rw[IntKind.wrap_i64];omega
 have x2:(1:Int)-(i:Int)=(j:Int):=I;obtain⟨g,cap,q,au,a1,⟨a2,a3⟩,a4,⟨a5,a6⟩,a7⟩:=h.o.endAt (i:=j) (k:=k) B hk;obtain⟨gx,cx,b1,⟨b2,b3⟩,b4⟩:=h.o.connIs (i:=i) hi;have ab:((n.c i).read k most).1.1.length<=2199023255552:=by
  have r:=(hI.c i hi).readOk hT;unfold CS.read;split
  .simp
  split
  .simp
  rename_i hs _;obtain⟨k0,k8,_⟩:=Nd (I:(n.c i).stream k=0);have:=(r k hk).len;simp only[Ae,AU,Ac];omega
 have kc:=eU (h.cn i hi) (h.env.to (j:=i+1) I) (k:Int) (most:Int) I ((hI.c i hi).readOk hT) (by
  have r:=(hI.c i hi).readOk hT;unfold CS.read;split
  .simp
  split
  .simp
  rename_i hs _;have:=(r k hk).len;simp only[Ae,AU,Ac];omega)
 have eo:=hI.e j B k hk;have ah:=eo.wl;have ai:=eo.rd;have aj:=eo.keep;clear eo;unfold NS.read;rw[hj];obtain⟨R,hR⟩:=nm ((n.c i).read k most);rw[hR]at kc ab ⊢;obtain⟨⟨s,st,er⟩,c'⟩:=R;simp only at kc ab ⊢;obtain⟨o,ho⟩:=nm (n.e j k);rw[ho]at ah ai aj ⊢;have HO:=zb ho;obtain⟨RR,J⟩:∃RR:Bool×NS,(if o.wrong most (s,st,er)=true then(false,n.setC i c')else((o.more (s,st,er)).fits,(n.setC i c').setE j k (o.more (s,st,er))))=RR:=⟨_,rfl⟩;rw[J];have G:=zb J;clear J;have HN:=zb h;clear h hI hR ho;go_enter func35,ntmps35;go_upto_region 3 with(go_at_call 29;refine kc.mono ?_;rintro _ W1 ⟨rfl,hL⟩;obtain⟨tag',V',h1,old,m1⟩:=HN.z.conn hi hL);have e0:=h1.o.enAt B hk;have K:(n.setC i c').e j k=o:=HO.z;rw[K]at e0;obtain⟨c0,c1,c2,c3,c4,c5,cz⟩:=e0;have H1:=zb h1;have L:=zb K;have y:=zb old;have HM:=zb m1;clear h1 old m1 hL kc HN HO a1 a4 a7 b1 b4 a2 a3 a5 a6 b2 b3 K;obtain⟨eb,N⟩:=nm (M.eb j k);dsimp only at c0 c1 c2 c3 c4 c5 cz ⊢;rw[N]at c0 c1 c2 c3 c4 c5 cz ⊢;have ac:=zb N;clear N;have D:AA (∀W',DW DY W1 W'->zB w tag nb W (n.setC i c') W'):=zb λW' m=>zB.trans y.z (HM.z.mono (λg hg=>.inl (λx=>by rw[x]at hg;simp at hg))) (zB.then0 H1.z.left m)
 obtain⟨S,hS⟩:=nm (n.setC i c');rw[hS]at H1 D L;have O:AA ((if o.wrong most (s,st,er)=true then(false,S)else((o.more (s,st,er)).fits,S.setE j k (o.more (s,st,er))))=RR):=by
  show _=_;rw[<-G.z,hS]
 clear hS G;have hsz:=zJ s;have hwz:=zJ o.wrote
 go_cut [10,99] (λsv bv wx=>sv=.string (zu s)/\bv=.bool (o.wrong most (s,st,er))/\AA (DW DY W1 wx))
 case first =>
  refine wp_region_quiet_lit mr mr ?_;repeat (go_big_quiet_step (fail))
  by_cases p1:er=0;rotate_left
  .have d1:((er:Int) != 0)=true:=Cp.2 I;have l:o.wrong most (s,st,er)=true:=by unfold EN.wrong;simp[p1]
   simp only[d1];repeat (go_big_quiet_step (fail))
   refine wpQuiet_nil ?_;intro _ f;obtain⟨nq,a⟩:=f;subst a;go_wp2_with fail;go_meet;exact⟨rfl,by rw[l],zb ((DW.refl DY W1).drewN _)⟩
  have d1:((er:Int) != 0)=false:=by simp[p1]
  simp only[d1];repeat (go_big_quiet_step (fail))
  by_cases p2:most<s.length
  .have d2:=Ax I;have l:o.wrong most (s,st,er)=true:=by unfold EN.wrong;simp[p2]
   simp only[d2];repeat (go_big_quiet_step (fail))
   refine wpQuiet_nil ?_;intro _ f;obtain⟨nq,a⟩:=f;subst a;go_wp2_with fail;go_meet;exact⟨rfl,by rw[l],zb ((DW.refl DY W1).drewN _)⟩
  have d2:=Aw I;simp only[d2];repeat (go_big_quiet_step (fail))
  by_cases p3:o.wrote.length<o.read+s.length
  .have d3:decide ((o.wrote.length:Int)-(o.read:Int)<(s.length:Int))=true:=Ax I;have l:o.wrong most (s,st,er)=true:=by unfold EN.wrong;simp[p3]
   simp only[d3];repeat (go_big_quiet_step (fail))
   refine wpQuiet_nil ?_;intro _ f;obtain⟨nq,a⟩:=f;subst a;go_wp2_with fail;go_meet;exact⟨rfl,by rw[l],zb ((DW.refl DY W1).drewN _)⟩
  have d3:decide ((o.wrote.length:Int)-(o.read:Int)<(s.length:Int))=false:=Aw I;simp only[d3];have l1:(o.read:Int)+(s.length:Int)<=(o.wrote.length:Int):=I;have l2:o.read+s.length<=o.wrote.length:=I
  repeat (go_big_quiet_step (fail))
  have e4:((zu o.wrote).extract o.read (o.read+s.length)).toList=(o.wrote.drop o.read).take s.length:=by
   rw[ByteArray.toList_eq,Pr,Iq,Ck]
  have e5:(zu s).toList=s:=by rw[ByteArray.toList_eq,Iq]
  by_cases p4:(o.wrote.drop o.read).take s.length=s;rotate_left
  .have d4:(!((zu o.wrote).extract o.read (o.read+s.length)).toList==(zu s).toList)=true:=by
    rw[e4,e5];simp[p4]
   have l:o.wrong most (s,st,er)=true:=by unfold EN.wrong;simp[p4]
   simp only[d4];repeat (go_big_quiet_step (fail))
   refine wpQuiet_nil ?_;intro _ f;obtain⟨nq,a⟩:=f;subst a;go_wp2_with fail;go_meet;exact⟨rfl,by rw[l],zb ((DW.refl DY W1).drewN _)⟩
  have d4:(!((zu o.wrote).extract o.read (o.read+s.length)).toList==(zu s).toList)=false:=by
   rw[e4,e5];simp[p4]
  simp only[d4];repeat (go_big_quiet_step (fail))
  by_cases p5:o.state=0
  .have d5:((o.state:Int) != 0)=false:=by simp[p5]
   have l:o.wrong most (s,st,er)=false:=by unfold EN.wrong;simp[p1,p4,p5];omega
   simp only[d5];repeat (go_big_quiet_step (fail))
   refine wpQuiet_nil ?_;intro _ f;obtain⟨nq,a⟩:=f;subst a;go_wp2_with fail;go_meet;exact⟨rfl,by rw[l],zb ((DW.refl DY W1).drewN _)⟩
  have d5:((o.state:Int) != 0)=true:=Cp.2 I;simp only[d5];repeat (go_big_quiet_step (fail))
  by_cases p6:s=[];rotate_left
  .have d6:(!s.isEmpty)=true:=by simp[p6]
   have l:o.wrong most (s,st,er)=true:=by unfold EN.wrong;simp[p5,p6]
   simp only[d6];repeat (go_big_quiet_step (fail))
   refine wpQuiet_nil ?_;intro _ f;obtain⟨nq,a⟩:=f;subst a;go_wp2_with fail;go_meet;exact⟨rfl,by rw[l],zb ((DW.refl DY W1).drewN _)⟩
  have d6:(!s.isEmpty)=false:=by simp[p6]
  simp only[d6];have l:o.wrong most (s,st,er)=((st:Int) != (o.state:Int)):=by
   have w1:(er != 0)=false:=by simp[p1]
   have w2:=Aw p2;have w3:=Aw p3;have w4:((o.wrote.drop o.read).take s.length != s)=false:=by simp[p4]
   have w5:=Cp.2 p5;have w6:(s != [])=false:=by simp[p6]
   unfold EN.wrong;have e7:((st:Int) != (o.state:Int))=(st != o.state):=by
    by_cases x:st=o.state
    .simp[x]
    have:(st:Int)≠(o.state:Int):=I;rw[Cp.2 this,Cp.2 x]
   rw[e7];simp only[w1,w2,w3,w4,w5,w6,DA,Bi]
  repeat (go_big_quiet_step (fail))
  refine wpQuiet_nil ?_;intro _ f;obtain⟨nq,a⟩:=f;subst a;go_wp2_with fail;go_meet;exact⟨rfl,by rw[l],zb ((DW.refl DY W1).drewN _)⟩
 case rest =>
 obtain⟨rfl,rfl,hM⟩:=hcut;obtain⟨W2,ak⟩:=nn wc;subst ak;by_cases l:o.wrong most (s,st,er)=true
 .have F:=zb (D.z _ hM.z);have hr:=O.z.symm.trans (AQ l);subst hr;rw[l];clear D H1 y HM c0 c1 c2 c3 c4 c5 cz;go_wp2_with fail;go_ret;exact⟨rfl,F.z⟩
 have hr:=O.z.symm.trans (AI l);subst hr;have l:o.wrong most (s,st,er)=false:=nF l;rw[l];have hle:o.read+s.length<=o.wrote.length:=by
  unfold EN.wrong at l;simp only[BU,Ai]at l;omega
 have E:=hM.z;have al:=E.cell (λx=>x) c0;have am:=E.cell (λx=>x) c1;have an:=E.cell (λx=>x) c2;have ao:=E.cell (λx=>x) c3;have ap:=E.cell (λx=>x) c4;have aq:=E.cell (λx=>x) c5;have N2:=H1.z.free E (λ_ x=>x.elim);have C:=(N2.o.en j B k hk).obj;have ad:=L.z;rw[ad]at C;have u:({ M with V:=V' }:NV).eb j k=eb:=ac.z;rw[u]at C;have ar:∀p,W2.frozen? ⟨eb,p,none⟩=false:=λp=>zg C
 obtain⟨t,P⟩:=nm (o.read+s.length);have A:AA (∀W',DW DY ((W2.setCell (eb,4) (.int .i64 t)).setCell (eb,5) (.int .i64 st)) W'->zB w tag nb W (S.setE j k (o.more (s,st,er))) W'):=by
  refine zb λW' m'=>?_
  have m3:DW (λg=>g=eb) W2 ((W2.setCell (U eb 4) (.int .i64 t)).setCell (U eb 5) (.int .i64 st)):=((DW.refl (λg=>g=eb) W2).setCell (p:=U eb 4) (.inl rfl) _).setCell (p:=U eb 5) (.inl rfl) _;have d:=zc (i:=5) (v:=.int .i64 st) (zc (i:=4) (v:=.int .i64 t) C);rw[<-u]at d m3;have e3:((G6 o).setIfInBounds 4 (.int .i64 t)).setIfInBounds 5 (.int .i64 st)=G6 (o.more (s,st,er)):=by
   rw[<-P];rfl
  rw[e3]at d;have N3:=N2.endS B hk (o.more (s,st,er)) m3 d;have tg:∀g,g=({ M with V:=V' }:NV).eb j k->tag' g≠(0,0):=λg hg x=>by
   have:=(N2.o.en j B k hk).tag;rw[<-hg,x]at this;simp at this
  rw[u]at N3 m3;exact zB.trans y.z ((HM.z.mono (λg hg=>.inl (λx=>by rw[x]at hg;simp at hg))).trans (E.mono (λ_ x=>x.elim))) (zB.then0 ⟨tag',_,N3,λ_ _=>rfl,m3.mono (λg hg=>.inl (tg g (hg.trans u.symm)))⟩ m')
 have Q:AA ((o.more (s,st,er)).fits=if st=0 then true else if st=1 then o.fin&&t==o.wrote.length else if st=2 then o.cut&&decide (o.keep<=t)else false):=by
  rw[<-P];rfl
 have ae:(o.read:Int)+(s.length:Int)=(t:Int):=I;obtain⟨W3,X⟩:=nm ((W2.setCell (U eb 4) (.int .i64 t)).setCell (U eb 5) (.int .i64 st));have d:=zc (i:=5) (v:=.int .i64 st) (zc (i:=4) (v:=.int .i64 t) C);rw[X]at d A;have k0:W3.cell? eb=some (.string (zu o.wrote)):=za d rfl;have k1:W3.cell? (eb,1)=some (.bool o.fin):=za d rfl;have k2:W3.cell? (eb,2)=some (.bool o.cut):=za d rfl;have k3:W3.cell? (eb,3)=some (.int .i64 o.keep):=za d rfl;have k4:W3.cell? (eb,4)=some (.int .i64 t):=za d rfl;have af:=zb X;clear D hM E d X H1 y HM C N2 ad c0 c1 c2 c3 c4 c5 cz O P u ac L;go_upto_region 7 with fail;rw[af.z];clear af al am an ao ap aq ar ae;obtain⟨NR,Y⟩:=nm (S.setE j k (o.more (s,st,er)));rw[Y]at A;have FR:AA (∀b W',b=(o.more (s,st,er)).fits->DW DY W3 W'->E4 w tag nb W ((o.more (s,st,er)).fits,S.setE j k (o.more (s,st,er))) (.returned (.bool b)) W'):=zb λb W' hb m=>⟨by rw[hb],by rw[Y];exact A.z W' m⟩
 clear A Y;by_cases H:st=0
 .have z:=Q.z.trans (AQ H);subst H;go_wp2_with fail;go_ret;exact FR.z _ _ z.symm (DW.refl _ _)
 have b0:((st:Int)==0)=false:=AS.2 I;by_cases t1:st=1
 .have z:=Q.z.trans ((AI H).trans (AQ t1));subst t1;have Z:=zb z;clear z Q H b0;go_upto_region 11 with fail;obtain⟨fn,aa⟩:=nm o.fin;rw[aa]at k1 Z;cases fn
  .go_quiet (fail);go_wp2_with fail;go_ret;exact FR.z _ _ (by rw[Z.z];rfl) ((DW.refl _ _).drewN _)
  go_quiet (fail);go_wp2_with fail;go_ret;exact FR.z _ _ (by rw[Z.z,IC];rfl) ((DW.refl _ _).drewN _)
 have b1:((st:Int)==1)=false:=AS.2 I;by_cases t2:st=2
 .have z:=Q.z.trans ((AI H).trans ((AI t1).trans (AQ t2)));subst t2;have Z:=zb z;clear z Q H b0 t1 b1;go_upto_region 13 with fail;obtain⟨fn,aa⟩:=nm o.cut;rw[aa]at k2 Z;cases fn
  .go_quiet (fail);go_wp2_with fail;go_ret;exact FR.z _ _ (by rw[Z.z];rfl) ((DW.refl _ _).drewN _)
  go_quiet (fail);go_wp2_with fail;go_ret;exact FR.z _ _ (by rw[Z.z];simp) ((DW.refl _ _).drewN _)
 have b2:((st:Int)==2)=false:=AS.2 I;have z:=Q.z.trans ((AI H).trans ((AI t1).trans (AI t2)));clear Q H t1 t2;go_wp2_with fail;go_ret;exact FR.z _ _ z.symm (DW.refl _ _)
def Yq:(prog.info? 62).map (λi=>(i.zero,i.size,i.bytes))=some (some (.agg #[.int .i64 0,.string ⟨#[]⟩]),2,24):=mr
def mM(a b:List (Nat×nG)):zM (a++b)=zM a++zM b:=by simp[zM]
def SE(p:Nat×nG)(l:List (Nat×nG)):zM (p::l)=(.int .i64 p.1)::(.string (zu p.2))::zM l:=rfl
theorem Vy:∀(l:List (Nat×nG)) (j:Nat) (p:Nat×nG),l[j]?=some p->(zM l)[j*2]?=some (.int .i64 p.1)/\(zM l)[j*2+1]?=some (.string (zu p.2))
 | [],j,p,h=>by simp at h
 | q::l,0,p,h=>by
  simp at h;subst h;exact⟨rfl,rfl⟩
 | q::l,j+1,p,h=>by
  have ih:=Vy l j p (nF h);rw[SE,(I:(j+1)*2=j*2+2)];simpa using ih
theorem WW:∀(l:List (Nat×nG)) (k:Nat),(zM l).take (k*2)=zM (l.take k)
 | [],k=>by simp[zM]
 | p::l,0=>by simp[zM]
 | p::l,k+1=>by
  rw[(I:(k+1)*2=k*2+1+1),SE];simp only[Ch];rw[WW l k];rfl
theorem WV:∀(l:List (Nat×nG)) (k:Nat),(zM l).drop (k*2)=zM (l.drop k)
 | [],k=>by simp[zM]
 | p::l,0=>mv
 | p::l,k+1=>by
  rw[(I:(k+1)*2=k*2+1+1),SE];simp only[List.drop_succ_cons];exact WV l k
def lA(l:List (Nat×nG)):∀u∈zM l,u.oneCell'=true:=by
 intro u a;unfold zM at a;rw[List.mem_flatMap]at a;obtain⟨p,_,b⟩:=a;simp at b;rcases b with rfl|rfl<;>rfl
def QV(w:World)(v:Value)(l b:List (Nat×nG))(a:Addr)(c:Nat)(h:w.ownsRow 0 62 2 v l.length (zM l))(hc:∀(j:Nat) u,(zM b)[j]?=some u->w.cell? (a.add j)=some u)(hl:l.length+b.length<=1099511627776):∃v' w',(∀ty,(Builtin.append_ #[46,46] ty #[v,.slice (some a) b.length c]).run prog w=.ok v' w')/\w'.ownsRow 0 62 2 v' (l++b).length (zM (l++b))/\w.grownBy w' v.ownBlock/\EA w v v':=by
 obtain⟨i,d,hz,e,f⟩:=info_parts Yq;rw[mM,AG];exact zV (P:=prog) w 46 62 i _ 2 24 underlying46 d hz e f rfl mu v l.length (zM l) h a b.length c (zM b) (mN b) hc (lA b) mz I
def Sx{l:List (Nat×nG)}(h:w.ownsRow 0 62 2 (.slice g l.length cap) l.length (zM l))(o m:Nat):∀(j:Nat) u,(zM ((l.drop o).take m))[j]?=some u->w.cell? ((⟨g,o*2,none⟩:Addr).add j)=some u:=by
 intro j u a;rcases h.2 with⟨e,_⟩|⟨g',c,cur,e,_,h1,h2,h3,h4,h5⟩
 .cases e
 cases e;rw[zZ];refine za h1 ?_;rw[<-WW,<-WV,<-h5]at a;have hj:j<m*2:=by
  have:=(AN.1 a).1;simp at this;omega
 rw[BH hj,BD]at a;have b:o*2+j<l.length*2:=by
  have:=(AN.1 a).1;simp at this;omega
 rw[BH b,Bl]at a;exact a
variable{W1:World}{v:Value}
def Dh.bagS(h:Dh w tag nb n M W){l:List (Nat×nG)}(m:DW S W W1)(d:∀g,S g->tag g=(3,6)\/W.heap.size<=g)(row:W1.ownsRow 0 62 2 v l.length (zM l))(i:∀g,v.ownBlock=some g->tag g=(3,6)\/(W.heap.size<=g/\g<W1.heap.size)):zB w tag nb W { n with bag:=l } (W1.setCell (nb,8) v):=by
 obtain⟨tag',b⟩:=nm ((λg=>if W.heap.size<=g/\v.ownBlock=some g/\g<W1.heap.size then(3,6)else tag g));have old:∀g,g<W.heap.size->tag' g=tag g:=λg hg=>by
  rw[<-b];exact AI (λx=>I)
 have c:∀g,tag g≠(0,0)->tag' g=tag g:=λg hg=>by
  by_cases q:g<W.heap.size
  .exact old g q
  exact absurd (h.env.ok g I) hg
 have a:=h.o.obj.tag;have s1:¬S nb:=λx=>by
  rcases d nb x with y|y
  .rw[a]at y;simp at y
  have:=h.env.ok nb y;rw[a]at this;simp at this
 have e:v.ownBlock≠some nb:=λx=>by
  rcases i nb x with y|⟨y,_⟩
  .rw[a]at y;simp at y
  have:=h.env.ok nb y;rw[a]at this;simp at this
 have m1:DW (λg=>S g\/g=nb) W (W1.setCell (U nb 8) v):=(m.mono (λg hg=>.inl (.inl hg))).setCell (p:=U nb 8) (.inl (.inr rfl)) v;have m2:=(DW.refl (λg=>g=nb) W1).setCell (p:=U nb 8) (.inl rfl) v;have f:(W1.setCell (nb,8) v).heap.size=W1.heap.size:=by simp[World.setCell]
 have o':ED tag' nb { n with bag:=l } { M with bg:=v } (W1.setCell (U nb 8) v):=by
  refine h.o.bagS v l m1 (λg hg=>?_) c ?_ (m2.owns row (λg hg x=>e (by rw[hg,show g=nb from x]))) (λg hg=>?_)
  .rcases hg with x|x
   .rcases d g x with y|y
    .exact .inr (.inl y)
    exact .inr (.inr (h.env.ok g y))
   rw[x];exact .inl a
  .rw[zc (m.obj s1 h.o.obj.obj)];rfl
  rcases i g hg with y|⟨y,z⟩
  .rw[c g (by rw[y];simp),y]
  rw[<-b];exact AQ ⟨y,hg,z⟩
 refine⟨tag',_,h.own o' rfl rfl rfl m1 (λg hg=>?_) ⟨old,λg hg=>?_,λg hg=>?_⟩,old,m1.mono (λg hg=>?_)⟩
 .rcases hg with x|x
  .rcases d g x with y|y
   .exact .inl (by rw[y])
   exact .inr y
  rw[x];exact .inl (by rw[a])
 .by_cases q:W.heap.size<=g/\v.ownBlock=some g/\g<W1.heap.size
  .exact .inl (by rw[<-b];simp only[AQ q])
  exact .inr (by rw[<-b];simp only[AI q];exact h.env.ok g hg)
 .rw[f]at hg;rw[<-b];simp only;rw[AI (λx=>I)];have:=m.size;exact h.env.ok g I
 rcases hg with x|x
 .rcases d g x with y|y
  .exact .inl (by rw[y];simp)
  exact .inr y
 rw[x];exact .inl (by rw[a];simp)
def ED.gramAt(h:ED tag nb n M W)(hi:i<2):∃g cap a cap',W.cell? (nb,2)=some (.slice (some ⟨g,0,none⟩) 2 cap)/\(2<=cap/\cap<=9223372036854775807)/\W.cell? ⟨g,i,none⟩=some (.slice a (n.g i).length cap')/\((n.g i).length<=cap'/\cap'<=9223372036854775807)/\∀(j b:Nat),(M.gb i)[j]?=some b->∃q,a=some ⟨q,0,none⟩/\W.cell? ⟨q,j,none⟩=some (.pointer b):=by
 obtain⟨g,cap,c,e2,e3,_⟩:=h.gv.form I;obtain⟨a,cap',f1,f2,f3,f4⟩:=zk (h.gr i hi).own;have c0:W.cell? (nb,2)=some M.gv:=h.obj.cell (j:=2) rfl;rw[c]at c0;have x:=h.gv.own;rw[c]at x;have c1:W.cell? (g,i)=some (M.gr i):=(Ks x (i:=i) (by
  rcases(I:i=0\/i=1)with rfl|rfl<;>rfl)).1
 have hl:=h.gl i hi;rw[f1,hl]at c1;unfold maxLen at e3 f3;refine⟨g,cap,a,cap',c0,⟨e2,I⟩,c1,⟨I,I⟩,λj b hb=>?_⟩;have hj:=(AN.1 hb).1;obtain⟨q,rfl⟩:=f4 I;have y:=(h.gr i hi).own;rw[f1]at y;exact⟨q,rfl,(Ks y (i:=j) (by rw[Bc,hb];rfl)).1⟩
structure OQ(W:World)(b:Nat)(s:SN):Prop where
 id:W.cell? b=some (.int .u64 s.id)
 dl:W.cell? (b,1)=some (.int .u64 s.dl)
 data:W.cell? (b,2)=some (.string (zu s.data))
 came:W.cell? (b,3)=some (.bool s.came)
 fz:W.frozen? ⟨b,3,none⟩=false
def ED.snAt(h:ED tag nb n M W){s:SN}(hi:i<2)(hb:(M.gb i)[j]?=some b)(hs:(n.g i)[j]?=some s):OQ W b s :=
 have a:=h.gn i hi j b s hb hs
 ⟨a.cell (j:=0) rfl,a.cell (j:=1) rfl,a.cell (j:=2) rfl,a.cell (j:=3) rfl,a.fz 3⟩
theorem Sw:∀(l:List (Nat×nG)) (j:Nat) (p:Nat×nG),l[j]?=some p->(FB l)[j*2]?=some (.int .u64 p.1)/\(FB l)[j*2+1]?=some (.string (zu p.2))
 | [],j,p,h=>by simp at h
 | q::l,0,p,h=>by
  simp at h;subst h;exact⟨rfl,rfl⟩
 | q::l,j+1,p,h=>by
  have ih:=Sw l j p (nF h);have e:FB (q::l)=(.int .u64 q.1)::(.string (zu q.2))::FB l:=rfl;rw[e,(I:(j+1)*2=j*2+2)];simpa using ih
def Wt{l:List (Nat×nG)}(h:w.ownsRow 0 154 2 (.slice g N cap) N (FB l))(hl:l.length=N){p:Nat×nG}(c:l[j]?=some p):w.cell? (g,j*2)=some (.int .u64 p.1)/\w.cell? (g,j*2+1)=some (.string (zu p.2)):=by
 obtain⟨a,b⟩:=Sw l j p c;have hj:=(AN.1 c).1;rcases h.2 with⟨e,_⟩|⟨g',d,cur,e,_,h1,h2,h3,h4,h5⟩
 .cases e
 cases e;rw[<-h5,BH I,Bl]at a b;exact⟨za h1 a,za h1 b⟩
def PH.left{l:List (Nat×nG)}{e:Ending}(ht:Dv tag W)(hb:tag b=(i,1))(h:PH tag i b W l c' e W'):∃v,e=.returned v/\W'.ownsRow 0 154 2 v l.length (FB l)/\(∀g,v.ownBlock=some g->tag g=(i,8))/\Ds tag i b W c' W':=by
 obtain⟨v,V',e1,e2,e3,e4,_,m⟩:=h;exact⟨v,e1,e2,e3,tag,V',e4,Dn.same ht m,m.mono (λg hg=>.inl (by rw[show g=b from hg,hb]))⟩
variable{G:List SN}
def UW{id:Nat}{data:nG}{g:SN}(hg:G[j]?=some g)(r:Bool):EP now id data (G.drop j) r=if g.id=id then((EP now id data (G.drop (j+1)) (g.data==data && !g.came&&decide (now<=g.dl))).1,{ g with came:=true }::(EP now id data (G.drop (j+1)) (g.data==data && !g.came&&decide (now<=g.dl))).2)
   else((EP now id data (G.drop (j+1)) r).1,g::(EP now id data (G.drop (j+1)) r).2):=by
 have a:=(AN.1 hg).1;have e:G.drop j=g::G.drop (j+1):=by
  rw[CK a];congr 1;rw[AK a]at hg;exact Bt hg
 rw[e,EP]
def eR{l:List (Nat×nG)}{m:Nat×nG}(a:l[k]?=some m)(G:List SN):FX now (l.drop k) G=if (EP now m.1 m.2 G false).1 then FX now (l.drop (k+1)) (EP now m.1 m.2 G false).2 else(false,(EP now m.1 m.2 G false).2):=by
 have hk:=(AN.1 a).1;have e:l.drop k=m::l.drop (k+1):=by
  rw[CK hk];congr 1;rw[AK hk]at a;exact Bt a
 rw[e,FX]
def eQ(S:NS)(J:Nat):({ S with g:=zf S.g J (S.g J) }:NS)=S:=by rw[Fy]
def Dh.gramS{S:NS}{J:Nat}{s:SN}(h:Dh w tag nb { S with g:=zf S.g J G } M W)(c:J<2)(hb:(M.gb J)[j]?=some b)(hs:G[j]?=some s):Dh w tag nb { S with g:=zf S.g J (G.set j { s with came:=true }) } M (W.setCell (b,3) (.bool true))/\tag b=(3,40+2*j+J):=by
 have e:({ S with g:=zf S.g J G }:NS).g J=G:=ze _ _ _;have a:=h.o.gn J c j b s hb (by rw[e];exact hs);have m:DW (λg=>g=b) W (W.setCell (U b 3) (.bool true)):=(DW.refl (λg=>g=b) W).setCell (p:=U b 3) (.inl rfl) _;have o:=h.o.gramS c hb { s with came:=true } m (by rw[zc a.obj];rfl);have e2:({ ({ S with g:=zf S.g J G }:NS)with g:=zf ({ S with g:=zf S.g J G }:NS).g J ((({ S with g:=zf S.g J G }:NS).g J).set j { s with came:=true }) }:NS)={ S with g:=zf S.g J (G.set j { s with came:=true }) }:=by
  rw[e];show({ S with g:=zf (zf S.g J G) J _ }:NS)=_;rw[Kp]
 rw[e2]at o;exact⟨h.own o rfl rfl rfl m (λg hg=>.inl (by rw[show g=b from hg,a.tag])) (Dn.same h.env.ok m),a.tag⟩
def KZ(tag:nH):Nat->Prop:=λg=>∃r,40<=r/\tag g=(3,r)
def Gh(w:World)(tag:nH)(nb:Nat)(S:NS)(M:NV)(W1:World)(J:Nat)(G:List SN)(nw:Nat)(m:Nat×nG)(RB:Bool)(RL:List SN)(j:Nat)(r:Bool)(wr:World):Prop :=
 ∃A:List SN,A.length=j/\Dh w tag nb { S with g:=zf S.g J (A++G.drop j) } M wr/\DW (KZ tag) W1 wr/\(EP nw m.1 m.2 (G.drop j) r).1=RB/\A++(EP nw m.1 m.2 (G.drop j) r).2=RL
section
variable {w:World} {tag:nH} {nb:Nat} {S:NS} {M:NV} {W1 wr W':World} {J:Nat} {G:List SN} {nw:Nat} {m:Nat×nG} {RB:Bool} {RL:List SN} {j b:Nat} {r:Bool} {g:SN}
variable{j:Nat}
def Mc{α : Type}{G:List α}{g : α}(hg:G[j]?=some g):G.drop j=g::G.drop (j+1):=by
 have a:=(AN.1 hg).1;rw[CK a];congr 1;rw[AK a]at hg;exact Bt hg
def Gh.hit(h:Gh w tag nb S M W1 J G nw m RB RL j r wr)(hJ:J<2)(hg:G[j]?=some g)(hb:(M.gb J)[j]?=some b)(c:g.id=m.1)(k:DW DY (wr.setCell (b,3) (.bool true)) W'):Gh w tag nb S M W1 J G nw m RB RL (j+1) (g.data==m.2 && !g.came&&decide (nw<=g.dl)) W':=by
 obtain⟨A,d,hN,hm,h1,h2⟩:=h;have f:(A++G.drop j)[j]?=some g:=by
  rw[Ab I,d,DH,BD,B7];exact hg
 obtain⟨a,i⟩:=hN.gramS hJ hb f;have l:=UW (now:=nw) (id:=m.1) (data:=m.2) hg r;rw[AQ c]at l;rw[l]at h1 h2;refine⟨A++[{ g with came:=true }],by rw[AG,d];rfl,?_,(hm.setCell (p:=U b 3) (.inl ⟨_,I,i⟩) _).trans (k.mono (λ_ x=>x.elim)),h1,?_⟩
 .have e:(A++G.drop j).set j { g with came:=true }=(A++[{ g with came:=true }])++G.drop (j+1):=by
   rw[Mc hg,Bj _ _ I,d,DH,List.set_cons_zero,Ap];rfl
  rw[e]at a;exact a.free k (λ_ x=>x.elim)
 rw[Ap];exact h2
def Gh.miss(h:Gh w tag nb S M W1 J G nw m RB RL j r wr)(hg:G[j]?=some g)(a:¬g.id=m.1)(b:DW DY wr W'):Gh w tag nb S M W1 J G nw m RB RL (j+1) r W':=by
 obtain⟨A,hA,c,hm,h1,h2⟩:=h;have d:=UW (now:=nw) (id:=m.1) (data:=m.2) hg r;rw[AI a]at d;rw[d]at h1 h2;refine⟨A++[g],by rw[AG,hA];rfl,?_,hm.trans (b.mono (λ_ x=>x.elim)),h1,by rw[Ap];exact h2⟩;rw[Mc hg]at c;rw[Ap];exact c.free b (λ_ x=>x.elim)
def Gh.start(hN:Dh w tag nb { S with g:=zf S.g J G } M wr)(hm:DW (KZ tag) W1 wr)(a:EP nw m.1 m.2 G false=(RB,RL)):Gh w tag nb S M W1 J G nw m RB RL 0 false wr :=
 ⟨[],rfl,by rw[CH,An];exact hN,hm,by rw[CH,a],by rw[CH,a];rfl⟩
def Gh.done(h:Gh w tag nb S M W1 J G nw m RB RL j r wr)(hj:j=G.length):r=RB/\Dh w tag nb { S with g:=zf S.g J RL } M wr/\DW (KZ tag) W1 wr:=by
 obtain⟨A,hA,a,hm,h1,h2⟩:=h;have e:G.drop j=[]:=by rw[hj];exact CE
 rw[e]at h1 h2 a;have h2:A=RL:=by
  rw[<-h2];exact(Bw A).symm
 subst h2;rw[Bw]at a;exact⟨h1,a,hm⟩
def Gh.look(h:Gh w tag nb S M W1 J G nw m RB RL j r wr)(f:J<2)(hn:S.now=nw)(hj:j<=G.length):wr.cell? (nb,4)=some (.int .u64 nw)/\∃gg cg ga ca,wr.cell? (nb,2)=some (.slice (some ⟨gg,0,none⟩) 2 cg)/\(2<=cg/\cg<=9223372036854775807)/\wr.cell? ⟨gg,J,none⟩=some (.slice ga G.length ca)/\(G.length<=ca/\ca<=9223372036854775807)/\DW (KZ tag) W1 wr /\
  ∀g,G[j]?=some g->∃q b,ga=some ⟨q,0,none⟩/\(M.gb J)[j]?=some b/\wr.cell? ⟨q,j,none⟩=some (.pointer (some ⟨b,0,none⟩))/\OQ wr b g:=by
 obtain⟨A,l,d,hm,h1,h2⟩:=h;have a:({ S with g:=zf S.g J (A++G.drop j) }:NS).g J=A++G.drop j:=ze _ _ _;have c:(A++G.drop j).length=G.length:=by rw[AG,l,Ac];omega
 obtain⟨gg,cg,ga,ca,d1,d2,n,p,d7⟩:=d.o.gramAt f;rw[a,c]at n p;refine⟨?_,gg,cg,ga,ca,d1,d2,n,p,hm,λg hg=>?_⟩
 .have:=d.o.obj.cell (j:=4) (v:=.int .u64 S.now) rfl;rw[hn]at this;exact this
 have i:(A++G.drop j)[j]?=some g:=by
  rw[Ab I,l,DH,BD,B7];exact hg
 have k:=(AN.1 hg).1;obtain⟨b,hb⟩:∃b,(M.gb J)[j]?=some b:=⟨(M.gb J)[j]'(by rw[d.o.gl J f,a,c];exact k),AK _⟩;obtain⟨q,e,d8⟩:=d7 j b hb;exact⟨q,b,e,hb,d8,d.o.snAt f hb (by rw[a];exact i)⟩
end
def Q4(w:World)(k:Nat)(p:Addr)(v:Value):DW DY (w.setCell p v) ((w.drewN k).setCell p v):=(DW.refl DY (w.setCell p v)).drewN k
def Q3(h:Dh w tag nb n M W)(hI:n.Inv T)(hT:T<=Dg)(hi:i<2):Calls prog 34 #[(nb,0),[i]] W (E4 w tag nb W (n.came i)):=by
 obtain⟨J,hJ⟩:=nm (1-i);have B:J<2:=I;have x1:IntKind.i64.wrap (1-(i:Int))=(J:Int):=by rw[IntKind.wrap_i64];omega
 have x2:(1:Int)-(i:Int)=(J:Int):=I;obtain⟨gx,cx,b1,⟨b2,b3⟩,b4⟩:=h.o.connIs (i:=i) hi;have kc:=iM (h.cn i hi);have an:(n.g J).length<=268435455:=by
  have:=hI.gl J B;unfold Dg at hT;omega
 have ao:(n.c i).datagramsOut.1.length<=268435455:=by
  have:=(hI.c i hi).cl;unfold Dg at hT;show(n.c i).came.length<=_;omega
 unfold NS.came;rw[hJ];obtain⟨l,hl⟩:=nm ((n.c i).datagramsOut.1);obtain⟨c',C⟩:=nm ((n.c i).datagramsOut.2);obtain⟨nw,D⟩:=nm n.now;obtain⟨R,hR⟩:=nm (FX nw l (n.g J));obtain⟨N,E⟩:=nm ((n.g J).length);obtain⟨L,O⟩:=nm l.length;rw[hl,C]at kc;rw[hl,O]at ao;rw[hl,C,D,hR];rw[E]at an;have HN:=zb h;have HR:=zb hR;have ap:=zb E;have P:=zb D;have hE:=h.env.ok;have Q:=(h.cn i hi).tb;clear hI hR E D hl C hT;go_enter func34,ntmps34;go_upto_region 2 with(go_at_call 67;refine kc.mono ?_;intro e W1 X;obtain⟨v,rfl,f,Y,Z⟩:=X.left hE Q;obtain⟨tag',V',h1,old,m1⟩:=HN.z.conn hi Z);obtain⟨S,hS⟩:=nm (n.setC i c');have aa:S.g=n.g:=by rw[<-hS];rfl
 have ab:S.now=n.now:=by rw[<-hS];rfl
 obtain⟨t,ac⟩:∃t:NV,({ M with V:=V' }:NV)=t:=⟨_,rfl⟩;have h1:Dh w tag' nb S t W1:=by rw[<-hS,<-ac];exact h1
 have ad:AA (∀(G:List SN) wr W',Dh w tag' nb { S with g:=zf S.g J G } t wr->DW (KZ tag') W1 wr->DW DY wr W'->zB w tag nb W { n.setC i c' with g:=zf n.g J G } W'):=by
  refine zb λG wr W' hN m m'=>?_
  have e:({ S with g:=zf S.g J G }:NS)={ n.setC i c' with g:=zf n.g J G }:=by rw[<-hS];rfl
  rw[<-e];exact zB.trans old (m1.mono (λg hg=>.inl (λx=>by rw[x]at hg;simp at hg))) ⟨tag',t,hN.free m' (λ_ x=>x.elim),λ_ _=>rfl,(m.mono (λg hg=>.inl (by obtain⟨r,_,e⟩:=hg;rw[e];simp))).trans (m'.mono (λ_ x=>x.elim))⟩
 have ae:∀g,v.ownBlock=some g->tag' g=(i+1,8):=λg hg=>by
  have h2:=Y g hg;have h3:=Ei hE h2 I;rw[old g h3,h2]
 have z:AA (∀wr,DW (KZ tag') W1 wr->wr.ownsRow 0 154 2 v l.length (FB l)):=zb λwr m=>m.owns f (λg hg x=>by
  obtain⟨r,_,e⟩:=x;rw[ae g hg]at e;simp at e;omega)
 obtain⟨va,vc,rfl,aq,ar,af⟩:=zk f;rw[O]at aq af z;unfold maxLen at ar;have ST:AA (Dh w tag' nb { S with g:=zf S.g J (n.g J) } t W1):=by
  refine zb ?_;rw[<-aa,eQ];exact h1
 have ah:AA (S.now=nw):=ab.trans P.z;have F:=zb O;rw[O];clear h hE Q Y f h1 old m1 aa ab ae b1 b2 b3 b4 kc X Z hS ac HN O P;go_wp2_with fail
 go_loopw [6] (λkv wr=>∃(k:Nat) (G:List SN),k<=L/\kv=.int .i64 k/\AA (Dh w tag' nb { S with g:=zf S.g J G } t wr/\DW (KZ tag') W1 wr/\FX nw (l.drop k) G=R/\G.length=N)) (λkv _=>L-(intOf kv).toNat)
 case atStart=>exact⟨0,n.g J,AM _,rfl,zb ⟨ST.z,DW.refl _ _,HR.z,ap.z⟩⟩
 case round =>
  obtain⟨k,G,hk,rfl,H⟩:=hrel;by_cases ai:k<L
  .obtain⟨m,hm⟩:∃m,l[k]?=some m:=⟨l[k]'(by rw[F.z];exact ai),AK _⟩;obtain⟨gv,rfl⟩:=af I;have HM:=zb hm;obtain⟨RB,RL,aj⟩:∃RB RL,EP nw m.1 m.2 G false=(RB,RL):=⟨_,_,rfl⟩;have u:=zb aj;clear aj hm;go_wp2_with fail
   go_loopw [7,8] (λfv jv wr=>∃(j:Nat) (r:Bool),j<=N/\fv=.bool r/\jv=.int .i64 j/\AA (Gh w tag' nb S t W1 J G nw m RB RL j r wr)) (λ_ jv _=>N-(intOf jv).toNat)
   case atStart =>
    obtain⟨a1,a2,a3,a4⟩:=H.z;exact⟨0,false,AM _,rfl,rfl,zb (Gh.start a1 a2 u.z)⟩
   case round =>
    obtain⟨j,r,hj,rfl,rfl,HJ⟩:=hrel;have y:=H.z.2.2.2;obtain⟨c4,gg,cg,ga,ca,d1,⟨d2,d3⟩,d4,⟨d5,d6⟩,K,d7⟩:=HJ.z.look B ah.z I;rw[y]at d4 d5;obtain⟨r1,r2⟩:=Wt (z.z wr K) F.z HM.z;by_cases au:j<N
    .obtain⟨g,hg⟩:∃g,G[j]?=some g:=⟨G[j]' I,AK _⟩;obtain⟨q,b,rfl,hb,d8,⟨e0,e1,e2,e3,e4⟩⟩:=d7 g hg;have HG:=zb hg;have HB:=zb hb;have t1:(zu g.data).toList=g.data:=by rw[ByteArray.toList_eq,Iq]
     have t2:(zu m.2).toList=m.2:=by rw[ByteArray.toList_eq,Iq]
     clear d7 K hg hb y;by_cases d:g.id=m.1;rotate_left
     .have q1:((g.id:Int)==(m.1:Int))=false:=by rw[IC];exact AS.2 d
      have A:=zb d;clear d;go_wp2_with fail;go_quiet (fail);go_wp2_with fail;go_roundw
      case rel=>exact⟨j+1,r,I,rfl,by go_num,zb (HJ.z.miss HG.z A.z ((DW.refl _ _).drewN _))⟩
      simp[intOf];omega
     have q1:((g.id:Int)==(m.1:Int))=true:=by rw[IC];exact Ci.2 d
     have A:AA (∀rv,rv=(g.data==m.2 && !g.came&&decide (nw<=g.dl))->∀W',DW DY (wr.setCell (b,3) (.bool true)) W'->Gh w tag' nb S t W1 J G nw m RB RL (j+1) rv W'):=zb λrv hr W' m'=>by
      rw[hr];exact HJ.z.hit B HG.z HB.z d m'
     clear d;go_wp2_with fail;go_quiet (fail);go_upto_region 11 with fail;by_cases p:g.data=m.2
     .have q2:(g.data==m.2)=true:=by rw[p];exact beq_self_eq_true _
      obtain⟨cm,av⟩:=nm g.came;rw[av]at e3 A;rw[q2]at A;cases cm
      .go_quiet (fail);go_wp2_with fail;go_roundw
       case rel=>exact⟨j+1,_,I,rfl,by go_num,zb (A.z _ mv _ (Q4 _ _ _ _))⟩
       simp[intOf];omega
      go_quiet (fail);go_wp2_with fail;go_roundw
      case rel=>exact⟨j+1,_,I,rfl,by go_num,zb (A.z _ mv _ (Q4 _ _ _ _))⟩
      simp[intOf];omega
     have q2:=AS.2 p;rw[q2]at A;clear p;go_quiet (fail);go_wp2_with fail;go_roundw
     case rel=>exact⟨j+1,_,I,rfl,by go_num,zb (A.z _ mv _ (Q4 _ _ _ _))⟩
     simp[intOf];omega
    have aw:j=N:=I;subst aw;obtain⟨f1,f2,f3⟩:=HJ.z.done y.symm;subst f1;have HC:=zb (eR (now:=nw) HM.z G);have ak:=zb f2;have al:=zb f3;clear d7 K f2 f3 au;cases r
    .have s:AA (R=(false,RL)):=by
      show _=_;have a:=HC.z;rw[u.z,H.z.2.2.1]at a;exact a
     have hr:=s.z;subst hr;go_wp2_with fail;go_ret;exact⟨rfl,ad.z RL wr _ ak.z al.z (DW.refl _ _)⟩
    have s:AA (FX nw (l.drop (k+1)) RL=R):=by
     show _=_;have a:=HC.z;rw[u.z,H.z.2.2.1]at a;exact a.symm
    have am:AA (RL.length=j):=by
     show _=_;have a:=(Pf nw m.1 m.2 G false).1;rw[u.z]at a;exact a.trans y
    go_wp2_with fail;go_roundw
    case rel=>exact⟨k+1,RL,I,by go_num,zb ⟨ak.z,al.z,s.z,am.z⟩⟩
    simp[intOf];omega
  have ax:k=L:=I;subst ax;have s:AA (R=(true,G)):=by
   show _=_;have a:=H.z.2.2.1;have e:l.drop k=[]:=by rw[<-F.z];exact CE
   rw[e]at a;exact a.symm
  have hr:=s.z;subst hr;clear ai;go_wp2_with fail;go_ret;exact⟨rfl,ad.z G wr _ H.z.1 H.z.2.1 (DW.refl _ _)⟩
def Do.cells(s:Do):Array Value:=#[.int .i64 s.kind,.int .i64 s.side,.int .i64 s.a,.int .i64 s.b,.string (zu s.s)]
structure Do.Ok(s:Do):Prop where
 kind : -9223372036854775808<=s.kind/\s.kind<=9223372036854775807
 side : -9223372036854775808<=s.side/\s.side<=9223372036854775807
 a : -9223372036854775808<=s.a/\s.a<=9223372036854775807
 b : -9223372036854775808<=s.b/\s.b<=9223372036854775807
 s:s.s.length<=1099511627776
structure IK(W:World)(b:Nat)(s:Do):Prop where
 c0:W.cell? b=some (.int .i64 s.kind)
 c1:W.cell? (b,1)=some (.int .i64 s.side)
 c2:W.cell? (b,2)=some (.int .i64 s.a)
 c3:W.cell? (b,3)=some (.int .i64 s.b)
 c4:W.cell? (b,4)=some (.string (zu s.s))
variable{fz:Nat×Nat}{t:Nat}
def IK.of{s:Do}(h:W.heap[b]?=some (.cells s.cells t fz)):IK W b s :=
 ⟨za h rfl,za h rfl,za h rfl,za h rfl,za h rfl⟩
def IK.mod{s:Do}(h:IK W b s)(m:DW S W W')(c:¬S b):IK W' b s :=
 ⟨m.cell (a:=b) c h.c0,m.cell (a:=U b 1) c h.c1,m.cell (a:=U b 2) c h.c2,m.cell (a:=U b 3) c h.c3,m.cell (a:=U b 4) c h.c4⟩
def Dh.alloc(h:Dh w tag nb n M W)(o:Obj):Dh w tag nb n M (W.alloc o) :=
 h.free ((DW.refl DY W).alloc o) (λ_ x=>x.elim)
def zB.from0(m:DW DY W W')(h:zB w tag nb W' n' W''):zB w tag nb W n' W'' :=
 zB.trans (λ_ _=>rfl) (m.mono (λ_ x=>x.elim)) h
def VU(h:Dh w tag nb n M W)(hb:n.bag=[])(s:Do):Calls prog 41 #[(nb,0),.agg s.cells] W (E4 w tag nb W (n.carry s)):=by
 obtain⟨W1,b⟩:=nm (W.alloc (.cells s.cells 37));have h1:Dh w tag nb n M W1:=by rw[<-b];exact h.alloc _
 have m1:=AB b;obtain⟨a,cap,d,q1,q2,_⟩:=zk h1.o.bg.own;have f:W1.cell? (nb,8)=some M.bg:=h1.o.obj.cell (j:=8) rfl;rw[d,hb]at f;have F:=zb (zB.from0 m1 h1.left);have e:n.carry s=(true,n):=by unfold NS.carry;rw[AQ hb]
 rw[e];have c:=zb b;simp only[Ad]at f;clear h hb h1 m1 d b q1 q2 e;unfold Do.cells at c ⊢;go_enter func41,ntmps41;go_upto_region 1 with fail;rw[c.z];go_wp2_with fail;go_ret;exact⟨rfl,F.z⟩
end
end Go.Proofs.YtddfdpbaiedcjaaGreatDoor
