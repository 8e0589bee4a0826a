/- Streamed. Part 14 of 17. -/
import Derived.Test.YtddfdpbaiedcjabGreatDoorStr13
set_option maxRecDepth 100000
set_option maxHeartbeats 16000000
set_option linter.all false
namespace Go.Proofs.YtddfdpbaiedcjabGreatDoor
section
open Go.RowKit Go.Proofs.Tryz
variable{b e:Nat}
theorem Uf:∀(m:qt) (o:Nat) (w:rT) (g:Array rU),w.heap[b]?=some (.cells g e (0,0))->∃a,(w.setCells b o m).heap[b]?=some (.cells a e (0,0))/\a.size=g.size
 | [],_,_,g,h=>⟨g,h,rfl⟩
 | v::m,o,w,g,h=>by
  obtain⟨a,e,g⟩:=Uf m (o+1) (w.setCell (b,o) v) _<|zc h;exact⟨a,e,by rw[g];simp⟩
theorem Ue:∀(a:qt) (o:Nat) (w:rT),C9 (λg=>g=b) w (w.setCells b o a)
 | [],_,w=>C9.refl _ _
 | v::a,o,w=>((C9.refl (λg=>g=b) w).setCell (p:=(b,o)) rO v).trans<|Ue a (o+1) _
variable{cap g n o size:Nat}{w:rT}{xs:qt}
def EI.oT{a:Array rU}(h:w.heap[g]?=some (.cells a e (0,0)))(y:xs.length=n*size)(m:n<=cap)(z:cap<=maxLen)(q:(o+cap)*size<=a.size)(A:∀j u,xs[j]?=some u->w ⟨g,o*size+j,none⟩=some u):EI w e size (.slice (g,o*size) n cap) n xs:=by
 have e:o*size+n*size<=a.size:=by
  have:n*size<=cap*size:=B7 _ m;rw[Cy]at q;omega
 refine⟨y,.inr ⟨g,o,cap,a,rfl,h,m,z,q,?_⟩⟩;apply List.ext_getElem?;intro j;by_cases a:j<xs.length
 .have e:=A j xs[j]<|AG a;rw[AG a,<-e];rw[B2,AL I,BM];unfold World.cell?;simp only[h];simp
 rw[BJ (by rw[AU];omega),BJ I]
variable{v:rU}
def EI.cells(h:EI w e size v n xs)(m:v=.slice (g,o) n cap):∀j u,xs[j]?=some u->w ⟨g,o+j,none⟩=some u:=by
 intro j u a;rcases h.2 with⟨rfl,rfl⟩|⟨u,z,e,g,rfl,q,_,_,A,y⟩
 .cases m
 cases m;have e:j<n*size:=by
  have:=(AO.1 a).1;rw[h.1]at this;exact this
 rw[<-y,B2,AL e,BM]at a;unfold World.cell?;simp only[q];simpa using a
def Jb(w:rT)(v v':rU):Prop:=∀g,Value.kr v'=some g->Value.kr v=some g\/w.heap.size<=g
def gm(h:w.ownsRow 0 e size v n xs):EI w e size v n xs:=by
 refine⟨h.1,?_⟩;rcases h.2 with⟨rfl,rfl⟩|⟨g,a,m,rfl,_,q,u,y,z,A⟩
 .exact .inl ⟨rfl,rfl⟩
 exact .inr ⟨g,0,a,m,nl,q,u,y,by rw[An];exact CD z.symm,qp A⟩
def iW:(prog.info? 48).map (λi=>(i.zero,i.size,i.bytes))=some (some (.agg #[.int .i64 0,.int .i64 0,.int .u64 0,.int .u64 0,.int .u64 0,.bool false,.int .u64 0,.int .u64 0,.string ⟨#[]⟩,.slice none 0 0]),10,104):=kw
def WW(w:rT)(v:rU)(n:Nat)(xs:qt)(f:DF)(h:EI w 48 10 v n xs)(hl:n<=1099511627776):∃m w',(∀D,(Builtin.append_ #[35,35] D #[v,.slice w 1 1]).run prog (w.alloc (.cells (ze f rV) 48))=.ok m w') /\
   EI w' 48 10 m (n+1) (xs++(ze f rV).toList)/\C9 (λg=>Value.kr v=some g) w w'/\Jb w v m:=by
 obtain⟨i,C,R,q,E⟩:=info_parts iW;obtain⟨o,B⟩:=nm<|Obj.cells (ze f rV) 48;have y:∀(j:Nat) u,(ze f rV).toList[j]?=some u->(w.alloc o) ((⟨w.heap.size,0,none⟩:Addr).add j)=some u:=by
  intro j u z;rw[EU,<-B];refine za (heap_alloc_new w _) ?_;rw[An,<-Array.getElem?_toList];exact z
 have N:∀u∈(ze f rV).toList,u.oneCell'=true:=by
  intro u L;simp[ze]at L;rcases L with rfl|rfl|rfl|rfl|rfl|rfl|rfl|rfl|rfl|rfl<;>rfl
 have a:(ze f rV).toList.length=1*10:=rfl;rw[B];have G:=(C9.refl DA w).alloc o;have B:(w.alloc o).heap.size=w.heap.size+1:=nl;rcases h.2 with⟨rfl,rfl⟩|⟨g,e,cap,K,rfl,A,B,X,Y,L⟩
 .have O:=Aj<|qp h.1;subst O;obtain⟨m,w',B,M,L,Z⟩:=zY (P:=prog) (w.alloc o) 35 48 i _ 10 104 underlying35 C R q E rfl lc rV 0 [] (World.ownsRow_nil _ 0 _ 10)
   ⟨w.heap.size,0,none⟩ 1 1 _ a y N pi I
  refine⟨m,w',B,gm M,(G.mono rQ).trans ((C9.refl _<|w.alloc o).grown L (λk hk=>by cases hk)),λg A=>?_⟩;rcases Z g (Pf M A)with x|x
  .cases x
  exact .inr I
 have m:=q;have B:=G.obj rP A;have L:=(h.mod G<|λ_ _ x=>x).cells (g:=g) (o:=e*10) (cap:=cap) rfl;have A:=h.1;by_cases h:n+1<=cap
 .have hb:∀j,j<10->e*10+n*10+j<K.size:=λj z=>by
   have:(e+(n+1))*10<=(e+cap)*10:=B7 _ I;omega
  have M:=λD=>run_append_room_cells (P:=prog) (w.alloc o) 35 D 48 i underlying35 C g (e*10) n cap ⟨w.heap.size,0,none⟩ 1 1 _ (by rw[m];exact a) y N h
   (λj z=>by
    rw[m,za B (CN<|hb j z)];rfl) (λj _=>zd B)
  rw[m]at M;obtain⟨q,N,O⟩:=Uf (ze f rV).toList (e*10+n*10) (w.alloc o) K B;refine⟨_,_,M,?_,(G.mono rQ).trans<|(Ue _ _ _).mono<|λq K=>.inl<|by rw[K];rfl,λq K=>.inl K⟩;refine EI.oT N (by rw[AF,A,a];omega) h X (by rw[O];exact Y)<|λj u z=>?_;by_cases h:j<xs.length
  .rw[Ag h]at z;rw[World.cell?_setCells_out g _ _ _ _ (λ_ _=>.inl<|by show e*10+j<_;omega)];exact L j u z
  rw[Ac I]at z;have h:=(AO.1 z).1;have:=World.cell?_setCells_in g (ze f rV).toList (e*10+n*10) (w.alloc o) (λj z=>by rw[za B (CN<|hb j z)];rfl) (j-xs.length) h;rw[(I:e*10+j=e*10+n*10+(j-xs.length)),this,<-z];rw[AG h]
 have M:=λD=>run_append_grow (P:=prog) (w.alloc o) 35 D 48 i _ underlying35 C R ⟨g,e*10,none⟩ n cap xs (by rw[m];exact A) (λj u z=>by rw[EU];exact L j u z)
  ⟨w.heap.size,0,none⟩ 1 1 _ (by rw[m];exact a) y I I (growslice_fits I<|by rw[E];omega)
 have e:=grownCap_ge (w.alloc o) (n+1) cap 48;have g:grownCap (w.alloc o) (n+1) cap 48<=maxLen:=grownCap_le_maxLen (w.alloc o) (n+1) cap _ pi;refine⟨_,_,M,⟨by rw[AF,A,a];omega,.inr ⟨(w.alloc o).heap.size,0,_,_,nl,heap_alloc_new (w.alloc o).drew _,e,g,?_,?_⟩⟩,((G.mono rQ).drew).alloc _,λq K=>.inr<|by simp[Value.kr]at K;omega⟩
 .simp only[Cm,BS,size_zeroCells,A,a];have:(Value.agg #[.int .i64 0,.int .i64 0,.int .u64 0,.int .u64 0,.int .u64 0,.bool false,.int .u64 0,.int .u64 0,.string ⟨#[]⟩,.slice none 0 0]).cells.size=10:=rfl;rw[this];omega
 simp only[Cg,BC,B6,CR];rw[<-List.append_assoc];have e:(xs++(ze f rV).toList).length=(n+1)*10:=by rw[AF,A,a];omega
 rw[<-e];exact BI
def j1(l:List DF)(f:DF):zs (l++[f])=zs l++(ze f rV).toList:=by
 simp[zs]
theorem JI(l:List DF):(zs l).length=l.length*10:=by
 induction l with
 | nil=>rfl
 | cons f l ih =>
  have:zs (f::l)=(ze f rV).toList++zs l:=by simp[zs]
  rw[this,AF,ih,Aa];have e:(ze f rV).toList.length=10:=rfl;omega
variable{V:CV}{W W1 W2:rT}{c:CS}{f:DF}{i:Nat}{tag:qr}{v':rU}
def zn.oG(h:zn tag i b c V W)(D:zL tag W)(hi:0<i)(A:C9 DA W W1)(B:EI W2 48 10 v' (c.waits.length+1) (zs c.waits++(ze f rV).toList))(m:C9 (λg=>Value.kr V.wt=some g) W1 W2)(C:Jb W1 V.wt v'):Dv tag i b W { c with waits:=c.waits++[f] } (W2.setCell (b,238) v'):=by
 have z:=(A.mono rQ).trans m;have hb:∀g,Value.kr V.wt=some g->g≠b:=λg a e=>zn.apart (h.nE g a) (e ▸ h.tb) lc rfl
 have n:∀{g r:Nat},tag g=(i,r)->g<W.heap.size:=λa=>Ds D a hi
 have E:=z.obj (λx=>hb b x rfl) h.obj;have D:=A.size;have A:=m.size;have y:∀g,Value.kr v'=some g->g≠b:=λg a e=>by
  rcases C g a with x|x
  .exact hb g x e
  have:=n h.tb;omega
 have u:∀g,Value.kr v'=some g->g<W2.heap.size:=λg a=>by
  rcases B.2 with⟨rfl,_⟩|⟨A,o,e,m,rfl,q,_⟩
  .simp[Value.kr]at a
  simp[Value.kr]at a;subst a;exact(AJ.1 q).1
 have m:C9 (λg=>g=b) W2 (W2.setCell (U b 238) v'):=(C9.refl (λg=>g=b) _).setCell (p:=U b 238) rO _;have e:C9 (λg=>Value.kr V.wt=some g\/g=b) W (W2.setCell (U b 238) v'):=(z.mono<|λg a=>.inl<|.inl a).trans<|m.mono<|λg a=>.inl<|.inr a;refine⟨zT tag W W2 (i,6),{ V with wt:=v' },?_,?_,e.mono<|λg a=>.inl ?_⟩
 .refine h.build (R:=λr=>r=1\/r=6) e (λg a=>?_) (λg a=>zx<|n (r:=(tag g).2)<|by rw[<-a]) ?_ rL (λq e=>.inl rK) (λq e=>.inl rK) (λq e=>.inl rK) (λq e=>.inl rK) (λq e=>.inl rK) rL (.inr ⟨?_,λg a=>?_⟩) rJ rJ
  .rcases a with a|a
   .exact⟨6,.inr rfl,h.nE g a⟩
   exact⟨1,.inl rfl,by rw[a,h.tb]⟩
  .rw[zc E,Ab];rw[show(238:Nat)=233+5 from rfl,Fv c { c with waits:=c.waits++[f] } V { V with wt:=v' } _ rfl rfl rfl rfl]
  .rw[AF,Ak,j1];exact B.mod m<|λg a x=>y g a x
  rcases C g a with y|y
  .rw[zx (n<|h.nE g y),h.nE g y]
  exact FH I<|u g a
 .have:=Gf (i:=i) (r:=6) (tag:=tag) z.size;exact⟨this.lH,this.new,λg a=>this.z g<|qp a⟩
 rcases a with a|a
 .rw[h.nE g a]
 rw[a,h.tb]
def Dv.after(a:zL tag W)(m:C9 (λg=>(tag g).1=i) W W1)(h:Dv tag i b W1 c W2):Dv tag i b W c W2:=by
 obtain⟨tag',V',e,g,n⟩:=h;exact⟨tag',V',e,(DK.same a m).trans g m.size,m.trans n⟩
def jc(h:zn tag i b c V W)(id:Nat):zn tag i b { c with lW:=true,lN:=id } V ((W.setCell (b,240) (.bool true)).setCell (b,239) (.int .u64 id)):=by
 have a:zn tag i b { c with lW:=true } V (W.setCell (U b 240)<|.bool true):=h.store (233+7) _ (Fv c { c with lW:=true } V V _ rfl rfl rfl rfl) ⟨rfl,λ_ _=>⟨rfl,rfl,rfl⟩,λ_ _=>⟨rfl,rfl⟩,rfl,rfl,rfl,rfl⟩;exact a.store (233+6) _ (Fv { c with lW:=true } { c with lW:=true,lN:=id } V V _ rfl rfl rfl rfl) ⟨rfl,λ_ _=>⟨rfl,rfl,rfl⟩,λ_ _=>⟨rfl,rfl⟩,rfl,rfl,rfl,rfl⟩
def jk(h:zn tag i b c V W)(ht:zL tag W)(hi:0<i)(id q:Nat)(a:Addr)(cap:Nat)(s:qq)(A:BR W (.slice (some a) s.length cap) s)(R:tag a.block=(0,0))(hm:c.kj<=65536)(aN:s.length<=1099511627776)(aF:c.waits.length<=1099511627776):rH 96 #[(b,0),id,q,.slice (some a) s.length cap] W (EN tag i b W (Dw (c.kK id q s).1) (c.kK id q s).2):=by
 have H0:=zb<|h.left ht rS;have HH:=zb h;have HT:=zb ht;have c2:=h.hd (j:=4) rfl;have c0:=h.hd (j:=0) rfl;have c3:=h.hd (j:=3) rfl;have aa:W (b,238)=some V.wt:=h.tl (j:=5) rfl;have al:W (b,239)=some (.int .u64 c.lN):=h.tl (j:=6) rfl;have am:W (b,240)=some (.bool c.lW):=h.tl (j:=7) rfl;have fz:=λp=>h.fz p
 have av:∀p v p',(W.setCell ⟨b,p,none⟩ v).frozen? ⟨b,p',none⟩=false:=λp v p'=>zd<|zc h.obj
 obtain⟨ab,ac,m⟩:=Tn h.wt;rw[m]at aa;obtain⟨NW,u⟩:=nm c.waits.length;obtain⟨mt,B⟩:=nm c.kj;obtain⟨nw,y⟩:=nm c.now;obtain⟨li,C⟩:=nm c.lN;obtain⟨an,z⟩:=nm c.lW;rw[u]at aa;rw[B]at c0 hm;rw[y]at c3;rw[C]at al;rw[z]at am;have aG:=zb m;have aH:=zb A;have aI:AA (DN (λg=>g=b)<|.slice (some a) s.length cap):=zb (GB λg X x=>by
  have x:=x;simp[Value.kr]at X;rw[X,x,h.tb]at R;simp at R)
 have aw:AA (DN (λg=>Value.kr V.wt=some g)<|.slice (some a) s.length cap):=zb (GB λg X x=>by
  have L:=h.nE g x;simp[Value.kr]at X;rw[X,L]at R;simp at R)
 clear R;have R:IntKind.i64.wrap ((mt:Int)-40)=(mt:Int)-40:=IntWalk.i64_in _ I;by_cases e:c.closed=0;rotate_left
 .have D:AA (c.kK id q s=(12,c)):=by
   show _=_;unfold CS.kK;rw[AL e]
  rw[D.z];have R:((c.closed:Int)==0)=false:=AM.2 I;clear h ht A m e u B y C z;go_enter func96,ntmps96;go_wp2;go_ret;exact⟨rfl,H0.z⟩
 rw[e]at c2;by_cases L:zG<id
 .have D:AA (c.kK id q s=(5,c)):=by
   show _=_;unfold CS.kK;rw[AH (qp e),AL (.inl L)]
  rw[D.z];have R:(4611686018427387903:Int)<id:=by unfold zG at L;omega
  clear h ht A m e u B y C z L;go_enter func96,ntmps96;go_wp2;go_ret;exact⟨rfl,H0.z⟩
 have R:¬(4611686018427387903:Int)<id:=by unfold zG at L;omega
 by_cases h2:zG<q
 .have D:AA (c.kK id q s=(5,c)):=by
   show _=_;unfold CS.kK;rw[AH (qp e),AL (.inr<|.inl h2)]
  rw[D.z];have R:(4611686018427387903:Int)<q:=by unfold zG at h2;omega
  clear h ht A m e u B y C z L h2;go_enter func96,ntmps96;go_wp2;go_ret;exact⟨rfl,H0.z⟩
 have R:¬(4611686018427387903:Int)<q:=by unfold zG at h2;omega
 by_cases h3:c.lW=true/\id<=c.lN
 .have D:AA (c.kK id q s=(5,c)):=by
   show _=_;unfold CS.kK;rw[AH (qp e),AL (.inr<|.inr h3)]
  rw[D.z];have d3:(id:Int)<=li:=I;have e4:an=true:=by rw[<-z];exact h3.1
  subst e4;clear h ht A m e u B y C z L h2 h3;go_enter func96,ntmps96;go_wp2;go_ret;exact⟨rfl,H0.z⟩
 have d3:an=false\/(an=true/\¬(id:Int)<=li):=by
  cases an
  .exact .inl rfl
  refine .inr ⟨rfl,λx=>h3 ⟨z,I⟩⟩
 have O:¬(zG<id\/zG<q\/(c.lW=true/\id<=c.lN)):=by
  rintro(x|x|x)
  .exact L x
  .exact h2 x
  exact h3 x
 by_cases h4:c.kj<s.length+40
 .have D:AA (c.kK id q s=(6,c)):=by
   show _=_;unfold CS.kK;rw[AH (qp e),AH O,AL h4]
  rw[D.z];have d4:(mt:Int)-40<s.length:=I;clear h ht A m e u B y C z L h2 h3 O h4;rcases d3 with rfl|⟨rfl,d3⟩;all_goals
   go_enter func96,ntmps96;go_wp2;go_ret;exact⟨rfl,H0.z⟩
 have d4:¬(mt:Int)-40<s.length:=I;by_cases h5:c.waits.length=16
 .have D:AA (c.kK id q s=(3,c)):=by
   show _=_;unfold CS.kK;rw[AH (qp e),AH O,AH h4,AL h5]
  rw[D.z];have e5:NW=16:=I;subst e5;clear h ht A m e u B y C z L h2 h3 O h4 h5;rcases d3 with rfl|⟨rfl,d3⟩;all_goals
   go_enter func96,ntmps96;go_wp2;go_ret;exact⟨rfl,H0.z⟩
 have R:((NW:Int)==16)=false:=AM.2 I;have D:AA (c.kK id q s=(0,{ c with lW:=true,lN:=id,waits:=if c.now<=q then c.waits++[Gg id q s]else c.waits })):=by
  show _=_;unfold CS.kK;rw[AH (qp e),AH O,AH h4,AH h5]
 rw[D.z];obtain⟨ad,R⟩:=nm<|(if c.now<=q then c.waits++[Gg id q s]else c.waits);rw[R];have M:=zb R;clear R D;have R:=jc h id;obtain⟨W2,ae⟩:=nm<|(W.setCell (U b 240)<|.bool true).setCell (U b 239)<|.int .u64 id;rw[ae]at R;have m2:C9 (λg=>g=b) W W2:=by
  rw[<-ae];exact((C9.refl (λg=>g=b) W).setCell (p:=U b 240) rO _).setCell (p:=U b 239) rO _
 have D:=zb R;have M2:=zb m2;have ax:=zb ae;have aO:=zb e;have af:=zb u;have N:=zb y;have ay:W2 (b,3)=some (.int .u64 nw):=by rw[<-y];exact R.hd (j:=3) rfl
 have ah:W2 (b,238)=some (.slice ab NW ac):=by rw[<-u,<-m];exact R.tl (j:=5) rfl
 have aA:=λp=>R.fz p
 have Y:=zb<|And.intro ay<|And.intro ah aA;clear h ht A m e u B y C z L h2 h3 O h4 h5 R m2 ae ay ah aA;have e:∀{w:rT},C9 (λg=>g=b) W w->BR w (.slice (some a) s.length cap) s:=λm=>BR.mod aH.z m<|aI.z
 have Z:=zb<|e M2.z;clear e;obtain⟨m,W3,DG,ao,m3,aB⟩:=WW W2.drew V.wt NW (zs c.waits) (Gg id q s) (by rw[<-af.z];exact(D.z.kI (C9.refl DA W2).drew).wt) (by rw[<-af.z];exact aF);have ap:∀g,Value.kr V.wt=some g->g≠b:=λg X e=>zn.apart (D.z.nE g X) (e ▸ D.z.tb) lc rfl
 have aC:AA (Dv tag i b W { c with lW:=true,lN:=id,waits:=c.waits++[Gg id q s] }<|W3.setCell (U b 238) m):=by
  have L:=D.z.oG (HT.z.mod M2.z) hi ((C9.refl DA W2).drew) (by rw[af.z];exact ao) m3 aB;exact L.after HT.z<|M2.z.mono<|λg X=>.inl<|by rw[X,D.z.tb]
 have aD:=zb (D.z.left HT.z (M2.z.mono (λg X=>.inl (by rw[X,D.z.tb]))));have ai:=m3.cell (a:=U b 238) (λx=>ap b x rfl) Y.z.2.1;have f3:∀p,W3.frozen? ⟨b,p,none⟩=false:=λp=>zd<|m3.obj (λx=>ap b x rfl) ((D.z.kI (C9.refl DA W2).drew)).obj
 have aj:=zb<|BR.mod Z.z (((C9.refl DA W2).drew.mono rQ).trans m3)<|aw.z;have ag:=zb<|And.intro ai f3;rw[aG.z,af.z]at DG;obtain⟨aJ,aK,aE⟩:∃u wc,m=.slice u (NW+1) wc:=by
  rcases ao.2 with⟨_,e⟩|⟨g,o,m,g,e,_⟩
  .omega
  exact⟨_,_,e⟩
 subst aE;have ak:AA (∀e,(Builtin.append_ #[35,35] e #[.slice ab NW ac,.slice W2.drew 1 1]).run prog (W2.drew.alloc<|.cells #[.int .i64 7,.int .i64 0,.int .u64 0,.int .u64 0,.int .u64 0,false,id,q,.string<|zy s,.slice none 0 0] 48)=.ok (.slice aJ (NW+1) aK) W3):=DG;clear DG ao m3 aB ap ai f3;rcases d3 with rfl|⟨rfl,d3⟩
 .go_enter func96,ntmps96;go_upto_region 10 with fail;all_goals first|(exfalso;omega)|skip
  try rw[ax.z]
  obtain⟨w3,aq,wf⟩:=Y.z;clear c0 c2 c3 aa al am fz av;by_cases h6:nw<=q
  .have d6:(nw:Int)<=q:=I;have G:ad=c.waits++[Gg id q s]:=by
    rw[<-M.z,AL (by rw[N.z];exact h6)]
   subst G;clear h6;go_upto_region 11 with fail;refine zr 14 (λw'=>w' (U b 238)=some (.slice ab NW ac)/\BR w' (.slice (some a) s.length cap) s) (⟨aq,Z.z⟩) ?_;refine GI 0 ?_;iterate 8
    refine GV rfl ?_;try simp only[PS]
   refine Gl (i:=8) (v:=.string<|zy s) rfl kw (λ_ _ _ h=>h) (Or.inl ⟨by rfl,?_⟩) ?_
   ·(intro wx n;(try dsimp only at n);have aL:=FZ n.2;go_simp;try with_reducible rfl)
   try simp only[PS]
   refine Gl (i:=9) (v:=.agg #[.int .i64 7,.int .i64 0,.int .u64 0,.int .u64 0,.int .u64 0,.bool false,.int .u64 id,.int .u64 q,.string<|zy s,.slice none 0 0]) rfl kw (λ_ _ _ h=>h) (Or.inl ⟨by rfl,?_⟩) ?_
   ·(intro wx n;(try dsimp only at n);go_simp;try with_reducible rfl)
   try simp only[PS]
   refine zD 10 rfl (λK E=>?_);go_simp;refine E.z _ _ ⟨((C9.refl DA W2.drew).alloc _).cell (a:=U b 238) rP Y.z.2.1,BR.mod Z.z (((C9.refl DA W2).drew).alloc _)<|λ_ _ _ _ _ x=>x⟩ ?_;clear E K;try simp only[PS]
   refine zD 11 rfl (λK E=>?_);refine zO rfl _ _ _ _ rfl _ _ _ rfl rfl ak.z ?_;refine E.z _ _ ⟨ag.z.1,aj.z⟩ ?_;clear E K;try simp only[PS]
   refine GI 12 ?_;iterate 2
    refine GV rfl ?_;try simp only[PS]
   refine Dt rfl (λK E=>?_);obtain⟨aM,f3⟩:=ag.z;go_simp;refine E.z _ _ ?_;clear E K;try simp only[PS]
   refine zt ?_;go_wp2;go_ret;exact⟨rfl,aC.z⟩
  have d6:¬(nw:Int)<=q:=I;have G:ad=c.waits:=by
   rw[<-M.z,AH (by rw[N.z];exact h6)]
  subst G;clear h6;go_wp2_with fail;all_goals first|(exfalso;omega)|skip
  go_ret;exact⟨rfl,aD.z⟩
 go_enter func96,ntmps96;go_upto_region 10 with fail;all_goals first|(exfalso;omega)|skip
 try rw[ax.z]
 obtain⟨w3,aq,wf⟩:=Y.z;clear c0 c2 c3 aa al am fz av;by_cases h6:nw<=q
 .have d6:(nw:Int)<=q:=I;have G:ad=c.waits++[Gg id q s]:=by
   rw[<-M.z,AL (by rw[N.z];exact h6)]
  subst G;clear h6;go_upto_region 11 with fail;refine zr 14 (λw'=>w' (U b 238)=some (.slice ab NW ac)/\BR w' (.slice (some a) s.length cap) s) (⟨aq,Z.z⟩) ?_;refine GI 0 ?_;iterate 8
   refine GV rfl ?_;try simp only[PS]
  refine Gl (i:=8) (v:=.string<|zy s) rfl kw (λ_ _ _ h=>h) (Or.inl ⟨by rfl,?_⟩) ?_
  ·(intro wx n;(try dsimp only at n);have aL:=FZ n.2;go_simp;try with_reducible rfl)
  try simp only[PS]
  refine Gl (i:=9) (v:=.agg #[.int .i64 7,.int .i64 0,.int .u64 0,.int .u64 0,.int .u64 0,.bool false,.int .u64 id,.int .u64 q,.string<|zy s,.slice none 0 0]) rfl kw (λ_ _ _ h=>h) (Or.inl ⟨by rfl,?_⟩) ?_
  ·(intro wx n;(try dsimp only at n);go_simp;try with_reducible rfl)
  try simp only[PS]
  refine zD 10 rfl (λK E=>?_);go_simp;refine E.z _ _ ⟨((C9.refl DA W2.drew).alloc _).cell (a:=U b 238) rP Y.z.2.1,BR.mod Z.z (((C9.refl DA W2).drew).alloc _)<|λ_ _ _ _ _ x=>x⟩ ?_;clear E K;try simp only[PS]
  refine zD 11 rfl (λK E=>?_);refine zO rfl _ _ _ _ rfl _ _ _ rfl rfl ak.z ?_;refine E.z _ _ ⟨ag.z.1,aj.z⟩ ?_;clear E K;try simp only[PS]
  refine GI 12 ?_;iterate 2
   refine GV rfl ?_;try simp only[PS]
  refine Dt rfl (λK E=>?_);obtain⟨aM,f3⟩:=ag.z;go_simp;refine E.z _ _ ?_;clear E K;try simp only[PS]
  refine zt ?_;go_wp2;go_ret;exact⟨rfl,aC.z⟩
 have d6:¬(nw:Int)<=q:=I;have G:ad=c.waits:=by
  rw[<-M.z,AH (by rw[N.z];exact h6)]
 subst G;clear h6;go_wp2_with fail;all_goals first|(exfalso;omega)|skip
 go_ret;exact⟨rfl,aD.z⟩
def jj(h:zn tag i b c V W)(E:Dn i tag W)(id q:Nat)(s:qq)(hm:c.kj<=65536)(D:s.length<=1099511627776)(G:c.waits.length<=1099511627776):rH 58 #[(b,0),id,q,.string (zy s)] W (EN tag i b W (.int .i64 ((c.kK id q s).1:Int)) (c.kK id q s).2):=by
 obtain⟨a,W1,K,n,A,u,y⟩:=QV W s I;have Y:=jk (h.kI A) (E.ok.mod A) E.pos id q ⟨W.heap.size,0,none⟩ a s n (E.ok _<|AI _) hm D G;have L:s.length<=a/\a<=maxLen:=by
  obtain⟨_,_,e,M,B,_⟩:=n;cases e;exact⟨M,B⟩
 obtain⟨e,a⟩:=L;unfold maxLen at a;have z:=zb E;have Z:=zb A;have HB:=zb y;have HS:=zb u;clear h E n A y u;go_enter func58,ntmps58;go_wp2_with fail;refine Y.mono ?_;rintro _ W2 ⟨rfl,N⟩;clear Y;obtain⟨tag',V',M,B,e⟩:=_root_.id N;have h:=(z.z.kI Z.z).left B e;have a:=HB.z.mod e (λx=>by
  have:=z.z.ok W.heap.size<|AI _;rw[this]at x;have:=z.z.pos;simp at x;omega)
 have kn:=Ie (c.kK id q s).1 W2 h.err;have HL:=zb N;have O:=zb a;clear N M B e h a K;go_wp2_with fail;refine kn.mono ?_;rintro _ W3 ⟨rfl,R⟩;have a:=zb<|O.z.mod R rP;have X:=zb<|HL.z.lR R;clear R kn;go_wp2_with fail
 go_loopw [22] (λe wr=>∃j:Nat,j<=s.length/\e=.int .i64 j/\G0 wr W.heap.size s.length/\C9 (λg=>g=W.heap.size) W3 wr) (λe _=>s.length-(intOf e).toNat)
 case atStart=>exact⟨0,AK _,rfl,a.z,C9.refl _ _⟩
 case round =>
  obtain⟨j,a,rfl,C,m⟩:=hrel;by_cases a:j<s.length
  .obtain⟨⟨e,h⟩,n⟩:=C.cell a;have a:=zb<|C.set j<|.int .u8 33;have e:=zb<|m.setCell (p:=(W.heap.size,j)) rO<|.int .u8 33;clear C m;go_wp2;go_roundw
   case rel=>exact⟨j+1,I,by go_num,a.z,e.z⟩
   simp[intOf];omega
  have H:=zb (X.z.thenS z.z.ok z.z.pos Z.z m (λg a=>by
   have a:=a;have:=HS.z;omega))
  clear C m;go_wp2;go_ret;exact⟨rfl,H.z⟩
def SS.lX(num:Nat):List DF->SS->Prop
 | [],_=>True
 | f::fs,s=>s.mb f/\(s.take f).2.due.length<=1099511627776/\((s.take f).1=0->SS.lX num fs ((s.take f).2.mR num f))
structure SS.mJ(s:SS)(bs:qq):Prop where
 kN:s.kN.Ok/\s.kN.rs.length<274877906944
 lx:s.lx.Ok/\s.lx.rs.length<274877906944
 kV:∀n fs,dec bs=.ok n fs->G9 s.kN.rs s.kN.fl n=false->n<=4611686018427387903/\fs.length<=1099511627776/\SS.lX n fs (s.ly n)
variable{fs:List DF}{s:SS}
def UC(h:(s.take f).1=0):SS.kV n (f::fs) s=SS.kV n fs ((s.take f).2.mR n f):=by
 rw[SS.kV,AH (by rw[h];simp)]
def UB(h:(s.take f).1≠0):SS.kV n (f::fs) s=((s.take f).1,{ (s.take f).2 with closed:=(s.take f).1,said:=(s.take f).1==13 }):=by
 rw[SS.kV,AL h]
section
variable {tag:qr} {i b:Nat} {s s':SS} {V V':SV} {W W1:rT}
def Db.op(h:Db tag i b W s' W1):∃tag' V',zj tag' i b s' V' W1/\DK i tag tag' W W1/\C9 (λg=>(tag g).1=i) W W1:=by
 obtain⟨t,_,⟨V,rfl⟩,a,e,m⟩:=h;exact⟨t,V,a,e,m⟩
variable{j:Nat}
def Db.mu(h:Db tag i b W s W1)(s':SS)(g:∀V,zz s' V=(zz s V).set j v)(m:(s'.kN,s'.lx,s'.due,s'.kS,s'.given,s'.waits,s'.seen,s'.kG,s'.high,s'.outs,s'.ins)=(s.kN,s.lx,s.due,s.kS,s.given,s.waits,s.seen,s.kG,s.high,s.outs,s.ins)):Db tag i b W s' (W1.setCell (b,j) v):=by
 obtain⟨t,V,a,e,n⟩:=h.op;have q:=a.mu s' (g V) m;have m:C9 (λg=>(t g).1=i) W1 _:=a.mh j v;exact Dx.trans e n<|q.mD e.z m
def zj.qa(h:zj tag i b s V W)(q:zL tag W)(hi:0<i)(x:Nat)(y:s.due.length<=1099511627776):∃e W1,(∀a,(Builtin.append_ #[86,86] a #[V.due,.slice W 1 1]).run prog (W.alloc (.cells #[x] 34))=.ok e W1) /\
   Db tag i b W { s with due:=s.due++[x] } (W1.setCell (b,9) e)/\W1.frozen? ⟨b,9,none⟩=false/\(∃x,W1.cell? (b,9)=some x)/\(∃a c,e=.slice a (s.due.length+1) c)/\C9 (λg=>V.due.ownBlock=some g) W W1:=by
 refine h.oZ q hi (r:=6) (z:=.int .u64 0) (size:=1) (bytes:=8) lc lc underlying86 kw rfl lc lc rfl [.int .u64 x] rfl (λu m=>?_) y { s with due:=s.due++[x] } (λe=>{ V with due:=e }) (λe=>?_) (λ_=>rfl) (λ_ q _ n=>?_) (λ_ _ _ _ _=>rfl) lc
 .simp at m;subst m;rfl
 .show Pc.row _ _ _ _ _=_;rw[Ol,AF];rfl
 unfold DV;split<;>first|rfl|exact absurd rO n|exact absurd (.inr rfl) n
def Np(tag:qr)(i b:Nat)(W:rT)(r:(Nat×Int)×SS)(e:Ending)(W':rT):Prop:=Ez tag i b W (.tuple #[[r.1.1],[r.1.2]]) r.2 e W'
theorem QB(h:zj tag i b s V W)(B:zL tag W)(hi:0<i)(v:rU)(g:qq)(hb:BR W v g)(O:g.length<=549755813888)(hd:s.closed≠0\/∀n q,dec g≠.ok n q):rH 49 #[zq b,v] W (Np tag i b W (s.kL g)):=by
 have y:=Mt v g W hb O;have L:=h.hd (j:=4) rfl;have M:=h.fz 4;obtain⟨r,z⟩:=nm<|s.kL g;rw[z];obtain⟨O,X,rfl,_⟩:=hb;unfold zq;by_cases C:s.closed=0
 .have hd:=hd.resolve_left<|λx=>x C;rw[C]at L;cases hR:dec g with
  | ok n q=>exact absurd hR<|hd n q
  | sum =>
   have e:r=((7,-1),s):=by rw[<-z];unfold SS.kL;rw[AH (by simp[C]),hR]
   rw[hR]at y;have G:=zb y;have N:=zb<|λw' (m:C9 DA W w')=>h.left B m;subst e;clear y h B z hd M;go_enter func49,ntmps49;go_wp2_with fail;refine(G.z).mono ?_;rintro e W2 ⟨D,rfl⟩;have g:=D.cell (a:=U b 4) id L;obtain⟨K,u⟩:=nm<|W2.alloc<|.cells #[.int .u64 0,.slice none 0 0] 37;have E:C9 DA W K:=by rw[<-u];exact D.alloc _
   have a:=zb<|N.z K E;have A:=zb u;clear u E D G N;go_wp2_with fail;rw[A.z];go_ret2;exact⟨rfl,a.z⟩
  | bad p =>
   have e:r=((8,(p:Int)),{ s with closed:=8 }):=by rw[<-z];unfold SS.kL;rw[AH (by simp[C]),hR]
   rw[hR]at y;have G:=zb y;have H:=zb h;have R:=zb B;subst e;clear y h B z hd;go_enter func49,ntmps49;go_wp2_with fail;refine(G.z).mono ?_;rintro e W2 ⟨D,rfl⟩;obtain⟨K,u⟩:=nm<|W2.alloc<|.cells #[.int .u64 0,.slice none 0 0] 37;have E:C9 DA W K:=by rw[<-u];exact D.alloc _
   have a:=H.z.kD E;have L:=a.hd (j:=4) rfl;have M:=a.fz 4;have q:=a.mu { s with closed:=8 } (j:=4) (v:=.int .i64 8) rfl rfl;have m:C9 (λg=>(tag g).1=i) K _:=a.mh 4<|.int .i64 8;have g:=zb<|q.mD R.z<|(E.mono rQ).trans m;have A:=zb u;clear u E D G H a q m;go_upto_region 4 with fail;rw[A.z];go_wp2;go_ret2;exact⟨rfl,g.z⟩
 have e:r=((12,-1),s):=by rw[<-z];unfold SS.kL;rw[AL C]
 subst e;have hb:((s.closed:Int)==0)=false:=AM.2 I;have a:=zb<|h.left B rS;clear h B z y hd C M;go_enter func49,ntmps49;go_wp2;go_ret2;exact⟨rfl,a.z⟩
end
section
variable {tag:qr} {i b:Nat} {s s':SS} {V V':SV} {W W1:rT}
theorem Yc(h:zj tag i b s V W)(ht:zL tag W)(hi:0<i)(v:rU)(bs:qq)(hb:BR W v bs)(hl:bs.length<=549755813888)(h0:s.closed=0)(hd:dec bs=.ok n fs)(ok:s.mJ bs):rH 49 #[zq b,v] W (Np tag i b W (s.kL bs)):=by
 have kd:=Mt v bs W hb hl;rw[hd]at kd;have c4:=h.hd (j:=4) rfl;rw[h0]at c4;obtain⟨aq,ah⟩:=nm<|G9 s.kN.rs s.kN.fl n;obtain⟨R,hR⟩:=nm<|s.kL bs;have HR:AA ((if aq=true then((0,-1),s)else(((SS.kV n fs<|s.ly n).1,-1),(SS.kV n fs<|s.ly n).2))=R):=zb (by
  rw[<-hR,<-ah];unfold SS.kL;simp only[h0,hd,ne_eq,Av,BE])
 have o3:=ok.kV n fs hd;rw[ah]at o3;have KD:=zb kd;have HH:=zb h;have HT:=zb ht;have O1:=zb ok.kN;have O2:=zb ok.lx;have O3:=zb o3;have aM:=zb ah;have HI:=zb hi;obtain⟨va,vc,rfl,_⟩:=hb;rw[hR];unfold zq;clear h ht hi hd ok h0 kd ah hR o3 hl;go_enter func49,ntmps49;go_wp2_with fail;refine(KD.z).mono ?_;rintro e W2 ⟨m2,h,aa,rfl,ab,ac,ar,aN⟩;obtain⟨fa,fc,rfl,q3,q4,_⟩:=zi ab.1;have au:aa.length=fs.length:=by rw[<-ac,Az]
 obtain⟨N,hN⟩:=nm fs.length;rw[au,hN]at ab ar q3 ⊢;unfold maxLen at q4;obtain⟨W3,h⟩:=nm<|W2.alloc<|.cells #[n,.slice fa N fc] 37;have m3:C9 DA W W3:=by rw[<-h];exact m2.alloc _
 have av:=AB h;have oP:=AD h;obtain⟨B,ai⟩:=nm W2.heap.size;rw[ai]at oP;have p0:=za (o:=0) oP rfl;have p1:W3 (B,1)=some (.slice fa N fc):=za (o:=1) oP rfl;have h3:=HH.z.kD m3;have c7:W3 (b,7)=some (.pointer V.gb):=h3.hd (j:=7) rfl;have aO:=h3.kD (C9.refl DA W3).drew;have kh:=XG s.kN.rs s.kN.fl s.kN.most V.gb n V.gv W3.drew (aO.pf (r:=2) (q:=s.kN) lc rfl rfl (Nat.le_of_lt O1.z.2)).1;rw[show(decide (n<s.kN.fl)||s.kN.rs.any (Ip n))=aq from aM.z]at kh;have an:W.heap.size<=B:=by rw[<-ai];exact m2.size
 have M:=(EV.qO ab).kI av;have KH:=zb kh;have H3:=zb h3;have M3:=zb m3;have bl:=zb av;have aP:=zb M;have aQ:=zb ar;have aR:=zb aN;have bm:=zb<|λx hx g hg=>zI (ab.2 x hx).1 g hg;have bn:=zb ac;have bo:=zb au;have HN:=zb hN;have bp:=zb h;have bq:=zb ai;have bt:=zb an;clear m2 m3 av oP h3 aO kh an M ab ar aN ac au hN h ai;go_upto_region 9 with fail;rw[bp.z,bq.z];refine zr 8 (λw'=>w' (U b 7)=some (.pointer V.gb)/\w' B=some (.int .u64 n)) (⟨c7,p0⟩) ?_;refine GI 0 ?_;iterate 6
  refine GV rfl ?_;try simp only[PS]
 refine zD 6 rfl (λK C=>?_);go_simp;go_simp
 with_reducible refine(KH.z).mono ?_
 rintro e E ⟨rfl,m4⟩;have M4:=zb m4;have h:E (b,7)=some (.pointer V.gb)/\E B=some (.int .u64 n):=⟨m4.cell (a:=U b 7) id c7,m4.cell (a:=B) id p0⟩;clear m4;go_simp;refine C.z _ _ h ?_;clear h;clear C K;try simp only[PS]
 refine GI 7 ?_;refine GV rfl ?_;try simp only[PS]
 refine zt ?_;cases aq with
 | true =>
  go_wp2;go_ret2;rw[<-HR.z];simp only[Aq];exact⟨rfl,(H3.z.kD<|(C9.refl DA W3).drew.trans M4.z).mD HT.z<|(M3.z.trans<|(C9.refl DA W3).drew.trans M4.z).mono rQ⟩
 | false =>
 have h:=(C9.refl DA W3).drew.trans M4.z;have h4:=H3.z.kD h;have aw:=HT.z.mod<|M3.z.trans h;obtain⟨aS,aT,o3⟩:=O3.z rfl;have ax:=h4.kD (C9.refl DA E).drew;have ka:=Sl s.kN V.gb n n V.gv E.drew (ax.pf (r:=2) (q:=s.kN) lc rfl rfl (Nat.le_of_lt O1.z.2)).1 O1.z.1 I I O1.z.2;have ad:=ka.mono (λe w' x=>(show e=.returned (.tuple #[])/\Db tag i b E.drew { s with kN:=s.kN.add n n } w' from
  ⟨x.1,ax.added (aw.mod (C9.refl DA E).drew) HI.z (r:=2) (q:=s.kN) lc rfl rfl x _ (λv'=>{ V with gv:=v' }) (λ_=>rfl) (λ_=>rfl) (λ_ q _ hq=>by unfold DV;split<;>first|rfl|exact absurd rO hq|exact absurd (.inr rfl) hq) (λ_ _ _ _ _=>rfl)⟩))
 have KA:=zb ad;have O3:=zb o3;have d7:=h.cell (a:=U b 7) id c7;have d0:=h.cell (a:=B) id p0;have d1:=h.cell (a:=U B 1) id p1;have ae:=zb h;have bu:=zb aw;have aU:=zb<|HT.z B bt.z;have bG:=zb aT;have aV:=zb aS;clear ka ad h4 ax aw h p0 p1 c7 c4 o3 aT aS KH;go_upto_region 12 with fail;refine zr 8 (λw'=>w' (U b 7)=some (.pointer V.gb)/\w' B=some (.int .u64 n)) (⟨d7,d0⟩) ?_;refine GI 0 ?_;iterate 8
  refine GV rfl ?_;try simp only[PS]
 refine Dt rfl (λK C=>?_);go_simp
 with_reducible refine(KA.z).mono ?_
 rintro e W5 l5;obtain⟨rfl,_⟩:=id l5;have h:=zb l5;clear l5;go_simp;refine C.z _ _ ?_;clear C K;try simp only[PS]
 refine zt ?_;obtain⟨_,l5⟩:=id h.z;obtain⟨h,V5,h5,e5,m5⟩:=Db.op<|Dx.lJ bu.z HI.z (C9.refl DA E).drew l5;have np:∀j,¬(tag (⟨B,j,none⟩:Addr).block).1=i:=λj x=>by
  have x:(tag B).1=i:=x;rw[aU.z]at x;have:=HI.z;simp at x;omega
 have aW:=d0;have aX:=d1;have d0:=m5.cell (np 0) d0;have d1:=m5.cell (np 1) d1;have d8:W5 (b,8)=some (.pointer V5.eb):=h5.hd (j:=8) rfl;have h:=h5.kD (C9.refl DA W5).drew;have ka:=Sl s.lx V5.eb n n V5.ev W5.drew (h.pf (r:=4) (q:=s.lx) lc rfl rfl (Nat.le_of_lt O2.z.2)).1 O2.z.1 (qm aV.z) (qm aV.z) O2.z.2;have ad:=ka.mono (λe w' x=>(show e=.returned (.tuple #[])/\Db tag i b E (s.ly n) w' from
  ⟨x.1,Dx.trans (DK.mk e5.lH e5.new<|e5.z.mod (C9.refl DA W5).drew) (m5.drew)<|h.added (e5.z.mod (C9.refl DA W5).drew) HI.z (r:=4) (q:=s.lx) lc rfl rfl x (s.ly n) (λv'=>{ V5 with ev:=v' }) (λ_=>rfl) (λ_=>rfl) (λ_ q _ hq=>by unfold DV;split<;>first|rfl|exact absurd rO hq|exact absurd (.inr rfl) hq) (λ_ _ _ _ _=>rfl)⟩))
 have KB:=zb ad;have M5:=zb m5;have NP:=zb np;have aY:=zb aW;have aZ:=zb aX;clear ka ad h5 h e5 m5 l5 d7 np aW aX;go_upto_region 13 with fail;refine zr 8 (λw'=>w' (U b 8)=some (.pointer V5.eb)/\w' B=some (.int .u64 n)) (⟨d8,d0⟩) ?_;refine GI 0 ?_;iterate 8
  refine GV rfl ?_;try simp only[PS]
 refine Dt rfl (λK C=>?_);go_simp
 with_reducible refine(KB.z).mono ?_
 rintro e W6 l6;obtain⟨rfl,_⟩:=id l6;have L6:=zb l6;clear l6;go_simp;refine C.z _ _ ?_;clear C K;try simp only[PS]
 refine zt ?_;obtain⟨_,l6⟩:=id L6.z;have ay:=zb l6;clear l6;obtain⟨s0,h⟩:=nm<|s.ly n;have a0:=zb (by
  have:=HR.z;rw[AH nl,h]at this;exact this.symm)
 have O4:=zb O3.z;rw[h]at ay O4;clear HR O3 h KB KA M5 O1 O2 aM HH H3;have bw:=zb<|AR M3.z.size ae.z.size;have a1:=zb<|AR bl.z.size ae.z.size;have a3:=zb<|aP.z.kI ae.z;have D0:AA (∀w',C9 (λg=>(tag g).1=i) E w'->w'.cell? B=some (.int .u64 n)/\w'.cell? (U B 1)=some (.slice fa N fc)):=zb<|λw' m=>⟨m.cell (NP.z 0) aY.z,m.cell (NP.z 1) aZ.z⟩;have a4:AA (∀w',C9 (λg=>(tag g).1=i) E w'->FE w' (.slice fa N fc) aa):=zb (λw' m=>a3.z.mod m (λg o n' c' e x=>by
   cases e;have x:=x;rw[HT.z g (aQ.z g rfl)]at x;have:=HI.z;simp at x;omega) (λfr X g o n' c' e x=>by
   have x:=x;rw[HT.z g (aR.z fr X g<|by rw[e];rfl)]at x;have:=HI.z;simp at x;omega))
 clear aP a3 d0 d1 aY aZ NP aQ aR bm bw a1;go_wp2_with fail
 go_loopw [7,10] (λev h wr=>∃(k:Nat) (s1:SS),k<=N/\ev=.int .i64 0/\h=.int .i64 k/\AA (Db tag i b E s1 wr/\SS.kV n (fs.drop k) s1=SS.kV n fs s0/\SS.lX n (fs.drop k) s1)) (λ_ h _=>N-(intOf h).toNat)
 case atStart=>exact⟨0,s0,AK _,rfl,rfl,zb ⟨ay.z,nl,qp O4.z⟩⟩
 case round =>
  clear ay L6 O4;obtain⟨k,s1,h,rfl,rfl,HQ⟩:=hrel;obtain⟨a5,h,h1,e1,m1⟩:=HQ.z.1.op;obtain⟨y0,y1⟩:=D0.z wr m1;by_cases aj:k<N
  .have M:=a4.z wr m1;obtain⟨a',h,a6,_,_,a7⟩:=M;have a8:k<aa.length:=by rw[bo.z,HN.z];exact aj
   obtain⟨⟨f,rv⟩,X⟩:∃fr,aa[k]?=some fr:=⟨aa[k],AG a8⟩;have aA:fs[k]?=some f:=by rw[<-bn.z,Ad,X];rfl
   obtain⟨⟨g2,o2,bx,aB⟩,aC⟩:=a7 k (f,rv) X;have bz:a'=fa/\h=fc:=by cases a6;exact rM
   obtain⟨rfl,rfl⟩:=bz;subst bx;simp only at aB aC;obtain⟨x0,x1,x2,x3,x4,x5,x6,x7,x8,x9⟩:=GC aB;have a9:fs.drop k=f::fs.drop (k+1):=by
    have h:k<fs.length:=by rw[HN.z];exact aj
    rw[B5 h];rw[AG h]at aA;rw[Bc aA]
   have aD:=HQ.z.2.1;have h:=HQ.z.2.2;rw[a9]at aD h;obtain⟨ba,aE,bb⟩:=h;have ka:=Yi h1 e1.z HI.z f rv aC ba;obtain⟨KD,ak⟩:=nm f.kind;unfold ze at ka;rw[ak]at x0 ka;have bA:AA (∀w',C9 (λg=>(tag g).1=i) E w'->w'.cell? (g2,o2+k*10)=some (.int .i64 KD)):=zb (λw' m=>by
    obtain⟨M,h,bB,_,_,hx⟩:=a4.z w' m;obtain⟨⟨h,o3,bc,bC⟩,_⟩:=hx k (f,rv) X;cases bB;cases bc;rw[<-ak];exact(GC bC).1)
   obtain⟨G,m⟩:=nm<|(s1.take f).1;obtain⟨A,h⟩:=nm<|(s1.take f).2;rw[m,h]at ka;rw[h]at aE;have ao:AA (∀W6 c2,Db a5 i b wr c2 W6->Db tag i b E c2 W6):=zb<|λW6 c2 l=>Dx.trans e1 m1 l;have KA:=zb ka;have bD:=zb ak;have al:=zb m;have aF:=zb h;have aG:=zb aD;have be:=zb bb;have bE:=zb aE;clear a7 X aB aC ka aA a6 ba bb aE aD ak m h h1 e1 m1 a8 a9;go_wp2_with fail;refine(KA.z).mono ?_;rintro e W6 ⟨rfl,l6⟩;have L7:=zb<|ao.z W6 A l6;obtain⟨bf,V6,h6,e6,m6⟩:=L7.z.op;clear KA ao l6 x0 x1 x2 x3 x4 x5 x6 x7 x8 x9 y0 y1;by_cases hz:G=0
   .subst hz;obtain⟨z0,z1⟩:=D0.z W6 m6;have zk:=bA.z W6 m6;have c9:=h6.hd (j:=9) rfl;obtain⟨od,td⟩:=h6.rowOf (r:=6) rfl lc;obtain⟨da,ap,am,d1,h,d3⟩:=zi od;obtain⟨dn,aH⟩:=nm A.due.length;rw[am]at c9;rw[aH]at c9 d1 d3;unfold maxLen at h;have bg:=zb am;have L:=zb aH;obtain⟨dt,bh⟩:=nm<|decide<|KD≠2/\A.due[A.due.length-1]?≠some n;have Y:=zb bh;have bi:AA (∀h,h=A.mR n f->SS.kV n (fs.drop<|k+1) h=SS.kV n fs s0/\SS.lX n (fs.drop<|k+1) h):=zb (λx hx=>by
     have h5:=aG.z;have h7:=be.z al.z;rw[UC al.z,aF.z]at h5;rw[aF.z]at h7;rw[hx];exact⟨h5,h7⟩)
    have Z:AA (A.mR n f=if dt=true then{ A with due:=A.due++[n] }else A):=zb (by
     unfold SS.mR;rw[bD.z,<-Y.z];by_cases q:KD≠2/\A.due[A.due.length-1]?≠some n
     .rw[AL q,AL (Ah q)]
     rw[AH q,AH (by rw[A8 q];simp)])
    have aI:AA (0<dn->∃y g,A.due[dn-1]?=some y/\da=some ⟨g,0,none⟩/\W6 ⟨g,dn-1,none⟩=some (.int .u64 y)):=zb (λhp=>by
     obtain⟨y,hy⟩:∃y,A.due[dn-1]?=some y:=⟨_,AG<|by rw[L.z];omega⟩;obtain⟨g,rfl⟩:=d3 hp;rw[am]at od;refine⟨y,g,hy,rfl,?_⟩;have bj:=L.z;subst bj;exact(Gd od<|by unfold ES;rw[Ad,hy];rfl).1)
    have H6:=zb h6;have E6:=zb e6;have M6:=zb m6;have TD:=zb td;clear h6 od am aH bh d3 e6 m6 td be aG;go_upto_region 22 with fail
    go_cut [116] (λh wx=>h=.bool dt/\AA (C9 DA W6 wx))
    case first=>as_aux_lemma =>
     have ho:=Y.z;by_cases D:KD=2
     .have e:dt=false:=by rw[<-ho];simp[D]
      subst e;subst D;clear ho Y Z;go_wp2;go_quiet (fail);go_wp2;go_meet;exact⟨rfl,zb<|rS.drewN _⟩
     have b2:(KD != 2)=true:=qp D;by_cases aJ:dn=0
     .have e:dt=true:=by
       rw[<-ho,BJ (by rw[L.z];omega)];simp[D]
      subst e;subst aJ;clear ho Y Z D;go_wp2;go_quiet (fail);go_wp2;go_meet;exact⟨rfl,zb<|rS.drewN _⟩
     obtain⟨y,g,hy,rfl,cy⟩:=aI.z I;have z1:((dn:Int)==0)=false:=AM.2 I;have m:IntKind.i64.wrap ((dn:Int)-1)=((dn-1:Nat):Int):=by rw[IntKind.wrap_i64];omega
     obtain⟨h,g⟩:=nm<|dn-1;have b1:(h:Int)<dn:=I;have M:(0:Int)<=h:=I;rw[g]at m cy hy;have bk:=zb g;clear g;by_cases af:y=n
     .have e:dt=false:=by
       rw[<-ho];refine A8<|λx=>x.2 ?_;rw[L.z,bk.z,hy,af]
      subst e;subst af;clear ho Y Z D aJ;go_wp2;go_quiet (fail);go_wp2;go_meet;exact⟨rfl,zb<|rS.drewN _⟩
     have e:dt=true:=by
      rw[<-ho];refine Ah ⟨D,?_⟩;rw[L.z,bk.z,hy];exact λx=>af<|Bc x
     have g:((y:Int) != (n:Int))=true:=by rw[Pb];simpa using af
     subst e;clear ho Y Z D aJ af;go_wp2;go_quiet (fail);go_wp2;go_meet;exact⟨rfl,zb<|rS.drewN _⟩
    case rest =>
    obtain⟨rfl,M7⟩:=hcut;obtain⟨W7,bF⟩:=nn wc;subst bF;cases dt
    .have ag:A.mR n f=A:=by rw[Z.z];rfl
     have u:=zb<|And.intro (L7.z.lR M7.z)<|bi.z A ag.symm;clear ag;go_wp2;go_roundw
     case rel=>exact⟨k+1,A,I,rfl,by go_num,u⟩
     simp[intOf];omega
    have ag:A.mR n f={ A with due:=A.due++[n] }:=by rw[Z.z];rfl
    have h7:=H6.z.kD M7.z;have aK:=h7.kD (C9.refl DA W7).drew;have t7:=E6.z.z.mod<|M7.z.drew;have c9:=aK.hd (j:=9) rfl;rw[bg.z,L.z]at c9;have aL:=(M6.z.trans<|M7.z.mono rQ).drew;obtain⟨z0,_⟩:=D0.z W7.drew aL;obtain⟨_,W8,O,L8,g9,⟨h,u9⟩,⟨e,g,rfl⟩,m8⟩:=zj.qa aK t7 HI.z n bE.z;rw[bg.z]at O;simp only[L.z]at O L8 u9 g9;have m:AA (W8 (b,9)=some (.slice da dn ap)/\W8 B=some (.int .u64 n)):=by
     refine zb ⟨m8.cell (λx=>?_) c9,m8.cell (λx=>?_) z0⟩
     .have:=TD.z _ x;rw[H6.z.tb]at this;simp at this
     have x:V6.due.ownBlock=some B:=x;have h5:=TD.z _ x;have h6:=aU.z;have aj:=zo (D0.z E rS).1;rw[E6.z.lH B aj,h6]at h5;simp at h5
    have e:=zb<|And.intro c9 z0;have g:=zb O;have h:=zb<|And.intro u9 g9;have y:DK i tag bf E W7.drew:=⟨E6.z.lH,E6.z.new,t7⟩;have u:=zb<|And.intro (Dx.trans y aL L8)<|bi.z _ ag.symm;clear ag h7 aK t7 c9 aL z0 O L8 g9 u9 m8 y zk z1;go_upto_region 23 with fail;refine zr 11 (λw'=>w' (U b 9)=some (.slice da dn ap)/\w' B=some (.int .u64 n)) (e.z) ?_;refine GI 0 ?_;iterate 7
     refine GV rfl ?_;try simp only[PS]
    refine zD 7 rfl (λK C=>?_);go_simp;refine C.z _ _ ⟨((C9.refl DA W7.drew).alloc _).cell (a:=U b 9) id e.z.1,((C9.refl DA W7.drew).alloc _).cell (a:=B) id e.z.2⟩ ?_;clear C K;try simp only[PS]
    refine zD 8 rfl (λK C=>?_);refine zO rfl _ _ _ _ rfl _ _ _ rfl rfl g.z ?_;refine C.z _ _ m.z ?_;clear C K;try simp only[PS]
    refine GI 9 ?_;iterate 2
     refine GV rfl ?_;try simp only[PS]
    refine Dt rfl (λK C=>?_);obtain⟨a,e⟩:=h.z;go_simp;refine C.z _ _ ?_;clear C K;try simp only[PS]
    refine zt ?_;go_wp2;go_roundw
    case rel=>exact⟨k+1,_,I,rfl,by go_num,u⟩
    simp[intOf];omega
   have a:((G:Int)==0)=false:=by rw[AM];omega
   have c4:=h6.hd (j:=4) rfl;have a:=h6.fz 4;have g:=L7.z.mu { A with closed:=G } (j:=4) (v:=.int .i64 G) (λ_=>rfl) rfl;obtain⟨W8,a⟩:=nm<|W6.setCell (U b 4)<|.int .i64 G;rw[a]at g;obtain⟨e,m,h,_,_⟩:=g.op;have e:=h.hd (j:=5) rfl;have e:=h.fz 5;have y:=g.mu { A with closed:=G,said:=G==13 } (j:=5) (v:=.bool<|G==13) (λ_=>rfl) rfl;have z:=zb y;have u:AA (R=((G,-1),{ A with closed:=G,said:=G==13 })):=zb (by
    rw[a0.z,<-aG.z,UB<|by rw[al.z];exact hz,al.z,aF.z])
   have m:((G:Int)==13)=(G==13):=by
    by_cases q:G=13
    .rw[q];rfl
    rw[AM.2 q,AM.2 I]
   have n:=zb a;obtain⟨q,e⟩:=nm<|(G==13);rw[e]at m z u;clear h6 h g y a e hz;go_upto_region 20 with fail;rw[n.z];go_wp2;go_ret2;rw[u.z];exact⟨rfl,Dx.lJ HT.z HI.z (M3.z.trans ae.z) z.z⟩
  have a:k=N:=I;have u:AA (R=((0,-1),s1)):=zb (by
   rw[a0.z,<-HQ.z.2.1,BX (by rw[HN.z];omega)];rfl)
  clear a h1 e1 m1;go_wp2;go_ret2;rw[u.z];exact⟨rfl,Dx.lJ HT.z HI.z (M3.z.trans ae.z) HQ.z.1⟩
end
structure SI.py(x:SI):Prop where
 hi:x.high<=1099511627776
 tl:x.there.length=x.high
 dl:x.data.length=x.high
 rd:x.read<=x.high
theorem PF(x:SI):∀(n j p:Nat),j<=n->(∀i,i<j->x.can (p+i)=true)->(j=n\/x.can (p+j)=false)->x.run n p=p+j
 | 0,j,p,h,_,_=>by
  have:j=0:=I;subst this;rfl
 | n+1,0,p,_,_,h=>by
  rcases h with h|h
  .omega
  rw[SI.run];rw[show x.can p=false from h];rfl
 | n+1,j+1,p,h,hc,he=>by
  have a:=hc 0 I;rw[SI.run];rw[show x.can p=true from a,AL rfl,PF x n j (p+1) I (λi a=>by rw[(I:p+1+i=p+(i+1))];exact hc (i+1) I) (by
   rcases he with he|he
   .exact .inl I
   exact .inr<|by rw[(I:p+1+j=p+(j+1))];exact he)]
  omega
section
variable {tag:qr} {i b:Nat} {s s':SS} {V V':SV} {W W1:rT}
theorem ik(h:zj tag i b s V W)(e:zL tag W)(hi:0<i)(v:rU)(a:qq)(hb:BR W v a)(g:a.length<=549755813888)(ok:s.mJ a):rH 49 #[zq b,v] W (Np tag i b W (s.kL a)):=by
 by_cases m:s.closed=0
 .cases hd:dec a with
  | ok n fs=>exact Yc h e hi v a hb g m hd ok
  | sum=>exact QB h e hi v a hb g<|.inr<|λn fs x=>by rw[hd]at x;cases x
  | bad p=>exact QB h e hi v a hb g<|.inr<|λn fs x=>by rw[hd]at x;cases x
 exact QB h e hi v a hb g<|.inl m
def JS(tag:qr)(i b:Nat)(W:rT)(r:(qq×Nat×Nat)×SS)(e:Ending)(W':rT):Prop :=
 Ez tag i b W (.tuple #[.string (zy r.1.1),[r.1.2.1],[r.1.2.2]]) r.2 e W'
def Yb(h:zj tag i b s V W)(ht:zL tag W)(hi:0<i)(k u:Int)(ok:∀k,k<8->(s.ins k).py):rH 66 #[zq b,.int .i64 k,[u]] W (JS tag i b W (s.read k u)):=by
 have ko:=N7 h k;have KO:=zb ko;have K:=zb h;have HT:=zb ht;obtain⟨r,X⟩:=nm<|s.read k u;rw[X];unfold SS.read at X;by_cases h0:s.of k=0
 .rw[AH (by rw[h0];simp)]at X;rw[h0]at KO;have K:0<=k/\k<8:=by
   unfold SS.of at h0;split at h0
   .omega
   split at h0<;>omega
  obtain⟨q,rfl⟩:∃q:Nat,k=q:=⟨k.toNat,I⟩;rw[Am]at X;have z:q<8:=I;obtain⟨x,hx⟩:=nm<|s.ins q;have OK:=zb (show x.py by rw[<-hx];exact ok q z);rw[hx]at X;have HR:=zb X;have K:=zb hx;obtain⟨g,K,g1,g2,aQ,hp⟩:=h.qM;have cp:=hp q z;obtain⟨D,K⟩:=nm<|V.ib q;rw[K]at cp;have G:=zb K;unfold maxLen at g2;have S0:=zb (show zj tag i b { s with ins:=zh s.ins q { x with read:=x.read+0 } } V W from by
   have e:({ s with ins:=zh s.ins q { x with read:=x.read+0 } }:SS)=s:=by
    rw[show({ x with read:=x.read+0 }:SI)=x from rfl,<-hx,Fx]
   rw[e];exact h)
  unfold zq at KO ⊢;clear h ht hp hx K X ok ko h0;go_enter func66,ntmps66;go_wp2_with fail;refine(KO.z).mono ?_;rintro e _ ⟨rfl,rfl⟩;clear KO;go_wp2_with fail
  go_loopw [11] (λK wr=>∃j:Nat,x.read+j<=x.high/\j<=u.toNat/\K=.string (zy<|(x.data.drop x.read).take j)/\AA ((∀i,i<j->x.can (x.read+i)=true)/\(0<j->x.state=0))/\AA (zj tag i b { s with ins:=zh s.ins q { x with read:=x.read+j } } V wr)/\AA (C9 (λg=>(tag g).1=i) W wr)) (λK _=>x.high-(match K with|.string t=>t.size|_=>0))
  case atStart=>exact⟨0,OK.z.rd,AK _,rfl,zb ⟨λi hi=>absurd hi<|Al i,λh=>absurd h<|Nat.lt_irrefl 0⟩,S0,zb rS⟩
  case round =>
   obtain⟨j,au,av,rfl,HC,Y,HM⟩:=hrel;obtain⟨W0,aF⟩:=nn wr;subst aF;obtain⟨xh,K⟩:=nm x.high;obtain⟨p,hp⟩:=nm<|x.read+j;obtain⟨st,aj⟩:=nm x.state;obtain⟨rs,ac⟩:=nm x.reset;obtain⟨kp,L⟩:=nm x.kD;obtain⟨xe,ak⟩:=nm x.end_;obtain⟨en,al⟩:=nm x.ended;have e2:W0 (V.ib q,2)=some (.int .u64 xh):=by rw[<-K];exact zj.nI Y.z z rfl
   have e3:W0 (V.ib q,3)=some (.int .u64 xe):=by rw[<-ak];exact zj.nI Y.z z rfl
   have e4:W0 (V.ib q,4)=some (.bool en):=by rw[<-al];exact zj.nI Y.z z rfl
   have e5:W0 (V.ib q,5)=some (.bool rs):=by rw[<-ac];exact zj.nI Y.z z rfl
   have e6:W0 (V.ib q,6)=some (.int .u64 kp):=by rw[<-L];exact zj.nI Y.z z rfl
   have e7:W0 (V.ib q,7)=some (.int .u64 p):=by rw[<-hp];exact zj.nI Y.z z rfl
   have e8:W0 (V.ib q,8)=some (.int .i64 st):=by rw[<-aj];exact zj.nI Y.z z rfl
   have e0:W0 (V.ib q,0)=some (V.dv q):=zj.nI Y.z z rfl;have e1:W0 (V.ib q,1)=some (V.tv q):=zj.nI Y.z z rfl;rw[G.z]at e0 e1 e2 e3 e4 e5 e6 e7 e8;obtain⟨od,_⟩:=zj.sd Y.z z;obtain⟨ot,_⟩:=zj.st Y.z z;rw[show({ s with ins:=zh s.ins q { x with read:=x.read+j } }:SS).ins q={ x with read:=x.read+j }from zf _ _ _]at od ot;simp only at od ot;obtain⟨ta,aP,am,t1,t2,t3⟩:=zi ot;obtain⟨da,E,an,d1,d2,d3⟩:=zi od;rw[OK.z.tl,K]at am t1 t3;rw[OK.z.dl,K]at an d1 d3;rw[an]at e0 od;rw[am]at e1 ot;unfold maxLen at t2 d2;obtain⟨t0,ad⟩:=nm<|zy<|(x.data.drop x.read).take j;have aG:t0.size=j:=by
    rw[<-ad,zM,AU,Af,OK.z.dl];omega
   rw[ad];obtain⟨B,aw⟩:=nm<|(decide ((j:Int)<u)&&(st==0)&&x.can p);have ah:x.can p=(decide (p<xh)&&x.there.getD p false&&(!rs||decide (p<kp))):=by unfold SI.can;rw[K,ac,L]
   have ax:=OK.z.hi;rw[K]at ax;have ae:=zb aw;have M:=zb K;have Z:=zb hp;have aa:=zb aj;have aH:=zb ac;have aI:=zb L;have aJ:=zb ak;have aK:=zb al;have O:=zb ad;have ai:=zb ah;have OT:=zb ot;have OD:=zb od;have aR:=zb au;have ay:=zb av;have D3:=zb d3;clear aw K hp aj ac L ak al ad ah ot od an am au av d3;go_upto_region 6 with fail
   go_cut [76] (λbv wx=>bv=.bool B/\AA (C9 DA W0 wx))
   case first=>as_aux_lemma =>
    have n:=ae.z;rw[ai.z]at n;clear e3 e4;by_cases C:(j:Int)<u
    .by_cases m:st=0
     .subst m;by_cases af:p<xh
      .have b1:(p:Int)<xh:=I;obtain⟨K,rfl⟩:=t3 I;obtain⟨tb,K⟩:∃y,x.there[p]?=some y:=⟨_,AG<|by rw[OK.z.tl,M.z];exact af⟩;have hg:x.there.getD p false=tb:=by rw[AQ,K];rfl
       have ct:=(Gd (i:=p) (v:=.bool tb) (N:=xh) (by have:=OT.z;rw[OK.z.tl,M.z]at this;exact this)<|by unfold Gp;rw[Ad,K];rfl).1;rw[hg]at n;clear hg K t3;cases tb
       .have e:B=false:=by rw[<-n];simp
        subst e;clear n;go_wp2;go_quiet (fail);go_wp2;go_meet;exact⟨rfl,zb<|rS.drewN _⟩
       cases rs
       .have e:B=true:=by rw[<-n];simp[C,af]
        subst e;clear n;go_wp2;go_quiet (fail);go_wp2;go_meet;exact⟨rfl,zb<|rS.drewN _⟩
       by_cases aA:p<kp
       .have b2:(p:Int)<kp:=I;have e:B=true:=by rw[<-n];simp[C,af,aA]
        subst e;clear n;go_wp2;go_quiet (fail);go_wp2;go_meet;exact⟨rfl,zb<|rS.drewN _⟩
       have b2:¬(p:Int)<kp:=I;have e:B=false:=by rw[<-n];simp[aA]
       subst e;clear n;go_wp2;go_quiet (fail);go_wp2;go_meet;exact⟨rfl,zb<|rS.drewN _⟩
      have b1:¬(p:Int)<xh:=I;have e:B=false:=by rw[<-n];simp[af]
      subst e;clear n t3;go_wp2;go_quiet (fail);go_wp2;go_meet;exact⟨rfl,zb<|rS.drewN _⟩
     have b0:((st:Int)==0)=false:=AM.2 I;have e:B=false:=by rw[<-n];simp[m]
     subst e;clear n t3;go_wp2;go_quiet (fail);go_wp2;go_meet;exact⟨rfl,zb<|rS.drewN _⟩
    have d1:=A8 C;have e:B=false:=by rw[<-n];simp[C]
    subst e;clear n t3;go_wp2;go_quiet (fail);go_wp2;go_meet;exact⟨rfl,zb<|rS.drewN _⟩
   case rest =>
   obtain⟨rfl,MA⟩:=hcut;obtain⟨WA,aL⟩:=nn wc;subst aL;have ao:=zb<|zj.kD Y.z MA.z;have aB:=zb<|HM.z.trans<|MA.z.mono rQ;cases B
   .have B:x.run u.toNat x.read=x.read+j\/st≠0:=by
     by_cases m:st=0
     .refine .inl (PF x u.toNat j x.read ay.z (λi hi=>HC.z.1 i hi) ?_);by_cases C:(j:Int)<u
      .right;rw[Z.z];have n:=ae.z;simpa [C,m]using n
      left;have:=ay.z;omega
     exact .inr m
    have K:x.kR u.toNat=p:=by
     unfold SI.kR;rw[aa.z];by_cases m:st=0
     .rw[AL m,<-Z.z];exact B.resolve_right<|λy=>y m
     rw[AH m];have h0:=HC.z.2;rw[aa.z]at h0;have:j=0:=by
      by_cases q:0<j
      .exact absurd (h0 q) m
      omega
     have hp:=Z.z;omega
    have e2:=MA.z.cell (a:=U D 2) id e2;have e3:=MA.z.cell (a:=U D 3) id e3;have e4:=MA.z.cell (a:=U D 4) id e4;have e5:=MA.z.cell (a:=U D 5) id e5;have e6:=MA.z.cell (a:=U D 6) id e6;have e7:=MA.z.cell (a:=U D 7) id e7;have e8:=MA.z.cell (a:=U D 8) id e8;obtain⟨ns,A⟩:=nm<|x.kx p;have X:r=(((x.data.drop x.read).take j,ns,0),{ s with ins:=zh s.ins q { x with read:=p,state:=ns } }):=by
     rw[<-HR.z,K,A,(qm Z.z:p-x.read=j)]
    have HR:=zb X;have SA:AA (zj tag i b { s with ins:=zh s.ins q { x with read:=p,state:=st } } V WA):=zb (by
     have u:=ao.z;rw[<-Z.z,<-aa.z];exact u)
    have f8:=(zj.oE ao.z z 8);rw[G.z]at f8;unfold SI.kx at A;rw[aa.z,aH.z,aI.z,aJ.z,aK.z]at A;have ap:=zb A;have O:=O;clear X B K e0 e1 e2 A;obtain⟨c1,u⟩:=nm<|(rs&&decide (kp<=p)&&(st==0));have ab:=zb u;clear u;go_upto_region 9 with fail
    go_cut [101] (λbv wx=>bv=.bool c1/\AA (C9 DA WA wx))
    case first=>as_aux_lemma =>
     have n:=ab.z;clear e3 e4;cases rs
     .have e:c1=false:=by rw[<-n];simp
      subst e;clear n;go_wp2;go_quiet (fail);go_wp2;go_meet;exact⟨rfl,zb<|rS.drewN _⟩
     by_cases L:kp<=p
     .have b1:(kp:Int)<=p:=I;by_cases m:st=0
      .have e:c1=true:=by rw[<-n];simp[m,L]
       subst m;subst e;clear n;go_wp2;go_quiet (fail);go_wp2;go_meet;exact⟨rfl,zb<|rS.drewN _⟩
      have b0:((st:Int)==0)=false:=AM.2 I;have e:c1=false:=by rw[<-n];simp[m]
      subst e;clear n;go_wp2;go_quiet (fail);go_wp2;go_meet;exact⟨rfl,zb<|rS.drewN _⟩
     have b1:¬(kp:Int)<=p:=I;have e:c1=false:=by rw[<-n];simp[L]
     subst e;clear n;go_wp2;go_quiet (fail);go_wp2;go_meet;exact⟨rfl,zb<|rS.drewN _⟩
    case rest =>
    obtain⟨rfl,MB⟩:=hcut;obtain⟨WB,aM⟩:=nn wc;subst aM;have SB:=zb<|zj.kD SA.z MB.z;have aC:=zb<|aB.z.trans<|MB.z.mono rQ;have e3:=MB.z.cell (a:=U D 3) id e3;have e4:=MB.z.cell (a:=U D 4) id e4;have e5:=MB.z.cell (a:=U D 5) id e5;have e7:=MB.z.cell (a:=U D 7) id e7;have e8:=MB.z.cell (a:=U D 8) id e8;have f8:=(zj.oE SB.z z 8);rw[G.z]at f8;cases c1;rotate_left
    .have A:ns=2:=by
      rw[<-ap.z];have n:=ab.z;simp only[AV,Ch]at n;rw[AH (by simp[n.2]),AL (by simp[n.1.1,n.1.2])]
     subst A;have q1:=zj.l8 (j:=8) (v:=.int .i64 2) (x':={ x with read:=p,state:=2 }) SB.z z rfl rfl rfl;have q2:=aC.z.trans<|show C9 (λg=>(tag g).1=i) _ _ from zj.mi SB.z z 8<|.int .i64 2;rw[G.z]at q1 q2;have Q1:=zb<|q1.mD HT.z q2;clear q1 q2;go_wp2;go_quiet (fail);go_wp2;go_ret3;rw[HR.z,<-O.z];exact⟨rfl,Q1.z.lR<|rS.drewN _⟩
    obtain⟨c2,u⟩:=nm<|(!rs&&en&&(p==xe)&&(st==0));have aq:=zb u;clear u e6;go_upto_region 11 with fail
    go_cut [127] (λbv wx=>bv=.bool c2/\AA (C9 DA WB wx))
    case first=>as_aux_lemma =>
     have n:=aq.z;clear ab;cases rs
     .cases en
      .have e:c2=false:=by rw[<-n];simp
       subst e;clear n;go_wp2;go_quiet (fail);go_wp2;go_meet;exact⟨rfl,zb<|rS.drewN _⟩
      by_cases R:p=xe
      .have b1:((p:Int)==(xe:Int))=true:=by rw[R];exact beq_self_eq_true _
       by_cases m:st=0
       .have e:c2=true:=by rw[<-n];simp[m,R]
        subst m;subst e;clear n R;go_wp2;go_quiet (fail);go_wp2;go_meet;exact⟨rfl,zb<|rS.drewN _⟩
       have b0:((st:Int)==0)=false:=AM.2 I;have e:c2=false:=by rw[<-n];simp[m]
       subst e;clear n R;go_wp2;go_quiet (fail);go_wp2;go_meet;exact⟨rfl,zb<|rS.drewN _⟩
      have b1:((p:Int)==(xe:Int))=false:=AM.2 I;have e:c2=false:=by rw[<-n];simp[R]
      subst e;clear n R;go_wp2;go_quiet (fail);go_wp2;go_meet;exact⟨rfl,zb<|rS.drewN _⟩
     have e:c2=false:=by rw[<-n];simp
     subst e;clear n;go_wp2;go_quiet (fail);go_wp2;go_meet;exact⟨rfl,zb<|rS.drewN _⟩
    case rest =>
    obtain⟨rfl,MC⟩:=hcut;obtain⟨u,aN⟩:=nn wc;subst aN;have SC:=zb<|zj.kD SB.z MC.z;have aD:=zb<|aC.z.trans<|MC.z.mono rQ;have e8:=MC.z.cell (a:=U D 8) id e8;have f8:=(zj.oE SC.z z 8);rw[G.z]at f8;clear e3 e4 e5 e7;cases c2
    .have A:ns=st:=by
      rw[<-ap.z];have h1:=ab.z;have h2:=aq.z;by_cases m:st=0
      .rw[AH (by simp[m])];simp only[m,beq_self_eq_true,Bool.and_true]at h1 h2;rw[h1,h2];simp[m]
      rw[AL m]
     subst A;clear z;go_wp2;go_quiet (fail);go_wp2;go_ret3;rw[HR.z,<-O.z];exact⟨rfl,(SC.z.mD HT.z aD.z).lR<|rS.drewN _⟩
    have A:ns=1:=by
     rw[<-ap.z];have h1:=ab.z;have h2:=aq.z;simp only[AV,Ch]at h2;rw[AH (by simp[h2.2]),AH<|by simp[h2.2]at h1;simp;intro x;simp[h1 x],AL (by simp[h2.1])]
    subst A;have q1:=zj.l8 (j:=8) (v:=.int .i64 1) (x':={ x with read:=p,state:=1 }) SC.z z rfl rfl rfl;have q2:=aD.z.trans<|show C9 (λg=>(tag g).1=i) _ _ from zj.mi SC.z z 8<|.int .i64 1;rw[G.z]at q1 q2;have Q1:=zb<|q1.mD HT.z q2;clear q1 q2;go_wp2;go_quiet (fail);go_wp2;go_ret3;rw[HR.z,<-O.z];exact⟨rfl,Q1.z.lR<|rS.drewN _⟩
   have n:=ae.z;simp only[AV,AW,Ch]at n;obtain⟨⟨C,m⟩,ar⟩:=n;have ag:=ar;rw[ai.z]at ag;simp only[AV,AW]at ag;have aE:=ag.1.1;obtain⟨dg,rfl⟩:=D3.z I;obtain⟨c,hc⟩:∃y,x.data[p]?=some y:=⟨_,AG<|by rw[OK.z.dl,M.z];exact aE⟩;have md:=MA.z.drew;have e0:=md.cell (a:=D) id e0;have e7:=md.cell (a:=U D 7) id e7;have aO:(convert 44 9<|.slice (dg,p) 1<|E-p).run prog WA.drew=.ok (.string<|zy [c]) WA.drew:=by
    refine FZ ⟨_,_,rfl,?_,?_,λi y hi=>⟨dg,p,rfl,?_⟩⟩
    .show 1<=_;omega
    .unfold maxLen;omega
    have:i=0:=by
     have:=(AO.1 hi).1;simpa using this
    subst this;cases hi;have a:=OD.z;unfold OB at a;rw[OK.z.dl,M.z]at a;exact(Gd (i:=p) (v:=.int .u8 (c.toNat:Int)) (md.owns a<|λ_ _ x=>x)<|by unfold zS;rw[Ad,hc];rfl).1
   have a:IntKind.u64.wrap ((p:Int)+1)=((p+1:Nat):Int):=by rw[IntKind.wrap_u64];omega
   have b1:(0:Int)<=(p:Int)+1:=I;have b2:(p:Int)+1<=(E:Int):=I;have a:¬E=p:=I;have a:¬9223372036854775807<j+(zy [c]).size:=by rw[zM];show ¬_<j+1;have:=aE;have:=Z.z;omega
   have n:=zb<|zj.kD ao.z<|(C9.refl DA WA).drew;have u:=zb<|aB.z.drew;have y:=zb hc;have A:=zb ar;have B:=zb C;have K:=zb m;clear e1 e2 e3 e4 e5 e6 e8 ag hc md ar C m;go_upto_region 7 with fail;refine zr 18 (λw'=>w' D=some (.slice dg xh E)/\w' (U D 7)=some (.int .u64 p)/\(convert 44 9<|.slice (dg,p) 1<|E-p).run prog w'=.ok (.string<|zy [c]) w') (⟨e0,e7,aO⟩) ?_;refine GI 0 ?_;iterate 18
    refine GV rfl ?_;try simp only[PS]
   refine zt ?_;obtain⟨D,a⟩:=nm WA.drew;rw[a]at n u;have m:C9 DA WA D:=by rw[<-a];exact rS.drew
   have C:=zj.oE n.z z 7;have e7:D (V.ib q,7)=some (.int .u64 p):=by rw[<-Z.z];exact zj.nI n.z z rfl
   have q1:=zj.l8 (j:=7) (v:=.int .u64 ((p+1:Nat):Int)) (x':={ x with read:=x.read+(j+1) }) n.z z rfl rfl (by rw[<-Z.z,Nat.add_assoc];rfl);have q2:=u.z.trans<|show C9 (λg=>(tag g).1=i) _ _ from zj.mi n.z z 7<|.int .u64 ((p+1:Nat):Int);rw[G.z]at C e7 q1 q2;have Q1:=zb q1;have z:=zb q2;have u:t0++zy [c]=zy ((x.data.drop x.read).take<|j+1):=by
    rw[<-O.z,R6,Ai,BM,Z.z,y.z];rfl
   have n:=zb u;have q:=zb a;have g:(t0++zy [c]).size=j+1:=by rw[ByteArray.size_append,aG];rfl
   have g:j+1<=xh:=qm Z.z;have g:=zb (show(∀i,i<j+1->x.can (x.read+i)=true)/\(0<j+1->x.state=0)from⟨λi hi=>by
    by_cases e:i=j
    .rw[e,Z.z];exact A.z
    exact HC.z.1 i I,λ_=>by rw[aa.z];exact K.z⟩)
   clear q1 q2 u a m ae OD OT;go_upto_region 8 with fail;rw[q.z];go_wp2;go_roundw
   case rel=>exact⟨j+1,qn Z.z M.z,qm B.z,by rw[n.z],g,Q1,z⟩
   case measure =>
    rw[M.z];show xh-(t0++zy [c]).size<xh-t0.size;omega
 rw[AL h0]at X;subst X;have hb:((s.of k:Int)==0)=false:=AM.2 I;have L0:=zb<|h.left ht rS;unfold zq at KO ⊢;clear h ht ok ko h0;go_enter func66,ntmps66;go_wp2_with fail;refine(KO.z).mono ?_;rintro e _ ⟨rfl,rfl⟩;clear KO;go_wp2;go_ret3;exact⟨rfl,L0.z⟩
end
def Sg(p:Nat×Nat->Bool)(rs:zE)(m:Nat)(h:m<rs.length):(rs.take (m+1)).any p=((rs.take m).any p||p (DE rs m,DB rs m)):=by
 rw[Ai,Gz h];simp
section
variable {tag:qr} {i b:Nat} {s s':SS} {V V':SV} {W W1:rT}
def YZ(h:zj tag i b s V W)(ht:zL tag W)(hi:0<i)(f:DF)(rv:rU)(hr:RR W rv f.kC)(ok:∀r∈f.kC,Mb s.lx.rs r=true)(hl:s.due.length<=1099511627776):rH 124 #[zq b,.agg (ze f rv)] W (Ez tag i b W (.bool true) (s.lC f)):=by
 obtain⟨W0,X⟩:=nm<|W.alloc<|.cells (ze f rv) 48;have m0:=AB X;have oF:=AD X;have h0:=h.kD m0;have ak:=ht.mod m0;obtain⟨fb,af⟩:=nm W.heap.size;rw[af]at oF;obtain⟨_,_,_,_,_,_,_,_,_,F9⟩:=Ge oF;have al:AA (∀{s':SS} {W':rT},Db tag i b W0 s' W'->Db tag i b W s' W'):=zb<|λl=>l.lJ ht hi m0;obtain⟨ra,rc,am,r1,r2,r3⟩:=hr.mod m0<|DN.no _;obtain⟨re,_⟩:=DM.rr (p:=EC b s V) (r:=5) h0 rfl;obtain⟨ea,ec,an,v1,v2,v3⟩:=re;have d8:W0 (b,8)=some (.pointer V.eb):=h0.hd (j:=8) rfl;have Y:W0 V.eb=some V.ev:=DM.cell (p:=EC b s V) (r:=4) (cs:=JG s.lx V.ev) h0 rfl rfl;rw[am]at F9;rw[an]at Y;have d7:W0 (b,7)=some (.pointer V.gb):=h0.hd (j:=7) rfl;have Z:W0 (V.gb,1)=some (.int .u64 s.kN.fl):=DM.cell (p:=EC b s V) (r:=2) (cs:=JG s.kN V.gv) h0 rfl rfl;obtain⟨da,dc,_,e1,e2,d9,ao⟩:=h0.nums (r:=6) (j:=9) rfl lc rfl;have av:=zb ao;obtain⟨z,aa⟩:=nm f.kC;obtain⟨es,ag⟩:=nm s.lx.rs;obtain⟨fl,ah⟩:=nm s.kN.fl;obtain⟨ds,ai⟩:=nm s.due;rw[aa]at r1 r3 F9 ok;rw[ag]at v1 v3 Y ok;rw[ah]at Z;rw[ai]at e1 d9 hl;have D9:=zb d9;have aw:=zb aa;have aK:=zb ag;have ax:=zb ah;have ab:=zb ai;have ap:=zb r3;have ay:=zb v3;have OK:=zb ok;have H0:=zb h0;have aA:=zb ak;have aq:=zb X;have aB:=zb af;unfold maxLen at r2 v2 e2;unfold zq;subst am;rw[aa]at aq ⊢;clear h ht m0 oF h0 ak hr an ao aa ag ah ai r3 v3 ok X af;go_enter func124,ntmps124;go_upto_region 1 with fail;rw[aq.z,aB.z];go_wp2_with fail
 go_loopw [5] (λjv wr=>∃j:Nat,j<=z.length/\jv=.int .i64 j/\AA (C9 DA W0 wr)) (λjv _=>z.length-(intOf jv).toNat)
 case atStart=>exact⟨0,AK _,rfl,zb rS⟩
 case round =>
  obtain⟨j,h,rfl,M⟩:=hrel;obtain⟨h,aC⟩:=nn wr;subst aC;have h:=M.z.cell (a:=U fb 9) id F9;by_cases ac:j<z.length
  .obtain⟨g,o,rfl,q1,q2,q3⟩:=ap.z j ac;obtain⟨G,A⟩:=nm<|DE z j;obtain⟨K,C⟩:=nm<|DB z j;rw[A]at q1;rw[C]at q2;have aD:=zb A;have aE:=zb C;have h:(j:Int)<z.length:=I;clear A C q3;go_wp2_with fail
   go_loopw [6,7] (λbv kv wr=>∃m:Nat,m<=es.length/\bv=.bool ((es.take m).any<|λq=>decide (q.1<=G)&&decide (K<=q.2))/\kv=.int .i64 m/\AA (C9 DA W0 wr)) (λ_ kv _=>es.length-(intOf kv).toNat)
   case atStart=>exact⟨0,AK _,rfl,rfl,M⟩
   case round =>
    obtain⟨m,hm,rfl,rfl,u⟩:=hrel;obtain⟨WB,aF⟩:=nn wr;subst aF;have d8:=u.z.cell (a:=U b 8) id d8;have Y:=u.z.cell (a:=V.eb) id Y;have q1:=u.z.cell (a:=⟨g,_,none⟩) id q1;have q2:=u.z.cell (a:=⟨g,_,none⟩) id q2;have h:=u.z.cell (a:=U fb 9) id F9;by_cases N:m<es.length
    .have y:=Sg (λq=>decide (q.1<=G)&&decide (K<=q.2)) es m N;obtain⟨eg,h,rfl,p1,p2,_⟩:=ay.z m N;have p1:=u.z.cell (a:=⟨eg,_,none⟩) id p1;have p2:=u.z.cell (a:=⟨eg,_,none⟩) id p2;obtain⟨el,h⟩:=nm<|DE es m;obtain⟨eh,X⟩:=nm<|DB es m;rw[h,X]at y;rw[h]at p1;rw[X]at p2;obtain⟨B,O⟩:=nm<|(es.take m).any<|λq=>decide (q.1<=G)&&decide (K<=q.2);rw[O]at y ⊢;have HA:=zb y;clear y h X O;cases B
     .by_cases L:el<=G
      .have b1:(el:Int)<=G:=I;by_cases hy:K<=eh
       .have b2:(K:Int)<=eh:=I;go_wp2;go_quiet (fail);go_wp2;go_roundw
        case rel=>exact⟨m+1,I,by rw[HA.z];simp[L,hy],by go_num,zb<|u.z.drewN _⟩
        simp[intOf];omega
       have b2:¬(K:Int)<=eh:=I;go_wp2;go_quiet (fail);go_wp2;go_roundw
       case rel=>exact⟨m+1,I,by rw[HA.z];simp[L,hy],by go_num,zb<|u.z.drewN _⟩
       simp[intOf];omega
      have b1:¬(el:Int)<=G:=I;go_wp2;go_quiet (fail);go_wp2;go_roundw
      case rel=>exact⟨m+1,I,by rw[HA.z];simp[L],by go_num,zb<|u.z.drewN _⟩
      simp[intOf];omega
     go_wp2;go_quiet (fail);go_wp2;go_roundw
     case rel=>exact⟨m+1,I,by rw[HA.z];simp,by go_num,zb<|u.z.drewN _⟩
     simp[intOf];omega
    have h:(es.take m).any (λq=>decide (q.1<=G)&&decide (K<=q.2))=true:=by
     rw[AS I];have:=OK.z _<|AZ<|Gz ac;unfold Mb at this;rw[aD.z,aE.z]at this;exact this
    rw[h];clear h;go_wp2;go_roundw
    case rel=>exact⟨j+1,I,by go_num,u⟩
    simp[intOf];omega
  go_wp2_with fail
  go_loopw [8,9] (λh jv wr=>∃(j:Nat) (oa:qs) (oc:Nat) (R:List Nat),j<=ds.length/\jv=.int .i64 j/\h=.slice oa R.length oc/\AA (R=(ds.take j).filter (λn => !(decide (n<fl)||z.any (Hz n))))/\AA (wr.ownsRow 0 34 1 (.slice oa R.length oc) R.length<|ES R)/\AA (∀g,(Value.slice oa R.length oc).ownBlock=some g->W0.heap.size<=g)/\AA (C9 DA W0 wr)) (λ_ jv _=>ds.length-(intOf jv).toNat)
  case atStart=>exact⟨0,none,0,[],AK _,rfl,rfl,zb rfl,zb<|World.ownsRow_nil _ 0 _ 1,zb (λg hg=>by cases hg),M⟩
  case round =>
   obtain⟨j2,oa,oc,R,h,rfl,rfl,HR,HO,HN,M⟩:=hrel;obtain⟨WC,aG⟩:=nn wr;subst aG;have d9:=M.z.cell (a:=U b 9) id d9;by_cases ac:j2<ds.length
   .obtain⟨x,L⟩:∃x,ds[j2]?=some x:=⟨_,AG ac⟩;obtain⟨g,rfl,_,aj⟩:=av.z (by rw[ab.z];omega);have cx:=(aj j2 x<|by rw[ab.z];exact L).1;have cx:=M.z.cell (a:=⟨g,_,none⟩) id cx;have d7:=M.z.cell (a:=U b 7) id d7;have Z:=M.z.cell (a:=U V.gb 1) id Z;have X:=zb L;have CX:=zb (aj j2 x<|by rw[ab.z];exact L).1;clear aj L;obtain⟨tf,h⟩:=nm<|decide<|x<fl;have ad:=zb h;have b1:decide ((x:Int)<(fl:Int))=tf:=by rw[<-h];congr 1;simp
    have D:=Ql (λn => !(decide (n<fl)||z.any (Hz n))) ds j2 x X.z;have aH:=zb D;clear D;go_wp2;go_quiet (fail);obtain⟨WD,h⟩:=nm<|WC.drewN nq;have X:C9 DA WC WD:=by rw[<-h];exact rS.drewN _
    rw[h];have MD:=zb<|M.z.trans X;have aI:=zb<|X.owns HO.z<|λ_ _ x=>x;have Y:=ad.z;clear h X HO d7 Z b1;go_wp2_with fail;try simp only[Y]
    go_loopw [10,11] (λbv kv wr=>∃m:Nat,m<=z.length/\bv=.bool (tf||(z.take m).any (Hz x))/\kv=.int .i64 m/\AA (C9 DA WD wr)) (λ_ kv _=>z.length-(intOf kv).toNat)
    case atStart=>exact⟨0,AK _,nl,rfl,zb rS⟩
    case round =>
     obtain⟨m,hm,rfl,rfl,u⟩:=hrel;obtain⟨WE,aJ⟩:=nn wr;subst aJ;have E:=zb<|MD.z.trans u.z;have h:=E.z.cell (a:=U fb 9) id F9;have d9:=u.z.cell (a:=U b 9) id<|MD.z.cell (a:=U b 9) id D9.z;have cx:=u.z.cell (a:=⟨g,_,none⟩) id<|MD.z.cell (a:=⟨g,_,none⟩) id CX.z;by_cases N:m<z.length
     .have y:=Sg (Hz x) z m N;obtain⟨rg,h,rfl,q1,q2,_⟩:=ap.z m N;have q1:=E.z.cell (a:=⟨rg,_,none⟩) id q1;have q2:=E.z.cell (a:=⟨rg,_,none⟩) id q2;obtain⟨G,A⟩:=nm<|DE z m;obtain⟨K,C⟩:=nm<|DB z m;rw[A]at q1;rw[C]at q2;rw[A,C]at y;obtain⟨B,O⟩:=nm<|(tf||(z.take m).any (Hz x));have HA:AA ((tf||(z.take<|m+1).any (Hz x))=(B||(decide (G<=x)&&decide (x<=K)))):=zb (by rw[y,<-Bool.or_assoc,O];rfl);rw[O];clear y A C O ad;cases B
      .by_cases L:G<=x
       .have b1:(G:Int)<=x:=I;by_cases hy:x<=K
        .have b2:(x:Int)<=K:=I;go_wp2;go_quiet (fail);go_wp2;go_roundw
         case rel=>exact⟨m+1,I,by rw[HA.z];simp[L,hy],by go_num,zb<|u.z.drewN _⟩
         simp[intOf];omega
        have b2:¬(x:Int)<=K:=I;go_wp2;go_quiet (fail);go_wp2;go_roundw
        case rel=>exact⟨m+1,I,by rw[HA.z];simp[L,hy],by go_num,zb<|u.z.drewN _⟩
        simp[intOf];omega
       have b1:¬(G:Int)<=x:=I;go_wp2;go_quiet (fail);go_wp2;go_roundw
       case rel=>exact⟨m+1,I,by rw[HA.z];simp[L],by go_num,zb<|u.z.drewN _⟩
       simp[intOf];omega
      go_wp2;go_quiet (fail);go_wp2;go_roundw
      case rel=>exact⟨m+1,I,by rw[HA.z];simp,by go_num,zb<|u.z.drewN _⟩
      simp[intOf];omega
     rw[AS (I:z.length<=m)];obtain⟨B,O⟩:=nm<|(tf||z.any (Hz x));rw[O];have D:=aH.z;rw[ad.z,O,<-HR.z]at D;have ae:=zb D;have ar:=zb<|u.z.owns aI.z<|λ_ _ x=>x;clear D O;cases B
     .have au:R.length<=1099511627776:=by
       have:=Bf (λn => !(decide (n<fl)||z.any (Hz n)))<|ds.take j2;rw[<-HR.z,AU]at this;omega
      obtain⟨a,W3,hr,o1,g1,n1⟩:=Jl (t:=86) underlying86 (show(prog.info? 34).map (λi=>(i.zero,i.size,i.bytes))=some (some<|.int .u64 0,1,8)by kernel_rfl) rfl lc ar.z [.int .u64 x] rfl (λu hu=>by
       simp at hu;subst hu;rfl) au lc
      obtain⟨va,vc,hv,_⟩:=zi o1;subst hv;have h:=zb<|((E.z.alloc _).grown g1<|λq hq=>.inr<|HN.z q hq);have m:AA (∀q,(Value.slice va (R.length+1) vc).ownBlock=some q->W0.heap.size<=q):=λq hq=>by
       rcases n1 q hq with y|y
       .exact HN.z q y
       have:=E.z.size;simp at y;omega
      obtain⟨W2,a⟩:=nm<|WE.alloc<|.cells #[x] 34;have hr:∀n,(Builtin.append_ #[86,86] n #[.slice oa R.length oc,.slice WE 1 1]).run prog W2=.ok (.slice va (R.length+1) vc) W3:=by rw[<-a];exact hr
      have n:=zb a;have u:=zb o1;clear a o1 n1 g1 au ad;go_wp2_with (rw[n.z];at_builtin;refine zm rfl _ _ _ _ rfl _ _ _ rfl rfl hr ?_;clear hr);go_roundw
      case rel=>exact⟨j2+1,va,vc,R++[x],I,by go_num,by rw[AF];rfl,zb<|by rw[ae.z];rfl,by rw[Ol,AF];exact u,by rw[AF];exact m,h⟩
      simp[intOf];omega
     go_wp2;go_roundw
     case rel=>exact⟨j2+1,oa,oc,R,I,by go_num,rfl,zb<|by rw[ae.z];rfl,ar,HN,E⟩
     simp[intOf];omega
   have e:j2=ds.length:=I;subst e;obtain⟨_,e⟩:=H0.z.rowOf (r:=6) rfl lc;have a:R=(s.lC f).due:=by
    rw[HR.z,List.take_length,<-ab.z,<-ax.z,<-aw.z];rfl
   have L:=zj.mz (s':=s.lC f) (V':={ V with due:=.slice oa R.length oc }) (j:=9) (W1:=WC) H0.z aA.z hi (r:=6) lc lc e HO.z (M.z.mono rQ) (λg hg=>.inr<|HN.z g hg) (by show Pc.row _ _ _ (s.lC f).due.length (ES (s.lC f).due)=_;rw[<-a]) rfl (λq _ hq=>by unfold DV;split<;>first|rfl|exact absurd rO hq|exact absurd (.inr rfl) hq) (λ_ _ _ _=>rfl);have H:=zb<|al.z L;have g:=(H0.z.kD M.z).fz 9;clear L e a;go_wp2;go_ret;exact⟨rfl,H.z⟩
end
section
variable {tag:qr} {i b:Nat} {s s':SS} {V V':SV} {W W1:rT}
variable{k:Nat}
def gL(h:zj tag i b s V W)(ht:zL tag W)(hi:0<i)(f:DF)(q:rU)(hk:k<8)(hs:f.stream=(k:Int))(ok:s.nG k f)(hl:(s.outs k).data.length<=1099511627776)(ah:(s.outs k).kD<=1099511627776)(hh:s.high.length<=8)(u:s.all<18446744073709551616):rH 125 #[zq b,.agg (ze f q)] W (Ez tag i b W (.bool true) (s.mC k (D5 f))):=by
 obtain⟨W0,B⟩:=nm<|W.alloc<|.cells (ze f q) 48;have m0:=AB B;have oF:=AD B;have z:=h.kD m0;have ai:=ht.mod m0;obtain⟨N,C⟩:=nm W.heap.size;rw[C]at oF;obtain⟨_,F1,F2,_,_,O,_,_,R,_⟩:=Ge oF;rw[hs]at F1;have aj:AA (∀{s':SS} {W':rT},Db tag i b W0 s' W'->Db tag i b W s' W'):=zb<|λl=>l.lJ ht hi m0;have OF:=zb oF;have H0:=zb z;have ak:=zb ai;have av:=zb B;have aw:=zb C;have q:AA (tag N=(0,0)):=zb (by rw[<-C];exact ht _<|AI _);obtain⟨q,oc,M,o2,ax,am⟩:=z.oS;have cp:=am k hk;obtain⟨o,m⟩:=nm<|s.outs k;have p0:W0 (V.ob k,0)=some (.string<|zy o.data):=by rw[<-m];exact z.oc hk rfl
 have p1:W0 (V.ob k,1)=some (.bool o.fin):=by rw[<-m];exact z.oc hk rfl
 have G:W0 (V.ob k,2)=some (.bool o.cut):=by rw[<-m];exact z.oc hk rfl
 have L:W0 (V.ob k,3)=some (.int .i64 o.kD):=by rw[<-m];exact z.oc hk rfl
 obtain⟨X,an⟩:=nm<|V.ob k;rw[an]at cp p0 p1 G L;obtain⟨q,wc,ao,M,w2,_⟩:=zi (z.rowOf (r:=11) rfl lc).1;have M:=z.hd (j:=16) rfl;rw[ao,ok.wt]at M;obtain⟨gg,q,_,Y,g2,ac,_,ap⟩:=z.oB (r:=10) (j:=14) rfl lc rfl;obtain⟨gv,ad⟩:=nm<|s.given k;have cg:W0 (gg,k)=some (.int .u64 gv):=by
  rw[<-ad];exact(ap k _<|by unfold ES;rw[Ad,Ad,List.getElem?_range hk];rfl).1
 obtain⟨E,hE⟩:=nm<|D5 f;have ae:f.off+f.data.length=E:=hE;have a1:=ok.le;have a2:=ok.data;have a3:=ok.given;have Y:=ok.fin;have n:=ok.cut;have A:=ok.some_;have a7:=ok.all;rw[hE]at a1 a3 Y n a7;rw[m]at a1 a2 Y n hl ah;rw[ad]at a3;obtain⟨D,hD⟩:=nm o.data;obtain⟨g,Z⟩:=nm f.data;obtain⟨q,aa⟩:=nm f.off;obtain⟨fi,aq⟩:=nm f.fin;obtain⟨kp,ar⟩:=nm o.kD;obtain⟨of,au⟩:=nm o.fin;obtain⟨af,ab⟩:=nm o.cut;rw[hD]at p0 a1 a2 Y hl;rw[au]at p1 Y;rw[ab]at G Y n;rw[ar]at L n ah;rw[Z]at R a2 A ae;rw[aa]at F2 a2 ae;rw[aq]at O Y A;have ay:(zy D).extract q E=zy g:=by rw[U1,(I:E-q=g.length),a2]
 have aD:=zM D;have aE:=zM g;have wl:IntKind.u64.wrap (g.length:Int)=(g.length:Int):=by rw[IntKind.wrap_u64];omega
 have wD:IntKind.u64.wrap (D.length:Int)=(D.length:Int):=by rw[IntKind.wrap_u64];omega
 have we:IntKind.u64.wrap ((q:Int)+g.length)=(E:Int):=by rw[IntKind.wrap_u64];omega
 have wk:IntKind.u64.wrap (kp:Int)=(kp:Int):=by rw[IntKind.wrap_u64];omega
 have b1:(q:Int)<=E:=I;have b2:(E:Int)<=D.length:=I;have b3:¬(D.length:Int)<E:=I;have b4:¬(gv:Int)<E:=I;have c3:¬D.length<E:=I;have c4:¬gv<E:=I;have c1:q<=E:=I;have c2:=a1;have HH:=zb hh;have aA:=zb u;have A4:=zb Y;have A5:=zb n;have A6:=zb A;have A7:=zb a7;have q:=zb hE;have aB:=zb hk;have Z1:=zb F1;have Z5:=zb O;have Z8:=zb R;have Y2:=zb G;have Y3:=zb L;unfold maxLen at o2 g2 w2;unfold zq;rw[hE];clear h ht m0 oF z ai B C am m an ao ap ad ae a2 a3 Y n A a7 hD Z aa aq ar au ab ok hs hh u hE;go_enter func125,ntmps125;go_upto_region 1 with fail;rw[av.z,aw.z];go_quiet (fail);obtain⟨z,q⟩:=nm<|W0.drewN nq;have h:C9 DA W0 z:=by rw[<-q];exact rS.drewN _
 rw[q];have B:=zb h;have F1:=h.cell (a:=U N 1) id F1;have F2:=h.cell (a:=U N 2) id F2;have O:=h.cell (a:=U N 5) id O;have R:=h.cell (a:=U N 8) id R;have p0:=h.cell (a:=X) id p0;have p1:=h.cell (a:=U X 1) id p1;have G:=h.cell (a:=U X 2) id G;have L:=h.cell (a:=U X 3) id L;have M:=h.cell (a:=U b 16) id M;have ac:=h.cell (a:=U b 14) id ac;have cg:=h.cell (a:=(gg,k)) id cg;clear q h ax cp;go_upto_region 3 with fail;go_quiet (fail);obtain⟨WB,q⟩:=nm<|z.drewN nq;have h:C9 DA z WB:=by rw[<-q];exact rS.drewN _
 rw[q];have MB:=zb<|B.z.trans h;have F1:=h.cell (a:=U N 1) id F1;have O:=h.cell (a:=U N 5) id O;have R:=h.cell (a:=U N 8) id R;have p0:=h.cell (a:=X) id p0;have p1:=h.cell (a:=U X 1) id p1;have G:=h.cell (a:=U X 2) id G;have L:=h.cell (a:=U X 3) id L;clear q h M ac cg ay b1 b2 b3 b4 c1 c2 c3 c4;go_upto_region 5 with fail
 go_cut [86] (λbv wx=>bv=.bool false/\AA (C9 DA W0 wx))
 case first=>as_aux_lemma =>
  have m:=A4.z;clear A4 A5 A6;cases of
  .have e:fi=false:=by rw[m];rfl
   subst e;clear m;go_wp2;go_quiet (fail);go_wp2;go_meet;exact⟨rfl,zb<|MB.z.drewN _⟩
  cases af
  .by_cases hq:E=D.length
   .have e:fi=true:=by rw[m,hq];simp
    have bq:((E:Int)==(D.length:Int))=true:=by rw[hq];exact beq_self_eq_true _
    subst e;clear m hq;go_wp2;go_quiet (fail);go_wp2;go_meet;exact⟨rfl,zb<|MB.z.drewN _⟩
   have e:fi=false:=by rw[m];simp[hq]
   have bq:((E:Int)==(D.length:Int))=false:=AM.2 I;subst e;clear m hq;go_wp2;go_quiet (fail);go_wp2;go_meet;exact⟨rfl,zb<|MB.z.drewN _⟩
  have e:fi=false:=by rw[m];simp
  subst e;clear m;go_wp2;go_quiet (fail);go_wp2;go_meet;exact⟨rfl,zb<|MB.z.drewN _⟩
 case rest =>
 obtain⟨rfl,MC⟩:=hcut;obtain⟨WC,aC⟩:=nn wc;subst aC;have cell:AA (∀{q j:Nat} {v:rU},W0 (q,j)=some v->WC (q,j)=some v):=zb<|λh=>MC.z.cell (a:=⟨_,_,none⟩) id h;obtain⟨_,a,_,_,_,h,_,_,m,_⟩:=Ge<|MC.z.obj rP OF.z;have F1:=cell.z Z1.z;have O:=cell.z Z5.z;have R:=cell.z Z8.z;have G:=cell.z Y2.z;have L:=cell.z Y3.z;clear a h m p0 p1;go_upto_region 7 with fail
 go_cut [110] (λbv wx=>bv=.bool false/\wx=WC)
 case first=>as_aux_lemma =>
  have n:=A5.z;have A:=A6.z;clear A4 A5 A6 cell;by_cases hd:g.length=0
  .have e:fi=true:=by
    rcases A with x|x
    .exact absurd (List.length_eq_zero_iff.1 hd) x
    exact x
   have d0:((g.length:Int)==0)=true:=by rw[hd];rfl
   subst e;cases af
   .clear n A hd;go_wp2;go_meet;exact rM
   have b1:¬(kp:Int)<E:=qm<|n rfl;have b2:¬kp<E:=qm<|n rfl;clear n A hd;go_wp2;go_meet;exact rM
  have d0:((g.length:Int)==0)=false:=AM.2 I;cases af
  .clear n A;go_wp2;go_meet;exact rM
  have b1:¬(kp:Int)<E:=qm<|n rfl;have b2:¬kp<E:=qm<|n rfl;clear n A;go_wp2;go_meet;exact rM
 case rest =>
 obtain⟨rfl,hw⟩:=hcut;replace hw:=hw.symm;subst hw;have h:=H0.z.kD MC.z;have a:=ak.z.mod MC.z;have g:=fO h a hi k E aB.z HH.z;unfold zq at g;have KA:=zb g;clear g O R G L A4 A5 A6;go_wp2_with fail;refine(KA.z).mono ?_;rintro e W6 ⟨rfl,l6⟩;obtain⟨a,g,m,z,A⟩:=l6.op;have a:=m.kD (C9.refl DA W6).drew;have h:=fP a (by show(s.mC k E).high.sum<_;have:=A7.z;have:=aA.z;omega);have ag:W6.drew (b,15)=some (.int .u64 s.all):=a.hd (j:=15) rfl;have n:(((s.mC k E).high.sum:Nat):Int)<=(s.all:Int):=qm A7.z;have q:=A7.z;obtain⟨B,u⟩:=nm s.all;obtain⟨C,g⟩:=nm<|(s.mC k E).high.sum;rw[u]at ag n q;rw[g]at h n q;unfold zq at h;have n:=zb h;have L6:=zb<|aj.z<|Dx.lJ ak.z hi MC.z l6;clear KA l6 m a h z A u g;go_upto_region 10 with fail;refine zr 8 (λw'=>w' (U b 15)=some (.int .u64 B)) (ag) ?_;refine GI 0 ?_;refine GV rfl ?_;try simp only[PS]
 refine GI 2 ?_;iterate 4
  refine GV rfl ?_;try simp only[PS]
 refine zD 1 rfl (λK hK=>?_);go_simp;go_simp
 with_reducible refine(n.z).mono ?_
 rintro e _ ⟨rfl,rfl⟩;go_simp;refine hK.z _ _ ag ?_;clear hK K;try simp only[PS]
 refine GI 6 ?_;iterate 2
  refine GV rfl ?_;try simp only[PS]
 refine zt ?_;go_wp2;go_ret;exact⟨rfl,L6.z.lR<|(C9.refl DA W6).drew⟩
end
structure SS.Bd(s:SS):Prop where
 od:∀k,k<8->(s.outs k).data.length<=1099511627776/\(s.outs k).kD<=1099511627776
 hl:s.high.length<=8
 all:s.all<=4611686018427387903
 due:s.due.length<=1099511627776
 ln:s.kT<=65536
 lr:s.total<=65536
 used:∀k,k<8->(s.ins k).used<=4611686018427387903
 wt:s.waits.length<=1099511627776
section
variable {tag:qr} {i b:Nat} {s s':SS} {V V':SV} {W W1:rT}
theorem jt(l:List DF):(zs l).length=l.length*10:=by
 induction l with
 | nil=>rfl
 | cons f l ih =>
  rw[show zs (f::l)=(ze f rV).toList++zs l by simp[zs],AF,ih,Aa];show 10+_=_;omega
theorem gK(s:SS)(k:Nat):s.lD k<=4611686018427387903:=by
 cases k with
 | zero=>exact AK _
 | succ k=>exact Nat.min_le_right _ _
theorem zj.pW(h:zj tag i b s V W)(M:zL tag W)(hi:0<i){g:DF}{l:List DF}(D:s.waits=g::l)(E:s.waits.length<=1099511627776):∃q e,V.waits=.slice (some ⟨q,0,none⟩) (l.length+1) e/\∀a,(a=⟨q,10,none⟩\/l=[])->∃n W1,(∀m,(Builtin.append_ #[35,35] m #[.slice none 0 0,.slice (some a) l.length (e-1)]).run prog W=.ok n W1) /\
   Db tag i b W { s with waits:=l } (W1.setCell (b,16) n)/\W1.frozen? ⟨b,16,none⟩=false/\(∃x,W1.cell? (b,16)=some x)/\(∃a c,n=.slice a l.length c):=by
 obtain⟨B,N⟩:=h.rowOf (r:=11) rfl lc;rw[D]at B;obtain⟨q,e,G,c1,c2⟩:=JA B nl;rw[G]at B;cases hin:prog.info? 48 with
 | none=>have:=OG;rw[hin]at this;simp at this
 | some ii =>
  have m:=OG;rw[hin]at m;simp at m;obtain⟨L,O,R⟩:=m;have m:l.length+1<=1099511627776:=by rw[D]at E;exact E
  refine⟨q,e,by rw[G];rfl,λa X=>?_⟩;obtain⟨n,W1,Y,C,Z,r4⟩:=zY (P:=prog) W 35 48 ii _ 10 104 underlying35 hin L O R rfl lc rV 0 [] (World.ownsRow_nil _ 0 _ 10) a l.length (e-1) (zs l) (jt l) (λj u y=>by
   rcases X with rfl|rfl;rotate_left
   .cases y
   rw[EU];have:(zs<|g::l)[10+j]?=some u:=by
    rw[show zs (g::l)=(ze g rV).toList++zs l by simp[zs],Ac (by simp[ze])];simpa [ze]using y
   exact(I9 B this).1) (λu y=>by
   simp[zs,ze]at y;obtain⟨x,_,hx⟩:=y;rcases hx with rfl|rfl|rfl|rfl|rfl|rfl|rfl|rfl|rfl|rfl<;>rfl) pi I
  rw[An,BV]at C;have K:C9 DA W W1:=rS.grown Z (λg z=>by cases z);have A:=λg z=>(r4 g z).resolve_left<|λx=>by cases x
  obtain⟨e,m,u,_⟩:=zi C;have L:=zj.mz (s':={ s with waits:=l }) (V':={ V with waits:=n }) (j:=16) (W1:=W1) h M hi (r:=11) lc lc N C (K.mono rQ) (λg z=>.inr<|A g z) rfl rfl (λq _ a=>by unfold DV;split<;>first|rfl|exact absurd rO a|exact absurd (.inr rfl) a) (λ_ _ _ _=>rfl);have a:=h.kD K;exact⟨n,W1,Y,L,a.fz 16,⟨_,a.hd (j:=16) rfl⟩,e,m,u⟩
def Wp(h:zj tag i b s V W)(ht:zL tag W)(hi:0<i)(f:DF)(rv:rU)(hr:RR W rv f.kC)(ok:s.oq f)(bd:s.Bd)(u:∃k:Nat,k<8/\f.stream=(k:Int))(ag:f.lF<=4611686018427387903)(hrel:f.rel<=4611686018427387903):rH 89 #[zq b,.agg (ze f rv)] W (Ez tag i b W (.bool true) (s.may f)):=by
 obtain⟨W0,af⟩:=nm<|W.alloc<|.cells (ze f rv) 48;have m0:=AB af;have oF:=AD af;have h0:=h.kD m0;have an:=ht.mod m0;obtain⟨k,Z,u⟩:=u;obtain⟨fb,ai⟩:=nm W.heap.size;rw[ai]at oF;have A:AA (∀{s':SS} {W':rT},Db tag i b W0 s' W'->Db tag i b W s' W'):=zb<|λl=>l.lJ ht hi m0;obtain⟨F0,F1,F2,F3,F4,F5,F6,F7,F8,F9⟩:=Ge oF;have R:=zb af;have X:=zb ai;obtain⟨r,m⟩:=nm<|s.may f;rw[m];unfold SS.may at m;unfold zq;rw[u]at F1;have B:=zb h0;have E:=zb an;have OK:=zb ok;have BD:=zb bd;have ax:=zb<|hr.mod m0<|DN.no _;have G:=zb u;have OF:=zb oF;have Y:=ok.ok;clear h ht m0 af oF h0 an ok bd hr u ai;by_cases h2:f.kind=2
 .rw[AL h2]at m;have z:=YZ B.z E.z hi f rv ax.z (OK.z.k2 h2) BD.z.due;rw[m]at z;rw[h2]at F0;unfold ze at z;rw[h2,G.z]at z;have KA:=zb z;clear z h2 Y;go_enter func89,ntmps89;go_upto_region 1 with fail;rw[R.z,X.z];go_wp2_with fail;refine(KA.z).mono ?_;rintro e W6 ⟨rfl,l6⟩;have L6:=zb<|A.z l6;clear l6 KA;go_wp2;go_ret;exact⟨rfl,L6.z⟩
 rw[AH h2]at m;by_cases h4:f.kind=4
 .rw[AL h4,G.z,Am]at m;have h:=OK.z.k4 h4;rw[G.z,Am]at h;have z:=gL B.z E.z hi f rv Z G.z h (BD.z.od k Z).1 (BD.z.od k Z).2 BD.z.hl<|qm BD.z.all;rw[m]at z;rw[h4]at F0;unfold ze at z;rw[h4,G.z]at z;have KA:=zb z;clear z h2 h4 Y h;go_enter func89,ntmps89;go_upto_region 1 with fail;rw[R.z,X.z];go_wp2_with fail;refine(KA.z).mono ?_;rintro e W6 ⟨rfl,l6⟩;have L6:=zb<|A.z l6;clear l6 KA;go_wp2;go_ret;exact⟨rfl,L6.z⟩
 rw[AH h4]at m;by_cases h5:f.kind=5
 .rw[AL h5]at m;rw[h5]at F0;obtain⟨g1,K⟩:=OK.z.k5 h5;obtain⟨M,aa⟩:=nm f.lF;rw[aa]at F4 m g1 K ag;have HU:=zb<|λj (hj:j<8)=>TW B.z hj;have ao:=zb<|gK s;have ay:=zb BD.z.used;have G1:=zb g1;have G2:=zb K;clear h2 h4 h5 Y aa g1 K F1 F2 F3 F5 F6 F7 F8 F9;go_enter func89,ntmps89;go_upto_region 1 with fail;rw[R.z,X.z];go_wp2_with fail
  go_loopw [6,7] (λh jv wr=>∃j:Nat,j<=8/\jv=.int .i64 j/\h=.int .u64 (s.lD j:Int)/\wr=W0) (λ_ jv _=>8-(intOf jv).toNat)
  case atStart=>exact⟨0,I,rfl,rfl,rfl⟩
  case round =>
   obtain⟨j,hj,rfl,rfl,rfl⟩:=hrel;by_cases h:j<8
   .have ku:=HU.z j h;have hu:=ao.z j;have hs:=ay.z j h;have hn:s.lD (j+1)=min (s.lD j+(s.ins j).used) 4611686018427387903:=rfl;obtain⟨z,hz⟩:=nm<|s.lD j;obtain⟨u,h⟩:=nm<|(s.ins j).used;rw[hz]at hu hn ⊢;rw[h]at ku hs hn;have wz:IntKind.u64.wrap ((z:Int)+u)=((z+u:Nat):Int):=by rw[IntKind.wrap_u64];omega
    obtain⟨zu,ap⟩:=nm<|z+u;rw[ap]at wz hn;unfold zq at ku;have KU:=zb ku;have HN:=zb hn;have u:(j:Int)<8:=I;clear ku hz h ap hn;by_cases hc:4611686018427387903<zu
    .have b1:(4611686018427387903:Int)<zu:=I;go_wp2_with fail;refine(KU.z).mono ?_;rintro e _ ⟨rfl,rfl⟩;clear KU;go_wp2;go_roundw
     case rel=>exact⟨j+1,I,by go_num,by rw[HN.z,Nat.min_eq_right I];rfl,trivial⟩
     simp[intOf];omega
    have b1:¬(4611686018427387903:Int)<zu:=I;go_wp2_with fail;refine(KU.z).mono ?_;rintro e _ ⟨rfl,rfl⟩;clear KU;go_wp2;go_roundw
    case rel=>exact⟨j+1,I,by go_num,by rw[HN.z,BU I],trivial⟩
    simp[intOf];omega
   have e8:j=8:=I;subst e8;have g1:=G1.z;have K:=G2.z;have hu:=ao.z 8;have ht:=BD.z.lr;have aj:=B.z.hd (j:=13) rfl;have d2:=B.z.hd (j:=2) rfl;obtain⟨Uu,ab⟩:=nm<|s.lD 8;obtain⟨tt,ac⟩:=nm s.total;obtain⟨u,h⟩:=nm s.kE;rw[ab]at K hu ⊢;rw[ac]at K d2 ht;rw[h]at g1 aj;have wt:IntKind.u64.wrap (tt:Int)=(tt:Int):=by rw[IntKind.wrap_u64];omega
   have wu:IntKind.u64.wrap ((Uu:Int)+tt)=((Uu+tt:Nat):Int):=by rw[IntKind.wrap_u64];omega
   obtain⟨ut,ad⟩:=nm<|Uu+tt;rw[ad]at wu K;have b1:¬(M:Int)<u:=I;have c1:¬M<u:=I;have b2:¬(ut:Int)<M:=I;have c2:¬ut<M:=I;clear ab ac h ad g1 K HU;go_wp2;go_quiet (fail);obtain⟨WA,y⟩:=nm<|wr.drewN nq;have C:C9 DA wr WA:=by rw[<-y];exact rS.drewN _
   rw[y];have D:=B.z.kD C;have F4:=C.cell (a:=U fb 4) rP F4;have h:=C.cell (a:=U b 13) rP aj;have h:=D.fz 13;have q:=D.mu { s with kE:=M } (j:=13) (v:=.int .u64 M) rfl rfl;have m2:=(C.mono rQ).trans<|show C9 (λg=>(tag g).1=i) WA _ from D.mh 13<|.int .u64 M;have L:=zb<|A.z<|q.mD E.z m2;subst m;clear y C D q m2 aj d2;go_wp2;go_ret;exact⟨rfl,L.z⟩
 rw[AH h5]at m;by_cases h6:f.kind=6
 .rw[AL h6]at m;rw[h6]at F0;obtain⟨g1,K⟩:=OK.z.k6 h6;rw[G.z,Am]at m g1 K;have ku:=TW B.z Z;have hu:=BD.z.used k Z;have hw:=BD.z.ln;obtain⟨gg,gc,gv,q1,q2,aq,_,u⟩:=B.z.oB (r:=9) (j:=12) rfl lc rfl;have d1:=B.z.hd (j:=1) rfl;obtain⟨M,aa⟩:=nm f.lF;obtain⟨z,h⟩:=nm<|s.kS k;obtain⟨Uu,ab⟩:=nm<|(s.ins k).used;obtain⟨tt,ac⟩:=nm s.kT;have cg:W0 (gg,k)=some (.int .u64 z):=by
   rw[<-h];exact(u k _<|by unfold ES;rw[Ad,Ad,List.getElem?_range Z];rfl).1
  rw[aa]at F4 m g1 K ag;rw[ab]at ku hu K;rw[ac]at K d1 hw;rw[h]at g1;have wt:IntKind.u64.wrap (tt:Int)=(tt:Int):=by rw[IntKind.wrap_u64];omega
  have wu:IntKind.u64.wrap ((Uu:Int)+tt)=((Uu+tt:Nat):Int):=by rw[IntKind.wrap_u64];omega
  obtain⟨ut,ad⟩:=nm<|Uu+tt;rw[ad]at wu K;have b1:¬(M:Int)<z:=I;have c1:¬M<z:=I;have b2:¬(ut:Int)<M:=I;have c2:¬ut<M:=I;have z:(0:Int)<=k:=I;have z:(k:Int)<8:=I;have ak:=zb gv;unfold zq at ku;have KU:=zb ku;unfold maxLen at q2;clear h2 h4 h5 h6 Y aa h ab ac ad u gv ku g1 K;subst m;go_enter func89,ntmps89;go_upto_region 1 with fail;rw[R.z,X.z];go_wp2_with fail;refine(KU.z).mono ?_;rintro e _ ⟨rfl,rfl⟩;clear KU;go_upto_region 24 with fail;go_quiet (fail);obtain⟨WA,y⟩:=nm<|W0.drewN nq;have C:C9 DA W0 WA:=by rw[<-y];exact rS.drewN _
  rw[y];have aq:=C.cell (a:=U b 12) rP aq;have cg:=C.cell (a:=(gg,k)) rP cg;have F4:=C.cell (a:=U fb 4) rP F4;have F1:=C.cell (a:=U fb 1) rP F1;have z:=zb C;clear y C;go_upto_region 26 with fail
  go_still_tail 9,kw
  change wpList _ _ _ _ _ WA.drew;obtain⟨u,h⟩:=nm WA.drew;have K:C9 DA W0 u:=by rw[<-h];exact z.z.trans rS.drew
  have z:C9 DA WA u:=by rw[<-h];exact rS.drew
  rw[h];have cg:=z.cell (a:=(gg,k)) rP cg;have u:=B.z.kD K;obtain⟨q1,n1⟩:=zj.ng (s':={ s with kS:=zh s.kS k M }) u (r:=9) (g:=gg) (n:=8) (cap:=gc) (k:=k) (x:=M) (l:=(List.range 8).map s.kS) lc lc (by show Pc.row _ _ V.kS _ _=_;rw[ak.z]) (by show Pc.row _ _ V.kS _ _=_;rw[ak.z,TO s.kS k M]) (λq _ M=>by unfold DV;split<;>first|rfl|exact absurd rfl M)<|λ_ _ _ _=>rfl;have M:=(I9 (v:=.int .u64 (s.kS k:Int)) (i:=k) (by have:=(u.rowOf (r:=9) rfl lc).1;rw[ak.z]at this;exact this)<|by unfold ES;rw[Ad,Ad,List.getElem?_range Z];rfl).2;have L:=zb<|A.z<|q1.mD E.z<|(K.mono rQ).trans n1;clear h K z u q1 n1;go_wp2;go_ret;exact⟨rfl,L.z⟩
 rw[AH h6]at m;by_cases h7:f.kind=7
 .rw[AL h7]at m;rw[h7]at F0;obtain⟨g,l,e1,e2,e3,e4,e5⟩:=OK.z.k7 h7;have aA:r={ s with waits:=l }:=by rw[<-m,e1];rfl
  subst aA;obtain⟨h,ar,_,v1,v2,N,hc⟩:=B.z.nu;obtain⟨q,K,_,hc⟩:=hc (by rw[e1];simp);have h:=hc 0 g (by rw[e1];rfl);have g6:W0 (q,6)=some (.int .u64 f.id):=by
   rw[<-e2];have:=h 6 _ rfl
   rwa [B6,An]at this
  have g7:W0 (q,7)=some (.int .u64 f.dl):=by
   rw[<-e3];have:=h 7 _ rfl
   rwa [B6,An]at this
  have g8:W0 (q,8)=some (.string<|zy f.data):=by
   rw[<-e4];have:=h 8 _ rfl
   rwa [B6,An]at this
  have d3:=B.z.hd (j:=3) rfl;obtain⟨nw,L⟩:=nm s.now;obtain⟨g,u⟩:=nm f.id;obtain⟨aB,z⟩:=nm f.dl;obtain⟨sd,M⟩:=nm<|zy f.data;rw[L]at d3 e5;rw[u]at g6 F6;rw[z]at g7 F7 e5;rw[M]at g8 F8;have g:s.waits.length=l.length+1:=by rw[e1];rfl
  rw[g,K]at N;rw[g]at v1;have aC:l.length+1<=1099511627776:=by rw[<-g];exact BD.z.wt
  have b1:(nw:Int)<=aB:=I;have aD:=zb e1;unfold maxLen at v2;obtain⟨n,hn⟩:=nm l.length;rw[hn]at N v1 aC;have HN:=zb hn;have aF:=zb K;clear h2 h4 h5 h6 h7 Y hc h L u z M g e1 e2 e3 e4 m K hn F1 F2 F3 F4 F5 F9;go_enter func89,ntmps89;go_upto_region 1 with fail;rw[R.z,X.z];go_wp2_with fail
  go_loopw [10] (λjv wr=>jv=.int .i64 0/\wr=W0) (λ_ _=>0)
  case atStart=>exact rM
  case round =>
   obtain⟨rfl,rfl⟩:=hrel;have g:(0:Int)<(n:Int)+1:=I;go_wp2;go_quiet (fail);go_upto_region 33 with fail;obtain⟨u,h⟩:=nm<|wr.drewN nq;have g:C9 DA wr u:=by rw[<-h];exact rS.drewN _
   rw[h];have N:=g.cell (a:=U b 16) rP N;have d3:=g.cell (a:=U b 3) rP d3;have g7:=g.cell (a:=U q 7) rP g7;have g8:=g.cell (a:=U q 8) rP g8;have F7:=g.cell (a:=U fb 7) rP F7;have F8:=g.cell (a:=U fb 8) rP F8;have z:=zb g;clear h g;go_quiet (fail);obtain⟨WA,y⟩:=nm<|u.drewN nq;have C:C9 DA wr WA:=by rw[<-y];exact z.z.drewN _
   have au:C9 DA u WA:=by rw[<-y];exact rS.drewN _
   rw[y];have N:=au.cell (a:=U b 16) rP N;have D:=B.z.kD C;obtain⟨q2,O,aw,ah⟩:=D.pW (E.z.mod C) hi aD.z BD.z.wt;have aE:q2=q/\O=ar:=by
    have c:=D.hd (j:=16) (v:=V.waits) rfl;rw[aw,N]at c;cases c;exact rM
   obtain⟨rfl,rfl⟩:=aE;obtain⟨av,am⟩:=nm<|(if O=1 then(⟨q2,0,none⟩:Addr)else⟨q2,10,none⟩);obtain⟨_,W1,ae,L1,a,⟨g,h⟩,q,u,rfl⟩:=ah av (by
    by_cases e:O=1
    .exact .inr (List.length_eq_zero_iff.1<|qm HN.z)
    exact .inl<|by rw[<-am,AH e])
   have a:=zb<|A.z<|Dx.lJ E.z hi C L1;rw[HN.z]at ae a;have e:(if O=1 then(some ⟨q2,0,none⟩:qs)else some ⟨q2,10,none⟩)=some av:=by rw[<-am];split<;>rfl
   have b2:(1:Int)<=(n:Int)+1:=I;clear y C au D ah L1 am aw g6 g7 g8 d3 F6 F7 F8;go_wp2_with (at_builtin;(try rw[e]);refine zm rfl _ _ _ _ rfl _ _ _ rfl rfl ae ?_;clear ae);go_ret;exact⟨rfl,a.z⟩
 rw[AH h7]at m;have h3:f.kind=3:=I;subst m;obtain⟨m,n,q⟩:=OK.z.k3 h3;rw[G.z,Am]at m n q;obtain⟨g,oc,h,C,e,a⟩:=B.z.oS;have g:=a k Z;have h:W0 (V.ob k,2)=some (.bool true):=by rw[<-m];exact B.z.oc Z rfl
 have u:W0 (V.ob k,3)=some (.int .i64 ((s.outs k).kD:Int)):=B.z.oc Z rfl;have y:W0 (V.ob k,4)=some (.int .u64 f.off):=by rw[n];exact B.z.oc Z rfl
 rw[<-q]at u;obtain⟨z,e⟩:=nm<|V.ob k;rw[e]at g h u y;obtain⟨z,g⟩:=nm f.rel;obtain⟨of,h⟩:=nm f.off;rw[g]at u F3 hrel;rw[h]at y F2;have u:IntKind.u64.wrap (z:Int)=(z:Int):=by rw[IntKind.wrap_u64];omega
 have u:=zb<|B.z.left E.z<|C9.refl DA W0;rw[h3]at F0;unfold maxLen at C;clear h2 h4 h5 h6 h7 h3 Y m n q a e g h;go_enter func89,ntmps89;go_upto_region 1 with fail;rw[R.z,X.z];go_upto_region 5 with fail;go_quiet (fail);go_upto_region 6 with fail;go_quiet (fail);go_wp2;go_ret;exact⟨rfl,A.z<|(u.z.lR<|rS.drewN _).lR<|rS.drewN _⟩
end
end
end Go.Proofs.YtddfdpbaiedcjabGreatDoor
