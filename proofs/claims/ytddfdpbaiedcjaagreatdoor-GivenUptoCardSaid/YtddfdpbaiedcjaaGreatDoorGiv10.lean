/- A part of Given's proof. Conditions: none. Part 10 of 15. -/
import Derived.Test.YtddfdpbaiedcjaaGreatDoorGiv7
set_option maxRecDepth 100000
set_option maxHeartbeats 16000000
set_option linter.all false
namespace Go.Proofs.YtddfdpbaiedcjaaGreatDoor
section
open Go.RowKit Go.Proofs.Tryz
variable{b e:Nat}
theorem Vl:∀(d:rF) (o:Nat) (w:rq) (c:Array rt),w.heap[b]?=some (.cells c e (0,0))->∃a,(w.setCells b o d).heap[b]?=some (.cells a e (0,0))/\a.size=c.size
 | [],_,_,c,h=>⟨c,h,rfl⟩
 | v::d,o,w,c,h=>by
  obtain⟨a,c,e⟩:=Vl d (o+1) (w.setCell (b,o) v) _<|zc h;exact⟨a,c,by rw[e];simp⟩
theorem Vk:∀(a:rF) (o:Nat) (w:rq),DO (λg=>g=b) w (w.setCells b o a)
 | [],_,w=>DO.refl _ _
 | v::a,o,w=>((DO.refl (λg=>g=b) w).setCell (p:=(b,o)) rj v).trans<|Vk a (o+1) _
variable{cap g o:Nat}{w:rq}{xs:rF}
def EK.oy{a n:Nat}{c:Array rt}(d:w.heap[g]?=some (.cells c e (0,0)))(l:xs.length=n*a)(f:n<=cap)(p:cap<=maxLen)(h:(o+cap)*a<=c.size)(q:∀j u,xs[j]?=some u->w ⟨g,o*a+j,none⟩=some u):EK w e a (.slice (g,o*a) n cap) n xs:=by
 have e:o*a+n*a<=c.size:=by
  have:n*a<=cap*a:=Bm _ f;rw[DH]at h;omega
 refine⟨l,.inr ⟨g,o,cap,c,rfl,d,f,p,h,?_⟩⟩;apply List.ext_getElem?;intro j;by_cases a:j<xs.length
 .have c:=q j xs[j]<|AJ a;rw[AJ a,<-c];rw[CD,AM I,BA];unfold World.cell?;simp only[d];simp
 rw[By (by rw[AU];omega),By I]
variable{v:rt}
def EK.cells{a n:Nat}(h:EK w e a v n xs)(d:v=.slice (g,o) n cap):∀j u,xs[j]?=some u->w ⟨g,o+j,none⟩=some u:=by
 intro j u c;rcases h.2 with⟨rfl,rfl⟩|⟨o,q,e,f,rfl,l,_,_,s,p⟩
 .cases d
 cases d;have d:j<n*a:=by
  have:=(AO.1 c).1;rw[h.1]at this;exact this
 rw[<-p,CD,AM d,BA]at c;unfold World.cell?;simp only[l];simpa using c
def KO(w:rq)(v v':rt):Prop:=∀g,Value.mu v'=some g->Value.mu v=some g\/w.heap.size<=g
def jV{a n:Nat}(h:w.ownsRow 0 e a v n xs):EK w e a v n xs:=by
 refine⟨h.1,?_⟩;rcases h.2 with⟨rfl,rfl⟩|⟨g,c,d,rfl,_,f,l,o,p,q⟩
 .exact .inl ⟨rfl,rfl⟩
 exact .inr ⟨g,0,c,d,lm,f,l,o,by rw[Aw];exact Az p.symm,rB q⟩
def jU:(prog.info? 65).map (λi=>(i.zero,i.size,i.bytes))=some (some (.agg #[.int .i64 0,.int .i64 0,.int .u64 0,.int .u64 0,.int .u64 0,.bool false,.int .u64 0,.int .u64 0,.string ⟨#[]⟩,.slice none 0 0]),10,104):=kw
def Yg(w:rq)(v:rt)(n:Nat)(xs:rF)(f:DV)(h:EK w 65 10 v n xs)(hl:n<=1099511627776):∃d w',(∀z,(Builtin.append_ #[54,54] z #[v,.slice w 1 1]).run prog (w.alloc (.cells (zj f ru) 65))=.ok d w') /\
   EK w' 65 10 d (n+1) (xs++(zj f ru).toList)/\DO (λg=>Value.mu v=some g) w w'/\KO w v d:=by
 obtain⟨i,t,T,p,A⟩:=info_parts jU;obtain⟨o,s⟩:=nm<|Obj.cells (zj f ru) 65;have e:∀(j:Nat) u,(zj f ru).toList[j]?=some u->(w.alloc o) ((⟨w.heap.size,0,none⟩:Addr).add j)=some u:=by
  intro j u l;rw[zX,<-s];refine za (heap_alloc_new w _) ?_;rw[Aw,<-Array.getElem?_toList];exact l
 have N:∀u∈(zj f ru).toList,u.oneCell'=true:=by
  intro u K;simp[zj]at K;rcases K with rfl|rfl|rfl|rfl|rfl|rfl|rfl|rfl|rfl|rfl<;>rfl
 have a:(zj f ru).toList.length=1*10:=rfl;rw[s];have B:=(DO.refl DQ w).alloc o;have s:(w.alloc o).heap.size=w.heap.size+1:=lm;rcases h.2 with⟨rfl,rfl⟩|⟨g,c,cap,q,rfl,E,s,X,Y,v⟩
 .have Z:=Ai<|rB h.1;subst Z;obtain⟨d,w',s,O,v,k4⟩:=zN (P:=prog) (w.alloc o) 54 65 i _ 10 104 underlying54 t T p A rfl lc ru 0 [] (World.ownsRow_nil _ 0 _ 10)
   ⟨w.heap.size,0,none⟩ 1 1 _ a e N lw I
  refine⟨d,w',s,jV O,(B.mono rm).trans<|(DO.refl _<|w.alloc o).grown v (λk hk=>by cases hk),λg E=>?_⟩;rcases k4 g (QP O E)with x|x
  .cases x
  exact .inr I
 have d:=p;have s:=B.obj rk E;have v:=(h.mod B<|λ_ _ x=>x).cells (g:=g) (o:=c*10) (cap:=cap) rfl;have p:=h.1;by_cases h:n+1<=cap
 .have hb:∀j,j<10->c*10+n*10+j<q.size:=λj l=>by
   have:(c+(n+1))*10<=(c+cap)*10:=Bm _ I;omega
  have K:=λz=>run_append_room_cells (P:=prog) (w.alloc o) 54 z 65 i underlying54 t g (c*10) n cap ⟨w.heap.size,0,none⟩ 1 1 _ (by rw[d];exact a) e N h
   (λj l=>by
    rw[d,za s (C6<|hb j l)];rfl) (λj _=>zg s)
  rw[d]at K;obtain⟨E,N,O⟩:=Vl (zj f ru).toList (c*10+n*10) (w.alloc o) q s;refine⟨_,_,K,?_,(B.mono rm).trans<|(Vk _ _ _).mono<|λq E=>.inl<|by rw[E];rfl,λq E=>.inl E⟩;refine EK.oy N (by rw[AG,p,a];omega) h X (by rw[O];exact Y)<|λj u l=>?_;by_cases h:j<xs.length
  .rw[Al h]at l;rw[World.cell?_setCells_out g _ _ _ _ (λ_ _=>.inl<|by show c*10+j<_;omega)];exact v j u l
  rw[Aa I]at l;have h:=(AO.1 l).1;have:=World.cell?_setCells_in g (zj f ru).toList (c*10+n*10) (w.alloc o) (λj l=>by rw[za s (C6<|hb j l)];rfl) (j-xs.length) h;rw[(I:c*10+j=c*10+n*10+(j-xs.length)),this,<-l];rw[AJ h]
 have K:=λz=>run_append_grow (P:=prog) (w.alloc o) 54 z 65 i _ underlying54 t T ⟨g,c*10,none⟩ n cap xs (by rw[d];exact p) (λj u l=>by rw[zX];exact v j u l)
  ⟨w.heap.size,0,none⟩ 1 1 _ (by rw[d];exact a) e I I (growslice_fits I<|by rw[A];omega)
 have c:=grownCap_ge (w.alloc o) (n+1) cap 65;have d:grownCap (w.alloc o) (n+1) cap 65<=maxLen:=grownCap_le_maxLen (w.alloc o) (n+1) cap _ lw;refine⟨_,_,K,⟨by rw[AG,p,a];omega,.inr ⟨(w.alloc o).heap.size,0,_,_,lm,heap_alloc_new (w.alloc o).drew _,c,d,?_,?_⟩⟩,((B.mono rm).drew).alloc _,λq E=>.inr<|by simp[Value.mu]at E;omega⟩
 .simp only[C8,An,size_zeroCells,p,a];have:(Value.agg #[.int .i64 0,.int .i64 0,.int .u64 0,.int .u64 0,.int .u64 0,.bool false,.int .u64 0,.int .u64 0,.string ⟨#[]⟩,.slice none 0 0]).cells.size=10:=rfl;rw[this];omega
 simp only[Cz,Ap,CP,B6];rw[<-List.append_assoc];have e:(xs++(zj f ru).toList).length=(n+1)*10:=by rw[AG,p,a];omega
 rw[<-e];exact BQ
def kV(l:List DV)(f:DV):zs (l++[f])=zs l++(zj f ru).toList:=by
 simp[zs]
theorem Js(l:List DV):(zs l).length=l.length*10:=by
 induction l with
 | nil=>rfl
 | cons f l ih =>
  have:zs (f::l)=(zj f ru).toList++zs l:=by simp[zs]
  rw[this,AG,ih,AS];have e:(zj f ru).toList.length=10:=rfl;omega
variable{V:CV}{W W1 W2:rq}{c:CS}{f:DV}{i:Nat}{tag:rD}{v':rt}
def zi.oo(h:zi tag i b c V W)(o:Dm tag W)(hi:0<i)(m0:DO DQ W W1)(u:EK W2 65 10 v' (c.waits.length+1) (zs c.waits++(zj f ru).toList))(m:DO (λg=>Value.mu V.wt=some g) W1 W2)(v:KO W1 V.wt v'):Dk tag i b W { c with waits:=c.waits++[f] } (W2.setCell (b,238) v'):=by
 have s:=(m0.mono rm).trans m;have hb:∀g,Value.mu V.wt=some g->g≠b:=λg a e=>zi.apart (h.ni g a) (e ▸ h.tb) lc rfl
 have d:∀{g r:Nat},tag g=(i,r)->g<W.heap.size:=λa=>EZ o a hi
 have z:=s.obj (λx=>hb b x rfl) h.obj;have o:=m0.size;have o:=m.size;have t:∀g,Value.mu v'=some g->g≠b:=λg a e=>by
  rcases v g a with x|x
  .exact hb g x e
  have:=d h.tb;omega
 have l:∀g,Value.mu v'=some g->g<W2.heap.size:=λg a=>by
  rcases u.2 with⟨rfl,_⟩|⟨B,o,e,A,rfl,q,_⟩
  .simp[Value.mu]at a
  simp[Value.mu]at a;subst a;exact(AI.1 q).1
 have o:DO (λg=>g=b) W2 (W2.setCell (U b 238) v'):=(DO.refl (λg=>g=b) _).setCell (p:=U b 238) rj _;have e:DO (λg=>Value.mu V.wt=some g\/g=b) W (W2.setCell (U b 238) v'):=(s.mono<|λg a=>.inl<|.inl a).trans<|o.mono<|λg a=>.inl<|.inr a;refine⟨zQ tag W W2 (i,6),{ V with wt:=v' },?_,?_,e.mono<|λg a=>.inl ?_⟩
 .refine h.build (R:=λr=>r=1\/r=6) e (λg a=>?_) (λg a=>zD<|d (r:=(tag g).2)<|by rw[<-a]) ?_ rY (λq e=>.inl rW) (λq e=>.inl rW) (λq e=>.inl rW) (λq e=>.inl rW) (λq e=>.inl rW) rY (.inr ⟨?_,λg a=>?_⟩) rV rV
  .rcases a with a|a
   .exact⟨6,.inr rfl,h.ni g a⟩
   exact⟨1,.inl rfl,by rw[a,h.tb]⟩
  .rw[zc z,Ao];rw[show(238:Nat)=233+5 from rfl,GA c { c with waits:=c.waits++[f] } V { V with wt:=v' } _ rfl rfl rfl rfl]
  .rw[AG,Ac,kV];exact u.mod o<|λg a x=>t g a x
  rcases v g a with y|y
  .rw[zD (d<|h.ni g y),h.ni g y]
  exact GM I<|l g a
 .have:=JA (i:=i) (r:=6) (tag:=tag) s.size;exact⟨this.mL,this.new,λg a=>this.z g<|rB a⟩
 rcases a with a|a
 .rw[h.ni g a]
 rw[a,h.tb]
def Dk.after(a:Dm tag W)(m:DO (λg=>(tag g).1=i) W W1)(h:Dk tag i b W1 c W2):Dk tag i b W c W2:=by
 obtain⟨ky,c,d,e,f⟩:=h;exact⟨ky,c,d,(Di.same a m).trans e m.size,m.trans f⟩
def jc(h:zi tag i b c V W)(id:Nat):zi tag i b { c with mI:=true,l8:=id } V ((W.setCell (b,240) (.bool true)).setCell (b,239) (.int .u64 id)):=by
 have a:zi tag i b { c with mI:=true } V (W.setCell (U b 240)<|.bool true):=h.store (233+7) _ (GA c { c with mI:=true } V V _ rfl rfl rfl rfl) ⟨rfl,λ_ _=>⟨rfl,rfl,rfl⟩,λ_ _=>⟨rfl,rfl⟩,rfl,rfl,rfl,rfl⟩;exact a.store (233+6) _ (GA { c with mI:=true } { c with mI:=true,l8:=id } V V _ rfl rfl rfl rfl) ⟨rfl,λ_ _=>⟨rfl,rfl,rfl⟩,λ_ _=>⟨rfl,rfl⟩,rfl,rfl,rfl,rfl⟩
def jx(h:zi tag i b c V W)(ht:Dm tag W)(hi:0<i)(id f:Nat)(a:Addr)(cap:Nat)(s:rC)(u:BR W (.slice (some a) s.length cap) s)(ab:tag a.block=(0,0))(hm:c.lZ<=65536)(aR:s.length<=1099511627776)(aJ:c.waits.length<=1099511627776):rT 124 #[(b,0),id,f,.slice (some a) s.length cap] W (EI tag i b W (EJ (c.lH id f s).1) (c.lH id f s).2):=by
 have H0:=zb<|h.left ht rp;have HH:=zb h;have HT:=zb ht;have c2:=h.hd (j:=4) rfl;have c0:=h.hd (j:=0) rfl;have c3:=h.hd (j:=3) rfl;have af:W (b,238)=some V.wt:=h.tl (j:=5) rfl;have ar:W (b,239)=some (.int .u64 c.l8):=h.tl (j:=6) rfl;have au:W (b,240)=some (.bool c.mI):=h.tl (j:=7) rfl;have fz:=λp=>h.fz p
 have aA:∀p v p',(W.setCell ⟨b,p,none⟩ v).frozen? ⟨b,p',none⟩=false:=λp v p'=>zg<|zc h.obj
 obtain⟨ag,ah,l⟩:=Uz h.wt;rw[l]at af;obtain⟨NW,o⟩:=nm c.waits.length;obtain⟨mt,z⟩:=nm c.lZ;obtain⟨nw,q⟩:=nm c.now;obtain⟨li,A⟩:=nm c.l8;obtain⟨an,t⟩:=nm c.mI;rw[o]at af;rw[z]at c0 hm;rw[q]at c3;rw[A]at ar;rw[t]at au;have aK:=zb l;have aL:=zb u;have aM:AA (Dj (λg=>g=b)<|.slice (some a) s.length cap):=zb (Gr λg hg x=>by
  have x:=x;simp[Value.mu]at hg;rw[hg,x,h.tb]at ab;simp at ab)
 have aB:AA (Dj (λg=>Value.mu V.wt=some g)<|.slice (some a) s.length cap):=zb (Gr λg hg x=>by
  have O:=h.ni g x;simp[Value.mu]at hg;rw[hg,O]at ab;simp at ab)
 clear ab;have ym:IntKind.i64.wrap ((mt:Int)-40)=(mt:Int)-40:=IntWalk.i64_in _ I;by_cases e:c.closed=0;rotate_left
 .have B:AA (c.lH id f s=(12,c)):=by
   show _=_;unfold CS.lH;rw[AM e]
  rw[B.z];have dc:((c.closed:Int)==0)=false:=AR.2 I;clear h ht u l e o z q A t;go_enter func124,ntmps124;go_wp2_with fail;go_ret;exact⟨rfl,H0.z⟩
 rw[e]at c2;by_cases O:zF<id
 .have B:AA (c.lH id f s=(5,c)):=by
   show _=_;unfold CS.lH;rw[AH (rB e),AM (.inl O)]
  rw[B.z];have d1:(4611686018427387903:Int)<id:=by unfold zF at O;omega
  clear h ht u l e o z q A t O;go_enter func124,ntmps124;go_wp2_with fail;go_ret;exact⟨rfl,H0.z⟩
 have d1:¬(4611686018427387903:Int)<id:=by unfold zF at O;omega
 by_cases h2:zF<f
 .have B:AA (c.lH id f s=(5,c)):=by
   show _=_;unfold CS.lH;rw[AH (rB e),AM (.inr<|.inl h2)]
  rw[B.z];have d2:(4611686018427387903:Int)<f:=by unfold zF at h2;omega
  clear h ht u l e o z q A t O h2;go_enter func124,ntmps124;go_wp2_with fail;go_ret;exact⟨rfl,H0.z⟩
 have d2:¬(4611686018427387903:Int)<f:=by unfold zF at h2;omega
 by_cases h3:c.mI=true/\id<=c.l8
 .have B:AA (c.lH id f s=(5,c)):=by
   show _=_;unfold CS.lH;rw[AH (rB e),AM (.inr<|.inr h3)]
  rw[B.z];have d3:(id:Int)<=li:=I;have e4:an=true:=by rw[<-t];exact h3.1
  subst e4;clear h ht u l e o z q A t O h2 h3;go_enter func124,ntmps124;go_wp2_with fail;go_ret;exact⟨rfl,H0.z⟩
 have d3:an=false\/(an=true/\¬(id:Int)<=li):=by
  cases an
  .exact .inl rfl
  refine .inr ⟨rfl,λx=>h3 ⟨t,I⟩⟩
 have Z:¬(zF<id\/zF<f\/(c.mI=true/\id<=c.l8)):=by
  rintro(x|x|x)
  .exact O x
  .exact h2 x
  exact h3 x
 by_cases h4:c.lZ<s.length+40
 .have B:AA (c.lH id f s=(6,c)):=by
   show _=_;unfold CS.lH;rw[AH (rB e),AH Z,AM h4]
  rw[B.z];have d4:(mt:Int)-40<s.length:=I;clear h ht u l e o z q A t O h2 h3 Z h4;rcases d3 with rfl|⟨rfl,d3⟩;all_goals
   go_enter func124,ntmps124;go_wp2_with fail;go_ret;exact⟨rfl,H0.z⟩
 have d4:¬(mt:Int)-40<s.length:=I;by_cases h5:c.waits.length=16
 .have B:AA (c.lH id f s=(3,c)):=by
   show _=_;unfold CS.lH;rw[AH (rB e),AH Z,AH h4,AM h5]
  rw[B.z];have e5:NW=16:=I;subst e5;clear h ht u l e o z q A t O h2 h3 Z h4 h5;rcases d3 with rfl|⟨rfl,d3⟩;all_goals
   go_enter func124,ntmps124;go_wp2_with fail;go_ret;exact⟨rfl,H0.z⟩
 have d5:((NW:Int)==16)=false:=AR.2 I;have B:AA (c.lH id f s=(0,{ c with mI:=true,l8:=id,waits:=if c.now<=f then c.waits++[Gs id f s]else c.waits })):=by
  show _=_;unfold CS.lH;rw[AH (rB e),AH Z,AH h4,AH h5]
 rw[B.z];obtain⟨ai,ac⟩:=nm<|(if c.now<=f then c.waits++[Gs id f s]else c.waits);rw[ac];have T:=zb ac;clear ac B;have aa:=jc h id;obtain⟨X,aj⟩:=nm<|(W.setCell (U b 240)<|.bool true).setCell (U b 239)<|.int .u64 id;rw[aj]at aa;have m2:DO (λg=>g=b) W X:=by
  rw[<-aj];exact((DO.refl (λg=>g=b) W).setCell (p:=U b 240) rj _).setCell (p:=U b 239) rj _
 have B:=zb aa;have M2:=zb m2;have aC:=zb aj;have aS:=zb e;have ak:=zb o;have Y:=zb q;have aD:X (b,3)=some (.int .u64 nw):=by rw[<-q];exact aa.hd (j:=3) rfl
 have am:X (b,238)=some (.slice ag NW ah):=by rw[<-o,<-l];exact aa.tl (j:=5) rfl
 have aE:=λp=>aa.fz p
 have ad:=zb<|And.intro aD<|And.intro am aE;clear h ht u l e o z q A t O h2 h3 Z h4 h5 aa m2 aj aD am aE;have e:∀{w:rq},DO (λg=>g=b) W w->BR w (.slice (some a) s.length cap) s:=λm=>BR.mod aL.z m<|aM.z
 have ae:=zb<|e M2.z;clear e;obtain⟨l,W3,DY,av,m3,aF⟩:=Yg X.drew V.wt NW (zs c.waits) (Gs id f s) (by rw[<-ak.z];exact(B.z.lK (DO.refl DQ X).drew).wt) (by rw[<-ak.z];exact aJ);have aw:∀g,Value.mu V.wt=some g->g≠b:=λg hg e=>zi.apart (B.z.ni g hg) (e ▸ B.z.tb) lc rfl
 have aG:AA (Dk tag i b W { c with mI:=true,l8:=id,waits:=c.waits++[Gs id f s] }<|W3.setCell (U b 238) l):=by
  have O:=B.z.oo (HT.z.mod M2.z) hi ((DO.refl DQ X).drew) (by rw[ak.z];exact av) m3 aF;exact O.after HT.z<|M2.z.mono<|λg hg=>.inl<|by rw[hg,B.z.tb]
 have aH:=zb (B.z.left HT.z (M2.z.mono (λg hg=>.inl (by rw[hg,B.z.tb]))));have ao:=m3.cell (a:=U b 238) (λx=>aw b x rfl) ad.z.2.1;have f3:∀p,W3.frozen? ⟨b,p,none⟩=false:=λp=>zg<|m3.obj (λx=>aw b x rfl) ((B.z.lK (DO.refl DQ X).drew)).obj
 have ap:=zb<|BR.mod ae.z (((DO.refl DQ X).drew.mono rm).trans m3)<|aB.z;have al:=zb<|And.intro ao f3;rw[aK.z,ak.z]at DY;obtain⟨aN,aO,aI⟩:∃o p,l=.slice o (NW+1) p:=by
  rcases av.2 with⟨_,e⟩|⟨g,o,p,l,e,_⟩
  .omega
  exact⟨_,_,e⟩
 subst aI;have aq:AA (∀e,(Builtin.append_ #[54,54] e #[.slice ag NW ah,.slice X.drew 1 1]).run prog (X.drew.alloc<|.cells #[.int .i64 7,.int .i64 0,.int .u64 0,.int .u64 0,.int .u64 0,false,id,f,.string<|zu s,.slice none 0 0] 65)=.ok (.slice aN (NW+1) aO) W3):=DY;clear DY av m3 aF aw ao f3;rcases d3 with rfl|⟨rfl,d3⟩
 .go_enter func124,ntmps124;go_upto_region 10 with fail;all_goals first|(exfalso;omega)|skip
  try rw[aC.z]
  obtain⟨w3,ax,wf⟩:=ad.z;clear c0 c2 c3 af ar au fz aA;by_cases h6:nw<=f
  .have d6:(nw:Int)<=f:=I;have N:ai=c.waits++[Gs id f s]:=by
    rw[<-T.z,AM (by rw[Y.z];exact h6)]
   subst N;clear h6;go_upto_region 11 with fail;refine zn 14 (λw'=>w' (U b 238)=some (.slice ag NW ah)/\BR w' (.slice (some a) s.length cap) s) (⟨ax,ae.z⟩) ?_;refine GI 0 ?_;iterate 8
    refine GV rfl ?_;try simp only[PS]
   refine H9 (i:=8) (v:=.string<|zu s) rfl kw (λ_ _ _ h=>h) (Or.inl ⟨by rfl,?_⟩) ?_
   ·(intro wx d;(try dsimp only at d);have aP:=Ii d.2;go_simp;try with_reducible rfl)
   try simp only[PS]
   refine H9 (i:=9) (v:=.agg #[.int .i64 7,.int .i64 0,.int .u64 0,.int .u64 0,.int .u64 0,.bool false,.int .u64 id,.int .u64 f,.string<|zu s,.slice none 0 0]) rfl kw (λ_ _ _ h=>h) (Or.inl ⟨by rfl,?_⟩) ?_
   ·(intro wx d;(try dsimp only at d);go_simp;try with_reducible rfl)
   try simp only[PS]
   refine zz 10 rfl (λK E=>?_);go_simp;refine E.z _ _ ⟨((DO.refl DQ X.drew).alloc _).cell (a:=U b 238) rk ad.z.2.1,BR.mod ae.z (((DO.refl DQ X).drew).alloc _)<|λ_ _ _ _ _ x=>x⟩ ?_;clear E K;try simp only[PS]
   refine zz 11 rfl (λK E=>?_);refine zL rfl _ _ _ _ rfl _ _ _ rfl rfl aq.z ?_;refine E.z _ _ ⟨al.z.1,ap.z⟩ ?_;clear E K;try simp only[PS]
   refine GI 12 ?_;iterate 2
    refine GV rfl ?_;try simp only[PS]
   refine zY rfl (λK E=>?_);obtain⟨aQ,f3⟩:=al.z;go_simp;refine E.z _ _ ?_;clear E K;try simp only[PS]
   refine zq ?_;go_wp2_with fail;go_ret;exact⟨rfl,aG.z⟩
  have d6:¬(nw:Int)<=f:=I;have N:ai=c.waits:=by
   rw[<-T.z,AH (by rw[Y.z];exact h6)]
  subst N;clear h6;go_wp2_with fail;all_goals first|(exfalso;omega)|skip
  go_ret;exact⟨rfl,aH.z⟩
 go_enter func124,ntmps124;go_upto_region 10 with fail;all_goals first|(exfalso;omega)|skip
 try rw[aC.z]
 obtain⟨w3,ax,wf⟩:=ad.z;clear c0 c2 c3 af ar au fz aA;by_cases h6:nw<=f
 .have d6:(nw:Int)<=f:=I;have N:ai=c.waits++[Gs id f s]:=by
   rw[<-T.z,AM (by rw[Y.z];exact h6)]
  subst N;clear h6;go_upto_region 11 with fail;refine zn 14 (λw'=>w' (U b 238)=some (.slice ag NW ah)/\BR w' (.slice (some a) s.length cap) s) (⟨ax,ae.z⟩) ?_;refine GI 0 ?_;iterate 8
   refine GV rfl ?_;try simp only[PS]
  refine H9 (i:=8) (v:=.string<|zu s) rfl kw (λ_ _ _ h=>h) (Or.inl ⟨by rfl,?_⟩) ?_
  ·(intro wx d;(try dsimp only at d);have aP:=Ii d.2;go_simp;try with_reducible rfl)
  try simp only[PS]
  refine H9 (i:=9) (v:=.agg #[.int .i64 7,.int .i64 0,.int .u64 0,.int .u64 0,.int .u64 0,.bool false,.int .u64 id,.int .u64 f,.string<|zu s,.slice none 0 0]) rfl kw (λ_ _ _ h=>h) (Or.inl ⟨by rfl,?_⟩) ?_
  ·(intro wx d;(try dsimp only at d);go_simp;try with_reducible rfl)
  try simp only[PS]
  refine zz 10 rfl (λK E=>?_);go_simp;refine E.z _ _ ⟨((DO.refl DQ X.drew).alloc _).cell (a:=U b 238) rk ad.z.2.1,BR.mod ae.z (((DO.refl DQ X).drew).alloc _)<|λ_ _ _ _ _ x=>x⟩ ?_;clear E K;try simp only[PS]
  refine zz 11 rfl (λK E=>?_);refine zL rfl _ _ _ _ rfl _ _ _ rfl rfl aq.z ?_;refine E.z _ _ ⟨al.z.1,ap.z⟩ ?_;clear E K;try simp only[PS]
  refine GI 12 ?_;iterate 2
   refine GV rfl ?_;try simp only[PS]
  refine zY rfl (λK E=>?_);obtain⟨aQ,f3⟩:=al.z;go_simp;refine E.z _ _ ?_;clear E K;try simp only[PS]
  refine zq ?_;go_wp2_with fail;go_ret;exact⟨rfl,aG.z⟩
 have d6:¬(nw:Int)<=f:=I;have N:ai=c.waits:=by
  rw[<-T.z,AH (by rw[Y.z];exact h6)]
 subst N;clear h6;go_wp2_with fail;all_goals first|(exfalso;omega)|skip
 go_ret;exact⟨rfl,aH.z⟩
def jw(h:zi tag i b c V W)(E:D0 i tag W)(id f:Nat)(s:rC)(hm:c.lZ<=65536)(z:s.length<=1099511627776)(A:c.waits.length<=1099511627776):rT 72 #[(b,0),id,f,.string (zu s)] W (EI tag i b W (.int .i64 ((c.lH id f s).1:Int)) (c.lH id f s).2):=by
 obtain⟨a,W1,B,d,t,l,o⟩:=RF W s I;have Z:=jx (h.lK t) (E.ok.mod t) E.pos id f ⟨W.heap.size,0,none⟩ a s d (E.ok _ ro) hm z A;have K:s.length<=a/\a<=maxLen:=by
  obtain⟨_,_,e,N,u,_⟩:=d;cases e;exact⟨N,u⟩
 obtain⟨e,a⟩:=K;unfold maxLen at a;have q:=zb E;have M1:=zb t;have HB:=zb o;have HS:=zb l;clear h E d t o l;go_enter func72,ntmps72;go_wp2_with fail;refine Z.mono ?_;rintro _ W2 ⟨rfl,O⟩;clear Z;obtain⟨ky,a,N,u,d⟩:=_root_.id O;have e:=(q.z.lK M1.z).left u d;have a:=HB.z.mod d (λx=>by
  have:=q.z.ok W.heap.size ro;rw[this]at x;have:=q.z.pos;simp at x;omega)
 have kn:=Kw (c.lH id f s).1 W2 e.err;have HL:=zb O;have T:=zb a;clear O N u d e a B;go_wp2_with fail;refine kn.mono ?_;rintro _ W3 ⟨rfl,X⟩;have a:=zb<|T.z.mod X rk;have Y:=zb<|HL.z.mf X;clear X kn;go_wp2_with fail
 go_loopw [22] (λc wr=>∃j:Nat,j<=s.length/\c=.int .i64 j/\H8 wr W.heap.size s.length/\DO (λg=>g=W.heap.size) W3 wr) (λc _=>s.length-(intOf c).toNat)
 case atStart=>exact⟨0,AN _,rfl,a.z,DO.refl _ _⟩
 case round =>
  obtain⟨j,a,rfl,v,m⟩:=hrel;by_cases a:j<s.length
  .obtain⟨⟨c,d⟩,e⟩:=v.cell a;have a:=zb<|v.set j<|.int .u8 33;have c:=zb<|m.setCell (p:=(W.heap.size,j)) rj<|.int .u8 33;clear v m;go_wp2_with fail;go_roundw
   case rel=>exact⟨j+1,I,by go_num,a.z,c.z⟩
   simp[intOf];omega
  have H:=zb (Y.z.thenS q.z.ok q.z.pos M1.z m (λg a=>by
   have a:=a;have:=HS.z;omega))
  clear v m;go_wp2_with fail;go_ret;exact⟨rfl,H.z⟩
def YX(w:rq):OB (w.alloc (.cells #[] 5)) (.slice w 0 0) []:=by
 refine⟨rfl,.inr ⟨w.heap.size,0,#[],rfl,AN _,heap_alloc_new w _,AF _,AN _,lm,by simp[zW]⟩⟩
def KM(l:rC)(w:rq)(e:Ending)(w':rq):Prop:=∃a,e=.returned a/\OB w' a l/\DO DQ w w'/\∀g,a.ownBlock=some g->w.heap.size<=g
theorem dM(v:rt)(l:rC)(w:rq)(h:BR w v l)(o:l.length<=1099511627776):rT 92 #[v] w (KM l w):=by
 obtain⟨a,c,rfl,q,s,p⟩:=id h;cases a with
 | none =>
  have f:l=[]:=by
   cases l with
   | nil=>rfl
   | cons x l =>
    obtain⟨g,o,e,_⟩:=p 0 x rfl;cases e
  subst f;have u:=_root_.Go.run_eql_slice_nil w 60 _ none 0 c (P:=prog) underlying60;clear h q s p;go_enter func92,ntmps92;go_wp2_with fail;go_ret;exact⟨_,rfl,OB.nil _,DO.refl _ _,λg d=>by cases d⟩
 | some a =>
  obtain⟨W1,e⟩:=nm<|w.alloc<|.cells #[] 5;have f:=AB e;have o:OB W1 (.slice w 0 0) []:=by rw[<-e];exact YX w
  obtain⟨t,w',DY,e⟩:=P8 W1 (.slice w 0 0) [] a c l o (BR.mod h f<|λ_ _ _ _ _ x=>x) ls;have H:AA (KM l w (.returned t) w'):=zb ⟨t,rfl,e.own,((f.mono rm).then ((DO.refl (λg=>(Value.slice w 0 0).ownBlock=some g) W1).grown e.grown<|λg d=>.inl d) (λg d=>.inr (by
   simp[Value.ownBlock]at d;omega))),λg d=>by
    rcases e.at_ g d with x|x
    .simp[Value.ownBlock]at x;omega
    have:=f.size;omega⟩
  have u:=_root_.Go.run_eql_slice_nil w 60 _ (some a) l.length c (P:=prog) underlying60;clear h q s p f o e;go_enter func92,ntmps92;go_wp2_with (at_builtin;refine zo rfl _ _ _ _ rfl _ _ _ rfl rfl DY ?_);go_ret;exact H.z
def PI(tag:rD)(i b:Nat)(W:rq)(l:List (Nat×rC))(c':CS)(e:Ending)(W':rq):Prop :=
 ∃v a,e=.returned v/\W'.ownsRow 0 154 2 v l.length (E1 l)/\(∀g,v.ownBlock=some g->tag g=(i,8))/\zi tag i b c' a W'/\a.cm=.slice none 0 0/\DO (λg=>g=b) W W'
def fQ(h:zi tag i b c V W):rT 67 #[(b,0)] W (PI tag i b W c.lO.1 c.lO.2):=by
 have e:W (b,243)=some V.cm:=h.tl (j:=10) rfl;have fz:=h.fz 243;obtain⟨a,d,f,_⟩:=zk h.cm;have m:DO (λg=>g=b) W (W.setCell (U b 243)<|.slice none 0 0):=(DO.refl (λg=>g=b) W).setCell (p:=U b 243) rj _;have H:AA (PI tag i b W c.lO.1 c.lO.2 (.returned V.cm)<|W.setCell (b,243)<|.slice none 0 0):=by
  refine zb ⟨V.cm,{ V with cm:=.slice none 0 0 },rfl,m.owns h.cm<|λg a x=>zi.apart (h.oE g a) (x ▸ h.tb) lc rfl,h.oE,?_,rfl,m⟩;refine h.build (R:=λr=>r=1) m (λg a=>⟨1,rfl,by rw[a,h.tb]⟩) (λ_ _=>rfl) ?_ rY (λk d=>.inl rW) (λk d=>.inl rW) (λk d=>.inl rW) (λk d=>.inl rW) (λk d=>.inl rW) rY rV rV (.inr ⟨World.ownsRow_nil _ 0 _ 2,λg a=>by simp[Value.ownBlock]at a⟩);rw[zc h.obj,Ao];rw[show(243:Nat)=233+10 from rfl,GA c c.lO.2 V { V with cm:=.slice none 0 0 } _ rfl rfl rfl rfl]
 rw[f]at e H;clear h m f;go_enter func67,ntmps67;go_wp2_with fail;go_ret;exact H.z
structure MH(x:RS):Prop where
 len:x.b.length<=1099511627776
 lo:x.read<=(Dd x.lC.rs x.read x.high).1
 hi:(Dd x.lC.rs x.read x.high).1<=x.b.length
 top:∀k,k<x.lC.rs.length->DP x.lC.rs k<9223372036854775808
 rl:x.lC.rs.length<=1099511627776
 lG:x.lG<=zF
 fin:x.fin<=zF
def MH.to{x:RS}(h:MH x)(a:Nat):x.read<=x.lp a/\x.lp a<=x.b.length:=by
 have a:=h.lo;have b:=h.hi;unfold RS.lp;split<;>omega
def MG(tag:rD)(i b:Nat)(W:rq)(s:rC)(st er:Nat)(c':CS)(e:Ending)(W':rq):Prop :=
 ∃a,e=.returned (.tuple #[a,[st],EJ er])/\OB W' a s/\(∀g,a.ownBlock=some g->W.heap.size<=g)/\∃c,zi tag i b c' c W'/\DO (λg=>g=b) W W'
variable{k:Nat}
def zi.qp(h:zi tag i b c V W)(a:k<8)(d:(c.rs k).lC.rs.length<=1099511627776):Eh W b (129+13*k+1) (V.rc k) (c.rs k).lC.rs (c.rs k).lC.fl (c.rs k).lC.most :=
 ⟨h.r (j:=1) a rfl,h.r (j:=2) a rfl,h.r (j:=3) a rfl,h.rc k a,d,λj=>h.fz j⟩
def eG(h:zi tag i b c V W)(k d:Int)(hm:d<=9223372036854775807)(ok:∀k,k<8->MH (c.rs k)):rT 52 #[(b,0),.int .i64 k,[d]] W (MG tag i b W (c.read k d).1.1 (c.read k d).1.2.1 (c.read k d).1.2.2 (c.read k d).2):=by
 have ks:=PW h k;unfold CS.read;by_cases Y:c.stream k=0;rotate_left
 .obtain⟨n,hn⟩:=nm<|c.stream k;have H0:AA (MG tag i b W [] 0 n c (.returned<|.tuple #[.slice none 0 0,.int .i64 0,EJ n]) W):=zb ⟨_,rfl,OB.nil _,λg hg=>by simp[Value.ownBlock]at hg,V,h,DO.refl _ _⟩;rw[hn]at ks Y;simp only[hn,Y,ne_eq,Av,A9];rw[JD Y]at ks H0;clear h hn Y ok;go_enter func52,ntmps52;go_wp2_with (go_at_call 90;refine ks.mono ?_;rintro _ _ ⟨rfl,rfl⟩);go_ret3;exact H0.z
 obtain⟨k0,k8,-⟩:=Md Y;obtain⟨q,rfl⟩:∃q:Nat,k=(q:Int):=⟨k.toNat,I⟩;have T:q<8:=I;rw[Y]at ks;simp only[Y,Ad,ne_eq,CI,BZ];have HH:=zb h;have f:=ok q T;obtain⟨x,hx⟩:=nm<|c.rs q;have HX:=zb hx;have r0:W (b,129+q*13)=some (V.rb q):=by rw[AL];exact h.r (j:=0) T rfl
 obtain⟨ra,rc,am,_⟩:=zk<|h.rb q T;rw[am]at r0;have r4:W (b,129+q*13+4)=some (.int .u64 ((c.rs q).high:Int)):=by rw[AL];exact h.r (j:=4) T rfl
 have r5:W (b,129+q*13+5)=some (.int .u64 ((c.rs q).fin:Int)):=by rw[AL];exact h.r (j:=5) T rfl
 have r6:W (b,129+q*13+6)=some (.bool (c.rs q).ended):=by rw[AL];exact h.r (j:=6) T rfl
 have r7:W (b,129+q*13+7)=some (.bool (c.rs q).cut):=by rw[AL];exact h.r (j:=7) T rfl
 have r8:W (b,129+q*13+8)=some (.int .u64 ((c.rs q).lG:Int)):=by rw[AL];exact h.r (j:=8) T rfl
 have Z:W (b,129+q*13+9)=some (.int .u64 ((c.rs q).read:Int)):=by rw[AL];exact h.r (j:=9) T rfl
 have ad:W (b,129+q*13+10)=some (.int .i64 ((c.rs q).state:Int)):=by rw[AL];exact h.r (j:=10) T rfl
 have kg:=QR (c.rs q).lC.rs (c.rs q).lC.fl (c.rs q).lC.most b (129+13*q+1) (c.rs q).read (c.rs q).high (V.rc q) W.drew ((h.lK (DO.refl DQ W).drew).qp T f.rl) (qr f.lo f.hi f.len) f.top;rw[AL 13 q]at kg;have aa:=f.to d.toNat;have ab:=(h.rb q T).br;rw[am]at ab;rw[hx]at r0 r4 r5 r6 r7 r8 Z ad f kg aa ab ⊢;have d1:(q:Int)<8:=I;have d0:(0:Int)<=q:=I;by_cases ac:x.state=0;rotate_left
 .rw[AM ac];have d2:((x.state:Int)==0)=false:=AR.2 I;have H0:AA (∀W',DO DQ W W'->MG tag i b W [] x.state 0 c (.returned<|.tuple #[.slice none 0 0,[x.state],EJ 0]) W'):=zb λW' m=>⟨_,rfl,OB.nil _,λg hg=>by simp[Value.ownBlock]at hg,V,h.lK m,m.mono rm⟩
  clear h Y ok f kg aa ab ac hx r0 r4 r5 r6 r7 r8 Z;go_enter func52,ntmps52;go_upto_region 6 with(go_at_call 90;refine ks.mono ?_;rintro _ _ ⟨rfl,rfl⟩;unfold EJ;simp only[A9]);go_quiet (fail);go_wp2_with fail;go_ret3;exact H0.z _<|(DO.refl DQ W).drewN _
 rw[AH (rB ac)];rw[ac]at ad;have av:=zb ac;obtain⟨E,hE⟩:=nm<|x.lp d.toNat;obtain⟨ST,t⟩:=nm<|x.l7 E;rw[hE]at aa;rw[hE,t];obtain⟨s,an⟩:=nm<|(x.b.drop x.read).take<|E-x.read;rw[an];have aI:=zb an;clear an;have HE:=zb hE;have aV:=zb t;have HR:=zb f;obtain⟨hi,ao⟩:=nm x.high;obtain⟨fn,ap⟩:=nm x.fin;obtain⟨en,aq⟩:=nm x.ended;obtain⟨cu,ah⟩:=nm x.cut;obtain⟨kp,ai⟩:=nm x.lG;obtain⟨l,ae⟩:=nm x.read;obtain⟨lo,ar⟩:=nm<|(Dd x.lC.rs x.read x.high).1;obtain⟨N,hN⟩:=nm x.b.length;have b1:=f.lo;have b2:=f.hi;have b3:=f.len;have b4:=f.lG;have b5:=f.fin;unfold zF at b4 b5;rw[ar]at b1 b2 kg;rw[hN]at b2 b3 aa r0 ab;rw[ae]at b1 aa Z;rw[ao]at r4;rw[ap]at r5 b5;rw[aq]at r6;rw[ah]at r7;rw[ai]at r8 b4;rw[ae,ao]at kg;have aj:AA (E=if cu then max l (min (min lo<|l+d.toNat) kp)else min lo (l+d.toNat)):=by
  show _=_;rw[<-hE,RS.lp,ah,ar,ai,ae]
 have af:AA (ST=if cu&&decide (kp<=E)then 2 else if !cu&&en&&E==fn then 1 else 0):=by
  show _=_;rw[<-t,RS.l7,ah,aq,ai,ap]
 have aJ:=zb ae;have HN:=zb hN;have KG:=zb kg;have aw:=zb ab;have fz:=λp=>h.fz p
 clear h Y ok f kg ac hx hE t ao ap aq ah ai ae ar hN ab am;have aK:=zb r0;have aL:=zb r5;have aM:=zb r6;have aN:=zb r7;have aO:=zb r8;have ax:=zb Z;have ay:=zb ad;go_enter func52,ntmps52;go_upto_region 7 with(go_at_call 90;refine ks.mono ?_;rintro _ _ ⟨rfl,rfl⟩;unfold EJ;simp only[A9]);refine zn 17 (λw'=>w' (b,129+q*13+9)=some (.int .u64 l)/\w' (b,129+q*13+4)=some (.int .u64 hi)) (⟨Z,r4⟩) ?_;refine GI 0 ?_;iterate 11
  refine GV rfl ?_;try simp only[PS]
 refine zz 11 rfl (λK hK=>?_);go_simp;refine KG.z.mono ?_;rintro _ W2 ⟨rfl,z⟩;have z:=(DO.refl DQ W).drew.trans z;refine hK.z _ _ ⟨z.cell (a:=⟨b,_,none⟩) id Z,z.cell (a:=⟨b,_,none⟩) id r4⟩ ?_;clear hK K;try simp only[PS]
 refine GI 12 ?_;iterate 5
  refine GV rfl ?_;try simp only[PS]
 refine zq ?_;have q0:=z.cell (a:=⟨b,_,none⟩) id r0;have q5:=z.cell (a:=⟨b,_,none⟩) id r5;have q6:=z.cell (a:=⟨b,_,none⟩) id r6;have q7:=z.cell (a:=⟨b,_,none⟩) id r7;have q8:=z.cell (a:=⟨b,_,none⟩) id r8;have q9:=z.cell (a:=⟨b,_,none⟩) id Z;have aP:=z.cell (a:=⟨b,_,none⟩) id ad;have M2:=zb z;clear r0 r4 r5 r6 r7 r8 Z ad KG z fz;obtain⟨M,hM⟩:=nm d.toNat;rw[hM]at aj;have ag:((M:Int)=d/\0<=d)\/(M=0/\d<0):=I;obtain⟨e0,f⟩:=nm<|min lo<|l+M;have az:=zb f;have x1:IntKind.u64.wrap (M:Int)=(M:Int):=by rw[IntKind.wrap_u64];omega
 have x2:=wu ((l:Int)+M) I;have x5:IntKind.u64.wrap 0=0:=by rw[IntKind.wrap_u64];rfl
 have x6:IntKind.u64.wrap (l:Int)=(l:Int):=by rw[IntKind.wrap_u64];omega
 have x3:IntKind.u64.wrap d=d\/d<0:=by rw[IntKind.wrap_u64];omega
 have x4:IntKind.u64.wrap ((l:Int)+d)=(l:Int)+d\/d<0:=by rw[IntKind.wrap_u64];omega
 rw[f]at aj;clear hM f;go_upto_region 8 with fail
 go_cut [13] (λev wx=>ev=.int .u64 e0/\wx=W2)
 case first=>as_aux_lemma =>
  rcases ag with⟨ag,d⟩|⟨ag,f⟩
  .subst ag;clear x3 x4;go_wp2_with fail;all_goals first|(exfalso;omega)|skip
   all_goals
    go_meet;have h2:=az.z;exact⟨by congr 1;omega,rfl⟩
  subst ag;go_wp2_with fail;all_goals first|(exfalso;omega)|skip
  all_goals
   go_meet;have h2:=az.z;exact⟨by congr 1;omega,rfl⟩
 case rest =>
 obtain⟨rfl,hw⟩:=hcut;have hw:=hw.symm;subst hw;clear x1 x2 x3 x4 x5 x6;go_upto_if 63 with fail
 go_cut [13] (λev wx=>ev=.int .u64 E/\AA (DO DQ W wx))
 case first=>as_aux_lemma =>
  cases cu
  .have h2:E=e0:=aj.z;subst h2;go_wp2_with fail;go_meet;exact⟨rfl,M2⟩
  go_upto_region 10 with fail;go_quiet (fail);go_wp2_with fail;all_goals
   go_meet;have h2:E=max l (min e0 kp):=aj.z;exact⟨by congr 1;omega,zb<|M2.z.drewN _⟩
 case rest =>
 obtain⟨rfl,M3⟩:=hcut;obtain⟨W3,aQ⟩:=nn wc;subst aQ;have Y:(x.b.drop l).take (E-l)=s:=by
  rw[<-aJ.z];exact aI.z
 have aA:s.length=E-l:=by
  rw[<-Y,AU,Ag,HN.z];omega
 have c3:=HH.z.lK M3.z;have r0:=M3.z.cell (a:=⟨b,_,none⟩) id aK.z;have Z:=M3.z.cell (a:=⟨b,_,none⟩) id ax.z;have X:=BR.mod aw.z (M3.z.drew)<|λ_ _ _ _ _ x=>x;have aB:N<=rc/\rc<=9223372036854775807:=by
  obtain⟨d,f,e,q1,q2,_⟩:=X;cases e;rw[HN.z]at q1;unfold maxLen at q2;exact⟨q1,I⟩
 obtain⟨d,f⟩:=aB;have al:∀v,v=.slice (ra.map λx=>x.add l) (E-l) (rc-l)->BR W3.drew v s:=by
  rintro v rfl;rw[<-Y];rw[<-HN.z]at X;exact X.sub<|by rw[HN.z];omega
 have aC:BR W3.drew (.slice (if rc=l then ra else ra.map λx=>x.add l) (E-l)<|rc-l) s:=by
  by_cases e:rc=l
  .rw[AM e];have:s=[]:=Ai I;rw[this,(I:E-l=0),(I:rc-l=0)];exact BR.nil _ ra 0 lw
  rw[AH e];exact al _ rfl
 have aD:=λv d=>dM v s W3.drew d I
 have aE:AA (∀A,DO DQ W3.drew A->∀d,OB A d s->(∀g,d.ownBlock=some g->W3.heap.size<=g) ->
   (ST=0->∀W',DO DQ (A.setCell (b,129+q*13+9)<|.int .u64 E) W'->MG tag i b W s ST 0 { c with rs:=ze c.rs q { x with read:=E,state:=ST } } (.returned<|.tuple #[if s=[]then .slice none 0 0 else d,[ST],.nilIface]) W') /\
   (∀W5,DO DQ (A.setCell (b,129+q*13+9)<|.int .u64 E) W5->∀W',DO DQ (W5.setCell (b,129+q*13+10)<|.int .i64 ST) W'->MG tag i b W s ST 0 { c with rs:=ze c.rs q { x with read:=E,state:=ST } } (.returned<|.tuple #[if s=[]then .slice none 0 0 else d,[ST],.nilIface]) W')):=by
  intro A m4 d ho hn;have c0:zi tag i b { c with rs:=ze c.rs q x } V W3:=by
   rw[<-HX.z,Fd];exact c3
  have aF:=av.z;have c4:=(c0.lK (DO.refl DQ W3).drew).lK m4;have c5:=c4.n8 T 9 lc (.int .u64 E) { x with read:=E } rfl rfl rfl;rw[AL 13 q]at c5;have m5:=λA p v=>(DO.refl (λg=>g=b) A).setCell (p:=⟨b,p,none⟩) rj v
  have mm:=(M3.z.drew).trans m4;have aR:∀g,d.ownBlock=some g->¬(g=b):=λg hg e=>by
   have f:=hn g hg;have h2:=zm Z;omega
  have f:=M3.z.size;have f:∀W',zi tag i b { c with rs:=ze c.rs q { x with read:=E,state:=ST } } V W'->DO (λg=>g=b) A W'->MG tag i b W s ST 0 { c with rs:=ze c.rs q { x with read:=E,state:=ST } } (.returned<|.tuple #[if s=[]then .slice none 0 0 else d,[ST],.nilIface]) W':=by
   intro W' c hm;refine⟨_,rfl,?_,?_,V,c,(mm.mono rm).trans hm⟩
   .split
    .rename_i e;rw[e];exact OB.nil _
    exact hm.owns ho aR
   intro g hg;split at hg
   .simp[Value.ownBlock]at hg
   have:=hn g hg;omega
  refine⟨λe W' m=>?_,λW5 c W' m=>?_⟩
  .have:({ x with read:=E,state:=ST }:RS)={ x with read:=E }:=by
    rw[e,<-aF]
   refine f W' ?_<|(m5 _ _ _).trans<|m.mono rm;rw[this];exact c5.lK m
  have c6:=(c5.lK c).n8 T 10 lc (.int .i64 ST) { x with read:=E,state:=ST } rfl rfl rfl;rw[AL 13 q]at c6;exact f W' (c6.lK m)<|((m5 _ _ _).trans<|c.mono rm).trans<|(m5 _ _ _).trans<|m.mono rm
 have aG:=zb aC;have aH:=zb aD;have aS:=zb aA;have c:∀A,DO DQ W3.drew A->AA ((∀p,A.frozen? ⟨b,p,none⟩=false)/\(∀p v f,(A.setCell ⟨b,p,none⟩ v).frozen? ⟨b,f,none⟩=false)/\A.cell? (b,129+q*13+9)=some (.int .u64 l)/\A.cell? (b,129+q*13+7)=some (.bool cu)/\A.cell? (b,129+q*13+8)=some (.int .u64 kp)/\A.cell? (b,129+q*13+6)=some (.bool en)/\A.cell? (b,129+q*13+5)=some (.int .u64 fn)/\A.cell? (b,129+q*13+10)=some (.int .i64 0)):=λA m4=>by
  have mm:=((DO.refl DQ W3).drew).trans m4;have z:=M3.z.trans mm;have T:=(HH.z.lK z).obj;exact zb ⟨λp=>zg T,λp v f=>zg<|zc T,z.cell (a:=⟨b,_,none⟩) id ax.z,z.cell (a:=⟨b,_,none⟩) id aN.z,z.cell (a:=⟨b,_,none⟩) id aO.z,z.cell (a:=⟨b,_,none⟩) id aM.z,z.cell (a:=⟨b,_,none⟩) id aL.z,z.cell (a:=⟨b,_,none⟩) id ay.z⟩
 have Z9:=zb c;have f:(l:Int)<=E:=I;have f:(E:Int)<=rc:=I;have f:=aa.1;have f:E<=rc:=I;clear c3 Y aA X al aC aD c q0 q5 q6 q7 q8 q9 aP;go_upto_region 11 with fail
 go_cut [14] (λd wx=>∃bw:rE×Nat,d=.slice bw.1 s.length bw.2/\AA (DO DQ W3.drew wx/\OB wx (.slice bw.1 s.length bw.2) s/\∀g,(Value.slice bw.1 s.length bw.2).ownBlock=some g->W3.heap.size<=g))
 case first =>
  refine zn 12 (λw'=>w' (b,129+q*13)=some (.slice ra N rc)/\w' (b,129+q*13+9)=some (.int .u64 l)) (⟨r0,Z⟩) ?_;refine GI 0 ?_;iterate 9
   refine GV rfl ?_;try simp only[PS]
  refine H9 (i:=9) (v:=.slice (if rc=l then ra else ra.map λx=>x.add l) (E-l)<|rc-l) rfl kw (λ_ _ _ h=>h) (Or.inl ⟨by rfl,?_⟩) ?_
  ·(intro wx B;obtain⟨f0,f9⟩:=B;go_simp;try with_reducible rfl)
  try simp only[PS]
  refine zz 10 rfl (λK hK=>?_);go_simp;refine(aH.z _<|aG.z).mono ?_;rintro e A ⟨c,rfl,ho,m4,hn⟩;obtain⟨aT,aU,rfl,_⟩:=zk ho;refine hK.z _ _ ⟨m4.cell (a:=⟨b,_,none⟩) id r0,m4.cell (a:=⟨b,_,none⟩) id Z⟩ ?_;clear hK K;try simp only[PS]
  refine GI 11 ?_;refine GV rfl ?_;try simp only[PS]
  refine zq ?_;go_wp2_with fail;all_goals
   go_meet;exact⟨(aT,aU),rfl,zb ⟨m4,ho,hn⟩⟩
 case rest =>
 obtain⟨⟨ba,bc⟩,rfl,HB⟩:=hcut;obtain⟨c,d,f,l,p,q,v,a⟩:=(Z9.z wc HB.z.1).z;have u:=zb<|aE.z wc HB.z.1 _ HB.z.2.1 HB.z.2.2;obtain⟨SL,a⟩:=nm s.length;have c:=zb a;have c:AA ((if s=[]then Value.slice none 0 0 else .slice ba SL bc)=if SL=0 then .slice none 0 0 else .slice ba SL bc):=by
  show _=_;by_cases h:s=[]
  .have h2:SL=0:=by rw[<-a,h];rfl
   rw[AM h,AM h2]
  have h2:SL≠0:=λe=>h<|Ai<|by rw[a,e]
  rw[AH h,AH h2]
 rw[a]at u;rw[c.z]at u;rw[a];clear aG aH aS Z9 aE r0 Z HB a c HR aw;have o:SL=0\/SL≠0:=I;go_upto_region 13 with fail;cases cu
 .cases en
  .have t:ST=0:=af.z;subst t;go_quiet (fail);go_upto_region 15 with fail;go_quiet (fail);have O:=zb<|u.z.1 rfl;clear u;rcases o with rfl|o
   .go_wp2_with fail;go_quiet (fail);go_wp2_with fail;go_ret3;exact O.z _<|by repeat (first|exact DO.refl _ _|refine DO.drewN ?_ _)
   have dz:((SL:Int)==0)=false:=AR.2 I;rw[AH o]at O;go_wp2_with fail;go_quiet (fail);go_wp2_with fail;go_ret3;exact O.z _<|by repeat (first|exact DO.refl _ _|refine DO.drewN ?_ _)
  by_cases au:E=fn
  .have t:ST=1:=by
    have:=af.z;simp[au]at this;exact this
   subst t;subst au;go_quiet (fail);go_upto_region 15 with fail;go_quiet (fail);have O:=zb<|u.z.2;clear u;rcases o with rfl|o
   .go_wp2_with fail;go_quiet (fail);go_wp2_with fail;go_ret3;exact O.z _ ((DO.refl DQ _).drewN _) _<|(DO.refl DQ _).drewN _
   have dz:((SL:Int)==0)=false:=AR.2 I;rw[AH o]at O;go_wp2_with fail;go_quiet (fail);go_wp2_with fail;go_ret3;exact O.z _ ((DO.refl DQ _).drewN _) _<|(DO.refl DQ _).drewN _
  have t:ST=0:=by
   have:=af.z;simp[au]at this;exact this
  subst t;have dE:((E:Int)==(fn:Int))=false:=AR.2 I;go_quiet (fail);go_upto_region 15 with fail;go_quiet (fail);have O:=zb<|u.z.1 rfl;clear u;rcases o with rfl|o
  .go_wp2_with fail;go_quiet (fail);go_wp2_with fail;go_ret3;exact O.z _<|by repeat (first|exact DO.refl _ _|refine DO.drewN ?_ _)
  have dz:((SL:Int)==0)=false:=AR.2 I;rw[AH o]at O;go_wp2_with fail;go_quiet (fail);go_wp2_with fail;go_ret3;exact O.z _<|by repeat (first|exact DO.refl _ _|refine DO.drewN ?_ _)
 by_cases ak:kp<=E
 .have t:ST=2:=by
   have:=af.z;simp[ak]at this;exact this
  subst t;have dE:decide (kp<=E)=true:=by simp[ak]
  go_quiet (fail);have O:=zb<|u.z.2;clear u;rcases o with rfl|o
  .go_wp2_with fail;go_quiet (fail);go_wp2_with fail;go_ret3;exact O.z _ ((DO.refl DQ _).drewN _) _<|(DO.refl DQ _).drewN _
  have dz:((SL:Int)==0)=false:=AR.2 I;rw[AH o]at O;go_wp2_with fail;go_quiet (fail);go_wp2_with fail;go_ret3;exact O.z _ ((DO.refl DQ _).drewN _) _<|(DO.refl DQ _).drewN _
 have t:ST=0:=by
  have:=af.z;simp[ak]at this;exact this
 subst t;have dE:decide (kp<=E)=false:=by simp[ak]
 go_quiet (fail);go_upto_region 15 with fail;go_quiet (fail);have O:=zb<|u.z.1 rfl;clear u;rcases o with rfl|o
 .go_wp2_with fail;go_quiet (fail);go_wp2_with fail;go_ret3;exact O.z _<|by repeat (first|exact DO.refl _ _|refine DO.drewN ?_ _)
 have dz:((SL:Int)==0)=false:=AR.2 I;rw[AH o]at O;go_wp2_with fail;go_quiet (fail);go_wp2_with fail;go_ret3;exact O.z _<|by repeat (first|exact DO.refl _ _|refine DO.drewN ?_ _)
def H6(w:rq)(g n:Nat):Prop:=∃cs t,w.heap[g]?=some (.cells cs t (0,0))/\n<=cs.size
variable{j:Nat}
def H6.cell{n:Nat}(h:H6 w g n)(a:j<n):(∃v,w (g,j)=some v)/\w.frozen? ⟨g,j,none⟩=false:=by
 obtain⟨cs,t,a,c⟩:=h;exact⟨⟨cs[j],za a<|by simp[(I:j<cs.size)]⟩,zg a⟩
def H6.set{n:Nat}(h:H6 w g n)(j:Nat)(v:rt):H6 (w.setCell (g,j) v) g n:=by
 obtain⟨cs,t,a,c⟩:=h;exact⟨_,t,zc a,rB c⟩
variable{l:rC}
def OB.open_{n:Nat}(h:OB w (.slice g n cap) l):H6 w g l.length:=by
 rcases h.2 with⟨e,_⟩|⟨f,c,a,e,_,d,h,l,o,p⟩
 .cases e
 cases e;exact⟨a,_,d,I⟩
def eF(h:zi tag i b c V W)(E:D0 i tag W)(k a:Int)(hm:a<=9223372036854775807)(ok:∀k,k<8->MH (c.rs k))(X:(c.read k a).1.1.length<=1099511627776):rT 29 #[(b,0),.int .i64 k,[a]] W (EI tag i b W (.tuple #[.string (zu (c.read k a).1.1),.int .i64 ((c.read k a).1.2.1:Int),.int .i64 ((c.read k a).1.2.2:Int)]) (c.read k a).2):=by
 have t:=eG h k a hm ok;obtain⟨R,hR⟩:=nm<|c.read k a;rw[hR]at t X ⊢;obtain⟨⟨s,st,er⟩,a⟩:=R;simp only at t X ⊢;have f:=zb E;have Y:=zb h;have K1:=zb t;clear h E ok t hR;go_enter func29,ntmps29;go_wp2_with fail;refine(K1.z).mono ?_;rintro _ K ⟨a,rfl,e,o,c,Z,O⟩;clear K1;obtain⟨q,sc,rfl,aa,u,v⟩:=zk e;unfold maxLen at u;obtain⟨N,hN⟩:=nm s.length;have a:(convert 60 9<|.slice q N sc).run prog K=.ok (.string<|zu s) K:=by
  have:=Ii<|OB.br e;rw[hN]at this;exact this
 have e2:=f.z.mod O (λg d=>.inl (by
  have d:=d;rw[d,Y.z.tb];have:=f.z.pos;simp;omega))
 have hL:=Z.left f.z.ok<|Y.z.o5 O;have z:EJ er=.nilIface\/∃t u,EJ er=.iface t u:=by
  unfold EJ;split
  .exact .inl rfl
  exact .inr ⟨_,_,rfl⟩
 have A:∀g,q=some ⟨g,0,none⟩->H6 K g N:=λg d=>by
  subst d;rw[<-hN];exact e.open_
 have B:∀g,q=some ⟨g,0,none⟩->W.heap.size<=g:=λg d=>by
  subst d;exact o g rfl
 rw[hN]at aa v X ⊢;have a:=zb hL;have ab:=zb e2;have ac:=zb A;have l:=zb B;have H2:=zb Z;have M2:=zb O;have c:AA (EJ er=EJ er):=zb rfl;obtain⟨h,a⟩:=nm<|EJ er;have ad:=zb a;rw[a]at z ⊢;clear e o Z O e2 hL A B a c;rcases z with rfl|⟨a,c,rfl⟩;all_goals
  go_wp2_with fail
  go_loopw [26] (λa wr=>∃j:Nat,j<=N/\a=.int .i64 j/\AA (∀g,q=some ⟨g,0,none⟩->H6 wr g N)/\AA (DO (λg=>q=some ⟨g,0,none⟩) K wr)) (λa _=>N-(intOf a).toNat)
  case atStart=>exact⟨0,AN _,rfl,ac,zb rp⟩
  case round =>
   obtain⟨j,a,rfl,HQ,T⟩:=hrel;by_cases ae:j<N
   .obtain⟨g,d⟩:=v I;subst d;obtain⟨⟨a,c⟩,e⟩:=(HQ.z g rfl).cell ae;have af:AA (∀a,some (⟨g,0,none⟩:Addr)=some ⟨a,0,none⟩->H6 (wr.setCell (g,j)<|.int .u8 33) a N):=zb (λa ag=>by
     cases ag;exact(HQ.z g rfl).set j _)
    have a:=zb<|T.z.setCell (p:=(g,j)) rj<|.int .u8 33;go_wp2_with fail;go_roundw
    case rel=>exact⟨j+1,I,by go_num,af,a⟩
    simp[intOf];omega
   have a:=Kw er wr (ab.z.err.mod T.z (λx=>by
    have c:=l.z 0 x;have:=f.z.tab.lt;omega))
   rw[ad.z]at a;have c:=zb a;clear a;go_wp2_with fail;refine(c.z).mono ?_;rintro _ a ⟨rfl,m4⟩;have a:=(H2.z.mod T.z (λg d=>by
    rw[f.z.ok g (l.z g d)];have:=f.z.pos;simp;omega) (λ_ _=>rfl)).lK m4
   have c:=(M2.z.then T.z<|λg d=>.inr<|l.z g d).trans<|m4.mono rm;have d:=zb<|a.left f.z.ok<|Y.z.o5 c;clear m4 a c;go_wp2_with fail;go_ret3;exact⟨rfl,d.z⟩
def Kp(b o:Nat)(w:rq):Nat:=match w (b,o)with|some (.slice _ n _)=>n|_=>0
def P0:rt->Nat|.slice _ n _=>n|_=>0
def zi.pd(h:zi tag i b c V W):Kp b 236 W=c.kx.length:=by
 obtain⟨a,c,e,_⟩:=zk h.ft;have c0:W (b,236)=some V.ft:=h.tl (j:=3) rfl;unfold Kp;rw[c0,e]
def FU.form{t:Nat×Nat}{l:zE}(h:FU tag t W v l):∃a c,v=.slice a l.length c:=by
 obtain⟨a,c,e,_⟩:=h.1;exact⟨a,c,e⟩
def GD(i:Nat)(tag:rD):Prop:=∀g r,90<=r->tag g≠(i,r)
def Pz(tag:rD)(i b:Nat)(c:rq)(a:List rC)(c':CS)(e:Ending)(W':rq):Prop :=
 ∃v d ky f,e=.returned v/\zi ky i b c' f W'/\Di i tag ky c W'/\DO (Dr i tag) c W'/\Gg ky c W' v d a/\GD i ky
def Ib(i:Nat)(tag:rD):Nat->Nat×Nat:=λg=>if (tag g).1=i/\90<=(tag g).2 then(0,0)else tag g
def XI(hi:0<i):GD i (Ib i tag):=by
 intro g r c h;unfold Ib at h;split at h
 .simp at h;omega
 rename_i a;rw[h]at a;exact a ⟨rfl,c⟩
def YW{r:Nat}(a:r<90)(h:tag g=(i,r)):Ib i tag g=(i,r):=by
 unfold Ib;rw[AH (by rw[h];simp;omega),h]
def UE(h:tag g=(0,0)):Ib i tag g=(0,0):=by
 unfold Ib;split
 .rfl
 exact h
variable{W':rq}{ky:rD}
def Di.qe(e:Di i tag ky W W')(d:GD i tag):Di i tag (Ib i ky) W W':=by
 refine⟨λg a=>?_,λg a=>?_,λg a=>UE<|e.z g a⟩
 .have c:=e.mL g a;unfold Ib;rw[AH,c];rintro⟨x,y⟩;rw[c]at x y;exact d g (tag g).2 y<|by rw[<-x]
 unfold Ib;split
 .exact .inr rfl
 exact e.new g a
variable{W0:rq}{outs:List rC}{ov tv:rt}{told:zE}{vs:rF}
def Fp.post(h:Fp tag i b W0 c told outs ky V vs ov tv W)(a:GD i tag):Pz tag i b W0 outs c (.returned ov) W :=
 ⟨ov,vs,Ib i ky,V,rfl,h.c.n6<|λg r c d=>YW c d,h.e.qe a,h.m,h.o.mod (DO.refl DQ W) rm<|λ_ _ x=>UE x,XI h.p⟩
variable{bv fv:rt}{d:DX}{db:Nat}
def FD.post{l:List (DV×rt)}(h:FD tag i b db W0 c d told outs ky V bv fv l vs ov tv W)(a:GD i tag):Pz tag i b W0 outs c (.returned ov) W :=
 Fp.post ⟨h.s.c,h.s.e,h.s.m,h.o,h.t,h.s.p⟩ a
def Dr.i_(h:Dr i tag g):(tag g).1=i:=h.1
def Fp.env(h:Fp tag i b W0 c told outs ky V vs ov tv W)(E:D0 i tag W0):D0 i ky W:=E.left h.e (h.m.mono (λg a=>.inl a.i_))
def FD.env{l:List (DV×rt)}(h:FD tag i b db W0 c d told outs ky V bv fv l vs ov tv W)(E:D0 i tag W0):D0 i ky W:=E.left h.s.e (h.s.m.mono (λg a=>.inl a.i_))
def jR(h:zi tag i b c V W)(E:D0 i tag W)(nd:GD i tag)(h0:c.closed=0)(ok:Gv c.lW.2 c.lW.1)(hg:c.lQ.Ok):rT 50 #[(b,0)] W (Pz tag i b W c.lE.1 c.lE.2):=by
 have c4:=h.hd (j:=4) rfl;rw[h0]at c4;have ka:=YC h E hg;have EE:=zb E;have ND:=zb nd;have OK:=zb ok;obtain⟨R,hR⟩:=nm c.lE;have HR:=zb hR;rw[hR];obtain⟨T0,av⟩:=nm c.lW.1;obtain⟨C0,al⟩:=nm c.lW.2;have ad:AA (CS.mH (12-c.kx.length+T0.length+1) C0 T0=R/\Gv C0 T0/\Fo C0 T0<12-c.kx.length+T0.length+1):=by
  refine⟨?_,?_,?_⟩
  .rw[<-hR,CS.lE,av,al]
  .rw[<-av,<-al];exact ok
  have:C0.kx=c.kx:=by
   rw[<-al];unfold CS.lW;split<;>rfl
  unfold Fo;rw[this];omega
 rw[av,al]at ka;have KA:=zb ka;clear h E nd ok hg h0 hR av al ka;go_enter func50,ntmps50;go_wp2_with (go_at_call 82;refine KA.z.mono ?_;rintro e W1 ⟨v,aD,V1,rfl,aS,aT,aU,aV⟩;have E:AA (Fp tag i b W C0 T0 [] aD V1 [] (.slice none 0 0) v W1):=zb ⟨aT,aU,aV,Gg.nil _ _ _,aS,EE.z.pos⟩;clear aS aT aU aV);clear c4 KA
 go_loopw [3,4] (λov c wr=>∃(n:Nat) (q:CS) (told:zE) (d:List rC) (ky:rD) (V':CV) (O:rF),AA (Fp tag i b W q told d ky V' O ov c wr)/\AA (Gv q told/\Fo q told<n/\d++(CS.mH n q told).1=R.1/\(CS.mH n q told).2=R.2)/\AA (d.length+n<=2097152)) (λ_ c wr=>(12-Kp b 236 wr)+P0 c)
 case atStart=>exact⟨_,C0,T0,[],aD,V1,[],E,zb ⟨ad.z.2.1,ad.z.2.2,by rw[ad.z.1];rfl,by rw[ad.z.1]⟩,zb (by have:=ad.z.2.1.len;show 0+_<=_;omega)⟩
 case round =>
  clear E ad;obtain⟨n,q,told,d,ky,V',O,HH,B,aW⟩:=hrel;have c6:=HH.z.c.hd (j:=6) rfl;have c0:=HH.z.c.hd (j:=0) rfl;obtain⟨ta,tc,ba⟩:=HH.z.t.form;have aG:AA ((12-Kp b 236 wr)+told.length=Fo q told):=by
   show _=_;rw[HH.z.c.pd];rfl
  have aX:q.next<4611686018427387904:=by have:=B.z.1.next;unfold zF at this;omega
  have kv:=GO ru [] q.next wr.drew (World.ownsRow_nil _ 0 _ 1) (AN _) aX;have KV:=zb kv;obtain⟨nx,c⟩:=nm q.next;obtain⟨mt,E⟩:=nm q.lZ;rw[c]at c6 KV;rw[E]at c0;have aY:=zb c;have bb:=zb E;clear kv aX c E;subst ba;go_upto_region 5 with fail;refine zn 13 (λw'=>w' (U b 6)=some (.int .u64 nx)/\w' b=some (.int .i64 mt)) (⟨c6,c0⟩) ?_;refine GI 0 ?_;iterate 4
   refine GV rfl ?_;try simp only[PS]
  refine GI 5 ?_;iterate 5
   refine GV rfl ?_;try simp only[PS]
  refine zz 4 rfl (λK hK=>?_);go_simp;refine KV.z.mono ?_;rintro e W2 ⟨c,rfl,ap⟩;obtain⟨aw,ax,aZ,_⟩:=zk ap.own;rw[Aq]at aZ;subst aZ;have c:=((DO.refl DQ wr).drew).trans ((DO.refl DQ wr.drew).grown ap.grown (λg hg=>by simp[Value.ownBlock]at hg));have AP:=zb ap;have E:=zb<|show W2 (U b 6)=some (.int .u64 nx)/\W2 b=some (.int .i64 mt)from⟨c.cell (a:=U b 6) id c6,c.cell (a:=b) id c0⟩;refine hK.z _ _ E.z ?_;clear ap c;clear hK K;try simp only[PS]
  refine H9 (i:=10) (v:=.agg #[.slice aw (zI nx).length ax,.slice none 0 0,.int .i64 mt,.bool false,.bool false]) rfl kw (λ_ _ _ h=>h) (Or.inl ⟨by rfl,?_⟩) ?_
  ·(intro wx u;(try dsimp only at u);go_simp;try with_reducible rfl)
  try simp only[PS]
  refine zz 11 rfl (λK hK=>?_);go_simp;have c:=λo=>(show(W2.alloc o).cell? (U b 6)=some (.int .u64 nx)/\(W2.alloc o) b=some (.int .i64 mt)from⟨((DO.refl DQ W2).alloc o).cell (a:=U b 6) id E.z.1,((DO.refl DQ W2).alloc o).cell (a:=b) id E.z.2⟩)
  refine hK.z _ _ (c _) ?_;clear hK K;try simp only[PS]
  refine GI 12 ?_;refine GV rfl ?_;try simp only[PS]
  refine zq ?_;obtain⟨W3,aH⟩:=nm<|W2.alloc<|.cells #[.slice aw (zI nx).length ax,.slice none 0 0,[mt],false,false] 180;obtain⟨T,aI⟩:=nm W2.heap.size;obtain⟨am,HM⟩:∃am,AA (FD tag i b T W q q.lB told d am V' (.slice aw (zI nx).length ax) (.slice none 0 0) [] O u3 (.slice ta told.length tc) W3):=by
   have ap:=AP.z;rw[<-aY.z]at ap;obtain⟨c,t⟩:=HH.z.qV ((DO.refl DQ wr).drew) ap;rw[aY.z,bb.z,aH,aI]at t;exact⟨c,t⟩
  try rw[aH]
  try rw[aI]
  obtain⟨D1,aJ⟩:=nm<|(zp q.lB told).1;obtain⟨T1,aK⟩:=nm<|(zp q.lB told).2;have c:=B.z.1.round;rw[aJ,aK]at c;have ac:=zb c;have an:=zb<|And.intro aJ aK;have bc:=NB (JB B.z.1.ok) told;have kt:=λt=>YB HM.z.s.c HM.z.s.d (HM.z.env EE.z) HM.z.t t B.z.1.desc.tell B.z.1.len (pp<|(JB B.z.1.ok).b) (pu ((JB B.z.1.ok).fs)<|(JB B.z.1.ok).b)<|pp<|(JB B.z.1.ok).room
  have KT:=zb kt;obtain⟨N,hN⟩:=nm told.length;rw[hN]at KT HM ⊢;have a0:=zb hN;clear aJ aK c bc kt hN aH aI E AP HH c6 c0 KV;go_upto_if 29 with fail
  go_cut [4] (λc wx=>∃(tag2:rD) (V2:CV) (ay az:rt) (l2:List (DV×rt)),AA<|FD tag i b T W q D1 T1 d tag2 V2 ay az l2 O u3 c wx)
  case first =>
   by_cases ae:told=[]
   .have be:N=0:=by rw[<-a0.z,ae];rfl
    subst be;have H2:AA (FD tag i b T W q D1 T1 d am V' (.slice aw (zI nx).length ax) (.slice none 0 0) [] O u3 (.slice ta 0 tc) W3):=by
     have e:zp q.lB told=(q.lB,told):=by unfold zp;rw[AM ae]
     have e1:=an.z.1;have c:=an.z.2;rw[e]at e1 c;rw[<-e1,<-c];exact HM
    clear ae KT HM;go_wp2_with fail;go_meet;exact⟨_,_,_,_,_,H2⟩
   have d1:(0:Int)<N:=by
    have:=BM.2 ae;have:=a0.z;omega
   have hd:(GG q.lB told).1=D1/\(GG q.lB told).2=T1:=by
    have e:zp q.lB told=GG q.lB told:=by unfold zp;rw[AH ae]
    rw[<-e];exact an.z
   have k2:=KT.z I;rw[hd.1,hd.2]at k2;have K2:=zb k2;clear ae KT hd k2;go_wp2_with (go_at_call 84;refine K2.z.mono ?_;intro e W4 hp;obtain⟨v,tag2,V2,ay,az,l2,rfl,h2⟩:=HM.z.tell hp;have H2:=zb h2;clear hp h2);go_meet;exact⟨_,_,_,_,_,H2⟩
  case rest =>
  obtain⟨tag2,V2,ay,az,l2,H2⟩:=hcut;clear HM KT;have E:wc (b,236)=some V2.ft:=H2.z.s.c.tl (j:=3) rfl;obtain⟨c,N,a1,_⟩:=zk H2.z.s.c.ft;rw[a1]at E;obtain⟨FL,c⟩:=nm q.kx.length;rw[c]at E;have a2:=zb c;obtain⟨f,E⟩:=nm<|(q.lL D1).1;obtain⟨l,N⟩:=nm<|(q.lL D1).2;have af:=zb<|And.intro E N;have aL:=ac.z;rw[E,N]at aL;have a3:=zb aL;clear aL;have kf:=X9 H2.z.s.c H2.z.s.d (H2.z.env EE.z) B.z.1.ok ac.z.1;have KF:=zb kf;clear a1 c E N kf;go_upto_if 39 with fail
  go_cut [] (λwx=>∃(ao:rD) (V3:CV) (p ag:rt) (l3:List (DV×rt)),AA<|FD tag i b T W f l T1 d ao V3 p ag l3 O u3 u4 wx)
  case first =>
   by_cases aA:FL<12
   .have d1:(FL:Int)<12:=I;have e:q.lL D1=q.fill D1:=by unfold CS.lL;rw[AM (by rw[a2.z];exact aA)]
    have aa:(q.fill D1).1=f/\(q.fill D1).2=l:=by rw[<-e];exact af.z
    have k2:=KF.z;rw[aa.1,aa.2]at k2;have K2:=zb k2;clear aA KF e aa k2;go_wp2_with (go_at_call 85;refine K2.z.mono ?_;intro e W4 hp;obtain⟨rfl,ao,V3,p,ag,l3,h3⟩:=H2.z.fill hp;have H3:=zb h3;clear hp h3);go_meet;exact⟨_,_,_,_,_,H3⟩
   have d1:¬(FL:Int)<12:=I;have e:q.lL D1=(q,D1):=by unfold CS.lL;rw[AH (by rw[a2.z];exact aA)]
   have aa:q=f/\D1=l:=by
    have:=af.z;rw[e]at this;exact this
   have H3:AA (FD tag i b T W f l T1 d tag2 V2 ay az l2 O u3 u4 wc):=by
    rw[<-aa.1,<-aa.2];exact H2
   clear aA KF e aa;go_wp2_with fail;go_meet;exact⟨_,_,_,_,_,H3⟩
  case rest =>
  obtain⟨ao,V3,p,ag,l3,H3⟩:=hcut;clear H2 KF;have o3:=H3.z.s.d.obj;obtain⟨c,E,aq,_⟩:=zk H3.z.s.d.own;have a4:l3.length=l.fs.length:=by rw[<-H3.z.s.d.lf,BD]
  rw[a4]at aq;obtain⟨c,E,aE,_⟩:=zk H3.z.s.d.ob;have e0:wc T=some p:=za o3 rfl;have e1:wc (T,1)=some ag:=za o3 rfl;rw[aq]at e1;obtain⟨NF,aM⟩:=nm l.fs.length;rw[aM]at e1;obtain⟨m,hm⟩:∃m,n=m+1:=⟨n-1,pp B.z.2.1⟩;subst hm;have aB:AA (CS.mH (m+1) q told=if l.fs=[]then([],f)else(E9 l.b::(CS.mH m (f.lV l) T1).1,(CS.mH m (f.lV l) T1).2)):=by
   show _=_;rw[CS.mH,an.z.1,an.z.2,af.z.1,af.z.2]
  have a5:=zb aM;have a6:=zb aE;clear o3 aq a4 aM aE;go_upto_if 48 with fail;by_cases ah:l.fs=[]
  .have hz:NF=0:=by rw[<-a5.z,ah];rfl
   subst hz;have c:AA (d=R.1/\f=R.2):=by
    have t:=B.z.2.2.1;have h2:=B.z.2.2.2;rw[aB.z,AM ah]at t h2;exact⟨rB t,h2⟩
   have N:=zb<|H3.z.post ND.z;clear ah aB B e0;go_wp2_with fail;go_ret;have E:=N.z;rw[c.z.1,c.z.2]at E;exact E
  have hz:NF≠0:=λe=>ah<|Ai<|by rw[a5.z,e]
  have c:((NF:Int)==0)=false:=AR.2 I;have aN:=zb ah;have N:=Y2 p l.b wc H3.z.s.d.ob (pp a3.z.2.2.1.b) (H3.z.env EE.z).tab;have kb:∀W5 sv,Ds wc p l.b (EP<|Dy l.b) sv W5->∃sa sn sc ai A,sv=.slice sa sn sc/\(∀ty,(Builtin.append_ #[130,130] ty #[u3,.slice (some ⟨W5.heap.size,0,none⟩) 1 1]).run prog (W5.alloc<|.cells #[.slice sa sn sc] 60)=.ok ai A)/\∃X Y Z,AA (OY tag i b T W f l T1 (d++[E9 l.b]) X V3 p ag (O++[sv]) ai u4 A)/\ai=.slice Y (O.length+1) Z:=by
   intro W5 sv ap;obtain⟨sa,sc,c,_⟩:=zk ap.own;have m1:=(DO.refl (λg=>p.ownBlock=some g) wc).grown ap.grown<|λg hg=>.inl hg;have ho:=H3.z.o.mod m1 (λg hg x=>by
    have:=H3.z.s.d.nP g hg;rw[x]at this;have:=H3.z.s.p;simp at *) (λ_ _ x=>x)
   obtain⟨ai,A,t,h2,h3,E⟩:=X8 W5 u3 O sa _ sc ho.own (by
    have:=ho.len;have:=B.z.1.next;have:=aW.z;omega)
   obtain⟨X,h5⟩:=H3.z.nW ND.z ap (by rw[c];exact h2) h3 E;obtain⟨Y,Z,E,_⟩:=zk h2;exact⟨sa,_,sc,ai,A,c,t,X,Y,Z,h5,E⟩
  obtain⟨E,oc,c,_⟩:=zk H3.z.o.own;rw[a6.z]at N e0;have KS:=zb N;have KB:=zb kb;clear N kb ah hz e1;rw[c]at KB ⊢;clear c;go_upto_region 13 with(first|(go_at_call 86;refine KS.z.mono ?_;rintro e W5 ⟨sv,rfl,ap⟩;have ap:=(show Ds wc p l.b (EP<|Dy l.b) sv W5 by rw[a6.z];exact ap);obtain⟨sa,sn,sc,ai,A,rfl,DY,X,Y,Z,s,rfl⟩:=KB.z W5 sv ap;clear ap)|(at_builtin;refine zo rfl _ _ _ _ rfl _ _ _ rfl rfl DY ?_));have p:=s.z.obj;have e3:A (T,3)=some (.bool l.lh):=za p rfl;obtain⟨wa,c⟩:=nm l.lh;rw[c]at e3;have a7:=zb c;clear p c KS KB;go_upto_if 61 with fail
  go_cut [] (λwx=>∃(z:rD) (V5:CV),AA<|Fp tag i b W { f with kx:=if l.lh then f.kx++[⟨f.next,f.now,l.fs⟩]else f.kx } T1 (d++[E9 l.b]) z V5 (O++[.slice sa sn sc]) (.slice Y (O.length+1) Z) u4 wx)
  case first =>
   cases wa
   .have H7:AA (Fp tag i b W { f with kx:=if l.lh then f.kx++[⟨f.next,f.now,l.fs⟩]else f.kx } T1 (d++[E9 l.b]) X V3 (O++[.slice sa sn sc]) (.slice Y (O.length+1) Z) u4 A):=by
     rw[a7.z];exact s.z.h
    go_wp2_with fail;go_meet;exact⟨_,_,H7⟩
   have ar:A (b,236)=some V3.ft:=s.z.h.c.tl (j:=3) rfl;have q6:=s.z.h.c.hd (j:=6) rfl;have q3:=s.z.h.c.hd (j:=3) rfl;have q1:A (T,1)=some ag:=za s.z.obj rfl;obtain⟨ga,gc,aO⟩:=s.z.fv;obtain⟨ka,kc,aP,_⟩:=zk s.z.h.c.ft;have au:(f.kx.zip V3.mr).length=f.kx.length:=by
    rw[Cv,s.z.h.c.fl,CY]
   have aF:f.kx.length<=1099511627776:=by
    have t:=ac.z.2.2.2.2.2.1;rw[af.z.1]at t;rw[t];have:=B.z.1.fl;omega
   have aj:∀g,V3.ft.ownBlock=some g->g≠b/\g≠T:=λg hg=>by
    have t:=s.z.h.c.nj g hg;refine⟨λe=>?_,λe=>?_⟩
    .rw[e,s.z.h.c.tb]at t;simp at t
    rw[e,s.z.db]at t;simp at t
   obtain⟨c,W7,ab,aC,aQ,a8⟩:=X7 A.drew V3.ft (f.kx.zip V3.mr) ⟨f.next,f.now,l.fs⟩ ga _ gc (by rw[au];exact s.z.h.c.ft) (by rw[au];exact aF);have H7:AA (∃z V5,AA<|Fp tag i b W { f with kx:=if l.lh then f.kx++[⟨f.next,f.now,l.fs⟩]else f.kx } T1 (d++[E9 l.b]) z V5 (O++[.slice sa sn sc]) (.slice Y (O.length+1) Z) u4<|W7.setCell (U b 236) c):=by
    rw[au,<-aO]at aC;obtain⟨z,c⟩:=s.z.mC ((DO.refl DQ A).drew) aC aQ a8;rw[a7.z];exact⟨z,_,c⟩
   have m7:=((DO.refl DQ A).drew.mono rm).trans<|(DO.refl (λg=>V3.ft.ownBlock=some g) A.drew).grown aQ<|λg hg=>.inl hg;have f7:∀p,W7.frozen? ⟨b,p,none⟩=false:=λp=>zg<|m7.obj (λx=>(aj b x).1 rfl) s.z.h.c.obj
   obtain⟨bf,bg,a9,_⟩:=zk aC;rw[aO]at q1;rw[aP]at ar;have ak:=zb<|show W7 (U b 236)=some (.slice ka f.kx.length kc)/\W7 (U b 6)=some (.int .u64 f.next)/\W7 (U b 3)=some (.int .u64 f.now)/\W7 (U T 1)=some (.slice ga l.fs.length gc)from⟨m7.cell (a:=U b 236) (λx=>(aj b x).1 rfl) ar,m7.cell (a:=U b 6) (λx=>(aj b x).1 rfl) q6,m7.cell (a:=U b 3) (λx=>(aj b x).1 rfl) q3,m7.cell (a:=U T 1) (λx=>(aj T x).2 rfl) q1⟩;rw[aP]at ab;rw[au]at a9;subst a9;have N:=zb ab;have bh:=zb f7;clear aO aP au aF aj aC aQ a8 m7 ab f7 e3;obtain⟨NW,X⟩:=nm f.next;obtain⟨AT,aR⟩:=nm f.now;obtain⟨e,c⟩:=nm l.fs.length;obtain⟨p,E⟩:=nm f.kx.length;rw[E]at ar ak N H7;rw[X]at q6 ak;rw[aR]at q3 ak;rw[c]at q1 ak;have bi:AA (∀ty,(Builtin.append_ #[123,123] ty #[.slice ka p kc,.slice A.drew 1 1]).run prog (A.drew.alloc<|.cells #[NW,AT,.slice ga e gc] 173)=.ok (.slice bf (p+1) bg) W7):=by
    have h8:=N.z;rw[X,aR,c]at h8;exact h8
   clear X aR c E N;go_wp2_with fail;refine zn 22 (λw'=>w' (U b 236)=some (.slice ka p kc)/\w' (U b 6)=some (.int .u64 NW)/\w' (U b 3)=some (.int .u64 AT)/\w' (U T 1)=some (.slice ga e gc)) (⟨ar,q6,q3,q1⟩) ?_;refine GI 0 ?_;iterate 17
    refine GV rfl ?_;try simp only[PS]
   refine H9 (i:=17) (v:=.agg #[.int .u64 NW,.int .u64 AT,.slice ga e gc]) rfl kw (λ_ _ _ h=>h) (Or.inl ⟨by rfl,?_⟩) ?_
   ·(intro wx u;(try dsimp only at u);go_simp;try with_reducible rfl)
   try simp only[PS]
   refine zz 18 rfl (λK hK=>?_);go_simp;have h:=λo=>(show(A.drew.alloc o).cell? (U b 236)=some (.slice ka p kc)/\(A.drew.alloc o) (U b 6)=some (.int .u64 NW)/\(A.drew.alloc o) (U b 3)=some (.int .u64 AT)/\(A.drew.alloc o) (U T 1)=some (.slice ga e gc)from⟨((DO.refl DQ A.drew).alloc o).cell (a:=U b 236) id ar,((DO.refl DQ A.drew).alloc o).cell (a:=U b 6) id q6,((DO.refl DQ A.drew).alloc o).cell (a:=U b 3) id q3,((DO.refl DQ A.drew).alloc o).cell (a:=U T 1) id q1⟩)
   refine hK.z _ _ (h _) ?_;clear hK K;try simp only[PS]
   refine zz 19 rfl (λK hK=>?_);refine zL rfl _ _ _ _ rfl _ _ _ rfl rfl bi.z ?_;refine hK.z _ _ ak.z ?_;clear hK K;try simp only[PS]
   refine GI 20 ?_;iterate 2
    refine GV rfl ?_;try simp only[PS]
   refine zY rfl (λK hK=>?_);have f7:=bh.z;obtain⟨a,e,c,h⟩:=ak.z;go_simp;refine hK.z _ _ ?_;clear hK K;try simp only[PS]
   refine zq ?_;go_wp2_with fail;go_meet;exact H7.z
  case rest =>
  obtain⟨z,V5,H7⟩:=hcut;clear s;obtain⟨c,e⟩:∃c:CS,{ f with kx:=if l.lh then f.kx++[⟨f.next,f.now,l.fs⟩]else f.kx }=c:=⟨_,rfl⟩;have a:AA ({ c with next:=c.next+1 }=f.lV l):=by
   show _=_;rw[<-e];rfl
  have o:c.next=q.next:=by
   have t:=ac.z.2.2.2.1;rw[af.z.1]at t;rw[<-e,<-t]
  rw[e]at H7;have u:=H7.z.c.hd (j:=6) rfl;have h:=H7.z.c.fz;obtain⟨p,h⟩:=nm c.next;have c:p+1<18446744073709551616:=by
   have:=B.z.1.next;unfold zF at this;omega
  have s:AA (Fp tag i b W (f.lV l) T1 (d++[E9 l.b]) z V5 (O++[.slice sa sn sc]) (.slice Y (O.length+1) Z) u4<|wc.setCell (b,6)<|.int .u64 ((p+1:Nat):Int)):=by
   have h8:=H7.z.next;rw[h]at h8;rw[<-a.z,h];exact h8
  rw[h]at u;have c:IntKind.u64.wrap ((p:Int)+1)=((p+1:Nat):Int):=by rw[IntKind.wrap_u64];omega
  have c:AA (Gv (f.lV l) T1/\Fo (f.lV l) T1<Fo q told):=a3.z.2.2.2.2.2.2 aN.z;clear e a o H7 h;go_wp2_with fail;go_roundw
  case rel =>
   refine⟨m,_,_,_,z,V5,_,s,zb ⟨c.z.1,pu B.z.2.1 c.z.2,?_,?_⟩,zb (by have:=aW.z;rw[AG,Ac];omega)⟩
   .have t:=B.z.2.2.1;rw[aB.z,AH aN.z]at t;rw[<-t];simp
   have t:=B.z.2.2.2;rw[aB.z,AH aN.z]at t;exact t
  case measure =>
   have t:=c.z.2;have h2:=aG.z;obtain⟨c,d,a⟩:=s.z.t.form;have h3:=s.z.c.pd;show(12-Kp b 236 (wc.setCell (U b 6)<|.int .u64 ((p+1:Nat):Int)))+P0 u4<(12-Kp b 236 wr)+P0 (.slice ta told.length tc);rw[h3,a];show _<(12-Kp b 236 wr)+told.length;rw[h2];exact t
def eE:(prog.info? 9).map (λi=>(i.zero,i.size,i.bytes))=some (some (.string ⟨#[]⟩),1,16):=kw
def Fy(l:List rC):List rt:=l.map λs=>.string (zu s)
def YV(w:rq)(v:rt)(l:List rC)(s:rC)(h:w.ownsRow 0 9 1 v l.length (Fy l))(c:l.length<=1099511627776):∃a w',(∀c,(Builtin.append_ #[53,53] c #[v,.slice w 1 1]).run prog (w.alloc (.cells #[.string (zu s)] 9))=.ok a w')/\w'.ownsRow 0 9 1 a (l.length+1) (Fy (l++[s]))/\(w.alloc (.cells #[.string (zu s)] 9)).grownBy w' v.ownBlock/\D4 w v a:=by
 obtain⟨o,f⟩:=nm<|(Obj.cells #[.string (zu s)] 9 (0,0));obtain⟨i,c,q,d,e⟩:=info_parts eE;have t:∀(j:Nat) u,(Fy [s])[j]?=some u->(w.alloc o) ((⟨w.heap.size,0,none⟩:Addr).add j)=some u:=λj u z=>by
  rw[zX,<-f];refine za (heap_alloc_new w _) ?_;rw[Aw,<-Array.getElem?_toList];exact z
 obtain⟨a,w',A,B,E,K⟩:=zN (P:=prog) (w.alloc o) 53 9 i _ 1 16 underlying53 c q d e rfl lc v l.length (Fy l) (((DO.refl DQ w).alloc o).owns h<|λ_ _ x=>x)
  ⟨w.heap.size,0,none⟩ 1 1 (Fy [s]) rfl t (by
   intro u p;simp[Fy]at p;subst p;rfl) lw I
 have e:Fy (l++[s])=Fy l++Fy [s]:=by simp[Fy]
 rw[f,e];refine⟨a,w',A,B,E,λg a=>?_⟩;rcases K g a with x|x
 .exact .inl x
 refine .inr ?_;simp at x;omega
def J9(tag:rD)(i b:Nat)(W:rq)(a:List rC)(c':CS)(e:Ending)(W':rq):Prop :=
 ∃v ky c,e=.returned v/\zi ky i b c' c W'/\Di i tag ky W W'/\DO (Dr i tag) W W'/\GD i ky/\W'.ownsRow 0 9 1 v a.length (Fy a)/\∀g,v.ownBlock=some g->W.heap.size<=g/\ky g=(0,0)
def L9(a:rF)(k:Nat)(g:Nat):Prop:=∃j u,j<k/\a[j]?=some u/\u.ownBlock=some g
def jq(h:zi tag i b c V W)(E:D0 i tag W)(nd:GD i tag)(h0:c.closed=0)(ok:Gv c.lW.2 c.lW.1)(e:c.lQ.Ok)(ab:c.lE.1.length<=1099511627776)(t:∀l∈c.lE.1,l.length<=1099511627776):rT 27 #[(b,0)] W (J9 tag i b W c.lE.1 c.lE.2):=by
 have v:=jR h E nd h0 ok e;obtain⟨R,hR⟩:=nm c.lE;rw[hR]at v ab t ⊢;obtain⟨d,c'⟩:=R;simp only at v ab t ⊢;have HE:=zb E;have c:=zb h;have K1:=zb v;have ao:=zb t;clear h E ok v hR nd e t h0;go_enter func27,ntmps27;go_wp2_with fail;refine(K1.z).mono ?_;rintro _ W2 ⟨v,z,ky,V',rfl,h2,e2,m2,A,af⟩;clear K1;obtain⟨N,hN⟩:=nm d.length;have ac:z.length=N:=by rw[A.len,hN]
 obtain⟨c,h,rfl,ap,aq,ag⟩:=zk A.own;rw[ac]at ap ag ⊢;rw[hN]at ab;unfold maxLen at aq;have H2:=zb h2;have E2:=zb e2;have M2:=zb m2;have ar:=zb af;have HO:=zb A;have ah:=zb ac;have T:=zb hN;have au:=zb m2.size;clear h2 e2 m2 af A ac hN;go_wp2_with fail
 go_loopw [3,10] (λc iv wr=>∃k:Nat,k<=N/\iv=.int .i64 k/\AA (wr.ownsRow 0 9 1 c (d.take k).length (Fy<|d.take k)/\(∀g,c.ownBlock=some g->W2.heap.size<=g)/\DO (L9 z k) W2 wr)) (λ_ iv _=>N-(intOf iv).toNat)
 case atStart=>exact⟨0,AN _,rfl,zb ⟨World.ownsRow_nil _ 0 _ 1,λg e=>by simp[Value.ownBlock]at e,DO.refl _ _⟩⟩
 case round =>
  obtain⟨k,c,rfl,X⟩:=hrel;obtain⟨sa,sc,av,aw,ax,_⟩:=zk X.z.1;subst av;have s:(d.take k).length=k:=by rw[AU,T.z];omega
  by_cases c:k<N
  .obtain⟨u,hu⟩:∃u,z[k]?=some u:=⟨z[k]'(by rw[ah.z];exact c),AJ<|by rw[ah.z];exact c⟩;obtain⟨l,hl⟩:∃l,d[k]?=some l:=⟨d[k]'(by rw[T.z];exact c),AJ<|by rw[T.z];exact c⟩;obtain⟨B,ay⟩:=HO.z.each k u l hu hl;have ai:=ao.z l<|AW hl;have Y:∀g,u.ownBlock=some g->¬L9 z k g:=λg e ⟨j,x,hj,hx,hxg⟩=>HO.z.apart j k x u hj hx hu g hxg e
   have f:OB wr u l:=X.z.2.2.owns B Y;obtain⟨g0,rfl⟩:=ag I;have az:wr (g0,k)=some u:=by
    have c:¬L9 z k g0:=λ⟨j,x,hj,hx,hxg⟩=>by
     obtain⟨lj,ad⟩:∃l,d[j]?=some l:=⟨d[j]'(by rw[T.z];omega),AJ<|by rw[T.z];omega⟩;exact Ux HO.z.own (HO.z.each j x lj hx ad).1 lc (g:=g0) rfl hxg
    have h5:=HO.z.own.cells (g:=g0) rfl k u hu;rw[zX]at h5;have h6:=X.z.2.2.cell (a:=(g0,0+k)) c h5;rw[Aw]at h6;exact h6
   obtain⟨ua,uc,aA,aB,aC,ae⟩:=zk f;subst aA;unfold maxLen at aC;obtain⟨L,hL⟩:=nm l.length;have c:(convert 60 9<|.slice ua L uc).run prog wr=.ok (.string<|zu l) wr:=by
    have:=Ii<|OB.br f;rw[hL]at this;exact this
   rw[hL]at aB ae az ai;obtain⟨c,W3,DY,K,O,aj⟩:=YV wr (.slice sa (d.take k).length sc) (d.take k) l X.z.1 I;obtain⟨va,vc,rfl,_⟩:=zk K;have m3:=(((DO.refl DQ wr).alloc _).mono rm).trans<|rp.grown O<|λg e=>.inl e;have o:=X.z.2.1;have ak:∀g,ua=some ⟨g,0,none⟩->g<W2.heap.size:=λg e=>by subst e;exact zK B g rfl
   have Z:OB W3 (.slice ua l.length uc) l:=m3.owns f (λg e x=>by
    have h5:=o g x;have h6:=zK B g e;omega)
   have aa:∀g,ua=some ⟨g,0,none⟩->H6 W3 g L:=λg e=>by
    subst e;rw[<-hL];exact Z.open_
   have h:=X.z.2.2.size;have c:∀g,(Value.slice va ((d.take k).length+1) vc).ownBlock=some g->W2.heap.size<=g:=λg e=>by
    rcases aj g e with x|x
    .exact o g x
    omega
   have t:d.take (k+1)=d.take k++[l]:=by rw[BG,hl];rfl
   have u:=X.z.2.2.then m3<|λg e=>.inr<|o g e;have al:AA (W3.ownsRow 0 9 1 (.slice va (k+1) vc) (d.take<|k+1).length<|Fy<|d.take<|k+1):=zb (by
    rw[t,AG,Ac];rw[s]at K ⊢;exact K)
   rw[s]at DY c;have am:=zb c;have aD:=zb ak;have aE:=zb ae;have v:=zb aa;have aF:=zb u;have aG:AA (∀g,ua=some ⟨g,0,none⟩->L9 z (k+1) g):=zb (λg e=>⟨k,_,I,hu,by rw[e];rfl⟩);have A:=zb s;rw[s];clear B ay Y f hu hl ae K O aj m3 o ak Z aa h c t u s ai aw ax;go_wp2_with (at_builtin;refine zo rfl _ _ _ _ rfl _ _ _ rfl rfl DY ?_)
   go_loopw [21] (λiv wr=>∃j:Nat,j<=L/\iv=.int .i64 j/\AA (∀g,ua=some ⟨g,0,none⟩->H6 wr g L)/\AA (DO (λg=>ua=some ⟨g,0,none⟩) W3 wr)) (λiv _=>L-(intOf iv).toNat)
   case atStart=>exact⟨0,AN _,rfl,v,zb rp⟩
   case round =>
    obtain⟨j,hj,rfl,HP,HM⟩:=hrel;by_cases an:j<L
    .obtain⟨g,e⟩:=aE.z I;subst e;obtain⟨⟨c,f⟩,h⟩:=(HP.z g rfl).cell an;have aH:AA (∀c,some (⟨g,0,none⟩:Addr)=some ⟨c,0,none⟩->H6 (wr.setCell (g,j)<|.int .u8 33) c L):=zb (λc O=>by
      cases O;exact(HP.z g rfl).set j _)
     have c:=zb<|HM.z.setCell (p:=(g,j)) rj<|.int .u8 33;go_wp2_with fail;go_roundw
     case rel=>exact⟨j+1,I,by go_num,aH,c⟩
     simp[intOf];omega
    have c:AA (wr.ownsRow 0 9 1 (.slice va (k+1) vc) (d.take<|k+1).length (Fy<|d.take<|k+1)/\(∀g,(Value.slice va (k+1) vc).ownBlock=some g->W2.heap.size<=g)/\DO (L9 z<|k+1) W2 wr):=zb
     ⟨HM.z.owns al.z (λg e x=>by
      have h5:=am.z g e;have h6:=aD.z g x;omega),am.z,(aF.z.mono<|λg ⟨q,x,hq,r⟩=>.inl ⟨q,x,I,r⟩).then HM.z<|λg e=>.inl<|aG.z g e⟩
    go_wp2_with fail;go_roundw
    case rel=>exact⟨k+1,I,by go_num,c⟩
    simp[intOf];omega
  have f:k=N:=I;have h:d.take k=d:=Ab (by rw[T.z];omega);have H:=X.z;rw[h]at H;have o:∀g,L9 z k g->(ky g)=(0,0)/\W.heap.size<=g:=λg ⟨j,x,hj,hx,hxg⟩=>by
   obtain⟨lj,ad⟩:∃l,d[j]?=some l:=⟨d[j]'(by rw[T.z];omega),AJ<|by rw[T.z];omega⟩;obtain⟨a,b⟩:=(HO.z.each j x lj hx ad).2 g hxg;exact⟨b,a⟩
  have c:AA (J9 tag i b W d c' (.returned<|.slice sa d.length sc) wr):=zb
   ⟨_,ky,V',rfl,H2.z.mod H.2.2 (λg e=>by rw[(o g e).1];have:=HE.z.pos;simp;omega)<|λ_ _=>rfl,⟨E2.z.mL,E2.z.new,E2.z.z.mod H.2.2⟩,M2.z.then H.2.2<|λg e=>.inr (o g e).2,ar.z,H.1,λg e=>⟨AK au.z<|H.2.1 g e,E2.z.z g<|H.2.1 g e⟩⟩
  rw[h];clear f;go_wp2_with fail;go_ret;exact c.z
def At(bs:rC)(a:Nat)(l:rC):Prop:=∃pre post,bs=pre++(l++post)/\pre.length=a
variable{bs:rC}{pos:Nat}
def At.left{a b:rC}(h:At bs pos (a++b)):At bs pos a:=by
 obtain⟨pre,post,rfl,rfl⟩:=h;exact⟨pre,b++post,lm,rfl⟩
def At.right{a b:rC}(h:At bs pos (a++b)):At bs (pos+a.length) b:=by
 obtain⟨pre,post,rfl,rfl⟩:=h;exact⟨pre++a,post,lm,lm⟩
def At.le{a:rC}(h:At bs pos a):pos+a.length<=bs.length:=by
 obtain⟨pre,post,rfl,rfl⟩:=h;simp
def At.head{a:UInt8}(h:At bs pos (a::l)):bs[pos]?=some a:=by
 obtain⟨pre,post,rfl,rfl⟩:=h;simp
def At.tail{a:UInt8}(h:At bs pos (a::l)):At bs (pos+1) l:=At.right (a:=[a]) h
def At.sub(h:At bs pos l):(bs.drop pos).take l.length=l:=by
 obtain⟨pre,post,rfl,rfl⟩:=h;simp
def Ot(n:Nat):(zI n).length<=8:=by
 unfold zI;repeat' split
 all_goals simp
def F6{n:Nat}(a:n<4611686018427387904)(h:At bs pos (zI n)):Dt bs pos=some (n,pos+(zI n).length):=by
 have a:=h.le;unfold zI at h a ⊢;unfold Dt;split at h
 .rename_i f;rw[h.head];have e:(UInt8.ofNat n).toNat=n:=by rw[Bz];omega
  have d:ED (UInt8.ofNat n)=1:=by unfold ED;rw[e];rw[(I:n / 64=0)]
  simp only[f,A9]at a ⊢;simp only[Ac]at a;rw[d];rw[AM a];simp[GH,e];omega
 rename_i f;split at h
 .rename_i l;rw[h.head];have e:(UInt8.ofNat<|n / 256+64).toNat=n / 256+64:=by rw[Bz];omega
  have d:ED (UInt8.ofNat<|n / 256+64)=2:=by unfold ED;rw[e];rw[(I:(n / 256+64) / 64=1)]
  simp only[f,l,A9,BZ]at a ⊢;simp only[AS,Ae]at a;rw[d];rw[AM I];have c:=h.tail.sub;simp only[AS,Ae]at c;simp only[Aw]at c;rw[show(2:Nat)-1=1 from rfl,c];simp[GH,Bz];omega
 rename_i l;split at h
 .rename_i o;rw[h.head];have e:(UInt8.ofNat<|n / 16777216+128).toNat=n / 16777216+128:=by rw[Bz];omega
  have d:ED (UInt8.ofNat<|n / 16777216+128)=4:=by unfold ED;rw[e];rw[(I:(n / 16777216+128) / 64=2)]
  simp only[f,l,o,A9,BZ]at a ⊢;simp only[AS,Ae]at a;rw[d];rw[AM I];have c:=h.tail.sub;simp only[AS,Ae]at c;simp only[Aw]at c;rw[show(4:Nat)-1=1+1+1 from rfl,c];simp[GH,Bz];omega
 rename_i o;rw[h.head];have e:(UInt8.ofNat<|n / 72057594037927936+192).toNat=n / 72057594037927936+192:=by rw[Bz];omega
 have d:ED (UInt8.ofNat<|n / 72057594037927936+192)=8:=by unfold ED;rw[e];rw[(I:(n / 72057594037927936+192) / 64=3)]
 simp only[f,l,o,BZ]at a ⊢;simp only[AS,Ae]at a;rw[d];rw[AM I];have c:=h.tail.sub;simp only[AS,Ae]at c;simp only[Aw]at c;rw[show(8:Nat)-1=1+1+1+1+1+1+1 from rfl,c];simp[GH,Bz];omega
def PH{n:Nat}(a:n<8)(h:At bs pos (zI n)):Fe bs pos=some (n,pos+(zI n).length):=by
 unfold Fe;rw[F6 I h];simp[a]
def QH(a:l.length<4611686018427387904)(h:At bs pos (zI l.length++l)):F8 bs pos=some (l,pos+(zI l.length++l).length):=by
 unfold F8;rw[F6 a h.left];have a:=h.right.le;have a:=h.right.sub;simp only[AX];rw[AM I,a];simp;omega
theorem UY(rs:zE)(k:Nat):∀m,k<=m->∃t,D5 rs m=D5 rs k++t/\(k<m->∃u,t=zI (DU rs k-DP rs (k+1)-2)++(zI (DP rs (k+1)-DU rs (k+1))++u)/\D5 rs m=D5 rs (k+1)++u)
 | 0,h=>⟨[],by simp[(I:k=0)],λx=>I⟩
 | m+1,h=>by
  by_cases c:k=m+1
  .subst c;exact⟨[],lm,λx=>I⟩
  obtain⟨t,a,d⟩:=UY rs k m I;refine⟨t++(zI (DU rs m-DP rs (m+1)-2)++zI (DP rs (m+1)-DU rs (m+1))),?_,λ_=>?_⟩
  .simp only[D5,a,Ap]
  by_cases e:k=m
  .subst e;have:t=[]:=by
    have:=A8 List.length a;simp at this;exact this
   subst this;exact⟨[],lm,lm⟩
  obtain⟨u,a,c⟩:=d I;refine⟨u++(zI (DU rs m-DP rs (m+1)-2)++zI (DP rs (m+1)-DU rs (m+1))),?_,?_⟩
  .rw[a];simp only[Ap]
  simp only[D5,c,Ap]
def UX(rs:zE)(k:Nat)(a:k<rs.length):rs.take (k+1)=rs.take k++[(DU rs k,DP rs k)]:=by
 rw[BG,AJ a];unfold DU DP;rw[Am,AJ a];rfl
theorem Sp(rs:zE)(c:E4 rs=true):∀(d k fuel a:Nat) (l:rC),rs.length=k+1+d->d<fuel->D5 rs (rs.length-1)=D5 rs k++l->At bs a l ->
  Ie bs fuel (DP rs k) d (DP rs k-DU rs k) a (rs.take k)=some (rs,a+l.length)
 | 0,k,fuel+1,a,l,hl,hf,he,ha=>by
  obtain⟨f,h,o⟩:=MX c (i:=k) I;have:l=[]:=by
   have:=A8 List.length he;rw[(I:rs.length-1=k)]at this;simp at this;exact this
  subst this;unfold Ie;rw[AH I,AM rfl];have e:=UX rs k I;rw[(I:DP rs k-(DP rs k-DU rs k)=DU rs k),<-e,Ab I];simp
 | d+1,k,fuel+1,a,l,hl,hf,he,ha=>by
  obtain⟨f,h,o⟩:=MX c (i:=k) I;obtain⟨f,h,e⟩:=MX c (i:=k+1) I;have e:=e I;simp only[CC]at e;obtain⟨t,e,p⟩:=UY rs k (rs.length-1) I;have:=List.append_cancel_left<|e.symm.trans he;subst this;obtain⟨u,q,s⟩:=p I;subst q;unfold Ie;rw[AH I,AH I];rw[F6 I ha.left];simp only[AX];rw[F6 I ha.right.left];simp only[AX];have e:DP rs k-(DP rs k-DU rs k)=DU rs k:=I;rw[e,AH I];have:=Sp rs c d (k+1) fuel (a+(zI<|DU rs k-DP rs (k+1)-2).length+(zI<|DP rs (k+1)-DU rs (k+1)).length) u I I s<|ha.right.right;rw[UX rs k I]at this;rw[(I:DU rs k-2-(DU rs k-DP rs (k+1)-2)=DP rs (k+1)),CC,this];simp only[AG];congr 2;omega
def zt(f:DV):DV :=
 let z:DV:=f0 f.kind false
 if f.kind=1 then z
 else if f.kind=2 then{ z with lF:=f.lF }
 else if f.kind=3 then{ z with stream:=f.stream,off:=f.off,rel:=f.rel }
 else if f.kind=4 then{ z with stream:=f.stream,off:=f.off,fin:=f.fin,data:=f.data }
 else if f.kind=5 then{ z with mF:=f.mF }
 else if f.kind=6 then{ z with stream:=f.stream,mF:=f.mF }
 else if f.kind=7 then{ z with id:=f.id,dl:=f.dl,data:=f.data }
 else{ z with mF:=f.mF }
def Ta(h:Dx f=true):f.kind=1\/f.kind=2\/f.kind=3\/f.kind=4\/f.kind=5\/f.kind=6\/f.kind=7\/f.kind=8:=by
 simp only[Dx,zR,AZ]at h;obtain⟨_,h⟩:=h;by_cases a:f.kind=2
 .omega
 by_cases c:f.kind=3
 .omega
 by_cases d:f.kind=4
 .omega
 simp only[a,c,d,BZ,AZ,Ah]at h;omega
def VR(h:Dx f=true):f.off<=4611686018427387903/\f.rel<=4611686018427387903/\f.mF<=4611686018427387903/\f.id<=4611686018427387903/\f.dl<=4611686018427387903/\0<=f.stream/\f.stream<8/\zR f=true:=by
 simp only[Dx,Ec,nums,Eg,AZ,List.all_cons,List.all_nil,Ah]at h;obtain⟨⟨a,c⟩,d⟩:=h;exact⟨a.1,a.2.1,a.2.2.1,a.2.2.2.1,a.2.2.2.2.1,c.1,c.2,d⟩
def Gp(f:DV):(zt f).kind=f.kind:=by
 unfold zt;simp only;repeat' split
 all_goals rfl
def iT(h:Dx f=true):Dx (zt f)=true:=by
 obtain⟨a,d,e,f,l,o,p,c⟩:=VR h;rcases Ta h with a|a|a|a|a|a|a|a;all_goals
  simp only[zR,a]at c;simp[zt,a,Dx,Ec,nums,Eg,zR,f0]at c ⊢;try omega
 all_goals exact c
def UW(f:DV):0<(zC f).length:=by
 unfold zC;repeat' split
 all_goals simp[Gn,Je,Jc,Jj,Jl,Jd,Hs]
theorem Y1(h:Dx f=true)(hd:f.data.length<4611686018427387904)(v:f.lF.length<4611686018427387904)(a:At bs pos (zC f)):Gm bs pos=some (zt f,pos+(zC f).length):=by
 have e:=iT h;have v:=Gp f;obtain⟨A,B,E,K,N,v,O,z⟩:=VR h;have p:=Int.toNat_of_nonneg v;unfold Gm;rcases Ta h with c|c|c|c|c|c|c|c
 .have eb:zC f=[1]:=by simp[zC,c]
  rw[eb]at a ⊢;rw[a.head];have er:zM 1 false bs (pos+1)=some (zt f,pos+1):=by simp[zM,zt,c]
  simp[FP,er,e]
 .have eb:zC f=2::(zI (DP f.lF 0)++(zI (f.lF.length-1)++(zI (DP f.lF 0-DU f.lF 0)++D5 f.lF (f.lF.length-1)))):=by simp[zC,c,Gn]
  rw[eb]at a ⊢;rw[a.head];have q:E4 f.lF=true:=by simpa [zR,c]using z
  have h:0<f.lF.length:=by
   simp only[E4,AZ,Ah]at q;exact q.2
  obtain⟨v,z,_⟩:=MX q h;have d:=a.tail;have l:=F6 I d.left;have o:=F6 I d.right.left;have s:=F6 I d.right.right.left;have h:=d.right.right.right.le;have t:f.lF.length-1<bs.length+1:=by
   have:∀k,2*k<=(D5 f.lF k).length:=by
    intro k;have u:∀n,1<=(zI n).length:=by
     intro n;unfold zI;repeat' split
     all_goals simp
    induction k with
    | zero=>simp
    | succ k ih =>
     have:=u<|DU f.lF k-DP f.lF (k+1)-2;have:=u<|DP f.lF (k+1)-DU f.lF (k+1);simp only[D5,AG];omega
   have:=this<|f.lF.length-1;omega
  have h:=Sp f.lF q (f.lF.length-1) 0 (bs.length+1) _ _ I t (by simp[D5]) d.right.right.right;simp only[CU]at h;have er:zM 2 false bs (pos+1)=some (zt f,pos+(2::(zI (DP f.lF 0)++(zI (f.lF.length-1)++(zI (DP f.lF 0-DU f.lF 0)++D5 f.lF (f.lF.length-1))))).length):=by
   rw[show zM 2 false bs (pos+1)=FH false bs (pos+1)by simp[zM],FH,l];simp only[AX];rw[o];simp only[AX];rw[s];simp only[AX];rw[h];simp[zt,c];omega
  simp[FP,er,e]
 .have eb:zC f=36::(zI f.stream.toNat++(zI f.off++zI f.rel)):=by simp[zC,c,Je]
  rw[eb]at a ⊢;rw[a.head];have d:=a.tail;have l:=PH I d.left;have o:=F6 I d.right.left;have s:=F6 I d.right.right;have er:zM 3 false bs (pos+1)=some (zt f,pos+(36::(zI f.stream.toNat++(zI f.off++zI f.rel))).length):=by
   rw[show zM 3 false bs (pos+1)=G9 false bs (pos+1)by simp[zM],G9,l];simp only[AX];rw[o];simp only[AX];rw[s];simp[zt,c,p];omega
  simp[FP,er,e]
 .cases hfin:f.fin
  .have eb:zC f=8::(zI f.stream.toNat++(zI f.off++(zI f.data.length++f.data))):=by simp[zC,c,Jc,hfin]
   rw[eb]at a ⊢;rw[a.head];have d:=a.tail;have l:=PH I d.left;have o:=F6 I d.right.left;have s:=QH hd d.right.right;have er:zM 4 false bs (pos+1)=some (zt f,pos+(8::(zI f.stream.toNat++(zI f.off++(zI f.data.length++f.data)))).length):=by
    rw[show zM 4 false bs (pos+1)=GW false bs (pos+1)by simp[zM],GW,l];simp only[AX];rw[o];simp only[AX];rw[s];simp[zt,c,p,hfin,f0];omega
   simp[FP,er,e]
  have eb:zC f=9::(zI f.stream.toNat++(zI f.off++(zI f.data.length++f.data))):=by simp[zC,c,Jj,hfin]
  rw[eb]at a ⊢;rw[a.head];have d:=a.tail;have l:=PH I d.left;have o:=F6 I d.right.left;have s:=QH hd d.right.right;have er:zM 4 true bs (pos+1)=some (zt f,pos+(9::(zI f.stream.toNat++(zI f.off++(zI f.data.length++f.data)))).length):=by
   rw[show zM 4 true bs (pos+1)=GW true bs (pos+1)by simp[zM],GW,l];simp only[AX];rw[o];simp only[AX];rw[s];simp[zt,c,p,hfin,f0];omega
  simp[FP,er,e]
 .have eb:zC f=16::zI f.mF:=by simp[zC,c,Hs]
  rw[eb]at a ⊢;rw[a.head];have l:=F6 I a.tail;have er:zM 5 false bs (pos+1)=some (zt f,pos+(16::zI f.mF).length):=by
   rw[show zM 5 false bs (pos+1)=GK 5 false bs (pos+1)by simp[zM],GK,l];simp[zt,c];omega
  simp[FP,er,e]
 .have eb:zC f=17::(zI f.stream.toNat++zI f.mF):=by simp[zC,c,Jl]
  rw[eb]at a ⊢;rw[a.head];have d:=a.tail;have l:=PH I d.left;have o:=F6 I d.right;have er:zM 6 false bs (pos+1)=some (zt f,pos+(17::(zI f.stream.toNat++zI f.mF)).length):=by
   rw[show zM 6 false bs (pos+1)=GQ false bs (pos+1)by simp[zM],GQ,l];simp only[AX];rw[o];simp[zt,c,p];omega
  simp[FP,er,e]
 .have eb:zC f=48::(zI f.id++(zI f.dl++(zI f.data.length++f.data))):=by simp[zC,c,Jd]
  rw[eb]at a ⊢;rw[a.head];have d:=a.tail;have l:=F6 I d.left;have o:=F6 I d.right.left;have s:=QH hd d.right.right;have er:zM 7 false bs (pos+1)=some (zt f,pos+(48::(zI f.id++(zI f.dl++(zI f.data.length++f.data)))).length):=by
   rw[show zM 7 false bs (pos+1)=G8 false bs (pos+1)by simp[zM],G8,l];simp only[AX];rw[o];simp only[AX];rw[s];simp[zt,c,f0];omega
  simp[FP,er,e]
 have eb:zC f=28::zI f.mF:=by simp[zC,c,Hs]
 rw[eb]at a ⊢;rw[a.head];have l:=F6 I a.tail;have er:zM 8 false bs (pos+1)=some (zt f,pos+(28::zI f.mF).length):=by
  rw[show zM 8 false bs (pos+1)=GK 8 false bs (pos+1)by simp[zM],GK,l];simp[zt,c];omega
 simp[FP,er,e]
def J3(a:List DV):Prop:=∀f∈a,Dx f=true/\f.data.length<4611686018427387904/\f.lF.length<4611686018427387904
theorem So(d:Nat):∀(e:List DV) (fuel a:Nat) (c:List DV),J3 e->e.length<fuel->At bs a (e.flatMap zC)->a+(e.flatMap zC).length=bs.length ->
  Id bs fuel d a c=.ok d (c++e.map zt)
 | [],fuel+1,a,c,_,_,_,he=>by
  simp at he;unfold Id;rw[AH I];simp
 | f::e,fuel+1,a,c,hok,hf,ha,he=>by
  obtain⟨a,c,h⟩:=hok f lm;have l:=UW f;simp only[DM]at ha he;rw[AG]at he;unfold Id;rw[AM I,Y1 a c h ha.left];simp only;rw[So d e fuel _ _ (λg a=>hok g<|by simp[a]) (rB hf) ha.right I];simp
theorem Y0(a:List DV):a.length<=(a.flatMap zC).length:=by
 induction a with
 | nil=>simp
 | cons f a ih =>
  have:=UW f;simp only[DM,AG,AS];omega
def TZ(n:Nat)(a:List DV)(d:n<=4611686018427387903)(e:0<a.length)(c:J3 a):Fg (zI n++a.flatMap zC)=.ok n (a.map zt):=by
 have d:At (zI n++a.flatMap zC) 0 (zI n++a.flatMap zC):=⟨[],[],lm,rfl⟩;have e:=Y0 a;unfold Fg;rw[F6 I d.left];simp only[AG,Aw];rw[AH I,So n a _ _ [] c I (rB d.right) lm];simp
def QG(l:rC)(s:Nat)(a:s<4294967296):IB (l++EP s) l.length=s:=by
 unfold IB Dg EP;simp only[Am];rw[Aa I,Aa I,Aa I,Aa I];simp[(I:l.length+1-l.length=1),(I:l.length+2-l.length=2),(I:l.length+3-l.length=3)];omega
def U9(l:rC):dec (l++EP (Dy l))=Fg l:=by
 have a:(l++EP (Dy l)).length=l.length+4:=by simp[EP]
 unfold dec;rw[a,AH I,CC,QG l _<|MN l,BQ,AM rfl]
variable{t:Nat}
def Oc{a:Nat}(h:a ^^^ t=b ^^^ t):a=b:=by
 have:=A8 (· ^^^ t) h;simpa [Nat.xor_assoc]using this
def Ld:∀a b:Fin 16,ct a.val / 268435456=ct b.val / 268435456->a.val=b.val:=pi
def Sn(c:Nat)(h:c<4294967296):IN c / 268435456=ct (c % 16) / 268435456:=by
 unfold IN;have e:∀x:Nat,x / 268435456=x >>> 28:=λx=>by rw[Nat.shiftRight_eq_div_pow]
 rw[e,e,Nat.shiftRight_xor_distrib,<-e (c / 16),(I:c / 16 / 268435456=0),Nat.zero_xor]
def Ob{c d:Nat}(a:c<4294967296)(hd:d<4294967296)(h:IN c=IN d):c=d:=by
 have e:c % 16=d % 16:=Ld ⟨c % 16,I⟩ ⟨d % 16,I⟩ (by
  show ct (c % 16) / _=ct (d % 16) / _;rw[<-Sn c a,<-Sn d hd,h])
 unfold IN at h;rw[e]at h;have:=Oc h;omega
def Yz{c d:Nat}{x:UInt8}(a:c<4294967296)(hd:d<4294967296)(h:Ht c x=Ht d x):c=d :=
 Oc (Ob (Ih c x a) (Ih d x hd)<|Ob (Kj _<|Ih c x a) (Kj _<|Ih d x hd) h)
def eA{c:Nat}{x y:UInt8}(a:c<4294967296)(h:Ht c x=Ht c y):x=y:=by
 have:=Ob (Ih c x a) (Ih c y a)<|Ob (Kj _<|Ih c x a) (Kj _<|Ih c y a) h;rw[Nat.xor_comm c,Nat.xor_comm c]at this;exact Cu.1<|Oc this
theorem Yy(b:rC):∀c d,c<4294967296->d<4294967296->b.foldl Ht c=b.foldl Ht d->c=d:=by
 induction b with
 | nil=>intro c d _ _ h;exact h
 | cons x b ih=>intro c d a hd h;exact Yz a hd<|ih _ _ (NE c x a) (NE d x hd) h
def XE{a b:rC}{x y:UInt8}(h:Dy (a++x::b)=Dy (a++y::b)):x=y:=by
 unfold Dy at h;rw[Nat.xor_comm,Nat.xor_comm 4294967295]at h;have:=Oc h;unfold Ej at this;simp only[Ci,List.foldl_cons]at this;have c:=Vw a 4294967295 I;exact eA c<|Yy b _ _ (NE _ _ c) (NE _ _ c) this
def Yx(l:rC)(i:Nat)(h:i<l.length)(y:UInt8):∃a b,l=a++l[i]::b/\l.set i y=a++y::b/\a.length=i:=by
 refine⟨l.take i,l.drop<|i+1,lm,?_,ls⟩;rw[List.set_eq_take_append_cons_drop,AM h]
def fO(l:rC)(i:Nat)(y:UInt8)(hi:i<(l++EP (Dy l)).length)(d:(l++EP (Dy l))[i]≠y):dec ((l++EP (Dy l)).set i y)=.sum:=by
 have t:(l++EP (Dy l)).length=l.length+4:=by simp[EP]
 unfold dec;rw[Bf,t,AH I,CC,AH];intro c;by_cases h:i<l.length
 .rw[CW i y h,List.take_left' lm]at c;have hb:=QG (l.set i y) (Dy l)<|MN l;rw[Bf]at hb;rw[hb]at c;obtain⟨a,b,o,f,e⟩:=Yx l i h y;rw[f]at c;have e:Dy l=Dy (a++l[i]::b):=by rw[<-o]
  rw[e]at c;have:=XE c;rw[List.getElem_append_left h]at d;exact d this
 have e:∃s,(l++EP (Dy l)).set i y=l++s/\s=(EP<|Dy l).set (i-l.length) y:=⟨_,Bi i y I,rfl⟩;obtain⟨s,o,f⟩:=e;rw[o,BQ]at c;have a:IB (l++s) l.length=IB s 0:=by
  have o:s.length=4:=by rw[f];simp[EP]
  unfold IB Dg;simp only[Am];rw[Aa I,Aa I,Aa I,Aa I];simp[(I:l.length+1-l.length=1),(I:l.length+2-l.length=2),(I:l.length+3-l.length=3)]
 rw[a]at c;have a:=QG [] (Dy l)<|MN l;simp only[Aq,Ae]at a;rw[<-a,f]at c;have f:i-l.length<4:=by rw[t]at hi;omega
 obtain⟨k,a⟩:=nm<|i-l.length;rw[List.getElem_append_right I]at d;simp only[a]at d c f;have a:=y.toNat_lt;have hb:∀n,(UInt8.ofNat n).toNat<256:=λn=>(UInt8.ofNat n).toNat_lt
 unfold EP at c d;have a:=hb<|Dy l / 16777216;have a:=hb<|Dy l / 65536;have a:=hb<|Dy l / 256;have a:=hb<|Dy l;have p:∀z:UInt8,z≠y->z.toNat≠y.toNat:=λz h e=>h<|Cu.1 e
 have q:k=0\/k=1\/k=2\/k=3:=I;rcases q with rfl|rfl|rfl|rfl;all_goals
  simp[IB,Dg,-UInt8.toNat_ofNat']at c d;have:=p _ d;omega
def Iz(n:Nat)(l:List DV):rC:=zI n++l.flatMap zC
def kI(a:Array rt)(w:rq)(c:Nat)(n d:rt)(e:a.getD 2 undef=.pointer c)
  (c0:w c=some n) (c1:w (c,1)=some d) :
  (results f42 a).run prog w=.ok (.tuple #[.agg #[n,d],a.getD 3 undef]) w:=by
 have d:a[2]?.getD undef=.pointer c:=by rw[<-e];simp
 simp[results,results42,go_sem,d,c0,c1]
variable{w':rq}
theorem Es.shape{r:GE}{e:Ending}(h:Es w r e w'):∃x c fl f l,e=.returned (.tuple #[.agg #[.int .u64 x,.slice c fl f],l]):=by
 cases r with
 | sum=>exact⟨_,_,_,_,_,h.2⟩
 | bad a=>obtain⟨_,c,d,_⟩:=h;exact⟨_,_,_,_,_,d⟩
 | ok n fs =>
  obtain⟨_,e,a,d,o,_⟩:=h;obtain⟨c,f,rfl,_⟩:=zk o.1;exact⟨_,_,_,_,_,d⟩
variable{X:rq}
theorem Es.from{r:GE}{e:Ending}(m:DO DQ w X)(h:Es X r e w'):Es w r e w':=by
 refine⟨m.trans h.1,?_⟩;have c:=m.size;cases r with
 | sum=>exact h.2
 | bad a =>
  obtain⟨_,d,a,c,e⟩:=h;exact⟨d,a,c,I⟩
 | ok n fs =>
  obtain⟨_,e,d,a,c,f,l,o⟩:=h;exact⟨e,d,a,c,f,λg a=>pp<|l g a,λx c g a=>pp<|o x c g a⟩
variable{S:Nat->Prop}
theorem Es.to{Y:rq}{r:GE}{e:Ending}(h:Es w r e X)(m:DO S X Y)(l:∀i,S i->∃cs T fz,X.heap[i]?=some (.cells cs T fz)/\T≠65/\T≠214/\T≠167)(d:∀i,S i->w.heap.size<=i):Es w r e Y:=by
 refine⟨h.1.then m<|λi c=>.inr<|d i c,?_⟩;cases r with
 | sum=>exact h.2
 | bad a =>
  obtain⟨_,f,d,a,e⟩:=h;refine⟨f,d,m.obj (λo=>?_) a,e⟩;obtain⟨cs,T,fz,e,_,_,p⟩:=l f o;rw[e]at a;simp at a;exact p a.2.1
 | ok n fs =>
  obtain⟨_,o,f,d,a,p,e,q⟩:=h;exact⟨o,f,d,GY.mod a m<|λi c=>.inr (by obtain⟨cs,T,fz,a,d,f,_⟩:=l i c;exact⟨cs,T,fz,a,d,f⟩),p,e,q⟩
def iS(v:rt)(bs:rC)(w:rq)(hb:BR w v bs)(u:Fw w)(a:bs.length<1099511627776):rT 42 #[v] w (Es w (dec bs)):=by
 have e:DO DQ w (w.alloc<|.cells #[.int .u64 0,.slice none 0 0] 56):=rp.alloc _;have c:(w.alloc<|.cells #[.int .u64 0,.slice none 0 0] 56).heap[w.heap.size]?=some (.cells #[.int .u64 0,.slice none 0 0] 56 (0,0)):=heap_alloc_new w _;obtain⟨A,d⟩:=nm<|w.alloc<|.cells #[.int .u64 0,.slice none 0 0] 56;rw[d]at e c;have z:=PX v bs A (hb.mod e<|Dj.no _) (u.mod e rk) a;have B:=zb e;have E:=zb c;have q:=zb d;obtain⟨a,v,rfl,_⟩:=hb;clear e c d u;go_enter func42,ntmps42;go_wp2_with fail;rw[q.z];refine z.mono ?_;intro e f o;obtain⟨x,s,fl,t,a,rfl⟩:=o.shape;have c:=o.1.obj rk E.z;have a:f w=some (.int .u64 0):=za c rfl;have a:f (w,1)=some (.slice none 0 0):=za c rfl;have a:f.frozen? ⟨w.heap.size,0,none⟩=false:=zg c;have a:f.frozen? ⟨w.heap.size,1,none⟩=false:=zg c;have d:=zb o;have l:=zb c;clear o z c;go_wp2_with fail;obtain⟨WF,a⟩:=nm<|(f.setCell w.heap.size<|.int .u64 x).setCell (U w 1)<|.slice s fl t;rw[a];have e:DO (λk=>k=w.heap.size) f WF:=by
  rw[<-a];exact((DO.refl (λk=>k=w.heap.size) f).setCell (p:=w.heap.size) rj _).setCell (p:=U w.heap.size 1) rj _
 have c:WF.heap[w.heap.size]?=some (.cells #[x,.slice s fl t] 56 (0,0)):=by
  rw[<-a];exact zc<|zc l.z
 refine bodyPost_ret (kI _ _ w.heap.size (.int .u64 x) (.slice s fl t) rfl (za c rfl) (za c rfl)) rfl ?_;refine Es.to (d.z.from B.z) e (λi h=>?_)<|λi h=>?_
 .have h:=h;subst h;exact⟨_,_,_,l.z,lc,lc,lc⟩
 have h:=h;omega
def L5(w:rq)(r:GE)(e:Ending)(w':rq):Prop :=
 DO DQ w w'/\match r with
 | .sum=>e=.returned (.tuple #[.agg #[.int .u64 0,.slice none 0 0],.int .i64 7,.int .i64 (-1)])
 | .bad at_=>e=.returned (.tuple #[.agg #[.int .u64 0,.slice none 0 0],.int .i64 8,[at_]])
 | .ok num fs=>∃c a,e=.returned (.tuple #[.agg #[.int .u64 num,c],.int .i64 0,.int .i64 (-1)])/\GY w' c a/\a.map (·.1)=fs/\(∀g,c.ownBlock=some g->w.heap.size<=g)/\∀x∈a,∀g,x.2.ownBlock=some g->w.heap.size<=g
def kR(a:Array rt)(w:rq)(c:Nat)(n d:rt)(e:a.getD 2 undef=.pointer c)
  (c0:w c=some n) (c1:w (c,1)=some d) :
  (results f23 a).run prog w=.ok (.tuple #[.agg #[n,d],a.getD 3 undef,a.getD 4 undef]) w:=by
 have d:a[2]?.getD undef=.pointer c:=by rw[<-e];simp
 simp[results,results23,go_sem,d,c0,c1]
def Lx(W:rq)(v:rt)(wr:rq):Prop:=Ia (λk=>v.ownBlock=some k) W wr
theorem jm{r:GE}{p l:rt}(h:Es w r (.returned (.tuple #[p,l])) X)(o:E7 X):∃n at_,rT 43 #[l] X (MI X n at_)/\∀w',DO DQ X w'->L5 w r (.returned (.tuple #[p,.int .i64 n,.int .i64 at_])) w':=by
 cases r with
 | sum =>
  obtain⟨m,d⟩:=h;cases d;exact⟨7,-1,P9 7 X o,λw' c=>⟨m.trans c,rfl⟩⟩
 | bad a =>
  obtain⟨m,q,d,e,l⟩:=h;cases d;exact⟨8,a,Sg q 8 a X o (za e rfl)<|za e rfl,λw' c=>⟨m.trans c,rfl⟩⟩
 | ok n fs =>
  obtain⟨m,s,f,d,e,t,u,v⟩:=h;cases d;exact⟨0,-1,Qo X,λw' c=>⟨m.trans c,s,f,rfl,GY.mod e c rm,t,u,v⟩⟩
theorem L5.to{Y:rq}{r:GE}{e:Ending}(h:L5 w r e X)(m:DO S X Y)(d:∀i,S i->∃cs T fz,X.heap[i]?=some (.cells cs T fz)/\T≠65/\T≠214)(f:∀i,S i->w.heap.size<=i):L5 w r e Y:=by
 refine⟨h.1.then m<|λi c=>.inr<|f i c,?_⟩;cases r with
 | sum=>exact h.2
 | bad a=>exact h.2
 | ok n fs =>
  obtain⟨_,e,a,f,l,o,p,q⟩:=h;exact⟨e,a,f,GY.mod l m<|λi c=>.inr<|d i c,o,p,q⟩
def iR(v:rt)(bs:rC)(w:rq)(hb:BR w v bs)(ht:Fw w)(B:E7 w)(hl:bs.length<1099511627776):rT 23 #[v] w (L5 w (dec bs)):=by
 obtain⟨E,f⟩:=nm<|w.alloc<|.cells #[.int .u64 0,.slice none 0 0] 56;have K:=AB f;have oQ:=AD f;have am:=AC f;obtain⟨v1,W1,N,d,t,ad⟩:=XK E v bs (hb.mod K<|Dj.no _) I;have k1:=iS v1 bs W1 d.br ((ht.mod K rk).mod t rk) hl;have O:=(B.mod K rk).mod t rk;obtain⟨xa,xc,rfl,v,a,ae⟩:=zk d;unfold maxLen at a;have af:=QK d;obtain⟨a,v,rfl,_⟩:=hb;have a:=zb f;have HQ:=zb<|t.obj rk oQ;have M1:=zb<|K.trans t;have ag:=zb O;have T:=zb d;have v:=t.size;have v:=zm B;clear K oQ d t O ht B f;go_enter func23,ntmps23;go_wp2_with (rw[a.z];at_builtin;refine zo rfl _ _ _ _ rfl _ _ _ rfl rfl N ?_;clear N);refine k1.mono ?_;clear k1;intro e u s;obtain⟨x,z,fl,A,a,rfl⟩:=s.shape;have d:=trivial;obtain⟨O,a⟩:=nm<|u.alloc<|.cells #[.int .u64 x,.slice z fl A] 56;have f:=AB a;have oP:=AD a;have t:=f.obj rk<|s.1.obj rk HQ.z;have v:=(T.z.lK s.1).lK f;have K:=(ag.z.mod s.1 rk).mod f rk;have N:=(s.from M1.z).to f rm rm;have T:=s.1.size;have T:=zb a;have HP:=zb oP;have ah:=zb t;have o:=zb v;have X:=zb K;have ai:=zb N;clear s f oP t v K N a d;go_wp2_with fail;rw[T.z]
 go_loopw [20] (λi wr=>∃k:Nat,k<=bs.length/\i=.int .i64 k/\Lx O (.slice xa bs.length xc) wr) (λi _=>bs.length-(intOf i).toNat)
 case atStart=>exact⟨0,AN _,rfl,Ia.refl _ _⟩
 case round =>
  obtain⟨k,a,rfl,q⟩:=hrel;by_cases a:k<bs.length
  .obtain⟨g,rfl⟩:=ae I;obtain⟨d,a,f,_⟩:=XF o.z;obtain⟨⟨d,f⟩,z0⟩:=q.cell (b:=g) rfl a (i:=k) I;have HB:=zb<|q.set (b:=g) rfl k (.int .u8 33);clear q a;go_wp2_with fail;go_roundw
   case rel=>exact⟨k+1,I,by go_num,HB.z⟩
   simp[intOf];omega
  have l:∀i,(Value.slice xa bs.length xc).ownBlock=some i->E.heap.size<=i/\i<W1.heap.size:=λi c=>⟨ad i c,af i c⟩
  have Y:=q.1.obj (λa=>pp<|l _ a) HP.z;have Z:=q.1.obj (λa=>pp<|l _ a) ah.z;have aa:=X.z.mod q.1<|λa=>pp<|l _ a;have ab:=ai.z.to q.1 (λi c=>by
   have c:=c;rcases o.z.2 with⟨hv,_⟩|⟨g,a,d,hv,_,B,_⟩
   .rw[hv]at c;cases c
   rw[hv]at c;have c:g=i:=by simpa [Value.ownBlock]using c
   subst c;exact⟨_,_,_,B,lc,lc,lc⟩) (λi c=>pp<|l _ c)
  obtain⟨d,f,hc,a⟩:=jm ab aa;have aj:=zb a;have ak:=zb Y;have al:=zb Z;clear q Y Z aa ab a;go_wp2_with fail;refine hc.mono ?_;rintro e h ⟨rfl,m4⟩;clear hc;have d:=m4.obj rk ak.z;have a:=m4.obj rk al.z;have p0:h u=some (.int .u64 x):=za d rfl;have p1:h (u,1)=some (.slice z fl A):=za d rfl;have e:h w=some (.int .u64 0):=za a rfl;have e:h (w,1)=some (.slice none 0 0):=za a rfl;have z0:h.frozen? ⟨w.heap.size,0,none⟩=false:=zg a;have e:h.frozen? ⟨w.heap.size,1,none⟩=false:=zg a;have e:=zb<|aj.z h m4;have ac:=zb a;clear m4 d a;go_wp2_with fail;obtain⟨WF,a⟩:=nm<|(h.setCell w.heap.size<|.int .u64 x).setCell (U w 1)<|.slice z fl A;rw[a];have f:DO (λk=>k=w.heap.size) h WF:=by
   rw[<-a];exact((DO.refl (λk=>k=w.heap.size) h).setCell (p:=w.heap.size) rj _).setCell (p:=U w.heap.size 1) rj _
  have d:WF.heap[w.heap.size]?=some (.cells #[x,.slice z fl A] 56 (0,0)):=by
   rw[<-a];exact zc<|zc ac.z
  refine bodyPost_ret (kR _ _ w.heap.size (.int .u64 x) (.slice z fl A) rfl (za d rfl) (za d rfl)) rfl ?_;refine L5.to e.z f (λi c=>?_)<|λi c=>?_
  .have c:=c;subst c;exact⟨_,_,_,ac.z,lc,lc⟩
  have c:=c;omega
end
end Go.Proofs.YtddfdpbaiedcjaaGreatDoor
