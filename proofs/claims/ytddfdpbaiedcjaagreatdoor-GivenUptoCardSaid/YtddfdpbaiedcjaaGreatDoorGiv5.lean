/- A part of Given's proof. Conditions: none. Part 5 of 15. -/
import Derived.Test.YtddfdpbaiedcjaaGreatDoorGiv4
set_option maxRecDepth 100000
set_option maxHeartbeats 16000000
set_option linter.all false
namespace Go.Proofs.YtddfdpbaiedcjaaGreatDoor
section
open Go.RowKit Go.Proofs.Tryz
variable{S:Nat->Prop}{V V':CV}{W W':rq}{b i:Nat}{c c':CS}{tag ky:rD}
def zi.build{R:Nat->Prop}(h:zi tag i b c V W)(m:DO S W W')(f:∀g,S g->∃r,R r/\tag g=(i,r))(l:∀g,(tag g).1=i->ky g=tag g)
  (t:W'.heap[b]?=some (.cells (zx c' V').toArray 127 (0,0)))
  (d:(c'.lQ=c.lQ/\V'.g=V.g/\V'.gv=V.gv/\¬R 2/\¬R 3)\/(Eh W' V'.g 0 V'.gv c'.lQ.rs c'.lQ.fl c'.lQ.most/\ky V'.g=(i,2)/\∀g,V'.gv.ownBlock=some g->ky g=(i,3)))
  (s:∀k,k<8->((c' k).b=(c k).b/\V'.wb k=V.wb k/\¬R (10+k))\/(OB W' (V'.wb k) (c' k).b/\∀g,(V'.wb k).ownBlock=some g->ky g=(i,10+k)))
  (ws:∀k,k<8->((c' k).lJ.rs=(c k).lJ.rs/\V'.ws k=V.ws k/\¬R (20+k))\/(W'.ownsRow 0 214 2 (V' k) (c' k).lJ.rs.length (zr (c' k).lJ.rs)/\∀g,(V' k).ownBlock=some g->ky g=(i,20+k)))
  (A:∀k,k<8->((c' k).lC.rs=(c k).lC.rs/\V'.wc k=V.wc k/\¬R (30+k))\/(W'.ownsRow 0 214 2 (V'.wc k) (c' k).lC.rs.length (zr (c' k).lC.rs)/\∀g,(V'.wc k).ownBlock=some g->ky g=(i,30+k)))
  (B:∀k,k<8->((c'.rs k).b=(c.rs k).b/\V'.rb k=V.rb k/\¬R (40+k))\/(OB W' (V'.rb k) (c'.rs k).b/\∀g,(V'.rb k).ownBlock=some g->ky g=(i,40+k)))
  (N:∀k,k<8->((c'.rs k).lC.rs=(c.rs k).lC.rs/\V'.rc k=V.rc k/\¬R (50+k))\/(W'.ownsRow 0 214 2 (V'.rc k) (c'.rs k).lC.rs.length (zr (c'.rs k).lC.rs)/\∀g,(V'.rc k).ownBlock=some g->ky g=(i,50+k)))
  (O:(c'.kx=c.kx/\V'.ft=V.ft/\V'.mr=V.mr/\¬R 4/\¬R 5)\/(W'.ownsRow 0 173 3 V'.ft c'.kx.length (zB<|c'.kx.zip V'.mr)/\V'.mr.length=c'.kx.length/\(∀p∈c'.kx.zip V'.mr,Gu ky (i,5) W' p.2 p.1.fs)/\∀g,V'.ft.ownBlock=some g->ky g=(i,4)))
  (T:(c'.waits=c.waits/\V'.wt=V.wt/\¬R 6)\/(EK W' 65 10 V'.wt c'.waits.length (zs c'.waits)/\∀g,Value.mu V'.wt=some g->ky g=(i,6)))
  (X:(c'.seen=c.seen/\V'.sn=V.sn/\¬R 7)\/(Fs W' V'.sn c'.seen/\ky V'.sn=(i,7)))
  (Y:(c'.lC=c.lC/\V'.cm=V.cm/\¬R 8)\/(W'.ownsRow 0 154 2 V'.cm c'.lC.length (E1 c'.lC)/\∀g,V'.cm.ownBlock=some g->ky g=(i,8))) :
  zi ky i b c' V' W':=by
 have q:∀{g r:Nat},tag g=(i,r)->¬R r->¬S g:=λa e x=>by
  obtain⟨u,o,c⟩:=f _ x;rw[a]at c;simp at c;rw[c]at e;exact e o
 have e:∀{g r:Nat},tag g=(i,r)->ky g=(i,r):=λa=>(l _<|by rw[a]).trans a
 have o:Eh W' V'.g 0 V'.gv c'.lQ.rs c'.lQ.fl c'.lQ.most/\ky V'.g=(i,2)/\∀g,V'.gv.ownBlock=some g->ky g=(i,3):=by
  rcases d with⟨d,f,l,E,K⟩|x
  .rw[d,f,l];exact⟨h.lQ.mod m (q h.tg E)<|λg a=>q (h.oN g a) K,e h.tg,λg a=>e<|h.oN g a⟩
  exact x
 have u:∀k,k<8->OB W' (V'.wb k) (c' k).b/\∀g,(V'.wb k).ownBlock=some g->ky g=(i,10+k):=λk c=>by
  rcases s k c with⟨d,f,l⟩|x
  .rw[d,f];exact⟨m.owns (h.wb k c)<|λg a=>q (h.oC k c g a) l,λg a=>e<|h.oC k c g a⟩
  exact x
 have v:∀k,k<8->W'.ownsRow 0 214 2 (V' k) (c' k).lJ.rs.length (zr (c' k).lJ.rs)/\∀g,(V' k).ownBlock=some g->ky g=(i,20+k):=λk c=>by
  rcases ws k c with⟨d,f,l⟩|x
  .rw[d,f];exact⟨m.owns (h.ws k c)<|λg a=>q (h.ng k c g a) l,λg a=>e<|h.ng k c g a⟩
  exact x
 have z:∀k,k<8->W'.ownsRow 0 214 2 (V'.wc k) (c' k).lC.rs.length (zr (c' k).lC.rs)/\∀g,(V'.wc k).ownBlock=some g->ky g=(i,30+k):=λk c=>by
  rcases A k c with⟨d,f,l⟩|x
  .rw[d,f];exact⟨m.owns (h.wc k c)<|λg a=>q (h.oB k c g a) l,λg a=>e<|h.oB k c g a⟩
  exact x
 have A:∀k,k<8->OB W' (V'.rb k) (c'.rs k).b/\∀g,(V'.rb k).ownBlock=some g->ky g=(i,40+k):=λk c=>by
  rcases B k c with⟨d,f,l⟩|x
  .rw[d,f];exact⟨m.owns (h.rb k c)<|λg a=>q (h.oM k c g a) l,λg a=>e<|h.oM k c g a⟩
  exact x
 have B:∀k,k<8->W'.ownsRow 0 214 2 (V'.rc k) (c'.rs k).lC.rs.length (zr (c'.rs k).lC.rs)/\∀g,(V'.rc k).ownBlock=some g->ky g=(i,50+k):=λk c=>by
  rcases N k c with⟨d,f,l⟩|x
  .rw[d,f];exact⟨m.owns (h.rc k c)<|λg a=>q (h.oK k c g a) l,λg a=>e<|h.oK k c g a⟩
  exact x
 have s:W'.ownsRow 0 173 3 V'.ft c'.kx.length (zB<|c'.kx.zip V'.mr)/\V'.mr.length=c'.kx.length/\(∀p∈c'.kx.zip V'.mr,Gu ky (i,5) W' p.2 p.1.fs)/\∀g,V'.ft.ownBlock=some g->ky g=(i,4):=by
  rcases O with⟨d,f,l,E,K⟩|x
  .rw[d,f,l];exact⟨m.owns h.ft<|λg a=>q (h.nj g a) E,h.fl,λp E=>(h.fs p E).mod m (λg a x=>q x K a)<|λg a=>e a,λg a=>e<|h.nj g a⟩
  exact x
 have p:EK W' 65 10 V'.wt c'.waits.length (zs c'.waits)/\∀g,Value.mu V'.wt=some g->ky g=(i,6):=by
  rcases T with⟨d,f,l⟩|x
  .rw[d,f];exact⟨h.wt.mod m<|λg a=>q (h.ni g a) l,λg a=>e<|h.ni g a⟩
  exact x
 have E:Fs W' V'.sn c'.seen/\ky V'.sn=(i,7):=by
  rcases X with⟨d,f,l⟩|x
  .rw[d,f];exact⟨h.sn.mod m<|q h.oJ l,e h.oJ⟩
  exact x
 have K:W'.ownsRow 0 154 2 V'.cm c'.lC.length (E1 c'.lC)/\∀g,V'.cm.ownBlock=some g->ky g=(i,8):=by
  rcases Y with⟨d,f,l⟩|x
  .rw[d,f];exact⟨m.owns h.cm<|λg a=>q (h.oE g a) l,λg a=>e<|h.oE g a⟩
  exact x
 exact⟨t,e h.tb,o.1,o.2.1,o.2.2,λk c=>(u k c).1,λk c=>(v k c).1,λk c=>(z k c).1,λk c=>(A k c).1,λk c=>(B k c).1,λk c=>(u k c).2,λk c=>(v k c).2,λk c=>(z k c).2,λk c=>(A k c).2,λk c=>(B k c).2,
  s.1,s.2.1,s.2.2.1,s.2.2.2,p.1,p.2,E.1,E.2,K.1,K.2⟩
variable{g:Nat}
def zi.apart{a r c:Nat}(h:tag g=(i,r))(d:tag a=(i,c))(f:r≠c):g≠a:=λe=>by
 rw[e,d]at h;simp at h;exact f h.symm
variable{base e sz:Nat}{v:rt}{w:rq}{xs:rF}
def zK{n:Nat}(h:w.ownsRow base e sz v n xs):∀g,v.ownBlock=some g->g<w.heap.size:=by
 intro g a;rcases h.2 with⟨rfl,rfl⟩|⟨e,c,d,rfl,_,f,h,l,_⟩
 .simp[Value.ownBlock]at a
 simp[Value.ownBlock]at a;subst a;exact(AI.1 f).1
def P8(w:rq)(v:rt)(l:rC)(a:Addr)(cap:Nat)(s:rC)(h:OB w v l)(hb:BR w (.slice (some a) s.length cap) s)(q:l.length+s.length<=140737488355328):∃c w',(∀q,(Builtin.append_ #[60,60] q #[v,.slice (some a) s.length cap]).run prog w=.ok c w')/\Ds w v l s c w':=by
 obtain⟨i,t,u,d,f⟩:=info_parts Oh;obtain⟨q,X,e,_,_,z⟩:=hb;cases e;obtain⟨c,w',A,B,E,K,N⟩:=Kz (P:=prog) w 60 5 i (.int .u8 0) 1 1 underlying60 t u d f rfl lc v l.length (zW l) h a s.length cap (zW s) (by simp[zW]) (λj u o=>by
   simp only[zW,Bc,B8]at o;obtain⟨x,O,rfl⟩:=o;obtain⟨g,o,T,p⟩:=z j x O;cases T;rw[zX];exact p) (RO s) lw I
 exact⟨c,w',A,by rw[OB,AG,NU];exact B,N,E,K⟩
def CS.send(c:CS)(k:Int)(s:rC):Nat×CS :=
 if c.stream k≠0 then(c.stream k,c)else if (c k.toNat).finished||(c k.toNat).cut then(4,c)else if 2048<(c k.toNat).b.length+s.length then(3,c)else(0,{ c with ws:=ze c.ws k.toNat { c.ws k.toNat with b:=(c k.toNat).b++s } })
def Md{k:Int}(a:c.stream k=0):0<=k/\k<8/\c.closed=0:=by
 unfold CS.stream at a;split at a
 .cases a
 split at a
 .cases a
 rename_i a b;simp at a;omega
variable{W1:rq}{k:Nat}{v':rt}
def zi.qP(h:zi tag i b c V W)(o:Dm tag W)(hi:0<i)(e:k<8){s:rC}(f:Ds W (V.wb k) (c k).b s v' W1):Dk tag i b W { c with ws:=ze c.ws k { c.ws k with b:=(c k).b++s } } (W1.setCell (b,9+15*k) v'):=by
 have t:=(DO.refl _ W).grown f.grown<|λg d=>.inl d;have hb:¬(V.wb k).ownBlock=some b:=λx=>zi.apart h.tb (h.oC k e b x) I rfl
 have v:=t.obj hb h.obj;have z:=EZ o h.tb hi;have l:DO (λg=>(V.wb k).ownBlock=some g\/g=b) W (W1.setCell (b,9+15*k) v'):=(t.mono<|λg d=>.inl<|.inl d).setCell (p:=(b,9+15*k)) (.inl<|.inr rfl) _;have A:DO (λg=>g=b) W1 (W1.setCell (b,9+15*k) v'):=(DO.refl (λg=>g=b) _).setCell (p:=(b,9+15*k)) rj _;have u:∀g,v'.ownBlock=some g->g≠b:=λg d x=>by
  subst x;rcases f.at_ g d with y|y
  .exact hb y
  omega
 have p:W1.heap.size=(W1.setCell (b,9+15*k) v').heap.size:=lm;refine⟨zQ tag W W1 (i,10+k),{ V with wb:=ze V.wb k v' },?_,?_,l.mono<|λg d=>.inl ?_⟩
 .refine h.build (R:=λr=>r=1\/r=10+k) l (λg d=>?_) (λg d=>zD<|EZ o (i:=i) (r:=(tag g).2) (by rw[<-d]) hi) ?_ rY (λq l=>?_) (λq l=>.inl ⟨?_,rfl,I⟩) (λq l=>.inl ⟨?_,rfl,I⟩) (λq l=>.inl rW) (λq l=>.inl rW) rY rV rV rV
  .rcases d with d|d
   .exact⟨10+k,.inr rfl,h.oC k e g d⟩
   exact⟨1,.inl rfl,by rw[d,h.tb]⟩
  .rw[zc v,Ao];rw[show 9+15*k=9+15*k+0 from rfl,Hl c { c with ws:=ze c.ws k { c.ws k with b:=(c k).b++s } } V { V with wb:=ze V.wb k v' } v' e lc (λq _=>?_) rfl rfl rfl];by_cases a:q=k
   .subst a;simp only[zf,A9];rfl
   simp only[zd _ _ a,AH a]
  .by_cases a:q=k
   .subst a;simp only[zf];refine .inr ⟨A.owns f.own u,λg d=>?_⟩;rcases f.at_ g d with y|y
    .rw[zD (EZ o (h.oC q e g y) hi),h.oC q e g y]
    rw[GM y];have:=zK f.own g d;exact this
   exact .inl ⟨by simp only[zd _ _ a],by simp only[zd _ _ a],I⟩
  .by_cases a:q=k
   .subst a;simp only[zf]
   simp only[zd _ _ a]
  by_cases a:q=k
  .subst a;simp only[zf]
  simp only[zd _ _ a]
 .have:=JA (i:=i) (r:=10+k) (tag:=tag) t.size;exact⟨this.mL,this.new,λg d=>this.z g<|rB d⟩
 rcases d with d|d
 .rw[h.oC k e g d]
 rw[d,h.tb]
def fD(h:zi tag i b c V W)(E:Dm tag W)(hi:0<i)(k:Int)(a:Addr)(cap:Nat)(s:rC)(o:BR W (.slice (some a) s.length cap) s)(B:s.length<=1099511627776)(p:∀k,k<8->(c k).b.length<=1099511627776):rT 69 #[(b,0),.int .i64 k,.slice (some a) s.length cap] W (EI tag i b W (EJ (c.send k s).1) (c.send k s).2):=by
 have f:=PW h k;have K:=zb<|h.left E rp;unfold CS.send;by_cases l:c.stream k=0
 .obtain⟨B,O,z⟩:=Md l;obtain⟨q,rfl⟩:∃q:Nat,k=(q:Int):=⟨k.toNat,I⟩;have e:q<8:=I;rw[l]at f;simp only[l,Ad,ne_eq,CI,BZ];obtain⟨X,t⟩:=nm<|(c q).finished;obtain⟨Y,u⟩:=nm<|(c q).cut;obtain⟨N,v⟩:=nm<|(c q).b.length;have B:=p q e;rw[v]at B;have B:W (b,9+q*15+8)=some (.bool X):=by rw[<-t,AL];exact h.w (j:=8) e rfl
  have B:W (b,9+q*15+10)=some (.bool Y):=by rw[<-u,AL];exact h.w (j:=10) e rfl
  have Z:W (b,9+q*15)=some (V.wb q):=by rw[AL];exact h.w (j:=0) e rfl
  obtain⟨B,W1,DY,A⟩:=P8 W (V.wb q) (c q).b a cap s (h.wb q e) o I;obtain⟨B,O,rfl,_⟩:=zk A.own;have O:=h.qP E hi e A;rw[AL]at O;have w1:W1 (b,9+q*15)=some (V.wb q):=by
   have B:=(DO.refl _ W).grown A.grown<|λg T=>.inl T;exact B.cell (a:=⟨b,_,none⟩) (λx=>zi.apart h.tb (h.oC q e b x) I rfl) Z
  have a:W1.frozen? ⟨b,9+q*15,none⟩=false:=by
   have B:=(DO.refl _ W).grown A.grown<|λg T=>.inl T;have a:=B.obj (λx=>zi.apart h.tb (h.oC q e b x) I rfl) h.obj;simp[World.frozen?,a]
  have H:=zb O;obtain⟨c1,B⟩:∃c1:CS,{ c with ws:=ze c.ws q { c.ws q with b:=(c q).b++s } }=c1:=⟨_,rfl⟩;rw[B]at H ⊢;rw[t,u,v];rw[AG,v]at H;rw[AG,v]at DY;obtain⟨T,wc,a,_⟩:=zk<|h.wb q e;rw[v]at a;rw[a]at Z w1 DY;clear h O E t u l z B v A o a p;cases X
  .cases Y
   .by_cases d:2048<N+s.length
    .have d1:(2048:Int)-N<s.length:=I;simp only[d,Bool.or_self,BT,BZ,A9];clear d;go_enter func69,ntmps69;go_wp2_with (go_at_call 90;refine f.mono ?_;rintro _ _ ⟨rfl,rfl⟩;unfold EJ;simp only[A9]);go_ret;exact⟨rfl,K.z⟩
    have d1:¬(2048:Int)-N<s.length:=I;simp only[d,Bool.or_self,BT,BZ];clear d;go_enter func69,ntmps69;go_wp2_with (first|(go_at_call 90;refine f.mono ?_;rintro _ _ ⟨rfl,rfl⟩;unfold EJ;simp only[A9])|(at_builtin;refine zo rfl _ _ _ _ rfl _ _ _ rfl rfl DY ?_));go_ret;exact⟨rfl,H.z⟩
   simp only[Bool.or_true,A9];go_enter func69,ntmps69;go_wp2_with (go_at_call 90;refine f.mono ?_;rintro _ _ ⟨rfl,rfl⟩;unfold EJ;simp only[A9]);go_ret;exact⟨rfl,K.z⟩
  simp only[Bool.true_or,A9];go_enter func69,ntmps69;go_wp2_with (go_at_call 90;refine f.mono ?_;rintro _ _ ⟨rfl,rfl⟩;unfold EJ;simp only[A9]);go_ret;exact⟨rfl,K.z⟩
 obtain⟨n,z⟩:=nm<|c.stream k;rw[z]at f l;simp only[z,l,ne_eq,Av,A9];rw[JD l]at f ⊢;clear h E z l o p;go_enter func69,ntmps69;go_wp2_with (go_at_call 90;refine f.mono ?_;rintro _ _ ⟨rfl,rfl⟩);go_ret;exact⟨rfl,K.z⟩
structure D0(i:Nat)(tag:rD)(W:rq):Prop where
 ok:Dm tag W
 pos:0<i
 err:E7 W
 tab:Fw W
 g0:tag 0=(0,0)
 g1:tag 1=(0,0)
def D0.mod(h:D0 i tag W)(m:DO S W W')(a:∀g,S g->(tag g).1≠0\/W.heap.size<=g):D0 i tag W':=by
 have c:¬S 0:=λx=>by
  rcases a 0 x with q|q
  .rw[h.g0]at q;exact q rfl
  have:=zm h.err;omega
 have d:¬S 1:=λx=>by
  rcases a 1 x with q|q
  .rw[h.g1]at q;exact q rfl
  have:=h.tab.lt;omega
 exact⟨h.ok.mod m,h.pos,h.err.mod m c,h.tab.mod m d,h.g0,h.g1⟩
def D0.lK(h:D0 i tag W)(m:DO DQ W W'):D0 i tag W':=h.mod m rm
def D0.left(h:D0 i tag W)(e:Di i tag ky W W')(m:DO (λg=>(tag g).1=i) W W'):D0 i ky W':=by
 have p0:=zm h.err;have p1:=h.tab.lt;have a:=h.mod m<|λg c=>.inl<|pp h.pos;exact⟨e.z,h.pos,a.err,a.tab,by rw[e.mL 0 p0,h.g0],by rw[e.mL 1 p1,h.g1]⟩
variable{W2:rq}
def Dk.mf(h:Dk tag i b W c W1)(m:DO DQ W1 W2):Dk tag i b W c W2:=by
 obtain⟨ky,c,d,a,e⟩:=h;exact⟨ky,c,d.lK m,⟨a.mL,a.new,a.z.mod m⟩,e.trans<|m.mono rm⟩
variable{W0:rq}
def Dk.thenS(e:Dm tag W)(hi:0<i)(m0:DO DQ W W0)(h:Dk tag i b W0 c W1)(m:DO S W1 W2)(f:∀g,S g->W.heap.size<=g/\g<W0.heap.size):Dk tag i b W c W2:=by
 obtain⟨ky,l,o,d,p⟩:=h;have q:∀g,S g->ky g=(0,0):=λg c=>by
  obtain⟨a,b⟩:=f g c;rw[d.mL g b];exact e g a
 refine⟨ky,l,o.mod m (λg c x=>?_)<|λ_ _=>rfl,⟨λg c=>d.mL g<|A7 c m0.size,λg c=>?_,d.z.mod m⟩,?_⟩
 .rw[q g c]at x;simp at x;omega
 .by_cases a:g<W0.heap.size
  .exact .inr (by rw[d.mL g a];exact e g c)
  exact d.new g I
 exact((m0.mono rm).then p<|λg c=>.inl c).then m (λg c=>.inr (f g c).1)
def Dk.mG(a:Dm tag W)(hi:0<i)(m0:DO DQ W W0)(h:Dk tag i b W0 c W1):Dk tag i b W c W1 :=
 h.thenS (S:=DQ) a hi m0 rp rm
def H8(w:rq)(g n:Nat):Prop:=∃cs t fz,w.heap[g]?=some (.cells cs t fz)/\n<=cs.size/\n<=fz.1
variable{j:Nat}
def H8.cell{n:Nat}(h:H8 w g n)(a:j<n):(∃v,w (g,j)=some v)/\w.frozen? ⟨g,j,none⟩=false:=by
 obtain⟨cs,t,fz,a,d,c⟩:=h;refine⟨⟨cs[j],za a<|by simp[(I:j<cs.size)]⟩,?_⟩;obtain⟨d,e⟩:=fz;have:n<=d:=c;simp[World.frozen?,a];omega
def H8.set{n:Nat}(h:H8 w g n)(j:Nat)(v:rt):H8 (w.setCell (g,j) v) g n:=by
 obtain⟨cs,t,fz,a,c,d⟩:=h;exact⟨_,t,fz,zc a,rB c,d⟩
variable{w':rq}
def H8.mod{n:Nat}(h:H8 w g n)(m:DO S w w')(a:¬S g):H8 w' g n:=by
 obtain⟨cs,t,fz,c,d,e⟩:=h;exact⟨cs,t,fz,m.obj a c,d,e⟩
def RF(w:rq)(l:rC)(c:l.length<=4611686018427387904):∃a w',(convert 9 60 (.string (zu l))).run prog w=.ok (.slice w l.length a) w'/\BR w' (.slice w l.length a) l/\DO DQ w w'/\w'.heap.size=w.heap.size+1/\H8 w' w.heap.size l.length:=by
 have h:=Lib.run_convert_string_bytes (P:=prog) w 9 60 5 (zu l) (u:=.string) underlying9 underlying60 underlying5;have a:=grownCap_ge w (zu l).size 0 5;have c:grownCap w (zu l).size 0 5<=maxLen:=grownCap_le_maxLen w _ 0 _ (by rw[zG];unfold maxLen;omega);have hb:=Lib.bytesWorld_at_new w 5<|zu l;rw[zG]at h a c;have d:l.length<=(Lib.bytesCells w 5<|zu l).size:=by
  by_cases e:l.length=0
  .omega
  have:=Lib.bytesWorld_cell w 5 (zu l) (l.length-1) (by rw[zG];omega);rw[World.cell?,hb]at this;have e:(Lib.bytesCells w 5<|zu l)[l.length-1]?=some (.int .u8 (((zu l).data.toList.getD (l.length-1) 0).toNat:Int)):=rB this;have:=(AI.1 e).1;omega
 refine⟨_,_,h,⟨_,_,rfl,a,c,λi c a=>⟨_,_,rfl,?_⟩⟩,⟨?_,?_,?_,?_,?_⟩,Lib.bytesWorld_size _ _ _,⟨_,_,_,hb,d,d⟩⟩
 .have c:=(AO.1 a).1;have:=Lib.bytesWorld_cell w 5 (zu l) i (by rw[zG];exact c);rw[Aw,this];simp only[zu,List.getD,a,Option.getD_some]
 .simp[Lib.bytesWorld,World.freeze,World.alloc,World.drew,-World.alloc_eq,-World.drew_eq]
 .simp[Lib.bytesWorld,World.freeze,World.alloc,World.drew,-World.alloc_eq,-World.drew_eq]
 .simp[Lib.bytesWorld,World.freeze,World.alloc,World.drew,-World.alloc_eq,-World.drew_eq]
 .rw[Lib.bytesWorld_size];omega
 intro k a _;exact Lib.bytesWorld_at_old w _ _ k a
def ib(h:zi tag i b c V W)(E:D0 i tag W)(k:Int):rT 38 #[(b,0),[k]] W (EI tag i b W (.int .i64 ((c.finish k).1:Int)) (c.finish k).2):=by
 have d:=ic h E.ok k;have o:=zb E;clear h E;go_enter func38,ntmps38;go_wp2_with fail;refine d.mono ?_;rintro _ W1 ⟨rfl,a⟩;obtain⟨ky,p,h,e,f⟩:=id a;have p:=Kw (c.finish k).1 W1 (o.z.left e f).err;have q:=zb a;clear a h e f d;go_wp2_with fail;refine p.mono ?_;rintro _ a ⟨rfl,l⟩;have H:=zb<|q.z.mf l;clear l;go_wp2_with fail;go_ret;exact⟨rfl,H.z⟩
def fC(h:zi tag i b c V W)(E:D0 i tag W)(k:Int)(s:rC)(z:s.length<=1099511627776)(f:∀k,k<8->(c k).b.length<=1099511627776):rT 37 #[(b,0),.int .i64 k,.string (zu s)] W (EI tag i b W (.int .i64 ((c.send k s).1:Int)) (c.send k s).2):=by
 obtain⟨a,W1,A,d,t,l,o⟩:=RF W s I;have Y:=fD (h.lK t) (E.ok.mod t) E.pos k ⟨W.heap.size,0,none⟩ a s d z f;have B:s.length<=a/\a<=maxLen:=by
  obtain⟨_,_,e,K,u,_⟩:=d;cases e;exact⟨K,u⟩
 obtain⟨e,a⟩:=B;unfold maxLen at a;have q:=zb E;have Z:=zb t;have HB:=zb o;have HS:=zb l;clear h E d t f o l;go_enter func37,ntmps37;go_wp2_with fail;refine Y.mono ?_;rintro _ W2 ⟨rfl,N⟩;clear Y;obtain⟨ky,a,K,u,d⟩:=id N;have e:=(q.z.lK Z.z).left u d;have a:=HB.z.mod d (λx=>by
  have:=q.z.ok W.heap.size ro;rw[this]at x;have:=q.z.pos;simp at x;omega)
 have kn:=Kw (c.send k s).1 W2 e.err;have HL:=zb N;have O:=zb a;clear N K u d e a A;go_wp2_with fail;refine kn.mono ?_;rintro _ W3 ⟨rfl,T⟩;have a:=zb<|O.z.mod T rk;have X:=zb<|HL.z.mf T;clear T kn;go_wp2_with fail
 go_loopw [19] (λc wr=>∃j:Nat,j<=s.length/\c=.int .i64 j/\H8 wr W.heap.size s.length/\DO (λg=>g=W.heap.size) W3 wr) (λc _=>s.length-(intOf c).toNat)
 case atStart=>exact⟨0,AN _,rfl,a.z,DO.refl _ _⟩
 case round =>
  obtain⟨j,a,rfl,v,m⟩:=hrel;by_cases a:j<s.length
  .obtain⟨⟨c,d⟩,e⟩:=v.cell a;have a:=zb<|v.set j<|.int .u8 33;have c:=zb<|m.setCell (p:=(W.heap.size,j)) rj<|.int .u8 33;clear v m;go_wp2_with fail;go_roundw
   case rel=>exact⟨j+1,I,by go_num,a.z,c.z⟩
   simp[intOf];omega
  have H:=zb (X.z.thenS q.z.ok q.z.pos Z.z m (λg a=>by
   have a:=a;have:=HS.z;omega))
  clear v m;go_wp2_with fail;go_ret;exact⟨rfl,H.z⟩
def RS.used(x:RS):Nat:=if x.state=2 then x.fin else x.read
def RS.mb(x:RS):Bool:=if x.cut then decide (x.kz<x.lG)||(x.lU&&x.state==0)else !x.ended
def Tn(h:zi tag i b c V W)(a:k<8):rT 196 #[(b,129+k*13)] W λe W'=>e=.returned (.int .u64 ((c.rs k).used:Int))/\W=W':=by
 have d:W (b,129+k*13+10)=some (.int .i64 ((c.rs k).state:Int)):=by rw[AL];exact h.r (j:=10) a rfl
 have e:W (b,129+k*13+5)=some (.int .u64 ((c.rs k).fin:Int)):=by rw[AL];exact h.r (j:=5) a rfl
 have f:W (b,129+k*13+9)=some (.int .u64 ((c.rs k).read:Int)):=by rw[AL];exact h.r (j:=9) a rfl
 obtain⟨x,a⟩:=nm<|c.rs k;rw[a]at d e f ⊢;clear h a;unfold RS.used;by_cases a:x.state=2
 .have d:((x.state:Int)==2)=true:=by rw[a];rfl
  rw[AM a];clear a;go_enter func196,ntmps196;go_wp2_with fail;go_ret;exact rZ
 have d:((x.state:Int)==2)=false:=AR.2 I;rw[AH a];clear a;go_enter func196,ntmps196;go_wp2_with fail;go_ret;exact rZ
def Ul(h:zi tag i b c V W)(d:k<8):rT 197 #[(b,129+k*13)] W λe W'=>e=.returned (.bool (c.rs k).mb)/\DO DQ W W':=by
 have f:W (b,129+k*13+10)=some (.int .i64 ((c.rs k).state:Int)):=by rw[AL];exact h.r (j:=10) d rfl
 have o:W (b,129+k*13+6)=some (.bool (c.rs k).ended):=by rw[AL];exact h.r (j:=6) d rfl
 have p:W (b,129+k*13+7)=some (.bool (c.rs k).cut):=by rw[AL];exact h.r (j:=7) d rfl
 have q:W (b,129+k*13+8)=some (.int .u64 ((c.rs k).lG:Int)):=by rw[AL];exact h.r (j:=8) d rfl
 have l:W (b,129+k*13+11)=some (.int .u64 ((c.rs k).kz:Int)):=by rw[AL];exact h.r (j:=11) d rfl
 have a:W (b,129+k*13+12)=some (.bool (c.rs k).lU):=by rw[AL];exact h.r (j:=12) d rfl
 obtain⟨x,d⟩:=nm<|c.rs k;rw[d]at f o p q l a ⊢;clear h d;unfold RS.mb;obtain⟨s,c⟩:=nm x.cut;obtain⟨t,d⟩:=nm x.lU;obtain⟨u,h⟩:=nm x.ended;rw[c]at p ⊢;rw[d]at a ⊢;rw[h]at o ⊢;clear c d h;cases s
 .clear q f l a;cases u
  .go_enter func197,ntmps197;go_wp2_with fail;go_ret;exact⟨rfl,DO.refl _ _⟩
  go_enter func197,ntmps197;go_wp2_with fail;go_ret;exact⟨rfl,DO.refl _ _⟩
 by_cases a:x.kz<x.lG
 .have d:decide (x.kz<x.lG)=true:=by simp[a]
  have c:AA (decide (x.kz<x.lG)=true):=zb (by simp[a]);clear a;go_enter func197,ntmps197;go_wp2_with fail;go_quiet (fail);go_wp2_with fail;go_ret;exact⟨rfl,(DO.refl DQ _).drewN _⟩
 have d:decide (x.kz<x.lG)=false:=by simp[a]
 have c:AA (decide (x.kz<x.lG)=false):=zb (by simp[a]);clear a;cases t
 .go_enter func197,ntmps197;go_wp2_with fail;go_quiet (fail);go_wp2_with fail;go_ret;exact⟨rfl,(DO.refl DQ _).drewN _⟩
 by_cases a:x.state=0
 .have e:((x.state:Int)==0)=true:=by rw[a];rfl
  have c:AA ((x.state==0)=true):=zb (by rw[a];rfl);clear a;go_enter func197,ntmps197;go_wp2_with fail;go_quiet (fail);go_wp2_with fail;go_ret;exact⟨by rw[c.z];rfl,(DO.refl DQ _).drewN _⟩
 have e:((x.state:Int)==0)=false:=AR.2 I;have c:=zb<|AR.2 a;clear a;go_enter func197,ntmps197;go_wp2_with fail;go_quiet (fail);go_wp2_with fail;go_ret;exact⟨by rw[c.z];rfl,(DO.refl DQ _).drewN _⟩
def zJ(ws:Nat->WS):Nat->Nat
 | 0=>0
 | k+1=>zJ ws k+(ws k).high
def CS.mi(c:CS):Nat:=zJ c.ws 8
variable{m:Nat}
theorem j9(ws:Nat->WS)(h:k<=m):zJ ws k<=zJ ws m:=by
 induction m with
 | zero=>rw[Nat.le_zero.1 h];exact AF _
 | succ m ih =>
  by_cases e:k=m+1
  .rw[e];exact AF _
  have:=ih I;simp only[zJ];omega
def fB(h:zi tag i b c V W)(a:c.mi<18446744073709551616):rT 199 #[(b,0)] W λe W'=>e=.returned (.int .u64 c.mi)/\W=W':=by
 have d:=zb h;have l:=zb a;clear h a;go_enter func199,ntmps199;go_wp2_with fail
 go_loopw [3,5] (λe a wr=>∃k:Nat,k<=8/\e=.int .u64 (zJ c.ws k:Int)/\a=.int .i64 k/\W=wr) (λ_ a _=>8-(intOf a).toNat)
 case atStart=>exact⟨0,I,rfl,rfl,rfl⟩
 case round =>
  obtain⟨k,a,rfl,rfl,rfl⟩:=hrel;by_cases a:k<8
  .have e:W (b,9+k*15+7)=some (.int .u64 ((c k).high:Int)):=by rw[AL];exact d.z.w (j:=7) a rfl
   have hb:zJ c.ws k+(c k).high<18446744073709551616:=by
    have a:zJ c.ws (k+1)<=zJ c.ws 8:=j9 _ I;have a:zJ c.ws 8<18446744073709551616:=l.z;have a:zJ c.ws (k+1)=zJ c.ws k+(c k).high:=rfl;omega
   obtain⟨n,a⟩:=nm<|zJ c.ws k;obtain⟨m,d⟩:=nm<|(c k).high;have h:AA (zJ c.ws (k+1)=n+m):=by
    show _=_;rw[<-a,<-d];rfl
   rw[a,d]at hb;rw[a];rw[d]at e;have c:=wu ((n:Int)+m) I;clear a d;go_wp2_with fail;go_roundw
   case rel=>exact⟨k+1,I,by rw[h.z];rfl,by go_num,trivial⟩
   simp[intOf];omega
  have f:k=8:=I;subst f;go_wp2_with fail;go_ret;exact rZ
structure DX where
 b:rC
 fs:List DV
 room:Nat
 lh:Bool
 full:Bool
def DX.add(d:DX)(f:DV):Option DX :=
 if d.room<(d.b++zC f).length+4 then none else some { d with b:=d.b++zC f,fs:=d.fs++[f],lh:=d.lh||f.kind != 2 }
structure Ee(tag:rD)(i db:Nat)(d:DX)(bv fv:rt)(l:List (DV×rt))(W:rq):Prop where
 obj:W.heap[db]?=some (.cells #[bv,fv,[d.room],d.lh,d.full] 180 (0,0))
 tb:tag db=(i,90)
 ob:OB W bv d.b
 nP:∀g,bv.ownBlock=some g->tag g=(i,91)
 own:W.ownsRow 0 65 10 fv l.length (FE l)
 lf:l.map (·.1)=d.fs
 rr:∀x∈l,RR W x.2 x.1.lF/\∀g,Value.mu x.2=some g->tag g=(i,5)
 na:∀g,fv.ownBlock=some g->tag g=(i,92)
structure JM(i:Nat)(tag ky:rD)(W W':rq):Prop where
 mL:∀g,g<W.heap.size->ky g=tag g
 new:∀g,W.heap.size<=g->(∃r,90<=r/\ky g=(i,r))\/ky g=(0,0)
 z:Dm ky W'
def JX(i:Nat)(tag:rD)(g:Nat):Prop:=∃r,90<=r/\tag g=(i,r)
def zi.oR(h:zi tag i b c V W)(a:Dm tag W)(hi:0<i)(m:DO (JX i tag) W W')(e:∀g,g<W.heap.size->ky g=tag g):zi ky i b c V W':=by
 refine h.build (R:=λr=>90<=r) m (λg c=>c) (λg c=>e g<|EZ a (i:=i) (r:=(tag g).2) (by rw[<-c]) hi) (m.obj (λ⟨r,hr,hx⟩=>?_) h.obj) rY (λk a=>.inl rW) (λk a=>.inl rW) (λk a=>.inl rW) (λk a=>.inl rW) (λk a=>.inl rW) rY rV rV rV;rw[h.tb]at hx;simp at hx;omega
def JQ(tag:rD)(i h:Nat)(W:rq)(d:DX)(f:DV)(e:Ending)(W':rq):Prop :=
 e=.returned (.bool (d.add f).isSome)/\∃ky a c e,Ee ky i h ((d.add f).getD d) a c e W'/\JM i tag ky W W'/\DO (JX i tag) W W'
variable{bv fv:rt}{d:DX}{db:Nat}{f:DV}
def Wh{l:List (DV×rt)}(h:Ee tag i db d bv fv l W)(p:Dm tag W)(hi:0<i)(m1:DO DQ W W1)(o:Ds W1 bv d.b (zC f) v' W2)(e:d.add f=none):JQ tag i db W d f (.returned (.bool false)) W2:=by
 have f:=((m1.mono rm).then ((DO.refl (λg=>bv.ownBlock=some g) W1).grown o.grown<|λg a=>.inl a)<|λg a=>.inl a);have c:∀{g r:Nat},tag g=(i,r)->g<W.heap.size:=λa=>EZ p a hi
 refine⟨by rw[e];rfl,zQ tag W W2 (i,91),bv,fv,l,?_,⟨λg a=>zD a,λg a=>?_,λg a=>?_⟩,f.mono<|λg a=>.inl ⟨91,lc,h.nP g a⟩⟩
 .rw[e];show Ee _ i db d bv fv l W2;exact⟨f.obj (λx=>zi.apart h.tb (h.nP _ x) lc rfl) h.obj,by rw[zD (c h.tb),h.tb],o.mL,λg a=>by rw[zD (c<|h.nP g a),h.nP g a],f.owns h.own<|λg a x=>zi.apart (h.na g a) (h.nP g x) lc rfl,h.lf,
   λx d=>⟨(h.rr x d).1.mod f<|Gr λg a y=>zi.apart ((h.rr x d).2 g a) (h.nP g y) lc rfl,λg a=>by rw[zD (c<|(h.rr x d).2 g a),(h.rr x d).2 g a]⟩,λg a=>by rw[zD (c<|h.na g a),h.na g a]⟩
 .by_cases q:g<W2.heap.size
  .exact .inl ⟨91,lc,GM a q⟩
  exact .inr<|by simp only[zQ,(I:¬g<W.heap.size),q,AH,Av]
 have:=f.size;simp only[zQ,(I:¬g<W.heap.size),(I:¬g<W2.heap.size),AH,Av]
variable{d':DX}{rv:rt}
def YG{l:List (DV×rt)}{u t p:rq}{v:rt}(h:Ee tag i db d bv fv l W)(O:Dm tag W)(hi:0<i)(m1:DO DQ W W1)(z:Ds W1 bv d.b (zC f) v' W2)(hd:d.add f=some d')
  (Z:RR W rv f.lF) (A:∀g,Value.mu rv=some g->tag g=(i,5)) (X:DO (λg=>g=db) W2 u) (o:t.ownsRow 0 65 10 v (l.length+1) (FE<|l++[(f,rv)])) (K:u.grownBy t fv.ownBlock) (B:D4 u fv v) (N:DO (λg=>g=db) t p)
  (ho:p.heap[db]?=some (.cells #[v',v,[d.room],d'.lh,d.full] 180 (0,0))) (Y:u.heap.size=W2.heap.size) (aa:p.heap.size=t.heap.size) :
  JQ tag i db W d f (.returned<|.bool true) p:=by
 have c:∀{g r:Nat},tag g=(i,r)->g<W.heap.size:=λa=>EZ O a hi
 have Y:=(DO.refl (λg=>bv.ownBlock=some g) W1).grown z.grown<|λg a=>.inl a;have m2:=(m1.mono rm).then Y<|λg a=>.inl a;have O:=(DO.refl (λg=>fv.ownBlock=some g) u).grown K<|λg a=>.inl a;have m:DO (λg=>g=db\/bv.ownBlock=some g\/fv.ownBlock=some g) W p:=(((m2.mono<|λg a=>.inl<|.inr<|.inl a).then X<|λg a=>.inl<|.inl a).then O<|λg a=>.inl<|.inr<|.inr a).then N<|λg a=>.inl<|.inl a;have T:DO (λg=>g=db\/fv.ownBlock=some g) W2 p:=((X.mono<|λg a=>.inl<|.inl a).then O<|λg a=>.inl<|.inr a).then N<|λg a=>.inl<|.inl a;have u:=m1.size;have u:=Y.size;have u:=O.size;have s:d'={ d with b:=d.b++zC f,fs:=d.fs++[f],lh:=d.lh||f.kind != 2 }:=by
  unfold DX.add at hd;split at hd
  .cases hd
  exact(Bt hd).symm
 have d:=λx e=>(h.rr x e).1.mod m (Gr λg a y=>by
  rcases y with y|y|y
  .exact zi.apart ((h.rr x e).2 g a) (y ▸ h.tb) lc rfl
  .exact zi.apart ((h.rr x e).2 g a) (h.nP g y) lc rfl
  exact zi.apart ((h.rr x e).2 g a) (h.na g y) lc rfl)
 have E:=Z.mod m (Gr λg a y=>by
  rcases y with y|y|y
  .exact zi.apart (A g a) (y ▸ h.tb) lc rfl
  .exact zi.apart (A g a) (h.nP g y) lc rfl
  exact zi.apart (A g a) (h.na g y) lc rfl)
 refine⟨by rw[hd];rfl,λg=>if g<W.heap.size then tag g else if g<W2.heap.size then(i,91)else if g<t.heap.size then(i,92)else(0,0),v',v,l++[(f,rv)],?_,⟨λg a=>AM a,λg a=>?_,λg a=>?_⟩,m.mono<|λg a=>.inl ?_⟩
 .rw[hd];show Ee _ i db d' v' v _ p;refine⟨by rw[ho,s],by rw[AM (c h.tb),h.tb],?_,λg a=>?_,?_,by rw[s,BX,h.lf];rfl,λx e=>?_,λg a=>?_⟩
  .rw[s];refine T.owns z.own<|λg a y=>?_;rcases z.at_ g a with q|q
   .rcases y with y|y
    .exact zi.apart (h.nP g q) (y ▸ h.tb) lc rfl
    exact zi.apart (h.nP g q) (h.na g y) lc rfl
   rcases y with y|y
   .have:=c h.tb;omega
   have:=c<|h.na g y;omega
  .rcases z.at_ g a with q|q
   .rw[AM (c<|h.nP g q),h.nP g q]
   have:=zK z.own g a;simp only[(I:¬g<W.heap.size),AH,Av,AM this]
  .rw[AG];refine N.owns o<|λg a y=>?_;have y:=y;rcases B g a with q|q
   .exact zi.apart (h.na g q) (y ▸ h.tb) lc rfl
   have:=c h.tb;omega
  .rw[Ak]at e;rcases e with e|e
   .exact⟨d x e,λg a=>by rw[AM (c<|(h.rr x e).2 g a),(h.rr x e).2 g a]⟩
   rw[Af]at e;subst e;exact⟨E,λg a=>by rw[AM (c<|A g a),A g a]⟩
  rcases B g a with q|q
  .rw[AM (c<|h.na g q),h.na g q]
  have:=zK o g a;simp only[(I:¬g<W.heap.size),(I:¬g<W2.heap.size),AH,Av,AM this]
 .simp only[(I:¬g<W.heap.size),AH,Av];split
  .exact .inl ⟨91,lc,rfl⟩
  split
  .exact .inl ⟨92,lc,rfl⟩
  exact .inr rfl
 .simp only[(I:¬g<W.heap.size),(I:¬g<W2.heap.size),(I:¬g<t.heap.size),AH,Av]
 rcases a with a|a|a
 .exact⟨90,lc,by rw[a,h.tb]⟩
 .exact⟨91,lc,h.nP g a⟩
 exact⟨92,lc,h.na g a⟩
def Ox{l:List (DV×rt)}(h:Ee tag i db d bv fv l W)(B:Dm tag W)(hi:0<i)(f:DV)(T:rE)(X rc:Nat)(hs:Dx f=true)(hr:RR W (.slice T X rc) f.lF)(ht:∀g,Value.mu (.slice T X rc)=some g->tag g=(i,5))
  (N:f.lF.length<=1099511627776) (ar:f.data.length<=35184372088832) (au:d.b.length<=35184372088832) (a:(zC f).length<=35184372088832) (av:l.length<=1099511627776) :
  rT 142 #[(db,0),.agg (zj f<|.slice T X rc)] W (JQ tag i db W d f):=by
 obtain⟨t,c⟩:=nm<|Value.slice T X rc;rw[c]at hr ht ⊢;obtain⟨W0,a⟩:=nm<|W.alloc<|.cells (zj f t) 65;have m0:=AB a;have o0:zl W0 W.heap.size f t:=by rw[<-a];exact heap_alloc_new W _
 have e:=m0.drew;have oD:=m0.obj rk h.obj;have aE:=EZ B h.tb hi;have ka:=RJ bv d.b f t W0.drew (e.owns h.ob<|λ_ _ x=>x) (λ_=>Gr λg u x=>zi.apart (ht g u) (h.nP g x) lc rfl) (hr.mod e<|Dj.no _) N ar au;rw[hs]at ka;have s:¬bv.ownBlock=some db:=λx=>zi.apart h.tb (h.nP _ x) lc rfl
 have z:¬bv.ownBlock=some W.heap.size:=λx=>pp<|EZ B (h.nP _ x) hi
 have ac:¬fv.ownBlock=some db:=λx=>zi.apart h.tb (h.na _ x) lc rfl
 have ad:¬fv.ownBlock=some W.heap.size:=λx=>pp<|EZ B (h.na _ x) hi
 obtain⟨ba,bc,N,aG,aH,_⟩:=zk h.ob;obtain⟨fa,fc,ae,aI,aJ,_⟩:=zk h.own;have Y:=zb h;have HK:=zb B;have HR:=zb hr;have HT:=zb ht;have KA:=zb ka;have M0:=zb m0;have E:=zb oD;have O:=zb o0;have aw:=zb a;have af:¬W.heap.size=db:=I;have aF:¬db=W.heap.size:=I;clear h B hr ht ka m0 oD o0 a e hs;obtain⟨dw,a⟩:=nm d.lh;have ag:=zb a;have ax:=zb N;have e:=zb ae;have ay:=zb c;clear a N ae c;go_enter func142,ntmps142;go_wp2_with fail;rw[aw.z];refine zn 7 (λw'=>zl w' W.heap.size f t/\w'.heap[db]?=some (.cells #[bv,fv,[d.room],d.lh,d.full] 180 (0,0))) (⟨O.z,E.z⟩) ?_;refine GI 0 ?_;iterate 5
  refine GS rfl ?_ ?_ ?_;rotate_left
  ·(intro wx q;obtain⟨Z,hd⟩:=q;obtain⟨y0,y1,y2,y3,y4,y5,y6,y7,y8,y9⟩:=Z.cells;have d0:=za (o:=0) hd rfl;have d1:=za (o:=1) hd rfl;go_simp;try with_reducible rfl)
  try simp only[PS]
 refine zz 5 rfl (λK v=>?_);go_simp;refine KA.z.mono ?_;rintro e A (⟨_,v',rfl,hA⟩|⟨hx,_⟩);rotate_left
 .cases hx
 have c:=(DO.refl (λg=>bv.ownBlock=some g) W0.drew).grown hA.grown<|λg u=>.inl u;have a:zl A W.heap.size f t/\A.heap[db]?=some (.cells #[bv,fv,[d.room],d.lh,d.full] 180 (0,0)):=⟨c.obj z O.z,c.obj s E.z⟩;refine v.z _ _ a ?_;clear v K;try simp only[PS]
 refine GI 6 ?_;refine GS rfl ?_ ?_ ?_;rotate_left
 ·(intro wx q;obtain⟨Z,hd⟩:=q;obtain⟨y0,y1,y2,y3,y4,y5,y6,y7,y8,y9⟩:=Z.cells;have d0:=za (o:=0) hd rfl;have d1:=za (o:=1) hd rfl;go_simp;try with_reducible rfl)
 try simp only[PS]
 refine zq ?_;obtain⟨h,B,e,z1,z2,_⟩:=zk hA.own;have HA:=zb hA;have h:=zb c;have B:=zb a;have N:A (db,2)=some (.int .i64 d.room):=za a.2 rfl;obtain⟨N,hN⟩:=nm<|(d.b++zC f).length;rw[hN]at e z1;have aK:N<=70368744177664:=by rw[<-hN,AG];omega
 unfold maxLen at z2;have ah:=zb e;clear hA c a B;rw[ah.z];by_cases c:d.room<N+4
 .have a:d.add f=none:=by unfold DX.add;rw[hN,AM c]
  have H:=zb<|Wh Y.z HK.z hi M0.z.drew HA.z a;have B:(d.room:Int)<(N:Int)+4:=I;clear hN c a e;go_wp2_with fail;go_ret;exact H.z
 have B:¬(d.room:Int)<(N:Int)+4:=I;obtain⟨e,a⟩:∃e,d.add f=some e:=by unfold DX.add;rw[hN,AH c];exact⟨_,rfl⟩
 have ai:e.lh=(d.lh||f.kind != 2):=by
  unfold DX.add at a;rw[hN,AH c]at a;rw[<-Option.some.inj a]
 have HW:=zb ai;have aj:=zb a;have B:=h.z.obj s E.z;have ak:=h.z.obj z O.z;have az:A db=some bv:=za B rfl;have e:∀j,A.frozen? ⟨db,j,none⟩=false:=λj=>zg B
 obtain⟨s,z⟩:=nm<|A.setCell db v';have m3:DO (λg=>g=db) A s:=by rw[<-z];exact(DO.refl (λg=>g=db) _).setCell (p:=db) rj _
 have al:s.heap.size=A.heap.size:=by rw[<-z];simp
 have E:s.heap[db]?=some (.cells #[v',fv,[d.room],d.lh,d.full] 180 (0,0)):=by rw[<-z];exact zc B
 have N:zl s W.heap.size f t:=m3.obj af ak;have am:=(M0.z.drew.mono rm).then h.z<|λg u=>.inl u;have an:=m3.owns (am.owns Y.z.own<|λg u x=>zi.apart (Y.z.na g u) (Y.z.nP g x) lc rfl)<|λg u x=>zi.apart (Y.z.na g u) (x ▸ Y.z.tb) lc rfl;obtain⟨v5,W5,aa,e,h,ao⟩:=Tt s.drew fv l f T X rc an av;rw[ay.z]at aa e;obtain⟨l,A,ap,_⟩:=zk e;have l:s.grownBy W5 fv.ownBlock:=⟨h.os,h.tape,h.output,h.size,h.block⟩;have T:D4 s fv v5:=ao;have m5:=(DO.refl (λg=>fv.ownBlock=some g) s).grown l<|λg u=>.inl u;have u:=m5.obj ac E;have ab:=m5.obj ad N;have A:∀j,W5.frozen? ⟨db,j,none⟩=false:=λj=>zg u
 have A:W5 (db,1)=some fv:=za u rfl;obtain⟨X,A⟩:=nm<|W5.setCell (U db 1) v5;have m6:DO (λg=>g=db) W5 X:=by rw[<-A];exact(DO.refl (λg=>g=db) _).setCell (p:=U db 1) rj _
 have O:X.heap[db]?=some (.cells #[v',v5,[d.room],d.lh,d.full] 180 (0,0)):=by rw[<-A];exact zc u
 have aq:zl X W.heap.size f t:=m6.obj af ab;have aL:X (db,3)=some (.bool dw):=by rw[<-ag.z];exact za O rfl
 have aM:=aq.cells.1;have f6:∀j,X.frozen? ⟨db,j,none⟩=false:=λj=>zg O
 have H:∀x,X.setCell (db,3) (.bool x)=X.setCell (db,3) (.bool x)->x=(dw||f.kind != 2)->JQ tag i db W d f (.returned<|.bool true) (X.setCell (db,3)<|.bool x):=λx _ hx=>by
  refine YG Y.z HK.z hi M0.z.drew HA.z aj.z HR.z HT.z m3 e l T (m6.setCell (p:=U db 3) rj _) ?_ al (by rw[<-A];simp);rw[zc O,HW.z,ag.z,<-hx];rfl
 have HH:=zb H;have Y:AA (zl s.drew W.heap.size f t/\s.drew.heap[db]?=some (.cells #[v',fv,[d.room],d.lh,d.full] 180 (0,0))):=⟨N,E⟩;have aA:AA (∀X,DO DQ s X->zl X W.heap.size f t/\X.heap[db]?=some (.cells #[v',fv,[d.room],d.lh,d.full] 180 (0,0))):=λX m=>⟨m.obj rk N,m.obj rk E⟩
 have aB:AA (zl W5 W.heap.size f t/\W5.heap[db]?=some (.cells #[v',fv,[d.room],d.lh,d.full] 180 (0,0))):=⟨ab,u⟩;have aC:=zb z;have aD:=zb A;have p:=zb ap;have X:=zb aa;clear H hN c a ai B ak z m3 al E N am an aa e h l ao T m5 u ab A m6 O aq ap;have a:=ax.z;rw[a]at az;go_wp2_with fail;rw[<-ah.z,aC.z];refine zn 10 (λw'=>zl w' W.heap.size f t/\w'.heap[db]?=some (.cells #[v',fv,[d.room],d.lh,d.full] 180 (0,0))) (Y.z) ?_;refine GI 0 ?_;iterate 6
  refine GS rfl ?_ ?_ ?_;rotate_left
  ·(intro wx q;obtain⟨Z,hd⟩:=q;obtain⟨y0,y1,y2,y3,y4,y5,y6,y7,y8,y9⟩:=Z.cells;have d0:=za (o:=0) hd rfl;have d1:=za (o:=1) hd rfl;go_simp;try with_reducible rfl)
  try simp only[PS]
 refine zz 6 rfl (λK v=>?_);go_simp;refine v.z _ _ (aA.z _<|(DO.refl DQ s).drew.alloc _) ?_;clear v K;try simp only[PS]
 refine zz 7 rfl (λK v=>?_);refine zL rfl _ _ _ _ rfl _ _ _ rfl rfl X.z ?_;refine v.z _ _ aB.z ?_;clear v K;try simp only[PS]
 refine GI 8 ?_;iterate 2
  refine GS rfl ?_ ?_ ?_;rotate_left
  ·(intro wx q;obtain⟨Z,hd⟩:=q;obtain⟨y0,y1,y2,y3,y4,y5,y6,y7,y8,y9⟩:=Z.cells;have d0:=za (o:=0) hd rfl;have d1:=za (o:=1) hd rfl;go_simp;try with_reducible rfl)
  try simp only[PS]
 rw[p.z];refine zY rfl (λK v=>?_);go_simp;refine v.z _ _ ?_;clear v K;try simp only[PS]
 refine zq ?_;rw[<-p.z,aD.z];clear X;cases dw
 .have a:=zb<|HH.z (f.kind != 2) trivial lm;go_wp2_with fail;go_ret;exact a.z
 have a:=zb<|HH.z true trivial lm;go_wp2_with fail;go_ret;exact a.z
def Dr(i:Nat)(tag:rD)(g:Nat):Prop:=(tag g).1=i/\(tag g).2≠5
def EU{r:Nat}(h:tag g=(i,r))(a:r≠5):Dr i tag g:=⟨by rw[h],by rw[h];exact a⟩
def DO.oL(m:DO (Dr i tag) W W'):DO (λg=>(tag g).1=i) W W':=m.mono (λ_ h=>.inl h.1)
def Gl(tag:rD)(i b d:Nat)(W:rq)(c':CS)(f:DX)(r:Bool)(e:Ending)(W':rq):Prop :=
 e=.returned (.bool r)/\∃ky e a c h,zi ky i b c' e W'/\Ee ky i d f a c h W'/\Di i tag ky W W'/\DO (Dr i tag) W W'
def JM.ext(h:JM i tag ky W W'):Di i tag ky W W' :=
 ⟨h.mL,λg a=>by
  rcases h.new g a with⟨r,_,e⟩|e
  .exact .inl (by rw[e])
  exact .inr e,h.z⟩
def Mc(m:DO (JX i tag) W W'):DO (Dr i tag) W W':=m.mono (λg ⟨r,hr,e⟩=>.inl (EU e I))
def Ee.pO{l:List (DV×rt)}(h:Ee tag i db d bv fv l W)(m:DO S W W')(f:∀g,S g->∃r,r<90/\r≠5/\tag g=(i,r))(e:∀g,(tag g).1=i->ky g=tag g):Ee ky i db d bv fv l W':=by
 have q:∀{g r:Nat},tag g=(i,r)->(90<=r\/r=5)->¬S g:=λa c x=>by
  obtain⟨d,l,o,c⟩:=f _ x;rw[a]at c;simp at c;omega
 have t:∀{g r:Nat},tag g=(i,r)->ky g=(i,r):=λa=>(e _<|by rw[a]).trans a
 exact⟨m.obj (q h.tb<|.inl lc) h.obj,t h.tb,m.owns h.ob<|λg a=>q (h.nP g a)<|.inl lc,λg a=>t<|h.nP g a,m.owns h.own<|λg a=>q (h.na g a)<|.inl lc,h.lf,
  λx c=>⟨(h.rr x c).1.mod m<|Gr λg a=>q ((h.rr x c).2 g a)<|.inr rfl,λg a=>t<|(h.rr x c).2 g a⟩,λg a=>t<|h.na g a⟩
def fA{e:Ending}(h:zi tag i b c V W)(t:Dm tag W)(hi:0<i)(hd:JQ tag i db W d f e W')(a:d.add f=none):Gl tag i b db W c d false e W':=by
 obtain⟨rfl,ky,l,o,u,p,q,s⟩:=hd;rw[a]at p ⊢;exact⟨rfl,ky,V,l,o,u,h.oR t hi s q.mL,p,q.ext,Mc s⟩
def CS.lT(c:CS)(d:DX):Option (CS×DX) :=
 match c.waits with
 | []=>none
 | f::l=>(d.add f).map λa=>({ c with waits:=l },a)
structure DV.Fits(f:DV):Prop where
 sound:Dx f=true
 rn:f.lF=[]
 data:f.data.length<=1048576
 len:(zC f).length<=1073741824
def jQ{l:List DV}(h:EK W 65 10 v (f::l).length (zs (f::l))):∃g o a,v=.slice (some ⟨g,o*10,none⟩) (l.length+1) a/\l.length+1<=a/\a<=maxLen/\(∀j x,(zj f ru)[j]?=some x->W ⟨g,o*10+j,none⟩=some x)/\EK W 65 10 (.slice (some ⟨g,(o+1)*10,none⟩) l.length (a-1)) l.length (zs l)/\(a-1=0->EK W 65 10 (.slice (some ⟨g,o*10,none⟩) l.length 0) l.length (zs l)):=by
 rcases h.2 with⟨_,d⟩|⟨g,o,a,c,rfl,p,s,z,t,u⟩
 .simp at d
 have d:(zs l).length=l.length*10:=by
  have:=h.1;simp only[zs,DM,AG,AS]at this ⊢;have e:(zj f ru).toList.length=10:=rfl;omega
 have h:zs (f::l)=(zj f ru).toList++zs l:=rfl;have e:l.length+1<=a:=rB s;refine⟨g,o,a,rfl,s,z,λj x e=>?_,⟨d,.inr ⟨g,o+1,a-1,c,rfl,p,I,I,?_,?_⟩⟩,λd=>?_⟩
 .have d:j<10:=(AI.1 e).1;refine za p ?_;have:((c.toList.drop<|o*10).take<|(f::l).length*10)[j]?=some x:=by
   rw[u,h,Al<|by exact d,Bk];exact e
  rw[CD]at this;split at this
  .rw[BA]at this;simpa using this
  cases this
 .rw[(I:o+1+(a-1)=o+a)];exact t
 .have a:(c.toList.drop<|o*10).take ((l.length+1)*10)=(zj f ru).toList++zs l:=u;have:((c.toList.drop<|o*10).take<|(l.length+1)*10).drop 10=zs l:=by
   rw[a];exact List.drop_left' rfl
  rw[<-this,C4,CX];congr 1
  .omega
  congr 1;omega
 have q:l=[]:=Ai I;subst q;exact⟨rfl,.inr ⟨g,o,0,c,rfl,p,AF _,AN _,AK (Bm 10 I) t,by simp[zs]⟩⟩
theorem kO{l:List (DV×rt)}(h:zi tag i b c V W)(T:Ee tag i db d bv fv l W)(E:D0 i tag W)(Z:∀f∈c.waits,f.Fits)(a:d.b.length<=1073741824)(t:l.length<=1073741824):rT 146 #[(b,0),(db,0)] W (Gl tag i b db W ((c.lT d).getD (c,d)).1 ((c.lT d).getD (c,d)).2 (c.lT d).isSome):=by
 have c5:W (b,238)=some V.wt:=h.tl (j:=5) rfl;cases hwt:c.waits with
 | nil =>
  have u:c.lT d=none:=by unfold CS.lT;rw[hwt]
  rw[u];have K:V.wt=.slice none 0 0\/∃a t,V.wt=.slice (some a) 0 t:=by
   have:=h.wt;rw[hwt]at this;rcases this.2 with⟨e,_⟩|⟨g,o,t,z,e,_⟩
   .exact .inl e
   exact .inr ⟨_,t,e⟩
  have H:AA (Gl tag i b db W c d false (.returned<|.bool false) W):=⟨rfl,tag,V,bv,fv,l,h,T,Di.same E.ok<|DO.refl DQ _,DO.refl _ _⟩;clear h T E Z hwt u;rcases K with e|⟨a,t,e⟩;all_goals
   rw[e]at c5;clear e;go_enter func146,ntmps146;go_wp2_with fail;go_ret;exact H.z
 | cons f ws =>
  have N:=Z f (by rw[hwt];exact AQ);have z:=h.wt;rw[hwt]at z;obtain⟨g,o,t,K,X,n2,a,t,l⟩:=jQ z;have X:=h.ni g (by rw[K];rfl);have ka:=Ox T E.ok E.pos f none 0 0 N.sound (by rw[N.rn];exact⟨none,0,rfl,AF _,AN _,λi hi=>absurd hi<|A6 i⟩) (λg hg=>by simp[Value.mu]at hg) (by rw[N.rn];simp) (pp N.data) I (pp N.len) I;have y0:W ⟨g,o*10,none⟩=some (.int .i64 f.kind):=a 0 _ rfl;have y1:=a 1 _ rfl;have y2:=a 2 _ rfl;have y3:=a 3 _ rfl;have y4:=a 4 _ rfl;have y5:=a 5 _ rfl;have y6:=a 6 _ rfl;have y7:=a 7 _ rfl;have y8:=a 8 _ rfl;have y9:=a 9 _ rfl;rw[K]at c5;unfold maxLen at n2;have HH:=zb h;have HD:=zb T;have O:=zb E;have Y:=zb hwt;have HV:=zb K;have A:=zb X;have HR:=zb t;have aa:=zb l;clear h T E Z hwt K a N z X t l;unfold zj at ka;have KA:=zb ka;clear ka;cases hadd:d.add f with
  | none =>
   have u:c.lT d=none:=by unfold CS.lT;rw[Y.z];simp[hadd]
   rw[u];have q:=zb hadd;clear u hadd;go_enter func146,ntmps146;go_wp2_with (go_at_call 142;refine KA.z.mono ?_;intro e W1 hd;have H:=zb<|fA HH.z O.z.ok O.z.pos hd q.z;obtain⟨rfl,_⟩:=hd;simp only[q.z,Option.isSome_none]at H ⊢);go_ret;exact H.z
  | some d' =>
   have u:c.lT d=some ({ c with waits:=ws },d'):=by unfold CS.lT;rw[Y.z];simp[hadd]
   rw[u];have q:=zb hadd;clear u hadd;go_enter func146,ntmps146;go_wp2_with fail;refine KA.z.mono ?_;rintro e W1 ⟨rfl,ky,ab,ac,l',B,s,v⟩;rw[q.z]at B ⊢;have a:=HH.z.oR O.z.ok O.z.pos v s.mL;have d:W1 (b,238)=some V.wt:=a.tl (j:=5) rfl;have e:=a.fz 238;have e:ky g=(i,6):=by rw[s.mL g (EZ O.z.ok A.z O.z.pos),A.z]
   rw[HV.z]at d;have z:AA (∀f,EK W 65 10 f ws.length (zs ws)->(∀q,Value.mu f=some q->q=g)->Gl tag i b db W { c with waits:=ws } d' true (.returned<|.bool true) (W1.setCell (U b 238) f)):=by
    intro f t h;have l:DO (λq=>q=b) W1 (W1.setCell (U b 238) f):=(DO.refl (λq=>q=b) _).setCell (p:=U b 238) rj _;refine⟨rfl,ky,{ V with wt:=f },ab,ac,l',?_,?_,⟨s.ext.mL,s.ext.new,s.z.mod l⟩,?_⟩
    .refine a.build (R:=λr=>r=1\/r=6) l (λq d=>⟨1,.inl rfl,by rw[d,a.tb]⟩) (λ_ _=>rfl) ?_ rY (λk p=>.inl rW) (λk p=>.inl rW) (λk p=>.inl rW) (λk p=>.inl rW) (λk p=>.inl rW) rY (.inr ⟨?_,λq d=>?_⟩) rV rV
     .rw[zc a.obj,Ao];rw[show(238:Nat)=233+5 from rfl,GA c { c with waits:=ws } V { V with wt:=f } _ rfl rfl rfl rfl]
     .refine(t.mod v<|λq d ⟨r,u,hx⟩=>?_).mod l (λq d x=>?_)
      .rw[h q d,A.z]at hx;simp at hx;omega
      have x:=x;rw[h q d]at x;exact zi.apart e (x ▸ a.tb) lc rfl
     rw[h q d,e]
    .exact B.pO l (λq d=>⟨1,lc,lc,by rw[d,a.tb]⟩) (λ_ _=>rfl)
    exact(Mc v).then l (λq d=>.inl (by
     have d:=d;exact EU (by rw[d,HH.z.tb]) lc))
   clear B s v a e y0 y1 y2 y3 y4 y5 y6 y7 y8 y9;go_wp2_with fail;all_goals go_ret
   .exact z.z _ (aa.z I) (λq d=>by simpa [Value.mu]using d.symm)
   have:=HR.z;rw[(I:(o+1)*10=o*10+10)]at this;exact z.z _ this<|λq d=>by simpa [Value.mu]using d.symm
def zF:Nat:=4611686018427387903
def Fz(k n:Nat):DV:=⟨6,(k:Int),0,0,n,false,0,0,[],[]⟩
def Gt(n:Nat):DV:=⟨5,0,0,0,n,false,0,0,[],[]⟩
def He(k final lG:Nat):DV:=⟨3,(k:Int),final,lG,0,false,0,0,[],[]⟩
def EO(c:CS)(d:DX):Nat->Nat->Nat->Option (CS×DX)×Nat
 | 0,_,t=>(none,t)
 | n+1,k,t =>
  if (decide ((c.rs k).kz<max (c.rs k).kz ((c.rs k).used+c.lD))||(c.rs k).lU)&&(c.rs k).mb then
   match d.add (Fz k<|max (c.rs k).kz<|(c.rs k).used+c.lD)with
   | some d'=>(some ({ c with rs:=ze c.rs k { c.rs k with kz:=max (c.rs k).kz<|(c.rs k).used+c.lD,lU:=false } },d'),min (t+(c.rs k).used) zF)
   | none=>EO c d n (k+1)<|min (t+(c.rs k).used) zF
  else EO c d n (k+1) (min (t+(c.rs k).used) zF)
def ER(c:CS)(d:DX):Nat->Nat->Option (CS×DX)
 | 0,_=>none
 | n+1,k =>
  if (c k).cut && !(c k).lN then
   match d.add (He k (c k).final (c k).lG)with
   | some d'=>some ({ c with ws:=ze c.ws k { c.ws k with lN:=true } },d')
   | none=>ER c d n<|k+1
  else ER c d n (k+1)
def Iu(c:CS)(d:DX)(t:Nat):Option (CS×DX) :=
 if decide (c.kz<max t c.kz)||c.lU then
  match d.add (Gt<|max t c.kz)with
  | some d'=>some ({ c with kz:=max t c.kz,lU:=false },d')
  | none=>ER c d 8 0
 else ER c d 8 0
def CS.control(c:CS)(d:DX):Option (CS×DX) :=
 match (EO c d 8 0 c.total).1 with
 | some x=>some x
 | none=>Iu c d (EO c d 8 0 c.total).2
def Mb(f:DV)(a:f.lF=[]):(zC f).length<=64+f.data.length:=by
 have c:=zy f.stream.toNat;have c:=zy f.off;have c:=zy f.rel;have c:=zy f.mF;have c:=zy f.id;have c:=zy f.dl;have c:=zy f.data.length;unfold zC Jl Je Jc Jj Jd Hs;split
 .simp;omega
 split
 .unfold Gn;rw[a];have a:=zy<|DP [] 0;have a:=zy<|([]:zE).length-1;have c:=zy<|DP [] 0-DU [] 0;simp only[AG,AS,Ae];have:(D5 []<|0-1).length=0:=rfl;simp only[Ae]at a;omega
 split
 .simp only[AG,AS,Ae];omega
 split
 .split
  .simp only[AG,AS,Ae];omega
  simp only[AG,AS,Ae];omega
 split
 .simp only[AG,AS,Ae];omega
 split
 .simp only[AG,AS,Ae];omega
 split
 .simp only[AG,AS,Ae];omega
 simp only[AG,AS,Ae];omega
def QS{n:Nat}(c:k<8)(a:n<=zF):(Fz k n).Fits:=by
 refine⟨?_,rfl,by simp[Fz],AK (Mb _ rfl)<|by simp[Fz]⟩;unfold zF at a;simp[Dx,Ec,nums,Eg,zR,Fz]
 and_intros<;>first|omega|exact Au I
def TH{n:Nat}(a:n<=zF):(Gt n).Fits:=by
 refine⟨?_,rfl,by simp[Gt],AK (Mb _ rfl)<|by simp[Gt]⟩;simp[Dx,Ec,nums,Eg,zR,Gt];unfold zF at a;omega
def TG{final lG:Nat}(d:k<8)(a:final<=zF)(c:lG<=final):(He k final lG).Fits:=by
 refine⟨?_,rfl,by simp[He],AK (Mb _ rfl)<|by simp[He]⟩;unfold zF at a;simp[Dx,Ec,nums,Eg,zR,He]
 and_intros<;>first|omega|exact Au I
def NQ{l:List (DV×rt)}(h:Ee tag i db d bv fv l W)(c:Dm tag W)(hi:0<i)(f:DV)(a:f.Fits)(e:d.b.length<=1073741824)(o:d.fs.length<=1073741824):rT 142 #[(db,0),.agg (zj f ru)] W (JQ tag i db W d f):=by
 have e:l.length=d.fs.length:=by rw[<-h.lf,BD]
 exact Ox h c hi f none 0 0 a.sound (by rw[a.rn];exact⟨none,0,rfl,AF _,AN _,λi hi=>absurd hi<|A6 i⟩) (λg c=>by simp[Value.mu]at c) (by rw[a.rn];simp) (pp a.data) I (pp a.len) I
structure zP(tag:rD)(i b db:Nat)(W:rq)(c:CS)(d:DX)(ky:rD)(V':CV)(nN nO:rt)(l':List (DV×rt))(W':rq):Prop where
 c:zi ky i b c V' W'
 d:Ee ky i db d nN nO l' W'
 e:Di i tag ky W W'
 m:DO (Dr i tag) W W'
 p:0<i
variable{nN nO:rt}{l':List (DV×rt)}
def zP.ok(h:zP tag i b db W c d ky V' nN nO l' W'):Dm ky W':=h.e.z
def zP.post(h:zP tag i b db W c d ky V' nN nO l' W')(r:Bool):Gl tag i b db W c d r (.returned (.bool r)) W':=⟨rfl,ky,V',nN,nO,l',h.c,h.d,h.e,h.m⟩
variable{W'':rq}
def Er(e:Di i tag ky W W')(m:DO (Dr i tag) W W')(a:DO (Dr i ky) W' W''):DO (Dr i tag) W W'':=by
 refine m.then a<|λg a=>?_;by_cases q:g<W.heap.size
 .exact .inl (by unfold Dr at a ⊢;rw[e.mL g q]at a;exact a)
 exact .inr I
def zP.add{e:Ending}(h:zP tag i b db W c d ky V' nN nO l' W')(hd:JQ ky i db W' d f e W''):e=.returned (.bool (d.add f).isSome)/\∃tag2 a l o,zP tag i b db W c ((d.add f).getD d) tag2 V' a l o W'':=by
 obtain⟨rfl,tag2,a,l,o,s,p,q⟩:=hd;exact⟨rfl,tag2,a,l,o,h.c.oR h.e.z h.p q p.mL,s,h.e.trans p.ext h.m.size,Er h.e h.m<|Mc q,h.p⟩
def zP.store(h:zP tag i b db W c d ky V' nN nO l' W')(j:Nat)(v:rt)(e:(zx c V').set j v=zx c' V')(s:JC c c'):zP tag i b db W c' d ky V' nN nO l' (W'.setCell (b,j) v):=by
 have a:DO (λq=>q=b) W' (W'.setCell (b,j) v):=(DO.refl (λq=>q=b) _).setCell (p:=(b,j)) rj _;exact⟨h.c.store j v e s,h.d.pO a (λq c=>⟨1,lc,lc,by rw[c,h.c.tb]⟩)<|λ_ _=>rfl,⟨h.e.mL,h.e.new,h.e.z.mod a⟩,Er h.e h.m<|a.mono<|λq c=>.inl<|EU (r:=1) (by rw[show q=b from c];exact h.c.tb) lc,h.p⟩
def zP.lK(h:zP tag i b db W c d ky V' nN nO l' W')(m:DO DQ W' W''):zP tag i b db W c d ky V' nN nO l' W'' :=
 ⟨h.c.lK m,h.d.pO m rm<|λ_ _=>rfl,⟨h.e.mL,h.e.new,h.e.z.mod m⟩,h.m.trans<|m.mono rm,h.p⟩
def Kn{α : Type}(f:Nat -> α)(k:Nat)(x y : α):ze (ze f k x) k y=ze f k y:=by
 funext j;by_cases h:j=k
 .rw[h,zf,zf]
 rw[zd _ _ h,zd _ _ h,zd _ _ h]
def LF(c:CS)(k:Nat)(x:RS)(d:x.b=(c.rs k).b)(e:x.lC.rs=(c.rs k).lC.rs):JC c { c with rs:=ze c.rs k x } :=
 ⟨rfl,λ_ _=>⟨rfl,rfl,rfl⟩,λq _=>by
  by_cases a:q=k
  .subst a;simp only[zf];exact⟨d,e⟩
  simp[zd _ _ a],rfl,rfl,rfl,rfl⟩
def zP.mq(h:zP tag i b db W c d ky V' nN nO l' W')(e:k<8)(j:Nat)(f:j<13)(v:rt)(x:RS)(l:Gi x (V'.rb k) (V'.rc k)=(Gi (c.rs k) (V'.rb k) (V'.rc k)).set j v)(o:x.b=(c.rs k).b)(p:x.lC.rs=(c.rs k).lC.rs):zP tag i b db W { c with rs:=ze c.rs k x } d ky V' nN nO l' (W'.setCell (b,129+13*k+j) v):=by
 refine h.store _ _ (Kx _ _ _ _ _ e f (λq _=>?_) rfl rfl rfl)<|LF c k x o p;by_cases a:q=k
 .subst a;simp only[zf,A9];exact l
 simp only[zd _ _ a,AH a]
def zP.granted(h:zP tag i b db W c d ky V' nN nO l' W')(a:k<8)(m:Nat):zP tag i b db W { c with rs:=ze c.rs k { c.rs k with kz:=m,lU:=false } } d ky V' nN nO l' ((W'.setCell (b,129+13*k+11) (.int .u64 m)).setCell (b,129+13*k+12) (.bool false)):=by
 have e:=h.mq a 11 lc (.int .u64 m) { c.rs k with kz:=m } rfl rfl rfl;have d:=e.mq a 12 lc (.bool false) { c.rs k with kz:=m,lU:=false } (by simp only[zf];rfl) (by simp only[zf]) (by simp only[zf]);simp only[Kn]at d;exact d
def zP.oS(h:zP tag i b db W c d ky V' nN nO l' W')(m:Nat):zP tag i b db W { c with kz:=m,lU:=false } d ky V' nN nO l' ((W'.setCell (b,234) (.int .u64 m)).setCell (b,235) (.bool false)):=by
 have a:zP tag i b db W { c with kz:=m } d ky V' nN nO l' (W'.setCell (U b 234)<|.int .u64 m):=h.store (233+1) _ (GA c { c with kz:=m } V' V' _ rfl rfl rfl rfl) ⟨rfl,λ_ _=>⟨rfl,rfl,rfl⟩,λ_ _=>⟨rfl,rfl⟩,rfl,rfl,rfl,rfl⟩;exact a.store (233+2) _ (GA { c with kz:=m } { c with kz:=m,lU:=false } V' V' _ rfl rfl rfl rfl) ⟨rfl,λ_ _=>⟨rfl,rfl,rfl⟩,λ_ _=>⟨rfl,rfl⟩,rfl,rfl,rfl,rfl⟩
structure KN(c:CS):Prop where
 mj:c.lD<=4096
 nA:c.total<=4096
 kz:c.kz<=zF
 used:∀k,k<8->(c.rs k).used<=zF/\(c.rs k).kz<=zF
 mb:∀k,k<8->(c.rs k).mb=true->(c.rs k).used+c.lD<=zF
 cut:∀k,k<8->(c k).lG<=(c k).final/\(c k).final<=zF
def zP.lN(h:zP tag i b db W c d ky V' nN nO l' W')(e:k<8):zP tag i b db W { c with ws:=ze c.ws k { c.ws k with lN:=true } } d ky V' nN nO l' (W'.setCell (b,9+15*k+13) (.bool true)):=by
 refine h.store _ _ (Hl _ _ _ _ _ e lc (λq _=>?_) rfl rfl rfl) ⟨rfl,λq _=>?_,λ_ _=>⟨rfl,rfl⟩,rfl,rfl,rfl,rfl⟩
 .by_cases a:q=k
  .subst a;simp only[zf,A9];rfl
  simp only[zd _ _ a,AH a]
 by_cases a:q=k
 .subst a;simp[zf]
 simp[zd _ _ a]
def Wg(c:CS)(d:DX)(k n:Nat)(x:WS):Option DX->Option (CS×DX)
 | some d'=>some ({ c with ws:=ze c.ws k { x with lN:=true } },d')
 | none=>ER c d n<|k+1
def Sf(c:CS)(d:DX)(m:Nat):Option DX->Option (CS×DX)
 | some d'=>some ({ c with kz:=m,lU:=false },d')
 | none=>ER c d 8 0
theorem jP{l:List (DV×rt)}(h:zi tag i b c V W)(hD:Ee tag i db d bv fv l W)(E:D0 i tag W)(ok:KN c)(am:d.b.length<=1073741824)(ao:d.fs.length<=1073741824):rT 145 #[(b,0),(db,0)] W (Gl tag i b db W ((c.control d).getD (c,d)).1 ((c.control d).getD (c,d)).2 (c.control d).isSome):=by
 have S0:AA (zP tag i b db W c d tag V bv fv l W):=zb ⟨h,hD,Di.same E.ok<|DO.refl DQ _,DO.refl _ _,E.pos⟩;have c2:=h.hd (j:=2) rfl;obtain⟨R,hR⟩:=nm<|c.control d;rw[hR];have HR:=zb hR;have OK:=zb ok;have u:=ok.nA;have aJ:IntKind.u64.wrap (c.total:Int)=(c.total:Int):=by rw[IntKind.wrap_u64];omega
 obtain⟨T,hT⟩:=nm c.total;rw[hT]at c2 aJ;have HT:=zb hT;obtain⟨RR,aK⟩:=nm<|EO c d 8 0 c.total;have ay:=zb aK;clear h hD E ok hR u hT aK;go_enter func145,ntmps145;go_wp2_with fail;clear c2 aJ
 go_loopw [5,17] (λtv kv wr=>∃k t ky V' ae af l',k<=8/\tv=.int .u64 ((t:Nat):Int)/\kv=.int .i64 ((k:Nat):Int)/\t<=zF/\AA (zP tag i b db W c d ky V' ae af l' wr)/\AA (EO c d (8-k) k t=RR)) (λ_ kv _=>8-(intOf kv).toNat)
 case atStart=>exact⟨0,T,tag,V,bv,fv,l,I,rfl,rfl,by have:=OK.z.nA;have:=HT.z;unfold zF;omega,S0,zb<|by rw[<-ay.z,HT.z]⟩
 case round =>
  obtain⟨k,t,ky,V',ae,af,l',hk,rfl,rfl,ht,HS,HC⟩:=hrel;by_cases a:k<8
  .obtain⟨n,hn⟩:∃n,8-k=n+1:=⟨7-k,I⟩;have ag:8-(k+1)=n:=I;have o:=HC.z;rw[hn]at o;unfold EO at o;obtain⟨m,hm⟩:=nm<|max (c.rs k).kz<|(c.rs k).used+c.lD;rw[hm]at o;have ku:=Tn HS.z.c a;have kh:=Ul HS.z.c a;have az:=Tn (HS.z.c.lK (DO.refl DQ wr).drew) a;have ap:=Ul (HS.z.c.lK (DO.refl DQ wr).drew) a;have aA:wr (b,129+k*13+11)=some (.int .u64 ((c.rs k).kz:Int)):=by rw[AL];exact HS.z.c.r (j:=11) a rfl
   have aB:wr (b,129+k*13+12)=some (.bool (c.rs k).lU):=by rw[AL];exact HS.z.c.r (j:=12) a rfl
   have r1:=HS.z.c.hd (j:=1) rfl;obtain⟨q1,q2⟩:=OK.z.used k a;have q3:=OK.z.mb k a;have q4:=OK.z.mj;obtain⟨u,hu⟩:=nm<|(c.rs k).used;obtain⟨g,hg⟩:=nm<|(c.rs k).kz;obtain⟨an,aa⟩:=nm<|(c.rs k).lU;obtain⟨hp,E⟩:=nm<|(c.rs k).mb;obtain⟨T,l⟩:=nm c.lD;rw[hu]at ku az q1 q3 o;rw[hg]at aA q2 o;rw[aa]at aB o;rw[E]at kh ap q3 o;rw[l]at r1 q3 q4;rw[hu,hg,l]at hm;have aq:=zb hm;have o:=zb o;have HX:=zb<|And.intro hu<|And.intro hg<|And.intro aa<|And.intro E l;have HN:=zb<|And.intro hn ag;unfold zF at ht q1 q2 q3;have aX:=wu ((t:Int)+u) I;have aY:IntKind.u64.wrap (T:Int)=(T:Int):=by rw[IntKind.wrap_u64];omega
   have aZ:=wu ((u:Int)+T) I;obtain⟨t2,T⟩:=nm<|min (t+u) zF;have aL:=zb T;have ah:t2<=4611686018427387903:=by rw[<-T];exact Nat.min_le_right _ _
   have ai:=zb q3;clear hu hg aa E l hn ag T q3 hm;go_upto_region 6 with fail
   go_cut [5] (λtv wx=>tv=.int .u64 t2/\wx=wr)
   case first =>
    go_wp2_with (go_at_call 196;refine ku.mono ?_;rintro _ _ ⟨rfl,rfl⟩);all_goals
     go_meet;have aM:=aL.z;unfold zF at aM;exact⟨by congr 1;omega,rfl⟩
   case rest =>
   obtain⟨rfl,hw⟩:=hcut;have hw:=hw.symm;subst hw;go_upto_region 7 with fail
   go_cut [8] (λl wx=>l=.int .u64 m/\wx=wr.drew)
   case first =>
    refine zn 15 (λw'=>w'=wr.drew) (rfl) ?_;refine GI 0 ?_;iterate 5
     refine GV rfl ?_;try simp only[PS]
    refine GI 6 ?_;iterate 6
     refine GV rfl ?_;try simp only[PS]
    refine zz 5 rfl (λK hK=>?_);go_simp;refine az.mono ?_;rintro _ _ ⟨rfl,rfl⟩;refine hK.z _ _ rfl ?_;clear hK K;try simp only[PS]
    refine GI 12 ?_;refine GV rfl ?_;try simp only[PS]
    refine H9 (i:=13) (v:=.int .u64 m) rfl kw (λ_ _ _ h=>h) (Or.inl ⟨by rfl,?_⟩) ?_
    .intro wx f;subst f;go_simp;have:=aq.z;split<;>omega
    try simp only[PS]
    refine GI 14 ?_;refine GV rfl ?_;try simp only[PS]
    refine zq ?_;go_wp2_with fail;go_meet;exact rZ
   case rest =>
   obtain⟨rfl,hw⟩:=hcut;subst hw;have ar:=zb<|HS.z.lK<|(DO.refl DQ wr).drew;have aN:m<=4611686018427387903\/hp=false:=by
    cases hp
    .exact .inr rfl
    have:=aq.z;have:=ai.z rfl;exact .inl I
   obtain⟨dn,s⟩:=nm<|d.add<|Fz k m;have A:=zb s;have h:=o.z;rw[s,aL.z]at h;have Y:=zb h;have l:wr.drew (b,129+k*13+11)=some (.int .u64 g):=aA;have l:wr.drew (b,129+k*13+12)=some (.bool an):=aB;clear s h o ku kh az r1 q1 q2 aX aY aZ aA aB;have X:g<m\/(¬g<m/\an=true)\/(¬g<m/\an=false):=by
    by_cases e:g<m
    .exact .inl e
    cases an
    .exact .inr (.inr ⟨e,rfl⟩)
    exact .inr<|.inl ⟨e,rfl⟩
   rcases X with hA|⟨hA,rfl⟩|⟨hA,rfl⟩;rotate_left;rotate_left
   .have Z:AA (EO c d (8-(k+1)) (k+1) t2=RR):=by
     show _=_;rw[HN.z.2,<-Y.z];simp[hA]
    clear Y;go_wp2_with fail;go_roundw
    case rel=>exact⟨k+1,t2,ky,V',ae,af,l',I,rfl,by go_num,ah,ar,Z⟩
    simp[intOf];omega
   all_goals
    cases hp
    .have Z:AA (EO c d (8-(k+1)) (k+1) t2=RR):=by
      show _=_;rw[HN.z.2,<-Y.z];simp
     clear Y;go_wp2_with (go_at_call 197;refine ap.mono ?_;rintro _ W9 ⟨rfl,mh⟩);have S9:=zb<|ar.z.lK mh;go_roundw
     case rel=>exact⟨k+1,t2,ky,V',ae,af,l',I,rfl,by go_num,ah,S9,Z⟩
     simp[intOf];omega
    have aj:m<=zF:=by
     rcases aN with e|e
     .exact e
     cases e
    have au:=zb aj;clear aN aj;cases dn with
    | none =>
     have Z:AA (EO c d (8-(k+1)) (k+1) t2=RR):=by
      show _=_;rw[HN.z.2,<-Y.z];simp
     clear Y;go_wp2_with (first|(go_at_call 197;refine ap.mono ?_;rintro _ W9 ⟨rfl,mh⟩;have S9:=zb<|ar.z.lK mh;clear mh)|(go_at_call 142;refine(NQ S9.z.d S9.z.ok S9.z.p (Fz k m) (QS a au.z) am ao).mono ?_;intro e W1 hd;obtain⟨rfl,tag2,B,N,l2,q⟩:=S9.z.add hd;rw[A.z]at q;rw[A.z];have q:=zb q;clear hd));go_roundw
     case rel=>exact⟨k+1,t2,tag2,V',B,N,l2,I,rfl,by go_num,ah,q,Z⟩
     simp[intOf];omega
    | some d1 =>
     have aO:AA (R=some ({ c with rs:=ze c.rs k { c.rs k with kz:=m,lU:=false } },d1)):=by
      show _=_;have e1:=Y.z;rw[AM (by simp[hA])]at e1;rw[<-HR.z,CS.control,ay.z,<-e1]
     clear Y;go_wp2_with (go_at_call 197;refine ap.mono ?_;rintro _ W9 ⟨rfl,mh⟩;have S9:=zb<|ar.z.lK mh;clear mh);refine(NQ S9.z.d S9.z.ok S9.z.p (Fz k m) (QS a au.z) am ao).mono ?_;intro e W1 hd;obtain⟨rfl,tag2,B,N,l2,q⟩:=S9.z.add hd;rw[A.z]at q;rw[A.z];clear hd;have h:W1 (b,129+k*13+11)=some (.int .u64 ((c.rs k).kz:Int)):=by
      rw[AL k 13];exact q.c.r (j:=11) a rfl
     have h:W1 (b,129+k*13+12)=some (.bool (c.rs k).lU):=by
      rw[AL k 13];exact q.c.r (j:=12) a rfl
     have wf:=λp=>q.c.fz p
     have q:=zb q;go_wp2_with fail;go_ret;rw[aO.z];have G:=q.z.granted a m;rw[AL 13 k]at G;exact G.post true
  have aC:k=8:=I;subst aC;have ak:AA (RR=(none,t)):=zb HC.z.symm;have aP:AA (R=Iu c d t):=by
   show _=_;rw[<-HR.z,CS.control,ay.z,ak.z]
  clear HC;have aQ:wr (b,234)=some (.int .u64 c.kz):=HS.z.c.tl (j:=1) rfl;have aR:wr (b,235)=some (.bool c.lU):=HS.z.c.tl (j:=2) rfl;have a0:=OK.z.kz;obtain⟨m,hm⟩:=nm<|max t c.kz;have aj:m<=zF:=I;have au:=zb aj;have O:AA (R=if decide (c.kz<m)||c.lU then Sf c d m (d.add<|Gt m)else ER c d 8 0):=by
   show _=_;rw[aP.z];unfold Iu;rw[hm];cases d.add (Gt m)<;>rfl
  obtain⟨dn,s⟩:=nm<|d.add<|Gt m;have A:=zb s;rw[s]at O;obtain⟨g,hg⟩:=nm c.kz;obtain⟨an,aa⟩:=nm c.lU;have HG:=zb hg;have aS:=zb aa;rw[hg]at aQ hm;rw[aa]at aR;have aq:=zb hm;clear hg aa hm s aj a0 aP ak;go_upto_region 12 with fail
  go_cut [5] (λtv wx=>tv=.int .u64 m/\wx=wr)
  case first =>
   go_wp2_with fail;all_goals
    go_meet;have aM:=aq.z;exact⟨by congr 1;omega,rfl⟩
  case rest =>
  obtain⟨rfl,hw⟩:=hcut;have hw:=hw.symm;subst hw;go_upto_region 13 with fail
  go_cut [98] (λrv wx=>∃(r:Bool) (d2:DX) (tag2:rD) (B N:rt) (l2:List (DV×rt)),rv=.bool r/\AA (zP tag i b db W c d2 tag2 V' B N l2 wx)/\AA ((r=true/\R=some ({ c with kz:=m,lU:=false },d2))\/(r=false/\d2=d/\R=ER c d 8 0)))
  case first =>
   have X:g<m\/(¬g<m/\an=true)\/(¬g<m/\an=false):=by
    by_cases e:g<m
    .exact .inl e
    cases an
    .exact .inr (.inr ⟨e,rfl⟩)
    exact .inr<|.inl ⟨e,rfl⟩
   rcases X with hA|⟨hA,rfl⟩|⟨hA,rfl⟩;rotate_left;rotate_left
   .have Z:AA (R=ER c d 8 0):=by
     show _=_;rw[O.z,HG.z,aS.z];simp[hA]
    clear O;go_wp2_with fail;go_meet;exact⟨false,d,ky,ae,af,l',rfl,HS,zb<|.inr ⟨rfl,rfl,Z.z⟩⟩
   all_goals
    have aT:AA (R=Sf c d m dn):=by
     show _=_;rw[O.z,AM (by rw[HG.z,aS.z];simp[hA])]
    clear O;go_wp2_with fail;refine(NQ HS.z.d HS.z.ok HS.z.p (Gt m) (TH au.z) am ao).mono ?_;intro e W1 hd;obtain⟨rfl,tag2,B,N,l2,q⟩:=HS.z.add hd;rw[A.z]at q;rw[A.z];have q:=zb q;clear hd;cases dn with
    | none =>
     go_wp2_with fail;go_meet;exact⟨false,d,tag2,B,N,l2,rfl,q,zb<|.inr ⟨rfl,rfl,aT.z⟩⟩
    | some d1 =>
     go_wp2_with fail;go_meet;exact⟨true,d1,tag2,B,N,l2,rfl,q,zb<|.inl ⟨rfl,aT.z⟩⟩
  case rest =>
  obtain⟨r,d2,tag2,B,N,l2,rfl,q,HQ⟩:=hcut;have aU:wc (b,234)=some (.int .u64 c.kz):=q.z.c.tl (j:=1) rfl;have aV:wc (b,235)=some (.bool c.lU):=q.z.c.tl (j:=2) rfl;have wf:=λp=>q.z.c.fz p
  clear aQ aR O;cases r
  .have HN:AA (d2=d/\R=ER c d 8 0):=by
    rcases HQ.z with⟨e,_⟩|⟨_,e1,e2⟩
    .cases e
    exact⟨e1,e2⟩
   clear HQ aU aV wf;go_wp2_with fail;have h:AA (zP tag i b db W c d tag2 V' B N l2 wc):=by
    have:=q.z;rw[HN.z.1]at this;exact this
   have l:=zb HN.z.2.symm;clear HN q
   go_loopw [106] (λkv t=>∃(k:Nat) (ad:rD) (av aw:rt) (l3:List (DV×rt)),k<=8/\kv=.int .i64 k/\AA (zP tag i b db W c d ad V' av aw l3 t)/\AA (ER c d (8-k) k=R)) (λkv _=>8-(intOf kv).toNat)
   case atStart=>exact⟨0,tag2,B,N,l2,I,rfl,h,l⟩
   case round =>
    obtain⟨k,ad,av,aw,l3,hk,rfl,SY,HC⟩:=hrel;by_cases a:k<8
    .obtain⟨n,hn⟩:∃n,8-k=n+1:=⟨7-k,I⟩;have ag:8-(k+1)=n:=I;have o:=HC.z;rw[hn]at o;unfold ER at o;obtain⟨N,O⟩:=OK.z.cut k a;have l:=TG a O N;obtain⟨x,E⟩:=nm<|c k;have aD:wr (b,9+k*15+10)=some (.bool (c k).cut):=by rw[AL k 15];exact SY.z.c.w (j:=10) a rfl
     have aE:wr (b,9+k*15+13)=some (.bool (c k).lN):=by rw[AL k 15];exact SY.z.c.w (j:=13) a rfl
     have aF:wr (b,9+k*15+12)=some (.int .u64 ((c k).final:Int)):=by rw[AL k 15];exact SY.z.c.w (j:=12) a rfl
     have aG:wr (b,9+k*15+11)=some (.int .u64 ((c k).lG:Int)):=by rw[AL k 15];exact SY.z.c.w (j:=11) a rfl
     have h:=λWd (md:DO DQ wr Wd)=>NQ (SY.z.lK md).d (SY.z.lK md).ok SY.z.p (He k (c k).final (c k).lG) l am ao
     have HX:=zb E;rw[E]at aD aG aF aE h;rw[E]at o;obtain⟨cu,t⟩:=nm x.cut;obtain⟨te,u⟩:=nm x.lN;obtain⟨fn,v⟩:=nm x.final;obtain⟨kp,B⟩:=nm x.lG;rw[t]at aD o;rw[u]at aE o;rw[v]at aF h o;rw[B]at aG h o;have aW:=zb<|And.intro v B;have al:=zb h;obtain⟨dn,s⟩:=nm<|d.add<|He k fn kp;rw[s]at o;have A:=zb s;have ak:=zb<|And.intro t u;have o:=zb o;have aH:=zb ag;clear HC hn ag N O l E h s t u v B;cases cu
     .have Z:AA (ER c d (8-(k+1)) (k+1)=R):=by
       show _=_;rw[aH.z,<-o.z];rfl
      clear o;clear al;go_wp2_with fail;go_quiet (fail);go_wp2_with fail;go_roundw
      case rel=>exact⟨k+1,ad,av,aw,l3,I,by go_num,zb<|SY.z.lK<|(DO.refl DQ wr).drewN _,Z⟩
      simp[intOf];omega
     cases te
     .have Z:AA (Wg c d k (8-(k+1)) x dn=R):=by
       show _=_;rw[aH.z,<-o.z];cases dn<;>rfl
      clear o;go_upto_region 20 with fail
      go_cut [138] (λrv wx=>∃(r:Bool) (d2:DX) (z:rD) (ab ac:rt) (l4:List (DV×rt)),rv=.bool r/\AA (zP tag i b db W c d2 z V' ab ac l4 wx)/\AA ((r=true/\dn=some d2)\/(r=false/\d2=d/\dn=none)))
      case first =>
       clear Z;refine zn 25 (λw'=>w' (b,9+k*15+10)=some (.bool true)/\w' (b,9+k*15+13)=some (.bool false)/\w' (b,9+k*15+12)=some (.int .u64 fn)/\w' (b,9+k*15+11)=some (.int .u64 kp)) (⟨aD,aE,aF,aG⟩) ?_;refine GI 0 ?_;iterate 23
        refine GV rfl ?_;try simp only[PS]
       refine zz 23 rfl (λK hK=>?_);go_simp;refine(al.z _<|(DO.refl DQ wr).drew).mono ?_;intro e W1 hd;obtain⟨rfl,z,ab,ac,l4,S4⟩:=(SY.z.lK<|(DO.refl DQ wr).drew).add hd;rw[A.z]at S4;rw[A.z];clear hd;have h:W1 (b,9+k*15+10)=some (.bool true)/\W1 (b,9+k*15+13)=some (.bool false)/\W1 (b,9+k*15+12)=some (.int .u64 fn)/\W1 (b,9+k*15+11)=some (.int .u64 kp):=by
        rw[<-ak.z.1,<-ak.z.2,<-aW.z.1,<-aW.z.2,<-HX.z,AL k 15];exact⟨S4.c.w (j:=10) a rfl,S4.c.w (j:=13) a rfl,S4.c.w (j:=12) a rfl,S4.c.w (j:=11) a rfl⟩
       have S4:=zb S4;refine hK.z _ _ h ?_;clear hK K;try simp only[PS]
       refine GI 24 ?_;refine GV rfl ?_;try simp only[PS]
       refine zq ?_;go_wp2_with fail;go_meet;cases dn with
       | none=>exact⟨false,d,z,ab,ac,l4,rfl,S4,zb<|.inr ⟨rfl,rfl,rfl⟩⟩
       | some d1=>exact⟨true,d1,z,ab,ac,l4,rfl,S4,zb<|.inl ⟨rfl,rfl⟩⟩
      case rest =>
      obtain⟨r,d2,z,ab,ac,l4,rfl,S4,ax⟩:=hcut;cases r
      .have ai:AA (d2=d/\dn=none):=by
        rcases ax.z with⟨e,_⟩|⟨_,e1,e2⟩
        .cases e
        exact⟨e1,e2⟩
       have f:AA (zP tag i b db W c d z V' ab ac l4 wc):=by
        rw[<-ai.z.1];exact S4
       have aI:AA (ER c d (8-(k+1)) (k+1)=R):=by
        have:=Z.z;rw[ai.z.2]at this;exact this
       clear Z ax ai S4;go_wp2_with fail;go_roundw
       case rel=>exact⟨k+1,z,ab,ac,l4,I,by go_num,f,aI⟩
       simp[intOf];omega
      have aI:AA (some ({ c with ws:=ze c.ws k { x with lN:=true } },d2)=R):=by
       have:=Z.z;rcases ax.z with⟨_,e⟩|⟨e,_⟩
       .rw[e]at this;exact this
       cases e
      have wf:=λp=>S4.z.c.fz p
      have f:wc (b,9+k*15+13)=some (.bool (c k).lN):=by rw[AL k 15];exact S4.z.c.w (j:=13) a rfl
      clear Z ax;go_wp2_with fail;go_ret;rw[<-aI.z];have G:=S4.z.lN a;rw[HX.z,AL 15 k]at G;exact G.post true
     have Z:AA (ER c d (8-(k+1)) (k+1)=R):=by
      show _=_;rw[aH.z,<-o.z];rfl
     clear o al;go_wp2_with fail;go_quiet (fail);go_wp2_with fail;go_roundw
     case rel=>exact⟨k+1,ad,av,aw,l3,I,by go_num,zb<|SY.z.lK<|(DO.refl DQ wr).drewN _,Z⟩
     simp[intOf];omega
    have aC:k=8:=I;subst aC;have a:AA (R=none):=zb HC.z.symm;clear HC;go_wp2_with fail;go_ret;rw[a.z];exact SY.z.post false
  have HN:AA (R=some ({ c with kz:=m,lU:=false },d2)):=by
   rcases HQ.z with⟨_,e⟩|⟨e,_⟩
   .exact e
   cases e
  clear HQ;go_wp2_with fail;go_ret;rw[HN.z];exact(q.z.oS m).post true
def zZ(p:Nat->Bool)(n:Nat):Nat:=(List.range n).findIdx p
def RE{p:Nat->Bool}{n:Nat}(h:E3 n p m)(c:∀i j,i<=j->j<n->p i=true->p j=true):zZ p n=m:=by
 obtain⟨l,d,e⟩:=h;unfold zZ;by_cases f:m=n
 .subst f;have:∀x∈List.range m,p x=false:=λx a=>by
   have a:x<m:=rB a;cases hq:p x
   .rfl
   have:=c x (m-1) I I hq;rw[d I]at this;cases this
  rw[List.findIdx_eq_length.2 (λx a=>by rw[this x a])];simp
 refine(List.findIdx_eq<|by rw[CK];omega).2 ⟨by rw[List.getElem_range];exact e I,λj a=>?_⟩;simp only[List.getElem_range];cases hq:p j
 .rfl
 have:=c j (m-1) I I hq;rw[d I]at this;cases this
def Df.add(s:Df)(lo hi:Nat):Df :=
 if hi<max lo s.fl then s else
 if s.most<(EB s.rs (max lo s.fl) hi (zZ (Dv s.rs<|max lo s.fl) s.rs.length)<|zZ (D8 s.rs hi) s.rs.length).length then
  ⟨(EB s.rs (max lo s.fl) hi (zZ (Dv s.rs<|max lo s.fl) s.rs.length)<|zZ (D8 s.rs hi) s.rs.length).drop 1,DP (EB s.rs (max lo s.fl) hi (zZ (Dv s.rs<|max lo s.fl) s.rs.length)<|zZ (D8 s.rs hi) s.rs.length) 0+1,s.most⟩
 else⟨EB s.rs (max lo s.fl) hi (zZ (Dv s.rs<|max lo s.fl) s.rs.length)<|zZ (D8 s.rs hi) s.rs.length,s.fl,s.most⟩
variable{rs:zE}
def ey(c:WF rs):∀i j,i<=j->j<rs.length->Dv rs m i=true->Dv rs m j=true:=by
 intro i j a d h;have e:=(Km c a d).2;simp only[Dv,Bb,Ah]at h ⊢;omega
def V8(c:WF rs):∀i j,i<=j->j<rs.length->D8 rs m i=true->D8 rs m j=true:=by
 intro i j a d h;have e:=(Km c a d).1;simp only[D8,AZ,Ah]at h ⊢;omega
def Pj(s:Df)(b o lo hi:Nat)(v:rt)(w:rq)(e:Ending)(w':rq):Prop :=
 ∃a,e=.returned (.tuple #[])/\w'.ownsRow 0 214 2 a (s.add lo hi).rs.length (zr (s.add lo hi).rs)/\w'.heap[b]?=((w.setCell (b,o) a).setCell (b,o+1)<|.int .u64 ((s.add lo hi).fl:Int)).heap[b]? /\
  DO (λk=>k=b\/v.ownBlock=some k) w w'/\D4 w v a
def Ks(s:Df)(b o lo hi:Nat)(v:rt)(w:rq)(h:Eh w b o v s.rs s.fl s.most)(a:WF s.rs)(B:lo<18446744073709551616)(p:hi<18446744073709551616)(E:s.fl<18446744073709551616)
  (K:v.ownBlock≠some b) (d:1<=s.most) (c:s.most<=9223372036854775807) :
  rT 88 #[(b,o),lo,hi] w (Pj s b o lo hi v w):=by
 have hv:=zK h.own;by_cases q:max lo s.fl<=hi
 .refine(Ll s.rs s.fl s.most b o lo hi v w h a B p E hv K q d c<|λm1 m2 N O=>Qn a q p N O).mono ?_;rintro e w' ⟨m1,m2,v',T,X,N,O,f,rfl,t,l,u,Y⟩;have A:=RE N<|ey a;have c:=RE O<|V8 a;have z:s.add lo hi=⟨T,X,s.most⟩:=by
   unfold Df.add;rw[AH I,A,c];split at f
   .rename_i Z;rw[AM Z];cases f;rfl
   rename_i Z;rw[AH Z];cases f;rfl
  refine⟨v',rfl,?_,?_,u,Y⟩
  .rw[z];exact t
  rw[z];exact l
 have z:s.add lo hi=s:=by
  unfold Df.add;rw[AM I]
 refine(Xu s.rs s.fl s.most b o lo hi v w h hv I).mono ?_;rintro e w' ⟨rfl,m⟩;have hb:=zm h.cl;refine⟨v,rfl,?_,?_,m.mono rm,λg a=>.inl a⟩
 .rw[z];exact m.owns h.own<|λ_ _ x=>x
 rw[z,m.block b hb rk];have A:=NY h.cl;have c2:=(World.cell?_of_block A).trans h.cf;rw[NY c2,A]
def EV(k lo:Nat)(fin:Bool)(s:rC):DV:=⟨4,(k:Int),lo,0,0,fin,0,0,s,[]⟩
def CS.nI(c:CS)(k:Nat):Nat:=min (min (c k).b.length (c k).lA) ((c k).high+c.lA-min c.lA c.mi)
def CS.lr(c:CS)(k:Nat):Nat:=if (c k).cut then min (c.nI k) (c k).lG else c.nI k
def NJ(c:CS)(k:Nat):c.lr k<=c.nI k:=by
 unfold CS.lr;split
 .exact Bu _ _
 exact AF _
def WS.fin(x:WS):Bool:=x.finished && !x.cut
def CS.ll(c:CS)(d:DX)(k lo hi:Nat)(fin:Bool):Bool×CS×DX :=
 match d.add (EV k lo fin<|((c k).b.drop lo).take<|hi-lo)with
 | none=>(false,c,{ d with full:=true })
 | some d'=>(true,{ c with ws:=ze c.ws k { c.ws k with lJ:=if lo<hi then(c k).lJ.add lo (hi-1)else(c k).lJ,ending:=(c k).ending||fin,high:=max (c k).high hi } },d')
def CS.oI(c:CS)(d:DX)(k lo hi:Nat)(fin:Bool):Option DX->Bool×CS×DX
 | none=>(false,c,{ d with full:=true })
 | some d'=>(true,{ c with ws:=ze c.ws k { c.ws k with lJ:=if lo<hi then(c k).lJ.add lo (hi-1)else(c k).lJ,ending:=(c k).ending||fin,high:=max (c k).high hi } },d')
def jO(c:CS)(d:DX)(k lo hi:Nat)(fin:Bool):c.ll d k lo hi fin=c.oI d k lo hi fin (d.add (EV k lo fin (((c k).b.drop lo).take (hi-lo)))):=by
 unfold CS.ll;cases d.add (EV k lo fin<|((c k).b.drop lo).take<|hi-lo)<;>rfl
def Hz(c:CS)(d:DX)(k lo hi:Nat):Int :=
 (d.room:Int)-4-d.b.length-(((zC<|EV k lo false<|((c k).b.drop lo).take<|hi-lo).length:Int)-((hi:Int)-lo))
def CS.mE(c:CS)(d:DX)(k lo hi:Nat):Bool×CS×DX :=
 if Hz c d k lo hi<(hi:Int)-lo then
  if Hz c d k lo hi<1 then(false,c,{ d with full:=true })
  else c.ll d k lo (lo+(Hz c d k lo hi).toNat) false
 else c.ll d k lo hi ((c k).fin&&hi==(c k).b.length)
def CS.bytes(c:CS)(d:DX)(k:Nat):Bool×CS×DX :=
 if c.waits≠[]\/d.full=true then(false,c,d)else
 if (Dd (c k).lJ.rs 0<|c.lr k).2<=(Dd (c k).lJ.rs 0<|c.lr k).1 then
  if (!(c k).fin||(c k).ending)||decide (c.lr k<(c k).b.length)then(false,c,d)
  else c.mE d k (c k).b.length (c k).b.length
 else c.mE d k (Dd (c k).lJ.rs 0<|c.lr k).1 (Dd (c k).lJ.rs 0<|c.lr k).2
def Ee.qQ{l:List (DV×rt)}(h:Ee tag i db d bv fv l W)(m:DO S W W')(c:∀g,S g->(tag g).1≠i):Ee tag i db d bv fv l W':=by
 have q:∀{g r:Nat},tag g=(i,r)->¬S g:=λa x=>c _ x<|by rw[a]
 exact⟨m.obj (q h.tb) h.obj,h.tb,m.owns h.ob<|λg a=>q<|h.nP g a,h.nP,m.owns h.own<|λg a=>q<|h.na g a,h.lf,λx c=>⟨(h.rr x c).1.mod m<|Gr λg a=>q<|(h.rr x c).2 g a,(h.rr x c).2⟩,h.na⟩
def zP.free(h:zP tag i b db W c d ky V' nN nO l' W')(m:DO S W' W'')(e:∀g,S g->ky g=(0,0)/\W.heap.size<=g):zP tag i b db W c d ky V' nN nO l' W'':=by
 have a:=h.p;have q:∀g,S g->(ky g).1≠i:=λg a=>by rw[(e g a).1];simp;omega
 exact⟨h.c.mod m q<|λ_ _=>rfl,h.d.qQ m q,⟨h.e.mL,h.e.new,h.e.z.mod m⟩,h.m.then m<|λg a=>.inr (e g a).2,h.p⟩
def zP.oX(h:zP tag i b db W c d ky V' nN nO l' W'):zP tag i b db W c { d with full:=true } ky V' nN nO l' (W'.setCell (db,4) (.bool true)):=by
 have m:DO (λg=>g=db) W' (W'.setCell (U db 4)<|.bool true):=(DO.refl (λg=>g=db) _).setCell (p:=U db 4) rj _;have d:DO (JX i ky) W' (W'.setCell (db,4)<|.bool true):=m.mono (λg a=>.inl ⟨90,lc,by rw[a,h.d.tb]⟩);refine⟨h.c.oR h.e.z h.p d<|λ_ _=>rfl,⟨?_,h.d.tb,m.owns h.d.ob<|λg a x=>?_,h.d.nP,m.owns h.d.own<|λg a x=>?_,h.d.lf,λx c=>⟨(h.d.rr x c).1.mod m<|Gr λg a y=>?_,(h.d.rr x c).2⟩,h.d.na⟩,⟨h.e.mL,h.e.new,h.e.z.mod m⟩,Er h.e h.m<|Mc d,h.p⟩
 .rw[zc h.d.obj];rfl
 .exact zi.apart (h.d.nP g a) (x ▸ h.d.tb) lc rfl
 .exact zi.apart (h.d.na g a) (x ▸ h.d.tb) lc rfl
 exact zi.apart ((h.d.rr x c).2 g a) (y ▸ h.d.tb) lc rfl
def LE(c:CS)(k:Nat)(x:WS)(d:x.b=(c k).b)(e:x.lJ.rs=(c k).lJ.rs)(f:x.lC.rs=(c k).lC.rs):JC c { c with ws:=ze c.ws k x } :=
 ⟨rfl,λq _=>by
  by_cases a:q=k
  .subst a;simp only[zf];exact⟨d,e,f⟩
  simp[zd _ _ a],λ_ _=>⟨rfl,rfl⟩,rfl,rfl,rfl,rfl⟩
def zP.nL(h:zP tag i b db W c d ky V' nN nO l' W')(e:k<8)(j:Nat)(f:j<15)(v:rt)(x:WS)(l:Ft x (V'.wb k) (V' k) (V'.wc k)=(Ft (c k) (V'.wb k) (V' k) (V'.wc k)).set j v)(o:x.b=(c k).b)(p:x.lJ.rs=(c k).lJ.rs)(s:x.lC.rs=(c k).lC.rs):zP tag i b db W { c with ws:=ze c.ws k x } d ky V' nN nO l' (W'.setCell (b,9+15*k+j) v):=by
 refine h.store _ _ (Hl _ _ _ _ _ e f (λq _=>?_) rfl rfl rfl)<|LE c k x o p s;by_cases a:q=k
 .subst a;simp only[zf,A9];exact l
 simp only[zd _ _ a,AH a]
def zP.oq(h:zP tag i b db W c d ky V' nN nO l' W')(a:k<8)(e:Bool)(m:Nat):zP tag i b db W { c with ws:=ze c.ws k { c.ws k with ending:=e,high:=m } } d ky V' nN nO l' ((W'.setCell (b,9+15*k+9) (.bool e)).setCell (b,9+15*k+7) (.int .u64 m)):=by
 have f:=h.nL a 9 lc (.bool e) { c.ws k with ending:=e } rfl rfl rfl rfl;have d:=f.nL a 7 lc (.int .u64 m) { c.ws k with ending:=e,high:=m } (by simp only[zf];rfl) (by simp only[zf]) (by simp only[zf]) (by simp only[zf]);simp only[Kn]at d;exact d
variable{hi lo:Nat}
def zP.pL{e:Ending}(h:zP tag i b db W c d ky V' nN nO l' W')(t:k<8)(B:Pj (c k).lJ b (9+15*k+1) lo hi (V' k) W' e W'')(E:((c k).lJ.add lo hi).most=(c k).lJ.most):e=.returned (.tuple #[])/\∃tag2 K,zP tag i b db W { c with ws:=ze c.ws k { c.ws k with lJ:=(c k).lJ.add lo hi } } d tag2 K nN nO l' W'':=by
 obtain⟨u,rfl,o,s,l,z⟩:=B;have d:=h.p;have v:∀{g r:Nat},ky g=(i,r)->g<W'.heap.size:=λf=>EZ h.e.z f d
 have p:∀g,(ky g).1=i->zQ ky W' W'' (i,20+k) g=ky g:=λg f=>zD<|v (r:=(ky g).2)<|by rw[<-f]
 have A:∀g,(g=b\/(V' k).ownBlock=some g)->∃r,(r=1\/r=20+k)/\ky g=(i,r):=λg f=>by
  rcases f with f|f
  .exact⟨1,.inl rfl,by rw[f,h.c.tb]⟩
  exact⟨20+k,.inr rfl,h.c.ng k t g f⟩
 refine⟨rfl,zQ ky W' W'' (i,20+k),{ V' with ws:=ze V'.ws k u },?_,?_,h.e.trans (JA l.size) h.m.size,Er h.e h.m<|l.mono<|λg f=>.inl ?_,d⟩
 .refine h.c.build (R:=λr=>r=1\/r=20+k) l A p ?_ rY (λq d=>.inl ⟨?_,rfl,I⟩) (λq d=>?_) (λq d=>.inl ⟨?_,rfl,I⟩) (λq d=>.inl rW) (λq d=>.inl rW) rY rV rV rV
  .rw[s,zc (zc h.c.obj)];simp only[Ao];have N:=Hl c c V' { V' with ws:=ze V'.ws k u } (k:=k) (j:=1) u t lc (λq _=>by
    by_cases a:q=k
    .subst a;simp only[zf,A9];rfl
    simp only[zd _ _ a,AH a]) rfl rfl rfl
   rw[N];have O:=Hl c { c with ws:=ze c.ws k { c.ws k with lJ:=(c k).lJ.add lo hi } } { V' with ws:=ze V'.ws k u } { V' with ws:=ze V'.ws k u } (k:=k) (j:=2) (.int .u64 (((c k).lJ.add lo hi).fl:Int)) t lc (λq _=>by
    by_cases a:q=k
    .subst a;simp only[zf,A9,Ft,E];rfl
    simp only[zd _ _ a,AH a]) rfl rfl rfl
   rw[show 9+15*k+1+1=9+15*k+2 from rfl,O]
  .by_cases a:q=k
   .subst a;simp only[zf]
   simp only[zd _ _ a]
  .by_cases a:q=k
   .subst a;simp only[zf];refine .inr ⟨o,λg f=>?_⟩;rcases z g f with y|y
    .rw[zD (v<|h.c.ng q t g y),h.c.ng q t g y]
    exact GM y<|zK o g f
   exact .inl ⟨by simp only[zd _ _ a],by simp only[zd _ _ a],I⟩
  by_cases a:q=k
  .subst a;simp only[zf]
  simp only[zd _ _ a]
 .exact h.d.pO l (λg f=>by
   obtain⟨r,a,e⟩:=A g f;exact⟨r,I,I,e⟩) p
 obtain⟨r,a,e⟩:=A g f;exact EU e I
def IK(s:Df)(lo hi:Nat):(s.add lo hi).most=s.most:=by
 unfold Df.add;split
 .rfl
 split<;>rfl
def U0{fin:Bool}{s:rC}(d:k<8)(c:s.length<=1048576)(a:lo+s.length<=zF):(EV k lo fin s).Fits:=by
 have hb:=Mb (EV k lo fin s) rfl;have hd:(EV k lo fin s).data.length=s.length:=rfl;refine⟨?_,rfl,by rw[hd];exact c,by rw[hd]at hb;omega⟩;unfold zF at a;simp[Dx,Ec,nums,Eg,zR,EV]
 and_intros<;>first|omega|exact Au I
def zP.pT{e:Ending}(h:zP tag i b db W c d ky V' nN nO l' W')(hd:JQ ky i db W' d f e W''):e=.returned (.bool (d.add f).isSome)/\∃tag2 a l o,zP tag i b db W c ((d.add f).getD d) tag2 V' a l o W''/\(∀g,g<W'.heap.size->tag2 g=ky g)/\DO (JX i ky) W' W'':=by
 obtain⟨rfl,tag2,a,l,o,s,p,q⟩:=hd;exact⟨rfl,tag2,a,l,o,⟨h.c.oR h.e.z h.p q p.mL,s,h.e.trans p.ext h.m.size,Er h.e h.m<|Mc q,h.p⟩,p.mL,q⟩
structure QQ(c:CS)(k:Nat):Prop where
 lt:k<8
 cut:(c k).lG<=zF
 len:(c k).b.length<=1048576
 lA:(c k).lA<=zF
 high:(c k).high<=zF
 all:c.lA<=zF
 mi:c.mi<=zF
 wf:WF (c k).lJ.rs
 hi:∀j,j<(c k).lJ.rs.length->DP (c k).lJ.rs j<9223372036854775808
 fl:(c k).lJ.fl<=zF
 most:1<=(c k).lJ.most/\(c k).lJ.most<=1099511627776
 rl:(c k).lJ.rs.length<=1099511627776
theorem If(rs:zE):∀c a,(Dd rs c a).2<=a:=by
 induction rs with
 | nil=>intro c a;exact AF _
 | cons r l ih =>
  intro c a;unfold Dd;split
  .exact ih c a
  split
  .exact Bu _ _
  exact ih _ _
theorem TE(rs:zE)(h:∀r∈rs,r.2<9223372036854775808):∀a d,a<=9223372036854775808->(Dd rs a d).1<=9223372036854775808:=by
 induction rs with
 | nil=>intro a d e;exact e
 | cons r l ih =>
  intro a d e;have c:=h r AQ;have c:=ih<|λx f=>h x<|AV _ f;unfold Dd;split
  .exact c a d e
  split
  .exact e
  exact c _ _ I
def Uz{n:Nat}(h:EK W 65 10 v n xs):∃a c,v=.slice a n c:=by
 rcases h.2 with⟨e,a⟩|⟨g,o,c,d,e,_⟩
 .exact⟨none,0,by rw[e,a]⟩
 exact⟨_,c,e⟩
variable{N:Nat}{new:rC}
def WH{e:Ending}(h:O0 w ru [] true new e w')(f:new.length=N):∃a c,e=.returned (.slice a N c)/\DO DQ w w':=by
 rcases h with⟨_,h,rfl,d⟩|⟨l,_⟩
 .obtain⟨a,c,e,_⟩:=zk d.own;rw[Aq,f]at e;exact⟨a,c,by rw[e],(DO.refl DQ w).grown d.grown<|λg a=>by simp[Value.ownBlock]at a⟩
 cases l
def zi.oA(h:zi tag i b c V W)(a:k<8)(d:(c k).lJ.rs.length<=1099511627776):Eh W b (9+15*k+1) (V k) (c k).lJ.rs (c k).lJ.fl (c k).lJ.most :=
 ⟨h.w (j:=1) a rfl,h.w (j:=2) a rfl,h.w (j:=3) a rfl,h.ws k a,d,λj=>h.fz j⟩
theorem ex{l:List (DV×rt)}(h:zi tag i b c V W)(hD:Ee tag i db d bv fv l W)(E:D0 i tag W)(k:Nat)(ok:QQ c k)(bp:d.b.length<=1073741824)(bq:d.fs.length<=1073741824)(bt:d.room<=1073741824):rT 149 #[(b,0),(db,0),[k]] W (Gl tag i b db W (c.bytes d k).2.1 (c.bytes d k).2.2 (c.bytes d k).1):=by
 have S0:AA (zP tag i b db W c d tag V bv fv l W):=zb ⟨h,hD,Di.same E.ok<|DO.refl DQ _,DO.refl _ _,E.pos⟩;have A:=ok.lt;have l:(0:Int)<=k:=I;have l:(k:Int)<8:=I;have c5:W (b,238)=some V.wt:=h.tl (j:=5) rfl;obtain⟨l,bP,aY⟩:=Uz h.wt;rw[aY]at c5;have e4:W (db,4)=some (.bool d.full):=za hD.obj rfl;have w0:W (b,9+k*15)=some (V.wb k):=by rw[AL];exact h.w (j:=0) A rfl
 obtain⟨wa,o,an,_⟩:=zk<|h.wb k A;rw[an]at w0;have w7:W (b,9+k*15+7)=some (.int .u64 ((c k).high:Int)):=by rw[AL];exact h.w (j:=7) A rfl
 have ao:W (b,9+k*15+14)=some (.int .u64 ((c k).lA:Int)):=by rw[AL];exact h.w (j:=14) A rfl
 have ag:W (b,9+k*15+10)=some (.bool (c k).cut):=by rw[AL];exact h.w (j:=10) A rfl
 have ap:W (b,9+k*15+11)=some (.int .u64 ((c k).lG:Int)):=by rw[AL];exact h.w (j:=11) A rfl
 have g0:W (b,233)=some (.int .u64 c.lA):=h.tl (j:=0) rfl;have ks:=fB (h.lK<|(DO.refl DQ W).drew) (by have:=ok.mi;unfold zF at this;omega);obtain⟨R,hR⟩:=nm<|c.bytes d k;rw[hR];have HR:=zb hR;have OK:=zb ok;obtain⟨L,hL⟩:=nm<|(c k).b.length;obtain⟨hh,aJ⟩:=nm<|(c k).high;obtain⟨cr,aK⟩:=nm<|(c k).lA;obtain⟨cc,aL⟩:=nm c.lA;obtain⟨cu,aq⟩:=nm<|(c k).cut;obtain⟨kp,aM⟩:=nm<|(c k).lG;obtain⟨sp,aN⟩:=nm c.mi;obtain⟨nw,aO⟩:=nm c.waits.length;obtain⟨df,aP⟩:=nm d.full;have b1:=ok.len;have b2:=ok.lA;have b3:=ok.high;have b4:=ok.all;have b5:=ok.mi;have l:=ok.cut;unfold zF at b2 b3 b4 b5 l;have HE:AA (c.lr k=if cu=true then min (min (min L cr)<|hh+cc-min cc sp) kp else min (min L cr) (hh+cc-min cc sp)):=by
  show _=_;rw[CS.lr,CS.nI,hL,aJ,aK,aL,aN,aq,aM]
 rw[hL]at w0 b1;rw[aJ]at w7 b3;rw[aK]at ao b2;rw[aL]at g0 b4;rw[aq]at ag;rw[aM]at ap l;have bu:=zb aq;rw[aN]at ks b5;rw[aO]at c5;rw[aP]at e4;have HL:=zb hL;have ah:AA (V.wb k=.slice wa L o):=by rw[hL]at an;exact an
 have aZ:=zb aO;have a0:=zb aP;have ar:0<nw\/(nw=0/\df=true)\/(nw=0/\df=false):=by
  cases df
  .by_cases e:nw=0
   .exact .inr (.inr ⟨e,rfl⟩)
   exact .inl I
  by_cases e:nw=0
  .exact .inr (.inl ⟨e,rfl⟩)
  exact .inl I
 clear h hD E ok hR aY an hL aJ aK aL aN aO aP aq aM;rcases ar with hA|⟨rfl,rfl⟩|⟨rfl,rfl⟩
 .have Y:AA (R=(false,c,d)):=by
   show _=_;rw[<-HR.z,CS.bytes,AM (.inl (λe=>by have:=aZ.z;rw[e]at this;simp at this;omega))]
  have d1:(0:Int)<nw:=I;clear hA ks w0 w7 ao ag ap g0;go_enter func149,ntmps149;go_wp2_with fail;go_ret;rw[Y.z];exact S0.z.post false
 .have Y:AA (R=(false,c,d)):=by
   show _=_;rw[<-HR.z,CS.bytes,AM (.inr a0.z)]
  clear ks w0 w7 ao ag ap g0;go_enter func149,ntmps149;go_wp2_with fail;go_ret;rw[Y.z];exact S0.z.post false
 have a1:AA (R=if (Dd (c k).lJ.rs 0<|c.lr k).2<=(Dd (c k).lJ.rs 0<|c.lr k).1 then
  if (!(c k).fin||(c k).ending)||decide (c.lr k<(c k).b.length)then(false,c,d)
  else c.mE d k (c k).b.length (c k).b.length
 else c.mE d k (Dd (c k).lJ.rs 0<|c.lr k).1 (Dd (c k).lJ.rs 0<|c.lr k).2):=by
  show _=_;rw[<-HR.z,CS.bytes,AH];rintro(e|e)
  .exact e (Ai aZ.z)
  rw[a0.z]at e;cases e
 obtain⟨q1,l⟩:=nm<|min cc sp;obtain⟨O,E⟩:=nm<|min (min L cr)<|hh+cc-q1;obtain⟨en,aQ⟩:=nm<|(if cu=true then min O kp else O);have bw:AA (c.lr k=en):=by
  show _=_;rw[HE.z,l,E,aQ]
 have a2:=zb l;have ai:=zb aQ;have a3:=zb E;have x1:IntKind.u64.wrap (L:Int)=(L:Int):=by rw[IntKind.wrap_u64];omega
 have x2:=wu ((hh:Int)+cc) I;have x3:=wu ((hh:Int)+cc-q1) I;clear l aQ E HE HR;go_enter func149,ntmps149;go_upto_region 4 with fail
 go_cut [8] (λev t=>ev=.int .u64 O/\t=W.drew)
 case first=>as_aux_lemma =>
  refine zn 29 (λw'=>w'=W.drew) (rfl) ?_;refine GI 0 ?_;iterate 24
   refine GV rfl ?_;try simp only[PS]
  refine zz 24 rfl (λK hK=>?_);go_simp;refine ks.mono ?_;rintro _ _ ⟨rfl,rfl⟩;refine hK.z _ _ rfl ?_;clear hK K;try simp only[PS]
  refine H9 (i:=25) (v:=.int .u64 q1) rfl kw (λ_ _ _ h=>h) (Or.inl ⟨by rfl,?_⟩) ?_
  .intro t u;subst u;go_simp;have:=a2.z;split<;>omega
  try simp only[PS]
  refine GI 26 ?_;refine GV rfl ?_;try simp only[PS]
  refine H9 (i:=27) (v:=.int .u64 O) rfl kw (λ_ _ _ h=>h) (Or.inl ⟨by rfl,?_⟩) ?_
  .intro t u;subst u;go_simp;have h1:=a2.z;have h2:=a3.z
   (repeat' split)<;>omega
  try simp only[PS]
  refine GI 28 ?_;refine GV rfl ?_;try simp only[PS]
  refine zq ?_;go_wp2_with fail;go_meet;exact rZ
 case rest =>
 obtain⟨rfl,hw⟩:=hcut;subst hw;go_upto_if 64 with fail
 go_cut [8] (λev t=>ev=.int .u64 en/\t=W.drew)
 case first=>as_aux_lemma =>
  cases cu
  .have h2:O=en:=ai.z;subst h2;go_wp2_with fail;go_meet;exact rZ
  go_wp2_with fail;all_goals
   go_meet;have h2:min O kp=en:=ai.z;exact⟨by congr 1;omega,rfl⟩
 case rest =>
 obtain⟨rfl,hw⟩:=hcut;subst hw;have a4:en<=L:=by
  have h1:(if cu=true then min O kp else O)=en:=ai.z;have h2:min (min L cr) (hh+cc-q1)=O:=a3.z;have l:O<=L:=by rw[<-h2];exact AK (Bu _ _)<|Bu _ _
  clear h2;split at h1
  .have:=Bu O kp;omega
  omega
 have S1:=zb<|S0.z.lK (DO.refl DQ W).drew;have kg:=QR (c k).lJ.rs (c k).lJ.fl (c k).lJ.most b (9+15*k+1) 0 en (V k) W.drew (S1.z.c.oA A OK.z.rl) I OK.z.hi;rw[AL 15 k]at kg;have aF:=TE (c k).lJ.rs (λr hr=>by
  obtain⟨j,l⟩:=Ct hr;have a5:=(AO.1 l).1;have e:=Gh a5;rw[l]at e;cases e;exact OK.z.hi j a5) 0 en I
 have aG:=If (c k).lJ.rs 0 en;obtain⟨z,l⟩:=nm<|(Dd (c k).lJ.rs 0 en).1;obtain⟨B,u⟩:=nm<|(Dd (c k).lJ.rs 0 en).2;rw[l]at aF;rw[u]at aG;have a6:AA (R=if B<=z then(if (!(c k).fin||(c k).ending)||decide (en<L)then(false,c,d)else c.mE d k L L)else c.mE d k z B):=by
  show _=_;rw[a1.z,bw.z,l,u,HL.z]
 rw[l,u]at kg;have v:=zb kg;clear kg l u a1 ks x1 x2 x3 w0 w7 ao ap g0 c5 e4;go_upto_region 7 with fail
 go_cut [9,10] (λlv hv t=>lv=.int .u64 z/\hv=.int .u64 B/\AA (DO DQ W.drew t))
 case first=>as_aux_lemma =>
  go_wp2_with (go_at_call 91;refine v.z.mono ?_;rintro _ q ⟨rfl,m2⟩);go_meet;exact⟨rfl,rfl,m2⟩
 case rest =>
 obtain⟨rfl,rfl,m2⟩:=hcut;obtain⟨q,aR⟩:=nn wc;subst aR;have S2:=zb<|S1.z.lK m2.z;have w0:q (b,9+k*15)=some (.slice wa L o):=by
  rw[AL k 15,<-ah.z];exact S2.z.c.w (j:=0) A rfl
 have w8:q (b,9+k*15+8)=some (.bool (c k).finished):=by
  rw[AL k 15];exact S2.z.c.w (j:=8) A rfl
 have w9:q (b,9+k*15+9)=some (.bool (c k).ending):=by
  rw[AL k 15];exact S2.z.c.w (j:=9) A rfl
 have a7:q (b,9+k*15+10)=some (.bool cu):=m2.z.cell (a:=⟨b,_,none⟩) id ag;obtain⟨fi,l⟩:=nm<|(c k).fin;obtain⟨fq,v⟩:=nm<|(c k).finished;have bx:AA ((fq && !cu)=fi):=by
  show _=_;rw[<-v,<-bu.z,<-l];rfl
 obtain⟨eg,u⟩:=nm<|(c k).ending;have bz:=zb l;have au:=zb u;have Z:=a6.z;rw[l,u]at Z;rw[v]at w8;rw[u]at w9;replace Z:=zb Z;have E:=zb m2.z;have x1:IntKind.u64.wrap (L:Int)=(L:Int):=by rw[IntKind.wrap_u64];omega
 clear l v u a6 m2 ag;go_upto_region 9 with fail
 go_cut [12] (λfv t=>fv=.bool fi/\t=q)
 case first=>as_aux_lemma =>
  cases fq;all_goals
   cases cu;all_goals
    have a8:=bx.z;subst a8;go_wp2_with fail;go_meet;exact rZ
 case rest =>
 obtain⟨rfl,hw⟩:=hcut;obtain⟨q,aR⟩:=nn wc;subst aR;subst hw;go_upto_if 98 with fail
 go_cut [9,10] (λlv hv t=>∃lo hi:Nat,lv=.int .u64 lo/\hv=.int .u64 hi/\t=q/\lo<=hi/\hi<=L/\AA (R=c.mE d k lo hi))
 case first=>as_aux_lemma =>
  by_cases av:B<=z
  .have aa:AA (R=if (!fi||eg)||decide (en<L)then(false,c,d)else c.mE d k L L):=by
    show _=_;rw[Z.z,AM av]
   have d1:(B:Int)<=z:=I;clear av Z;cases fi
   .have Y:AA (R=(false,c,d)):=by
     show _=_;rw[aa.z];simp
    clear aa;go_wp2_with fail;go_ret;rw[Y.z];exact S2.z.post false
   cases eg
   .by_cases l:en<L
    .have Y:AA (R=(false,c,d)):=by
      show _=_;rw[aa.z];simp[l]
     have u:(en:Int)<L:=I;clear aa l;go_wp2_with fail;go_ret;rw[Y.z];exact S2.z.post false
    have Y:AA (R=c.mE d k L L):=by
     show _=_;rw[aa.z];simp[l]
    have u:¬(en:Int)<L:=I;clear aa l;go_wp2_with fail;go_meet;exact⟨L,L,rfl,rfl,rfl,AF _,AF _,Y⟩
   have Y:AA (R=(false,c,d)):=by
    show _=_;rw[aa.z];simp
   clear aa;go_wp2_with fail;go_ret;rw[Y.z];exact S2.z.post false
  have Y:AA (R=c.mE d k z B):=by
   show _=_;rw[Z.z,AH av]
  have d1:¬(B:Int)<=z:=I;have l:z<=B:=I;clear av Z;go_wp2_with fail;go_meet;exact⟨z,B,rfl,rfl,rfl,l,I,Y⟩
 case rest =>
 obtain⟨lo,hi,rfl,rfl,hw,bA,l,a9⟩:=hcut;clear Z;have hw:=hw.symm;subst hw;obtain⟨f0,l⟩:=nm<|(fi&&hi==L);have aw:=zb l;clear l;obtain⟨l,ax⟩:=nm<|q.alloc<|.cells (zj (EV k lo f0 [])<|.slice none 0 0) 65;go_upto_region 14 with fail
 go_cut [13] (λu t=>u=.pointer q/\t=l)
 case first=>as_aux_lemma =>
  have hd:l=q.alloc (.cells #[.int .i64 4,[k],lo,.int .u64 0,.int .u64 0,f0,.int .u64 0,.int .u64 0,.string ⟨#[]⟩,.slice none 0 0] 65):=ax.symm;have aS:=zb hd;clear hd;cases fi
  .have O:f0=false:=by rw[<-aw.z];rfl
   subst O;go_wp2_with fail;go_meet;exact⟨rfl,aS.z.symm⟩
  by_cases e:hi=L
  .have O:f0=true:=by rw[<-aw.z,e];simp
   have e1:((hi:Int)==(L:Int))=true:=by rw[e];simp
   subst O;clear e;go_wp2_with fail;go_meet;exact⟨rfl,aS.z.symm⟩
  have O:f0=false:=by rw[<-aw.z];simp[e]
  have e1:((hi:Int)==(L:Int))=false:=AR.2 I;subst O;clear e;go_wp2_with fail;go_meet;exact⟨rfl,aS.z.symm⟩
 case rest =>
 obtain⟨rfl,hw⟩:=hcut;obtain⟨W4,bB⟩:=nn wc;subst bB;subst hw;have bb:=AB ax;have oF:=AD ax;have S4:=zb<|S2.z.lK bb;have OF:=zb oF;obtain⟨s,hs⟩:=nm<|((c k).b.drop lo).take<|hi-lo;have bC:s.length=hi-lo:=by
  rw[<-hs,AU,Ag,HL.z];omega
 have ab:BR W4 (.slice wa L o) (c k).b:=by
  have:=(S4.z.c.wb k A).br;rw[ah.z]at this;exact this
 have be:L<=o/\o<=9223372036854775807:=by
  obtain⟨l,u,e,q1,q2,_⟩:=ab;cases e;rw[HL.z]at q1;unfold maxLen at q2;exact⟨q1,I⟩
 obtain⟨l,u⟩:=be;rw[<-HL.z]at ab;have aj:(convert 60 9<|.slice (wa.map λx=>x.add lo) (hi-lo)<|o-lo).run prog W4=.ok (.string<|zu s) W4:=by
  rw[<-hs];exact Ii<|ab.sub<|by rw[HL.z];omega
 have ak:∀a,(convert 60 9<|.slice a 0 0).run prog W4=.ok (.string<|zu []) W4:=λa=>Ii<|BR.nil _ a 0 lw
 have v:Dx (EV k lo false s)=true:=by
  have e1:decide ((k:Int)<8)=true:=Au I;simp[Dx,Ec,nums,Eg,zR,EV]
  and_intros<;>first|omega|exact Au I
 have z:=Mb (EV k lo false s) rfl;have l:(EV k lo false s).data.length=hi-lo:=bC;rw[l]at z;have u:=RJ ru [] (EV k lo false s) (.slice none 0 0) W4 (OB.nil W4) (λh=>absurd h<|A6 _) ⟨none,0,rfl,AF _,AN _,λi hi=>absurd hi<|A6 i⟩ (AN _) (by rw[l];omega)<|AN _;rw[v]at u;obtain⟨N,B⟩:=nm<|(zC<|EV k lo false s).length;rw[B]at z;have Y:=zb B;have bD:=zb hs;have bf:=zb u;have w0:W4 (b,9+k*15)=some (.slice wa L o):=by
  rw[AL k 15,<-ah.z];exact S4.z.c.w (j:=0) A rfl
 have x1:=wu ((hi:Int)-lo) I;have x2:IntKind.i64.wrap ((hi:Int)-lo)=(hi:Int)-lo:=IntWalk.i64_in _ I;have x3:IntKind.i64.wrap ((N:Int)-((hi:Int)-lo))=(N:Int)-((hi:Int)-lo):=IntWalk.i64_in _ I;clear hs B u ab w8 w9 a7 ax oF aF aG b2 b3 b4 b5 a4 v l bb;go_upto_region 15 with fail
 go_cut [14] (λhv t=>hv=.int .i64 ((N:Int)-((hi:Int)-lo))/\AA (DO DQ W4 t))
 case first=>as_aux_lemma =>
  by_cases hc:lo=o
  .have aT:hi=lo:=I;subst aT;have aU:s=[]:=Ai I;subst aU;subst hc;go_wp2_with (go_at_call 144;refine bf.z.mono ?_;intro e W5 al;obtain⟨va,vc,rfl,m5⟩:=WH al Y.z;have M5:=zb m5;clear al m5);all_goals
    go_meet;exact⟨by congr 1;omega,M5⟩
  have bE:¬o=lo:=λh=>hc h.symm
  go_wp2_with (go_at_call 144;refine bf.z.mono ?_;intro e W5 al;obtain⟨va,vc,rfl,m5⟩:=WH al Y.z;have M5:=zb m5;clear al m5);all_goals
   go_meet;exact⟨rfl,M5⟩
 case rest =>
 obtain⟨rfl,m4⟩:=hcut;obtain⟨W5,bF⟩:=nn wc;subst bF;have S5:=zb<|S4.z.lK m4.z;have bG:=zb<|m4.z.obj rk OF.z;obtain⟨u,l,s,z,v⟩:∃(B:rD) (l s:rt) (z:List (DV×rt)),AA (Ee B i db d l s z W5):=⟨_,_,_,_,S5.z.d⟩;have O:W5 db=some l:=za v.z.obj rfl;have e2:W5 (db,2)=some (.int .i64 d.room):=za v.z.obj rfl;obtain⟨l,s,u,_⟩:=zk v.z.ob;rw[u]at O;obtain⟨B,v⟩:=nm d.b.length;obtain⟨s,l⟩:=nm d.room;have ac:AA (Hz c d k lo hi=(s:Int)-4-B-((N:Int)-((hi:Int)-lo))):=by
  show _=_;rw[Hz,bD.z,Y.z,v,l]
 rw[v]at O bp;rw[l]at e2 bt;have HB:=zb v;have z:=zb l;have y1:IntKind.i64.wrap ((s:Int)-4)=(s:Int)-4:=IntWalk.i64_in _ I;have y2:IntKind.i64.wrap ((s:Int)-4-B)=(s:Int)-4-B:=IntWalk.i64_in _ I;have y3:IntKind.i64.wrap ((s:Int)-4-B-((N:Int)-((hi:Int)-lo)))=(s:Int)-4-B-((N:Int)-((hi:Int)-lo)):=IntWalk.i64_in _ I;clear u v l w0 ak aj x3;go_upto_region 16 with fail
 go_cut [15] (λl t=>l=.int .i64 (Hz c d k lo hi)/\AA (DO DQ W5 t))
 case first=>as_aux_lemma =>
  go_quiet (fail);go_wp2_with fail;go_meet;exact⟨by rw[ac.z],(DO.refl DQ W5).drewN _⟩
 case rest =>
 obtain⟨rfl,m5⟩:=hcut;obtain⟨W6,bH⟩:=nn wc;subst bH;have S6:=zb<|S5.z.lK m5.z;have l:=zb<|m5.z.obj rk bG.z;obtain⟨z,s⟩:=nm<|Hz c d k lo hi;have u:=zb s;have u : -2199023255552<=z/\z<=2199023255552:=by
  have:=ac.z;rw[s]at this;omega
 rw[s];have ad:AA (R=if z<(hi:Int)-lo then(if z<1 then(false,c,{ d with full:=true })else c.ll d k lo (lo+z.toNat) false)else c.ll d k lo hi f0):=by
  show _=_;rw[a9.z,CS.mE,s,bz.z,HL.z,aw.z]
 have bg:W.heap.size<=q.heap.size:=S2.z.m.size;have e4:W6 (db,4)=some (.bool d.full):=za S6.z.d.obj rfl;have bh:∀j,W6.frozen? ⟨db,j,none⟩=false:=λj=>zg S6.z.d.obj
 have bI:W6 (q,5)=some (.bool f0):=za l.z rfl;have bJ:∀j,W6.frozen? ⟨q.heap.size,j,none⟩=false:=λj=>zg l.z
 have ay:AA (tag q.heap.size=(0,0)):=zb<|S2.z.e.z _ ro;clear s a9 m5 O e2 y1 y2 y3 ac;go_upto_if 159 with fail
 go_cut [10] (λhv t=>∃(f:Nat) (f2:Bool),hv=.int .u64 f/\lo<=f/\f<=hi/\AA (R=c.ll d k lo f f2)/\AA (t.heap[q.heap.size]?=some (.cells (zj (EV k lo f2 [])<|.slice none 0 0) 65 (0,0)))/\AA (DO (λg=>g=q.heap.size) W6 t))
 case first=>as_aux_lemma =>
  by_cases s:z<(hi:Int)-lo
  .by_cases u':z<1
   .have X:AA (R=(false,c,{ d with full:=true })):=by
     show _=_;rw[ad.z,AM s,AM u']
    clear ad;go_wp2_with fail;go_ret;rw[X.z];exact S6.z.oX.post false
   have X:AA (R=c.ll d k lo (lo+z.toNat) false):=by
    show _=_;rw[ad.z,AM s,AH u']
   have u:IntKind.u64.wrap z=z:=by rw[IntKind.wrap_u64];omega
   have u:=wu ((lo:Int)+z) I;have u:AA ((W6.setCell (q.heap.size,5)<|.bool false).heap[q.heap.size]?=some (.cells (zj (EV k lo false [])<|.slice none 0 0) 65 (0,0))):=by
    show _=_;rw[zc l.z];rfl
   clear ad;go_wp2_with fail;go_meet;exact⟨lo+z.toNat,false,by congr 1;omega,I,I,X,u,(DO.refl (λg=>g=q.heap.size) _).setCell (p:=U q.heap.size 5) rj _⟩
  have X:AA (R=c.ll d k lo hi f0):=by
   show _=_;rw[ad.z,AH s]
  clear ad;go_wp2_with fail;go_meet;exact⟨hi,f0,rfl,bA,AF _,X,l,DO.refl _ _⟩
 case rest =>
 obtain⟨f,f2,rfl,l,s,bi,aV,m7⟩:=hcut;obtain⟨W7,bK⟩:=nn wc;subst bK;have u:=zb (S6.z.free m7.z (λg s=>by
  have s:g=q.heap.size:=s;rw[s];exact⟨ay.z,bg⟩))
 obtain⟨s2,l⟩:=nm<|((c k).b.drop lo).take<|f-lo;have bj:s2.length=f-lo:=by
  rw[<-l,AU,Ag,HL.z];omega
 have ab:BR W7 (.slice wa L o) (c k).b:=by
  have:=(u.z.c.wb k A).br;rw[ah.z]at this;exact this
 rw[<-HL.z]at ab;have aj:(convert 60 9<|.slice (wa.map λx=>x.add lo) (f-lo)<|o-lo).run prog W7=.ok (.string<|zu s2) W7:=by
  rw[<-l];exact Ii<|ab.sub<|by rw[HL.z];omega
 have ak:∀a,(convert 60 9<|.slice a 0 0).run prog W7=.ok (.string<|zu []) W7:=λa=>Ii<|BR.nil _ a 0 lw
 have w0:W7 (b,9+k*15)=some (.slice wa L o):=by
  rw[AL k 15,<-ah.z];exact u.z.c.w (j:=0) A rfl
 have v8:W7 (q,8)=some (.string ⟨#[]⟩):=za aV.z rfl;have bL:∀j,W7.frozen? ⟨q.heap.size,j,none⟩=false:=λj=>zg aV.z
 obtain⟨W8,a⟩:=nm<|W7.setCell (U q 8)<|.string<|zu s2;have aW:AA (zl W8 q.heap.size (EV k lo f2 s2)<|.slice none 0 0):=by
  show _=_;rw[<-a,zc aV.z];rfl
 have S8:=zb (u.z.free (show DO (λg=>g=q.heap.size) W7 W8 by rw[<-a];exact(DO.refl (λg=>g=q.heap.size) _).setCell (p:=U q.heap.size 8) rj _) (λg s=>by
  have s:g=q.heap.size:=s;rw[s];exact⟨ay.z,bg⟩))
 have bM:=zb l;have bk:=zb a;clear l ab a bI bJ e4 bh ad;go_upto_region 23 with fail
 go_cut [] (λt=>t=W8)
 case first=>as_aux_lemma =>
  by_cases hc:lo=o
  .have aT:f=lo:=I;subst aT;have aU:s2=[]:=Ai I;subst aU;subst hc;go_wp2_with fail;all_goals
    go_meet;exact bk.z
  have bE:¬o=lo:=λh=>hc h.symm
  go_wp2_with fail;all_goals
   go_meet;exact bk.z
 case rest =>
 have hw:=hcut.symm;subst hw;clear ak aj w0 v8 bL hcut;have h:(EV k lo f2 s2).Fits:=U0 A I (by rw[bj];unfold zF;omega);have a:=NQ S8.z.d S8.z.ok S8.z.p (EV k lo f2 s2) h (by rw[HB.z];omega) bq;obtain⟨dn,h⟩:=nm<|d.add<|EV k lo f2 s2;have az:=zb h;have aA:AA (R=c.oI d k lo f f2 dn):=by
  show _=_;rw[bi.z,jO,bM.z,h]
 have aH:=zb a;obtain⟨y0,y1,y2,y3,y4,y5,y6,y7,y8,y9⟩:=aW.z.cells;have bN:q.heap.size<W8.heap.size:=(AI.1 aW.z).1;clear a h bi;cases dn with
 | none=>as_aux_lemma =>
  go_wp2_with fail;refine aH.z.mono ?_;intro e W9 hd;obtain⟨rfl,am,bl,bm,l9,T,_,_⟩:=S8.z.pT hd;rw[az.z]at T;rw[az.z];clear hd;have e4:W9 (db,4)=some (.bool d.full):=za T.d.obj rfl;have bh:∀j,W9.frozen? ⟨db,j,none⟩=false:=λj=>zg T.d.obj
  have T:=zb T;have X:AA (R=(false,c,{ d with full:=true })):=aA.z;clear aA y0 y1 y2 y3 y4 y5 y6 y7 y8 y9;go_wp2_with fail;go_ret;rw[X.z];exact T.z.oX.post false
 | some d1 =>
  go_wp2_with fail;refine aH.z.mono ?_;intro e W9 hd;obtain⟨rfl,am,bl,bm,l9,T,bn,bo⟩:=S8.z.pT hd;rw[az.z]at T;rw[az.z];have a:=S8.z.p;have aB:zl W9 q.heap.size (EV k lo f2 s2) (.slice none 0 0):=bo.obj (λ⟨r,hr,hx⟩=>by
   rw[ay.z]at hx;simp at hx;omega) aW.z
  have aC:am q.heap.size=(0,0):=by rw[bn _ bN,ay.z]
  have X:AA (R=(true,{ c with ws:=ze c.ws k { c.ws k with lJ:=if lo<f then(c k).lJ.add lo (f-1)else(c k).lJ,ending:=(c k).ending||f2,high:=max (c k).high f } },d1)):=aA.z;clear hd aA y0 y1 y2 y3 y4 y5 y6 y7 y8 y9 bo bn;have a:∀(tx:rD) (Vx:CV) (d:rq) (h:Df),h=(if lo<f then(c k).lJ.add lo (f-1)else(c k).lJ)->zP tag i b db W { c with ws:=ze c.ws k { c.ws k with lJ:=h } } d1 tx Vx bl bm l9 d->Gl tag i b db W R.2.1 R.2.2 R.1 (.returned<|.bool true) ((d.setCell (b,9+k*15+9)<|.bool<|(c k).ending||f2).setCell (b,9+k*15+7)<|.int .u64 ((max (c k).high f:Nat):Int)):=λtx Vx d h d SX=>by
   have G:=SX.oq A ((c k).ending||f2)<|max (c k).high f;simp only[Kn,zf]at G;rw[X.z];rw[AL 15 k]at G;rw[d]at G;exact G.post true
  have aI:=zb a;have T:=zb T;have aB:=zb aB;clear a;obtain⟨h7,a⟩:=nm<|(c k).high;have aD:=zb a;clear a;by_cases aE:lo<f
  .as_aux_lemma =>
   have a:=Ks (c k).lJ b (9+15*k+1) lo (f-1) (V k) W9 (T.z.c.oA A OK.z.rl) OK.z.wf I I (by have:=OK.z.fl;unfold zF at this;omega) (λx=>zi.apart T.z.c.tb (T.z.c.ng k A b x) I rfl) OK.z.most.1<|pp OK.z.most.2;rw[AL 15 k]at a;have d:=zb a;have d1:(lo:Int)<f:=I;have y1:IntKind.u64.wrap ((f:Int)-1)=((f-1:Nat):Int):=by rw[IntKind.wrap_u64];omega
   have bO:=zb aE;clear a aE;go_wp2_with fail;refine d.z.mono ?_;intro e af ha;have aX:=ha;rw[AL k 15]at aX;obtain⟨rfl,tx,Vx,SX⟩:=T.z.pL A aX<|IK _ _ _;obtain⟨d,_,_,_,a,_⟩:=ha;have h:¬(q.heap.size=b\/(V k).ownBlock=some q.heap.size):=by
    rintro(x|x)
    .rw[x,T.z.c.tb]at aC;simp at aC
    rw[T.z.c.ng k A _ x]at aC;simp at aC
   have d:zl af q.heap.size (EV k lo f2 s2) (.slice none 0 0):=a.obj h aB.z;have w9:af (b,9+k*15+9)=some (.bool eg):=by
    rw[AL k 15,<-au.z];exact SX.c.w (j:=9) A<|by simp only[zf];rfl
   have w7:af (b,9+k*15+7)=some (.int .u64 h7):=by
    rw[AL k 15,<-aD.z];exact SX.c.w (j:=7) A<|by simp only[zf];rfl
   have wf:∀p,af.frozen? ⟨b,p,none⟩=false:=λp=>SX.c.fz p
   have v5:af (q,5)=some (.bool f2):=d.cells.2.2.2.2.2.1;have G:=aI.z tx Vx af _ (by rw[AM bO.z]) SX;rw[au.z,aD.z]at G;clear aX SX a d h;rcases CJ h7 f with hx|hx|hx;all_goals
    first
     | (have ae:max h7 f=f:=by omega)
     | (have ae:max h7 f=h7:=by omega)
    rw[ae]at G;have HG:=zb G;clear G ae;cases eg;all_goals
     go_wp2_with fail;all_goals first
      | (exfalso;omega)
      | (go_ret;exact HG.z)
      | (go_ret;subst hx;exact HG.z)
  as_aux_lemma =>
  have d1:¬(lo:Int)<f:=I;have w9:W9 (b,9+k*15+9)=some (.bool eg):=by
   rw[AL k 15,<-au.z];exact T.z.c.w (j:=9) A rfl
  have w7:W9 (b,9+k*15+7)=some (.int .u64 h7):=by
   rw[AL k 15,<-aD.z];exact T.z.c.w (j:=7) A rfl
  have wf:∀p,W9.frozen? ⟨b,p,none⟩=false:=λp=>T.z.c.fz p
  have v5:W9 (q,5)=some (.bool f2):=aB.z.cells.2.2.2.2.2.1;have G:=aI.z am V W9 _ (by rw[AH aE]) (by
   have:=T.z;have e:{ c with ws:=ze c.ws k { c.ws k with lJ:=(c k).lJ } }=c:=by
    show{ c with ws:=ze c.ws k (c k) }=c;rw[Fd]
   rw[e];exact this)
  rw[au.z,aD.z]at G;clear aE;rcases CJ h7 f with hx|hx|hx;all_goals
   first
    | (have ae:max h7 f=f:=by omega)
    | (have ae:max h7 f=h7:=by omega)
   rw[ae]at G;have HG:=zb G;clear G ae;cases eg;all_goals
    go_wp2_with fail;all_goals first
     | (exfalso;omega)
     | (go_ret;exact HG.z)
     | (go_ret;subst hx;exact HG.z)
def zT(a:Nat->rt)(l:List Nat):List rt:=l.flatMap fun(c:Nat)=>[Value.int .i64 c,a c]
theorem jN(a:Nat->rt)(l:List Nat){c:Nat}(h:l[i]?=some c):(zT a l)[i*2]?=some (.int .i64 c)/\(zT a l)[i*2+1]?=some (a c):=by
 induction l generalizing i with
 | nil=>cases h
 | cons x l ih =>
  have e:zT a (x::l)=.int .i64 x::a x::zT a l:=rfl;cases i with
  | zero =>
   cases h;exact rZ
  | succ i =>
   have:=ih (i:=i) h;rw[e,(I:(i+1)*2=i*2+1+1)];exact this
theorem Rs(a:Nat->rt)(l:List Nat):(zT a l).length=l.length*2:=by
 induction l with
 | nil=>rfl
 | cons x l ih =>
  have e:zT a (x::l)=.int .i64 x::a x::zT a l:=rfl;rw[e,AS,AS,ih,AS];omega
structure EC(sb:Nat)(fn:Nat->rt)(l:List Nat)(g cap:Nat)(W:rq):Prop where
 obj:W.heap[sb]?=some (.cells #[.slice g l.length cap] 268 (0,0))
 own:W.ownsRow 0 266 2 (.slice g l.length cap) l.length (zT fn l)
 ne:g≠sb
 small:l.length<=1024
 fns:∀c,∃f a b,fn c=.func f a b
variable{cap sb:Nat}{fn:Nat->rt}
def EC.at_{l:List Nat}(h:EC sb fn l g cap W){c:Nat}(hi:l[i]?=some c):W (g,i*2)=some (.int .i64 c)/\W (g,i*2+1)=some (fn c):=by
 obtain⟨c,d⟩:=jN fn l hi;have a:=h.own.cells (g:=g) rfl _ _ c;have b:=h.own.cells (g:=g) rfl _ _ d;rw[zX,Aw]at a b;exact⟨a,b⟩
def EC.mod{l:List Nat}(h:EC sb fn l g cap W)(m:DO S W W')(a:¬S sb)(c:¬S g):EC sb fn l g cap W' :=
 ⟨m.obj a h.obj,m.owns h.own (λq a x=>by
  have a:g=q:=by simpa [Value.ownBlock]using a
  rw[<-a]at x;exact c x),h.ne,h.small,h.fns⟩
def Qm(a:rE)(n cap:Nat)(w:rq):rT 150 #[.slice a n cap] w λe w'=>e=.returned (.int .i64 n)/\w=w':=by
 go_enter func150,ntmps150;go_wp2_with fail;go_ret;exact rZ
def NP{l:List Nat}(h:EC sb fn l g cap W){x y:Nat}(hi:l[i]?=some x)(a:l[k]?=some y):rT 245 #[.slice g l.length cap,[i],[k]] W λe w'=>e=.returned (.bool (decide (x<y)))/\DO DQ W w':=by
 obtain⟨c,_⟩:=h.at_ hi;obtain⟨c,_⟩:=h.at_ a;have c:(i:Int)<l.length:=pp<|(AO.1 hi).1;have c:(k:Int)<l.length:=pp<|(AO.1 a).1;have c:(0:Int)<=i:=I;have c:(0:Int)<=k:=I;clear h hi a;go_enter func245,ntmps245;go_wp2_with fail;go_quiet (fail);go_wp2_with fail;go_ret;exact⟨lm,(DO.refl DQ _).drewN _⟩
def Oj{n:Nat}(h:w.ownsRow 0 e sz (.slice g n cap) n xs)(a:j<xs.length)(u:rt):(w.setCell (g,j) u).ownsRow 0 e sz (.slice g n cap) n (xs.set j u):=by
 obtain⟨a,c⟩:=h;refine⟨by rw[Bf];exact a,?_⟩;rcases c with⟨d,_⟩|⟨e,a,c,f,hb,l,o,p,q,s⟩
 .cases d
 cases f;refine .inr ⟨g,cap,_,rfl,hb,zc l,o,p,rB q,?_⟩;rw[Array.toList_setIfInBounds,DK,s]
theorem Vr(a:Nat->rt)(l:List Nat)(i y:Nat):((zT a l).set (i*2) (.int .i64 y)).set (i*2+1) (a y)=zT a (l.set i y):=by
 induction l generalizing i with
 | nil=>rfl
 | cons x l ih =>
  have e:∀x l,zT a (x::l)=.int .i64 x::a x::zT a l:=λ_ _=>rfl
  cases i with
  | zero=>rfl
  | succ i =>
   rw[e,(I:(i+1)*2=i*2+1+1)];simp only[CQ];rw[e,ih i]
def Fc(l:List Nat)(i k:Nat):List Nat:=(l.set i (l.getD k 0)).set k (l.getD i 0)
def O6{l:List Nat}(h:EC sb fn l g cap W){x y:Nat}(hi:l[i]?=some x)(f:l[k]?=some y):rT 248 #[.slice g l.length cap,[i],[k]] W λe w'=>e=.returned (.tuple #[])/\EC sb fn (Fc l i k) g cap w'/\DO (λq=>q=g) W w':=by
 have a:=zb h;obtain⟨u,N⟩:=h.at_ hi;obtain⟨T,K⟩:=h.at_ f;have u:(i:Int)<l.length:=pp<|(AO.1 hi).1;have s:(k:Int)<l.length:=pp<|(AO.1 f).1;have u:(0:Int)<=i:=I;have t:(0:Int)<=k:=I;have u:∀j,W.frozen? ⟨g,j,none⟩=false:=λj=>by
  rcases h.own.2 with⟨v,_⟩|⟨Z,u,O,X,_,Y,_⟩
  .cases v
  cases X;exact zg Y
 obtain⟨v,O,X,u⟩:=h.fns x;obtain⟨O,X,Y,v⟩:=h.fns y;rw[u]at N;rw[v]at K;have z:=zb u;have o:=zb v;have N:=hi;have O:=f;have A:=zb N;have B:=zb O;clear h hi f N O u v;have fin:∀W',W'=(((W.setCell (g,i*2)<|.int .i64 y).setCell (g,i*2+1)<|fn y).setCell (g,k*2)<|.int .i64 x).setCell (g,k*2+1) (fn x)->EC sb fn (Fc l i k) g cap W'/\DO (λq=>q=g) W W':=by
  rintro W' rfl;have f:(Fc l i k).length=l.length:=by simp[Fc]
  have m:DO (λq=>q=g) W ((((W.setCell (g,i*2)<|.int .i64 y).setCell (g,i*2+1)<|fn y).setCell (g,k*2)<|.int .i64 x).setCell (g,k*2+1)<|fn x) :=
   ((((DO.refl (λq=>q=g) W).setCell (p:=(g,i*2)) rj _).setCell (p:=(g,i*2+1)) rj _).setCell (p:=(g,k*2)) rj _).setCell (p:=(g,k*2+1)) rj _
  have h:=(AO.1 A.z).1;have h:=(AO.1 B.z).1;have h:=Rs fn l;have h:=Oj a.z.own (j:=i*2) I<|.int .i64 y;have p:=Oj h (j:=i*2+1) (by rw[Bf];omega)<|fn y;rw[Vr]at p;have h:=Rs fn<|l.set i y;rw[Bf]at h;have q:=Oj p (j:=k*2) I<|.int .i64 x;have h:=Oj q (j:=k*2+1) (by rw[Bf];omega)<|fn x;rw[Vr]at h;have e:Fc l i k=(l.set i y).set k x:=by
   simp[Fc,Am,A.z,B.z]
  refine⟨⟨?_,?_,a.z.ne,by rw[f];exact a.z.small,a.z.fns⟩,m⟩
  .rw[f];exact m.obj (λx=>a.z.ne x.symm) a.z.obj
  rw[f,e];exact h
 have c:=zb fin;clear fin;by_cases d:i=k
 .subst d;have E:x=y:=by
   have:=A.z;rw[B.z]at this;exact(Bt this).symm
  subst E;rw[z.z]at o;have a:=o;clear T K s t o;go_enter func248,ntmps248;go_wp2_with fail
  go_region
  go_wp2_with fail;refine bodyPost_end (results_none rfl _ _ _) rfl ⟨rfl,?_⟩;have F:=c.z _ rfl;rw[z.z]at F;exact⟨F.1.mod ((DO.refl DQ _).drew) rk rk,F.2.drew⟩
 have a:¬i*2=k*2:=I;have a:¬k*2=i*2:=I;have a:¬i*2+1=k*2:=I;have a:¬k*2=i*2+1:=I;have a:¬k*2+1=i*2:=I;have a:¬i*2=k*2+1:=I;clear d;go_enter func248,ntmps248;go_wp2_with fail
 go_region
 go_wp2_with fail;refine bodyPost_end (results_none rfl _ _ _) rfl ⟨rfl,?_⟩;have F:=c.z _ rfl;rw[z.z,o.z]at F;exact⟨F.1.mod ((DO.refl DQ _).drew) rk rk,F.2.drew⟩
def hI(a:Nat):rt:=.iface 263 (.pointer a)
def Mm(c0:w sb=some v)(f:FuncId):(do let v <-loadVar 268 ⟨sb,0,none⟩;pure (f,v):Sem (FuncId×rt)).run prog w=.ok (f,v) w:=by
 have a:(isAgg 268).run prog w=.ok false w:=kw;simp[loadVar,a,c0,Result.andThen]
def Mx(c0:w sb=some v):(method 451 263 (.pointer (some ⟨sb, 0, none⟩)) "Less").run prog w=.ok (245, v) w :=
 Eq.trans (show _=(do let v <-loadVar 268 ⟨sb,0,none⟩;pure (245,v):Sem (FuncId×rt)).run prog w by kernel_rfl) (Mm c0 _)
def OT(c0:w sb=some v):(method 451 263 (.pointer (some ⟨sb, 0, none⟩)) "Swap").run prog w=.ok (248, v) w :=
 Eq.trans (show _=(do let v <-loadVar 268 ⟨sb,0,none⟩;pure (248,v):Sem (FuncId×rt)).run prog w by kernel_rfl) (Mm c0 _)
def Jy(c0:w sb=some v):(method 451 263 (.pointer (some ⟨sb, 0, none⟩)) "Len").run prog w=.ok (150, v) w :=
 Eq.trans (show _=(do let v <-loadVar 268 ⟨sb,0,none⟩;pure (150,v):Sem (FuncId×rt)).run prog w by kernel_rfl) (Mm c0 _)
def LO(a:Nat)(w:rq):(method 451 263 (.pointer (some ⟨a, 0, none⟩)) "Push").run prog w=.ok (247, .pointer (some ⟨a, 0, none⟩)) w := kw
def Nt(a:Nat)(w:rq):(method 451 263 (.pointer (some ⟨a, 0, none⟩)) "Pop").run prog w=.ok (246, .pointer (some ⟨a, 0, none⟩)) w := kw
def EC.c0{l:List Nat}(h:EC sb fn l g cap W):W sb=some (.slice g l.length cap):=za h.obj rfl
def jM:(prog.info? 266).map (λi=>(i.zero,i.size,i.bytes))=some (some (.agg #[.int .i64 0,.nilFunc]),2,16):=kw
def DY{l:List Nat}(h:EC sb fn l g cap w)(c:Nat)(K:l.length<1024):∃f w' d a,(∀K,(Builtin.append_ #[268,268] K #[.slice g l.length cap,.slice w 1 1]).run prog (w.alloc (.cells #[[c],fn c] 266))=.ok f w') /\
   f=.slice (some ⟨d,0,none⟩) (l.length+1) a/\w'.ownsRow 0 266 2 f (l.length+1) (zT fn<|l++[c])/\w.grownBy w' (some g)/\(d=g\/w.heap.size<=d):=by
 obtain⟨i,q,N,s,t⟩:=info_parts jM;have K:=Rs fn l;obtain⟨K,Z,b1,O⟩:=h.fns c;have T:zT fn [c]=[.int .i64 c,fn c]:=rfl;have e:∀(j:Nat) u,(zT fn [c])[j]?=some u->(w.alloc<|.cells #[[c],fn c] 266) ((⟨w.heap.size,0,none⟩:Addr).add j)=some u:=by
  intro j u K;rw[zX];refine za (heap_alloc_new w _) ?_;rw[Aw,<-Array.getElem?_toList];exact K
 have A:g<w.heap.size:=by
  rcases h.own.2 with⟨B,_⟩|⟨d,a,v,p,_,A,_⟩
  .cases B
  cases p;exact(AI.1 A).1
 obtain⟨f,w',X,z,o,Y,A⟩:=Kz (P:=prog) (w.alloc<|.cells #[[c],fn c] 266) 268 266 i _ 2 16 underlying268 q N s t rfl lc (.slice g l.length cap) l.length (zT fn l) (World.ownsRow.alloc h.own _)
  ⟨w.heap.size,0,none⟩ 1 1 (zT fn [c]) rfl e (by rw[T,O];intro u E;simp at E;rcases E with rfl|rfl<;>rfl) lw I
 have e:zT fn l++zT fn [c]=zT fn (l++[c]):=by simp[zT]
 rw[e]at z;rcases z.2 with⟨B,e⟩|⟨d,a,v,p,hb,h,c,l,q,s⟩
 .exact absurd e I
 refine⟨f,w',d,a,X,p,z,⟨o.os,o.tape,o.output,AK lm o.size,λk a c=>(o.block k ls c).trans<|Below.heap_alloc w _ k a⟩,?_⟩;rcases Y d (by rw[p];rfl)with x|x
 .left;have:g=d:=by simpa [Value.ownBlock]using x
  exact this.symm
 right;simp at x;omega
def P7(f:Nat)(h:Nat->rt)(l:List Nat)(c g:Nat)(W:rq)(e:Ending)(w':rq):Prop :=
 e=.returned (.tuple #[])/\∃d a,EC f h (l++[c]) d a w'/\(d=g\/W.heap.size<=d)/\DO (λq=>q=f\/q=g) W w'
def ew{l:List Nat}(h:EC sb fn l g cap W)(c:Nat)(e:l.length<1024):rT 247 #[(sb,0),.iface 266 (.agg #[.int .i64 c,fn c])] W (P7 sb fn l c g W):=by
 obtain⟨s,w',u,a,A,q,f,v,d⟩:=DY (h.mod ((DO.refl DQ W).drew) rk rk) c e;subst q;have e:=((DO.refl (λq=>q=g) W).drew).grown v<|λq s=>.inl<|rB s.symm;have z:=e.obj (λx=>h.ne x.symm) h.obj;have t:=(AI.1 h.obj).1;have t:u≠sb:=by
  rcases d with x|x
  .rw[x];exact h.ne
  simp at x;omega
 have fin:P7 sb fn l c g W (.returned<|.tuple #[]) (w'.setCell sb<|.slice u (l.length+1) a):=by
  have B:DO (λq=>q=sb) w' (w'.setCell sb<|.slice u (l.length+1) a):=(DO.refl (λq=>q=sb) _).setCell (p:=sb) rj _;refine⟨rfl,u,a,⟨?_,?_,t,by rw[AG,Ac];omega,h.fns⟩,rB d,(e.mono<|λ_ x=>.inl<|.inr x).then B<|λ_ s=>.inl<|.inl s⟩
  .rw[zc z,AG,Ac];rfl
  rw[AG,Ac];exact B.owns f (λq s x=>by
   have s:u=q:=by simpa [Value.ownBlock]using s
   exact t<|s.trans x)
 have q:=zb fin;have u:=zb A;have c0:=h.c0;have s:=zb h;have c1:w' sb=some (.slice g l.length cap):=za z rfl;have p:=zb z;have a:∀j,w'.frozen? ⟨sb,j,none⟩=false:=λj=>zg z
 obtain⟨B,E,K,a⟩:=h.fns c;have c:=zb a;clear fin A e z h f v d t c1 a;have a:∀(v:rt) (w:rq),(Instr.typeAssert (.iface 266 v) 20 266 false).run prog w=.ok v w:=λ_ _=>kw
 go_enter func247,ntmps247;go_wp2_with fail;refine zn 9 (λw'=>w'.heap[sb]?=some (.cells #[.slice g l.length cap] 268 (0,0))) (s.z.obj) ?_;refine GI 0 ?_;iterate 6
  refine GS rfl ?_ ?_ ?_;rotate_left
  ·(intro d a;(try dsimp only at a);have c0:=za (o:=0) a rfl;go_simp;try with_reducible rfl)
  try simp only[PS]
 refine zz 6 rfl (λK c=>?_);go_simp;refine c.z _ _ (((DO.refl DQ W).drew.alloc _).obj rk s.z.obj) ?_;clear c K;try simp only[PS]
 refine zz 7 rfl (λK c=>?_);refine zL rfl _ _ _ _ rfl _ _ _ rfl rfl u.z ?_;refine c.z _ _ p.z ?_;clear c K;try simp only[PS]
 refine GI 8 ?_;refine GS rfl ?_ ?_ ?_;rotate_left
 ·(intro d a;(try dsimp only at a);have c0:=za (o:=0) a rfl;go_simp;try with_reducible rfl)
 try simp only[PS]
 have c1:w' sb=some (.slice g l.length cap):=za p.z rfl;refine zY rfl (λK c=>?_);go_simp;refine c.z _ _ ?_;clear c K;try simp only[PS]
 refine zq ?_;exact bodyPost_end (results_none rfl _ _ _) rfl q.z
variable{p:Nat}
def eu{l:List Nat}(h:EC sb fn l g cap W){x y:Nat}(a:l[j]?=some y)(t:(j-1) / 2=p)(c:l[p]?=some x)(f:x<=y)(u:1<=j):rT 198 #[hI sb,[j]] W λe W'=>e=.returned (.tuple #[])/\DO DQ W W':=by
 have f:=(AO.1 a).1;have f:=h.small;have f:IntKind.i64.wrap ((j:Int)-1)=(j:Int)-1:=IntWalk.i64_in _ I;have f:((j:Int)-1).tdiv 2=(p:Int):=by
  rw[Int.tdiv_eq_ediv_of_nonneg I];omega
 have f:((p:Int)==(j:Int))=false:=AR.2 I;have o:=zb h;have q:=zb a;have s:=zb c;clear h a c;unfold hI;go_enter func198,ntmps198;go_wp2_with fail
 go_loopw [1] (λa wr=>a=.int .i64 j/\DO DQ W wr) (λ_ _=>0)
 case atStart=>exact⟨rfl,DO.refl _ _⟩
 case round =>
  obtain⟨rfl,m⟩:=hrel;have h:=o.z.mod m rk rk;have a:=Mx h.c0;have a:=NP h q.z s.z;have c:decide (y<x)=false:=ls;rw[c]at a;have f:=zb a;have M:=zb m;clear h a c m;go_wp2_with (refine f.z.mono ?_;rintro e a ⟨rfl,d⟩;have a:=zb d;clear d);exact bodyPost_end (results_none rfl _ _ _) rfl ⟨rfl,M.z.trans a.z⟩
def iJ{l:List Nat}(h:EC sb fn l g cap W)(c:Nat)(B:l.length<1024)(E:1<=l.length)(d:∀x∈l,x<=c):rT 147 #[hI sb,.iface 266 (.agg #[.int .i64 c,fn c])] W (P7 sb fn l c g W):=by
 have K:=LO sb W;have q:=ew h c B;have B:=zb q;have f:=zb d;clear h q d;unfold hI;go_enter func147,ntmps147;go_upto_region 1 with(refine B.z.mono ?_;rintro e N ⟨rfl,s,a,t,u,v⟩;have o:=zb t;have O:=zb u;have T:=zb v;clear t u v);have h:=Jy o.z.c0;have t:=Qm (some ⟨s,0,none⟩) (l++[c]).length a N;have q:(l++[c]).length=l.length+1:=lm;have d:=zb q;have d:(l.length-1) / 2<l.length:=I;have u:=eu o.z (j:=l.length) (p:=(l.length-1) / 2) (x:=(l[(l.length-1) / 2]'d)) (y:=c) lm rfl (by rw[Al d,AJ d]) (f.z _<|DD d) E;have X:IntKind.i64.wrap (((l.length+1:Nat):Int)-1)=(l.length:Int):=by rw[IntWalk.i64_in _ I];omega
 have z:=zb u;unfold hI at z;rw[q]at h t;clear u K q f;go_wp2_with (first|(refine t.mono ?_;rintro _ _ ⟨rfl,rfl⟩;(try simp only[X]))|(refine z.z.mono ?_;rintro e c ⟨rfl,A⟩));exact bodyPost_end (results_none rfl _ _ _) rfl ⟨rfl,s,a,o.z.mod A rk rk,O.z,T.z.trans<|A.mono rm⟩
def eq{n:Nat}(h:w.ownsRow 0 e sz (.slice g n cap) n xs)(f:m<=n):w.ownsRow 0 e sz (.slice g m cap) m (xs.take (m*sz)):=by
 obtain⟨t,e⟩:=h;have a:m*sz<=n*sz:=Bm _ f;refine⟨by rw[AU];omega,?_⟩;rcases e with⟨l,_⟩|⟨f,e,c,o,hb,p,h,d,q,s⟩
 .cases l
 cases o;exact .inr ⟨g,cap,c,rfl,hb,p,I,d,q,by rw[<-s,Be,BY a]⟩
theorem kH(a:Nat->rt)(l:List Nat)(m:Nat):(zT a l).take (m*2)=zT a (l.take m):=by
 induction l generalizing m with
 | nil=>simp[zT]
 | cons x l ih =>
  have e:∀x l,zT a (x::l)=.int .i64 x::a x::zT a l:=λ_ _=>rfl
  cases m with
  | zero=>simp[zT]
  | succ m =>
   rw[e,(I:(m+1)*2=m*2+1+1)];simp only[Cb];rw[e,ih m]
def eo{l:List Nat}{c:Nat}(h:EC sb fn (l++[c]) g cap W):rT 246 #[(sb,0)] W λe w'=>e=.returned (.iface 266 (.agg #[.int .i64 c,fn c]))/\EC sb fn l g cap w'/\DO (λq=>q=sb) W w':=by
 have d:(l++[c]).length=l.length+1:=lm;have c0:=h.c0;obtain⟨e,v⟩:=h.at_ (i:=l.length) (c:=c) lm;have e:=h.small;rw[d]at c0 e;have e:=(AI.1 h.obj).1;have f:g<W.heap.size:=by
  rcases h.own.2 with⟨o,_⟩|⟨z,a,s,t,_,f,_⟩
  .cases o
  cases t;exact(AI.1 f).1
 have e:l.length+1<=cap:=by
  rcases h.own.2 with⟨o,_⟩|⟨z,a,s,t,_,f,u,_⟩
  .cases o
  cases t;rw[d]at u;exact u
 obtain⟨e,f,o,a⟩:=h.fns c;have fin:∀w':rq,DO DQ W w'->EC sb fn l g cap (w'.setCell sb<|.slice g l.length cap)/\DO (λq=>q=sb) W (w'.setCell sb<|.slice g l.length cap):=λw' m=>by
  have c:=h.mod m rk rk;have e:DO (λq=>q=sb) w' (w'.setCell sb<|.slice g l.length cap):=(DO.refl (λq=>q=sb) _).setCell (p:=sb) rj _;refine⟨⟨by rw[zc c.obj];rfl,?_,h.ne,I,h.fns⟩,(m.mono rm).trans e⟩;have o:=eq (m:=l.length) c.own (by rw[d];omega);rw[kH,BQ]at o;exact e.owns o (λq c x=>by
   have c:g=q:=by simpa [Value.ownBlock]using c
   exact h.ne<|c.trans x)
 have c:=zb fin;have e:=zb a;rw[a]at v ⊢;have e:=zb h.obj;have e:IntKind.i64.wrap ((l.length+1:Int)-1)=(l.length:Int):=by rw[IntWalk.i64_in _ I];omega
 have e:W.frozen? ⟨sb,0,none⟩=false:=zg h.obj;clear h fin a d;go_enter func246,ntmps246;go_wp2_with fail;go_ret;have F:=c.z W rp;exact⟨rfl,F.1.mod ((DO.refl DQ _).alloc _) rk rk,F.2.alloc _⟩
def Gy:Nat->List Nat->Nat->Nat->List Nat
 | 0,l,_,_=>l
 | f+1,l,i,n =>
  if 2*i+1<n then
   if 2*i+2<n/\l.getD (2*i+2) 0<l.getD (2*i+1) 0 then
    if l.getD (2*i+2) 0<l.getD i 0 then Gy f (Fc l i<|2*i+2) (2*i+2) n else l
   else if l.getD (2*i+1) 0<l.getD i 0 then Gy f (Fc l i<|2*i+1) (2*i+1) n else l
  else l
def NI{l:List Nat}(h:i<l.length):l[i]?=some (l.getD i 0):=by
 rw[Am,AJ h];rfl
def Vq(l:List Nat)(i k:Nat):(Fc l i k).length=l.length:=by simp[Fc]
structure I3(sb:Nat)(fn:Nat->rt)(l0:List Nat)(n g cap:Nat)(W0:rq)(i:Nat)(l:List Nat)(W:rq):Prop where
 h:EC sb fn l g cap W
 m:DO (λq=>q=g) W0 W
 len:l.length=l0.length
 f:∃f,n<=i+f/\Gy f l i n=Gy n l0 0 n
theorem I3.leave{a:List Nat}{n:Nat}{l:List Nat}(h:I3 sb fn a n g cap W0 i l W)(c:¬2*i+1<n):Gy n a 0 n=l:=by
 obtain⟨f,d,a⟩:=h.f;rw[<-a];cases f with
 | zero=>rfl
 | succ f =>
  unfold Gy;rw[AH c]
theorem I3.stop{c:List Nat}{n:Nat}{l:List Nat}(h:I3 sb fn c n g cap W0 i l W)(e:2*i+1<n)(a:j=if 2*i+2<n/\l.getD (2*i+2) 0<l.getD (2*i+1) 0 then 2*i+2 else 2*i+1)(d:¬l.getD j 0<l.getD i 0):Gy n c 0 n=l:=by
 obtain⟨f,l,c⟩:=h.f;rw[<-c];cases f with
 | zero=>rfl
 | succ f =>
  unfold Gy;rw[AM e];split at a
  .rw[AM (by assumption),<-a,AH d]
  rw[AH (by assumption),<-a,AH d]
theorem I3.next{c:List Nat}{n:Nat}{l:List Nat}(h:I3 sb fn c n g cap W0 i l W)(e:2*i+1<n)(a:j=if 2*i+2<n/\l.getD (2*i+2) 0<l.getD (2*i+1) 0 then 2*i+2 else 2*i+1)(d:l.getD j 0<l.getD i 0)
  (o:EC sb fn (Fc l i j) g cap W') (p:DO (λq=>q=g) W W'):I3 sb fn c n g cap W0 j (Fc l i j) W':=by
 obtain⟨f,c,s⟩:=h.f;refine⟨o,h.m.trans p,by rw[Vq];exact h.len,?_⟩;cases f with
 | zero=>omega
 | succ f =>
  refine⟨f,by split at a<;>omega,?_⟩;rw[<-s]
  conv=>rhs;unfold Gy
  rw[AM e];split at a
  .rw[AM (by assumption),<-a,AM d]
  rw[AH (by assumption),<-a,AM d]
def em{l:List Nat}(h:EC sb fn l g cap W)(n:Nat)(q:n<=l.length):rT 200 #[hI sb,.int .i64 0,[n]] W λe W'=>(∃b,e=.returned (.bool b))/\EC sb fn (Gy n l 0 n) g cap W'/\DO (λq=>q=g) W W':=by
 have q:=h.small;have HH:AA (I3 sb fn l n g cap W 0 l W):=⟨h,DO.refl _ _,rfl,n,I,rfl⟩;obtain⟨R,q⟩:=nm<|Gy n l 0 n;rw[q];have HR:=zb q;clear h q;unfold hI;go_enter func200,ntmps200;go_wp2_with fail
 go_loopw [7] (λh wr=>∃(i:Nat) (p:List Nat),h=.int .i64 i/\i<=n/\AA (I3 sb fn l n g cap W i p wr)) (λh _=>n-(intOf h).toNat)
 case atStart=>exact⟨0,l,rfl,I,HH⟩
 case round =>
  obtain⟨i,p,rfl,h,d⟩:=hrel;obtain⟨u,aa⟩:∃u:Nat,2*i+1=u:=⟨_,rfl⟩;obtain⟨K,ab⟩:∃K:Nat,2*i+2=K:=⟨_,rfl⟩;have h:IntKind.i64.wrap (2*(i:Int))=2*(i:Int):=IntWalk.i64_in _ I;have h:IntKind.i64.wrap (2*(i:Int)+1)=(u:Int):=by rw[IntWalk.i64_in _ I];omega
  have h:IntKind.i64.wrap ((u:Int)+1)=(K:Int):=by rw[IntWalk.i64_in _ I];omega
  have h:=d.z.len;by_cases q:u<n
  .have Y:2*i+1<n:=I;have z:=zb Y;have gi:=NI (l:=p) (i:=i) I;have g1:=NI (l:=p) (i:=u) I;have ac:=zb h;obtain⟨x,hx⟩:=nm<|p.getD i 0;obtain⟨y1,q⟩:=nm<|p.getD u 0;obtain⟨y2,ad⟩:=nm<|p.getD K 0;rw[hx]at gi;rw[q]at g1;have A:=zb aa;have B:=zb ab;have HX:=zb hx;have v:=zb q;have E:=zb ad;clear h;have hm:=Mx d.z.h.c0;have d1:¬(n:Int)<=u:=I;have h:¬(u:Int)<0:=I;clear aa ab Y hx q ad;by_cases h2:K<n
   .have g2:=NI (l:=p) (i:=K)<|pp ac.z;rw[E.z]at g2;have kl:=NP d.z.h g2 g1;have d3:(K:Int)<n:=I;by_cases h3:y2<y1
    .rw[Au h3]at kl;have KL:=zb kl;have H3:=zb h3;clear kl h3;go_upto_region 8 with(go_at_call 245;refine KL.z.mono ?_;rintro e w2 ⟨rfl,m2⟩;have N:=zb m2;clear m2);have O:=d.z.h.mod N.z rk rk;have T:=Mx O.c0;have a:=NP O g2 gi;have Z:K=if 2*i+2<n/\p.getD (2*i+2) 0<p.getD (2*i+1) 0 then 2*i+2 else 2*i+1:=by
      rw[B.z,A.z,v.z];rw[E.z,AM ⟨h2,H3.z⟩]
     have HJ:=zb Z;clear Z O hm;by_cases c:y2<x
     .rw[Au c]at a;have f:=zb a;have X:=zb c;clear a c;go_upto_region 9 with(go_at_call 245;refine f.z.mono ?_;rintro e w3 ⟨rfl,s⟩;have t:=zb<|N.z.trans s;clear s);have o:=d.z.h.mod t.z rk rk;have ae:=OT o.c0;have ks:=O6 o gi g2;have KS:=zb ks;clear ks o T;go_wp2_with (go_at_call 248;refine KS.z.mono ?_;rintro e w4 ⟨rfl,c,m4⟩;have H5:=zb c;have M4:=zb m4;clear c m4);go_roundw
      case rel=>exact⟨K,Fc p i K,rfl,I,zb<|d.z.next z.z HJ.z (by rw[HX.z,E.z];exact X.z) H5.z<|(t.z.mono rm).trans M4.z⟩
      case measure =>
       have a1:=A.z;have a2:=B.z;simp[intOf];omega
     rw[As c]at a;have f:=zb a;have X:=zb c;clear a c;go_wp2_with (go_at_call 245;refine f.z.mono ?_;rintro e w3 ⟨rfl,s⟩;have t:=zb<|N.z.trans s;clear s);all_goals
      go_ret;have e:=d.z.stop z.z HJ.z (by rw[HX.z,E.z];exact X.z);rw[HR.z]at e;exact⟨⟨_,rfl⟩,by rw[e];exact d.z.h.mod t.z rk rk,d.z.m.trans<|t.z.mono rm⟩
    rw[As h3]at kl;have KL:=zb kl;have H3:=zb h3;clear kl h3;go_upto_region 8 with(go_at_call 245;refine KL.z.mono ?_;rintro e w2 ⟨rfl,m2⟩;have N:=zb m2;clear m2);have O:=d.z.h.mod N.z rk rk;have T:=Mx O.c0;have a:=NP O g1 gi;have Z:u=if 2*i+2<n/\p.getD (2*i+2) 0<p.getD (2*i+1) 0 then 2*i+2 else 2*i+1:=by
     rw[B.z,A.z,v.z];rw[E.z,AH (λx=>H3.z x.2)]
    have HJ:=zb Z;clear Z O hm;by_cases c:y1<x
    .rw[Au c]at a;have f:=zb a;have X:=zb c;clear a c;go_upto_region 9 with(go_at_call 245;refine f.z.mono ?_;rintro e w3 ⟨rfl,s⟩;have t:=zb<|N.z.trans s;clear s);have o:=d.z.h.mod t.z rk rk;have ae:=OT o.c0;have ks:=O6 o gi g1;have KS:=zb ks;clear ks o T;go_wp2_with (go_at_call 248;refine KS.z.mono ?_;rintro e w4 ⟨rfl,c,m4⟩;have H5:=zb c;have M4:=zb m4;clear c m4);go_roundw
     case rel=>exact⟨u,Fc p i u,rfl,I,zb<|d.z.next z.z HJ.z (by rw[HX.z,v.z];exact X.z) H5.z<|(t.z.mono rm).trans M4.z⟩
     case measure =>
      have a1:=A.z;have a2:=B.z;simp[intOf];omega
    rw[As c]at a;have f:=zb a;have X:=zb c;clear a c;go_wp2_with (go_at_call 245;refine f.z.mono ?_;rintro e w3 ⟨rfl,s⟩;have t:=zb<|N.z.trans s;clear s);all_goals
     go_ret;have e:=d.z.stop z.z HJ.z (by rw[HX.z,v.z];exact X.z);rw[HR.z]at e;exact⟨⟨_,rfl⟩,by rw[e];exact d.z.h.mod t.z rk rk,d.z.m.trans<|t.z.mono rm⟩
   have d3:¬(K:Int)<n:=I;clear E;go_upto_region 8 with fail;have N:AA (DO DQ wr wr):=zb rp;have O:=d.z.h.mod N.z rk rk;have T:=Mx O.c0;have a:=NP O g1 gi;have Z:u=if 2*i+2<n/\p.getD (2*i+2) 0<p.getD (2*i+1) 0 then 2*i+2 else 2*i+1:=by
    rw[B.z,A.z,v.z];rw[AH (λx=>h2 x.1)]
   have HJ:=zb Z;clear Z O hm;by_cases c:y1<x
   .rw[Au c]at a;have f:=zb a;have X:=zb c;clear a c;go_upto_region 9 with(go_at_call 245;refine f.z.mono ?_;rintro e w3 ⟨rfl,s⟩;have t:=zb<|N.z.trans s;clear s);have o:=d.z.h.mod t.z rk rk;have ae:=OT o.c0;have ks:=O6 o gi g1;have KS:=zb ks;clear ks o T;go_wp2_with (go_at_call 248;refine KS.z.mono ?_;rintro e w4 ⟨rfl,c,m4⟩;have H5:=zb c;have M4:=zb m4;clear c m4);go_roundw
    case rel=>exact⟨u,Fc p i u,rfl,I,zb<|d.z.next z.z HJ.z (by rw[HX.z,v.z];exact X.z) H5.z<|(t.z.mono rm).trans M4.z⟩
    case measure =>
     have a1:=A.z;have a2:=B.z;simp[intOf];omega
   rw[As c]at a;have f:=zb a;have X:=zb c;clear a c;go_wp2_with (go_at_call 245;refine f.z.mono ?_;rintro e w3 ⟨rfl,s⟩;have t:=zb<|N.z.trans s;clear s);all_goals
    go_ret;have e:=d.z.stop z.z HJ.z (by rw[HX.z,v.z];exact X.z);rw[HR.z]at e;exact⟨⟨_,rfl⟩,by rw[e];exact d.z.h.mod t.z rk rk,d.z.m.trans<|t.z.mono rm⟩
  have d1:(n:Int)<=u:=I;have Y:¬2*i+1<n:=I;have c:EC sb fn R g cap wr:=by
   rw[<-HR.z,d.z.leave Y];exact d.z.h
  have a:=zb c;clear aa ab c;go_wp2_with fail;all_goals
   go_ret;exact⟨⟨_,rfl⟩,a.z,d.z.m⟩
def el{l a:List Nat}{c:Nat}(h:EC sb fn l g cap W)(o:1<=l.length)(f:Gy (l.length-1) (Fc l 0 (l.length-1)) 0 (l.length-1)=a++[c]):rT 151 #[hI sb] W λe W'=>e=.returned (.iface 266 (.agg #[.int .i64 c,fn c]))/\EC sb fn a g cap W'/\DO (λq=>q=sb\/q=g) W W':=by
 have a:=h.small;obtain⟨n,o⟩:∃n,l.length=n+1:=⟨l.length-1,I⟩;have a:l.length-1=n:=I;rw[a]at f;have s:=Jy h.c0;have d:=OT h.c0;have p:=Qm (some ⟨g,0,none⟩) l.length cap W;have c:=O6 h (NI (l:=l) (i:=0) I)<|NI (l:=l) (i:=n) I;have q:IntKind.i64.wrap (((n+1:Nat):Int)-1)=(n:Int):=by rw[IntWalk.i64_in _ I];omega
 have q:wrap64 (n:Int)=(n:Int):=IntWalk.wrap64_in _ I;have q:(Fc l 0 n).length=n+1:=by rw[Vq,o]
 rw[o]at s d p c;rw[show((0:Nat):Int)=0 from rfl]at c;have l:=zb p;have E:=zb c;have K:=zb f;have N:=zb q;clear h p c f o a q;unfold hI;go_enter func151,ntmps151;go_upto_region 3 with(first|(go_at_call 150;refine l.z.mono ?_;rintro e a ⟨rfl,rfl⟩)|(go_at_call 248;refine E.z.mono ?_;rintro e a ⟨rfl,t,u⟩;have c:=zb t;have O:=zb u;clear t u));have a:=em c.z n (by rw[N.z];omega);rw[K.z]at a;have c:=zb a;unfold hI at c;clear a s d;go_upto_region 4 with(go_at_call 200;refine c.z.mono ?_;rintro e T ⟨⟨a,rfl⟩,v,z⟩;have c:=zb v;have X:=zb z;clear v z);have a:=Nt sb T;have a:=eo c.z;have c:=zb a;clear a;go_wp2_with (go_at_call 246;refine c.z.mono ?_;rintro e a ⟨rfl,A,B⟩;have a:=zb A;have c:=zb B;clear A B);go_ret;exact⟨rfl,a.z,((O.z.trans X.z).mono<|λ_ x=>.inl<|.inr x).trans<|c.z.mono<|λ_ x=>.inl<|.inl x⟩
end
end Go.Proofs.YtddfdpbaiedcjaaGreatDoor
