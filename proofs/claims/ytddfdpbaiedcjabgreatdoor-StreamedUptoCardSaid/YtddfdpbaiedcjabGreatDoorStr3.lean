/- Streamed. Part 3 of 17. -/
import Derived.Test.YtddfdpbaiedcjabGreatDoorStr2
import Derived.Laws.EntriesVeiled
import Derived.Lib.LazyBuf
import Derived.WalkLawsBesides
set_option maxRecDepth 100000
set_option maxHeartbeats 16000000
set_option linter.all false
namespace Go.Proofs.YtddfdpbaiedcjabGreatDoor
section
open Go.RowKit Go.Proofs.Tryz
def Di(rs:zE):Nat->qq
 | 0=>[]
 | k+1=>(Di rs k++zV (DE rs k-DB rs (k+1)-2))++zV (DB rs (k+1)-DE rs (k+1))
theorem Mu(rs:zE):∀k,(Di rs k).length<=16*k
 | 0=>by simp[Di]
 | k+1=>by
  have a:=Mu rs k;have a:=zK<|DE rs k-DB rs (k+1)-2;have a:=zK<|DB rs (k+1)-DE rs (k+1);simp only[Di,AF];omega
def Fa(f:DF):qq:=((([2]++zV (DB f.kC 0))++zV (f.kC.length-1))++zV (DB f.kC 0-DE f.kC 0))++Di f.kC (f.kC.length-1)
variable{i:Nat}{rs:zE}
def Vr(h:EQ rs=true)(hi:i<rs.length):G8 rs i=true:=by
 unfold EQ G7 at h;simp only[AV,By,CJ]at h;exact h.1 i hi
def JD(h:EQ rs=true)(hi:i<rs.length):DE rs i<=DB rs i/\DB rs i<=4611686018427387903/\(0<i->DB rs i+2<=DE rs (i-1)):=by
 have:=Vr h hi;simp only[G8,AV,Br,AW]at this;obtain⟨⟨e,g⟩,a⟩:=this;refine⟨e,g,λe=>?_⟩;rcases a with a|a
 .omega
 exact a.2
variable{l new:qq}{v v':rU}{w w':rT}
def DX.alloc(h:DX w v l new v' w')(o:Obj):DX w v l new v' (w'.alloc o) :=
 ⟨World.ownsRow.alloc h.own o,World.ownsRow.alloc h.lH o,⟨h.grown.os,h.grown.tape,h.grown.output,AR h.grown.size nl,λk a e=>(Below.heap_alloc w' o k<|Au a h.grown.size).trans<|h.grown.block k a e⟩,h.at_⟩
def DX.n8(h:DX w v l new v' w'):DX w v l new v' w'.drew :=
 ⟨h.own,h.lH,⟨h.grown.os,h.grown.tape,h.grown.output,h.grown.size,h.grown.block⟩,h.at_⟩
variable{g n o:Nat}
def RR.cell0{c:Nat}(h:RR w (.slice (g,o) n c) rs)(m:0<rs.length):w (g,o+0*2)=some (.int .u64 (DE rs 0:Int)):=by
 obtain⟨a,g,q,_,_,n⟩:=h;obtain⟨a,g,e,u,_⟩:=n 0 m;cases q;cases e;exact u
def OB.kI(h:OB w v l)(m:C9 DA w w'):OB w' v l:=m.owns h (λ_ _ x=>x)
def O8(h:OB w v l):∀g,v.ownBlock=some g->g<w.heap.size:=by
 intro g a;rcases h.2 with⟨rfl,_⟩|⟨h,e,g,rfl,_,m,_⟩
 .cases a
 simp[Value.ownBlock]at a;subst a;exact(AJ.1 m).1
def Ke(v:rU)(l:qq)(b:Nat)(f:DF)(rv:rU)(w:rT)(hf:zp w b f rv)(hr:RR w rv f.kC)(hs:EQ f.kC=true)(hn:f.kC.length<=1099511627776)(ac:DN (λk=>v.ownBlock=some k) rv)(h:OB w v l)(hl:l.length<=35184372088832):rH 171 #[v,(b,0)] w (Gv w v l (Fa f)):=by
 have Z:=hf.cells.2.2.2.2.2.2.2.2.2;have ax:=zo Z;have X:0<f.kC.length:=by
  unfold EQ at hs;simp only[AV,AW]at hs;exact hs.2
 obtain⟨a,u,rfl,h1,h2,h3⟩:=id hr;unfold maxLen at h2;obtain⟨g,o,rfl,e1,e2,b1,b2⟩:=h3 0 X;have aq:=zo e1;obtain⟨k1,k2,_⟩:=JD hs X;have HB:AA (Fa f=((([2]++zV (DB f.kC 0))++zV (f.kC.length-1))++zV (DB f.kC 0-DE f.kC 0))++Di f.kC (f.kC.length-1)):=rfl;have X:∀i,i<f.kC.length->DE f.kC i<=DB f.kC i/\DB f.kC i<=4611686018427387903/\(0<i->DB f.kC i+2<=DE f.kC (i-1)):=λi q=>JD hs q
 have HH:=zb X;clear X;obtain⟨L,X⟩:=nm<|DE f.kC 0;obtain⟨q,af⟩:=nm<|DB f.kC 0;rw[X]at e1 b1 k1;rw[af]at e2 b2 k1 k2;rw[X,af]at HB;simp only[B6,Bb]at e1 e2;clear X af h3;have z1:IntKind.i64.wrap ((f.kC.length:Int)-1)=(f.kC.length:Int)-1:=IntWalk.i64_in _ I;have z2:IntKind.u64.wrap ((f.kC.length:Int)-1)=((f.kC.length-1:Nat):Int):=by rw[IntKind.wrap_u64];omega
 have z3:IntKind.u64.wrap ((q:Int)-L)=((q-L:Nat):Int):=by rw[IntKind.wrap_u64];omega
 go_enter func171,ntmps171;go_wp2_with fail;obtain⟨M,X⟩:=nm<|(w.alloc<|.cells #[L,q] 110).drew;have O:C9 DA w M:=by rw[<-X];exact(rS.alloc _).drew
 have R:=hf.mod O rP;have hB:M.heap[w.heap.size]?=some (.cells #[L,q] 110 (0,0)):=by rw[<-X];exact heap_alloc_new w _
 have y:M w=some (.int .u64 L):=za hB rfl;have z:M (w,1)=some (.int .u64 q):=za hB rfl;have A:¬v.ownBlock=some w.heap.size:=λhx=>qm<|O8 h _ hx
 have hX:=h.kI O;obtain⟨v1,w1,aj,A1⟩:=J2 M v l 2 2 hX rfl I;have F1:zp w1 b f (.slice (g,o) f.kC.length u)/\w1 w=some (.int .u64 L)/\w1 (w,1)=some (.int .u64 q):=⟨zp.app (w:=M) R (h.kI O) A1,A1.mod.cell (a:=w.heap.size) A y,A1.mod.cell (a:=U w.heap.size 1) A z⟩;have L1:(l++[(2:UInt8)]).length<=35184372088832+1:=ol;have HX:=zb<|O.trans (S:=DA) rS;refine zr 21 (λw'=>zp w' b f (.slice (g,o) f.kC.length u)/\w' w=some (.int .u64 L)/\w' (U w 1)=some (.int .u64 q)) ?_ ?_
 .rw[X];exact⟨R,y,z⟩
 rw[X];clear X;refine GI 0 ?_;refine GV rfl ?_;try simp only[PS]
 refine GI 3 ?_;iterate 2
  refine GV rfl ?_;try simp only[PS]
 refine GI 6 ?_;iterate 7
  refine GV rfl ?_;try simp only[PS]
 refine GI 14 ?_;iterate 5
  refine GV rfl ?_;try simp only[PS]
 refine zD 1 rfl (λK B=>?_);go_simp;refine B.z _ _ ?_ ?_
 .exact⟨R.mod (S:=DA) (rS.alloc _) rP,((C9.refl DA M).alloc _).cell (a:=w.heap.size) id y,((C9.refl DA M).alloc _).cell (a:=U w.heap.size 1) id z⟩
 clear B K;try simp only[PS]
 refine zD 2 rfl (λK B=>?_);refine zO rfl _ _ _ _ rfl _ _ _ rfl rfl aj ?_;refine B.z _ _ F1 ?_;clear B K;try simp only[PS]
 refine zD 5 rfl (λK B=>?_);go_simp;refine(II v1 (l++([2])) q w1 A1.own I I).mono ?_;rintro e w2 ⟨v2,rfl,Y⟩;have A2:=A1.trans Y;have F2:zp w2 b f (.slice (g,o) f.kC.length u)/\w2 w=some (.int .u64 L)/\w2 (w,1)=some (.int .u64 q):=⟨zp.app (w:=M) R (h.kI O) A2,A2.mod.cell (a:=w.heap.size) A y,A2.mod.cell (a:=U w.heap.size 1) A z⟩;have L2:(l++([2]++zV q)).length<=35184372088832+9:=by have:=zK q;simp at this L1 ⊢;omega
 refine B.z _ _ F2 ?_;clear Y;clear B K;try simp only[PS]
 refine zD 13 rfl (λK B=>?_);go_simp;refine(II v2 (l++([2]++zV q)) (f.kC.length-1) w2 A2.own I I).mono ?_;rintro e w3 ⟨v3,rfl,Y⟩;have A3:=A2.trans Y;have F3:zp w3 b f (.slice (g,o) f.kC.length u)/\w3 w=some (.int .u64 L)/\w3 (w,1)=some (.int .u64 q):=⟨zp.app (w:=M) R (h.kI O) A3,A3.mod.cell (a:=w.heap.size) A y,A3.mod.cell (a:=U w.heap.size 1) A z⟩;have L3:(l++([2]++zV q++zV (f.kC.length-1))).length<=35184372088832+17:=by have:=zK<|f.kC.length-1;simp at this L2 ⊢;omega
 refine B.z _ _ F3 ?_;clear Y;clear B K;try simp only[PS]
 refine zD 19 rfl (λK B=>?_);go_simp;refine(II v3 (l++([2]++zV q++zV (f.kC.length-1))) (q-L) w3 A3.own I I).mono ?_;rintro e w4 ⟨X,rfl,Y⟩;have A4:=A3.trans Y;have F4:zp w4 b f (.slice (g,o) f.kC.length u)/\w4 w=some (.int .u64 L)/\w4 (w,1)=some (.int .u64 q):=⟨zp.app (w:=M) R (h.kI O) A4,A4.mod.cell (a:=w.heap.size) A y,A4.mod.cell (a:=U w.heap.size 1) A z⟩;have L4:(l++([2]++zV q++zV (f.kC.length-1)++zV (q-L))).length<=35184372088832+25:=by have:=zK<|q-L;simp at this L3 ⊢;omega
 refine B.z _ _ F4 ?_;clear Y;clear B K;try simp only[PS]
 refine GI 20 ?_;refine GV rfl ?_;try simp only[PS]
 refine zt ?_;have X:=F4.1.cells.2.2.2.2.2.2.2.2.2;have ak:=hr.mod O<|DN.no _;have Y:=zb A4;have ar:=zb R;have X:=zb A;obtain⟨C,X⟩:=nm<|[2]++zV q++zV (f.kC.length-1)++zV (q-L);rw[X]at Y HB;have ad:(l++C).length<=35184372088832+25:=by rw[<-X];exact L4
 have au:=zb hX;have al:=zb ak;clear F1 F2 F3 F4 A1 A2 A3 A4 L1 L2 L3 L4 X z1 z2 z3 hf hr h hX ak aj y z hB O R A k1 k2 b1 b2 e1 e2 Z;have ae:AA (∀k h wr,Fa f=C++Di f.kC k->DX M v l (C++Di f.kC k) h wr->DX w v l (Fa f) h wr):=by
  intro k h wr A E;rw[A];exact⟨E.own,E.lH,⟨E.grown.os.trans HX.z.os,E.grown.tape.trans HX.z.tape,E.grown.output.trans HX.z.output,AR HX.z.size E.grown.size,λi q hn=>(E.grown.block i (Au q HX.z.size) hn).trans<|HX.z.block i q rP⟩,λi q=>(E.at_ i q).imp id<|λq=>AR HX.z.size q⟩
 by_cases q:f.kC.length<=1
 .have HF:AA (Fa f=C++Di f.kC 0):=by
   have:f.kC.length-1=0:=I;show _=_;rw[HB.z,this]
  have A:=zb q;have q:(f.kC.length:Int)-1<=0:=I;have q:f.kC.length-1<=0:=I;go_wp2_with fail;all_goals
   refine wp_loop_rounds 1 ?_;rw[rounds_succ];go_wp2_with fail
  all_goals
   go_ret;exact⟨_,rfl,ae.z 0 _ _ HF.z<|by simpa [Di]using Y.z⟩
 have q:1<u:=I;have q:¬(1=u):=I;have q:¬(u=1):=I;go_wp2_with fail
 go_loopw [0,40] (λh i wr=>∃k:Nat,k<=f.kC.length-1/\i=.int .i64 k/\DX M v l (C++Di f.kC k) h wr) (λ_ i _=>f.kC.length-1-(intOf i).toNat)
 case atStart=>exact⟨0,AK _,rfl,by simpa [Di]using Y.z⟩
 case round =>
  obtain⟨k,h,rfl,E⟩:=hrel;have av:=O8 E.own;have h:=al.z.mod E.mod ac;have ag:=zp.app ar.z au.z E;have am:=ag.cells.2.2.2.2.2.2.2.2.2;have q:=zo am;obtain⟨_,_,aw,_,_,h3⟩:=h;cases aw;by_cases h:k<f.kC.length-1
  .obtain⟨g',o',ah,e1,_,b1,_⟩:=h3 k I;cases ah;obtain⟨g',o',ah,e3,e4,b3,b4⟩:=h3 (k+1) I;cases ah;obtain⟨Y,q2,q3⟩:=HH.z (k+1) I;have L:=q3 I;obtain⟨X,r2,_⟩:=HH.z k I;simp only[Bz]at L;have aq:=zo e1;have h:k<f.kC.length:=I;have HS:AA (Di f.kC (k+1)=(Di f.kC k++zV (DE f.kC k-DB f.kC (k+1)-2))++zV (DB f.kC (k+1)-DE f.kC (k+1))):=rfl;have h:=Mu f.kC k;obtain⟨pl,A⟩:=nm<|DE f.kC k;obtain⟨D,h⟩:=nm<|DE f.kC<|k+1;obtain⟨n,q⟩:=nm<|DB f.kC<|k+1;rw[A]at e1 b1 L HS X;have r3:=AR X r2;clear X r2;rw[h]at e3 b3 Y HS;rw[q]at e4 b4 Y q2 L HS;clear A h q q3 h3;have h:o+(k+1)*2=o+2+k*2:=I;rw[h]at e3 e4;have z1:=wu ((pl:Int)-n) I;have z2:IntKind.u64.wrap ((pl:Int)-n-2)=((pl-n-2:Nat):Int):=by rw[IntKind.wrap_u64];omega
   have z3:IntKind.u64.wrap ((n:Int)-D)=((n-D:Nat):Int):=by rw[IntKind.wrap_u64];omega
   have aa:=zb E;clear E h;go_wp2_with fail;obtain⟨Y,h⟩:=nm<|(wr.alloc<|.cells #[D,n] 110).drew;have O:C9 DA wr Y:=by rw[<-h];exact(rS.alloc _).drew
   have AY:DX M v l (C++Di f.kC k) u0 Y:=by rw[<-h];exact(aa.z.alloc _).n8
   have ai:=AY.own;have R:=ag.mod O rP;have hB:Y.heap[wr.heap.size]?=some (.cells #[D,n] 110 (0,0)):=by rw[<-h];exact heap_alloc_new wr _
   have y:Y wr=some (.int .u64 D):=za hB rfl;have z:Y (wr,1)=some (.int .u64 n):=za hB rfl;have eX:=O.cell (a:=⟨g,_,none⟩) id e1;have ab:¬u0.ownBlock=some wr.heap.size:=λhx=>qm<|av _ hx
   have an:¬u0.ownBlock=some g:=λhx=>by
    rcases aa.z.at_ _ hx with h1|h1
    .exact ac g o _ _ rfl h1
    exact absurd (zo<|al.z.cell0 I) I
   clear ag am;refine zr 21 (λw'=>zp w' b f (.slice (g,o) f.kC.length u)/\w' wr=some (.int .u64 D)/\w' (U wr 1)=some (.int .u64 n)/\w' (g,o+k*2)=some (.int .u64 pl)) ?_ ?_
   .rw[h];exact⟨R,y,z,eX⟩
   rw[h];clear h;refine GI 0 ?_;iterate 13
    refine GV rfl ?_;try simp only[PS]
   refine GI 14 ?_;iterate 5
    refine GV rfl ?_;try simp only[PS]
   refine zD 13 rfl (λK B=>?_);go_simp;refine(II u0 (l++(C++Di f.kC k)) (pl-n-2) Y ai (by simp at ad ⊢;omega) I).mono ?_;rintro e y1 ⟨x1,rfl,N⟩;have h:zp y1 b f (.slice (g,o) f.kC.length u)/\y1 wr=some (.int .u64 D)/\y1 (wr,1)=some (.int .u64 n)/\y1 (g,o+k*2)=some (.int .u64 pl):=⟨zp.app R (ai) N,N.mod.cell (a:=wr.heap.size) ab y,N.mod.cell (a:=U wr.heap.size 1) ab z,N.mod.cell (a:=⟨g,_,none⟩) an eX⟩;have B1:=AY.trans N;have q:=zK<|pl-n-2;refine B.z _ _ h ?_;clear B K;try simp only[PS]
   refine zD 19 rfl (λK B=>?_);go_simp;refine(II x1 (l++(C++Di f.kC k++zV (pl-n-2))) (n-D) y1 B1.own (by simp at ad ⊢;omega) I).mono ?_;rintro e y2 ⟨e,rfl,ao⟩;have h:=B1.trans ao;have e:=N.trans (by rw[BC];exact ao);have q:zp y2 b f (.slice (g,o) f.kC.length u)/\y2 wr=some (.int .u64 D)/\y2 (wr,1)=some (.int .u64 n)/\y2 (g,o+k*2)=some (.int .u64 pl):=⟨zp.app R (ai) e,e.mod.cell (a:=wr.heap.size) ab y,e.mod.cell (a:=U wr.heap.size 1) ab z,e.mod.cell (a:=⟨g,_,none⟩) an eX⟩;refine B.z _ _ q ?_;clear B K;try simp only[PS]
   refine GI 20 ?_;refine GV rfl ?_;try simp only[PS]
   refine zt ?_;go_wp2;go_roundw
   case rel=>exact⟨k+1,I,by go_num,by rw[HS.z,<-List.append_assoc,<-List.append_assoc];exact h⟩
   simp[intOf];omega
  have a:k=f.kC.length-1:=I;have HF:AA (Fa f=C++Di f.kC k):=by rw[a];exact HB.z
  have aa:=zb E;clear E a;go_wp2;go_ret;exact⟨_,rfl,ae.z k _ _ HF.z aa.z⟩
def Eg(F:FuncId):Prop:=∀a w,(callFunc F a).run prog w=.ok (.enter F a) w
def IC(w:rT)(b:Nat)(a e g:rU):Prop:=w b=some a/\w (b,1)=some e/\w (b,2)=some g
variable{S:Nat->Prop}{b:Nat}{rv:rU}
def IC.mod{g n:rU}(h:IC w b g rv n)(m:C9 S w w')(e:¬S b):IC w' b g rv n :=
 ⟨m.cell (a:=b) e h.1,m.cell (a:=U b 1) e h.2.1,m.cell (a:=U b 2) e h.2.2⟩
def Dq(F:FuncId):rU:=.func (.func F) #[] #[]
def Lk(w:rT)(a g h:rU)(e:Ending)(w':rT):Prop:=∃b,e=.returned (.pointer (some ⟨b,0,none⟩))/\IC w' b a g h/\C9 DA w w'/\w.heap.size<=b
def JV(w:rT)(t:UInt8)(e:Ending)(w':rT):Prop:=∃b tb a,e=.returned (.pointer (some ⟨b,0,none⟩))/\IC w' b (.func (.func 191) #[] #[.pointer (some ⟨tb,0,none⟩),.pointer (some ⟨a,0,none⟩)]) (.func (.func 192) #[] #[.pointer (some ⟨a,0,none⟩)]) (Dq 170)/\GF w' tb a t/\C9 DA w w'/\w.heap.size<=b/\w.heap.size<=tb/\w.heap.size<=a
def UP(t:UInt8)(w:rT):rH 183 #[.int .u8 (t.toNat:Int),.func (.func 184) #[] #[]] w λe w'=>e=.returned (.agg #[.func (.func 191) #[] #[.pointer w,.pointer (w.heap.size+1,0)],.func (.func 192) #[] #[.pointer (w.heap.size+1,0)],.func (.func 170) #[] #[]]) /\
  w'=((w.alloc<|.cells #[.int .u8 (t.toNat:Int)] 5).alloc<|.cells #[.func (.func 184) #[] #[]] 277).alloc (.cells #[.func (.func 191) #[] #[.pointer w,.pointer (w.heap.size+1,0)],.func (.func 192) #[] #[.pointer (w.heap.size+1,0)],.func (.func 170) #[] #[]] 241):=by
 go_enter func183,ntmps183;go_wp2_with fail;exact bodyPost_ret (by simp[results,results183,go_sem]) rfl ⟨rfl,rfl⟩
def NS(w:rT):rH 149 #[.int .i64 1] w (Lk w (Dq 168) (Dq 169) (Dq 170)):=by
 go_enter func149,ntmps149;go_wp2;go_ret;exact⟨w,rfl,⟨by simp[Dq],by simp[Dq],by simp[Dq]⟩,rS.alloc _,AI _⟩
def NR(w:rT):rH 149 #[.int .i64 2] w (Lk w (Dq 171) (Dq 172) (Dq 173)):=by
 go_enter func149,ntmps149;go_wp2;go_ret;exact⟨w,rfl,⟨by simp[Dq],by simp[Dq],by simp[Dq]⟩,rS.alloc _,AI _⟩
def NQ(w:rT):rH 149 #[.int .i64 3] w (Lk w (Dq 174) (Dq 175) (Dq 177)):=by
 go_enter func149,ntmps149;go_wp2;go_ret;exact⟨w,rfl,⟨by simp[Dq],by simp[Dq],by simp[Dq]⟩,rS.alloc _,AI _⟩
def NO(w:rT):rH 149 #[.int .i64 4] w (Lk w (Dq 178) (Dq 180) (Dq 182)):=by
 go_enter func149,ntmps149;go_wp2;go_ret;exact⟨w,rfl,⟨by simp[Dq],by simp[Dq],by simp[Dq]⟩,rS.alloc _,AI _⟩
def NM(w:rT):rH 149 #[.int .i64 6] w (Lk w (Dq 185) (Dq 186) (Dq 170)):=by
 go_enter func149,ntmps149;go_wp2;go_ret;exact⟨w,rfl,⟨by simp[Dq],by simp[Dq],by simp[Dq]⟩,rS.alloc _,AI _⟩
def NL(w:rT):rH 149 #[.int .i64 7] w (Lk w (Dq 187) (Dq 188) (Dq 170)):=by
 go_enter func149,ntmps149;go_wp2;go_ret;exact⟨w,rfl,⟨by simp[Dq],by simp[Dq],by simp[Dq]⟩,rS.alloc _,AI _⟩
def St(w:rT)(o o':Obj)(t:UInt8)(z:Int)(T T':Nat)(e:z=(t.toNat:Int)):GF ((((w.alloc o).alloc (.cells #[.int .u8 z] T)).alloc (.cells #[.func (.func 184) #[] #[]] T')).alloc o') (w.heap.size+1) (w.heap.size+1+1) t:=by
 subst e;have e:(w.alloc o).heap.size=w.heap.size+1:=nl;have g:((w.alloc o).alloc<|.cells #[.int .u8 (t.toNat:Int)] T).heap.size=w.heap.size+1+1:=nl;have c1:((w.alloc o).alloc<|.cells #[.int .u8 (t.toNat:Int)] T) (w.heap.size+1,0)=some (.int .u8 (t.toNat:Int)):=by rw[<-e];exact za (heap_alloc_new _ _) rfl
 have c2:(((w.alloc o).alloc<|.cells #[.int .u8 (t.toNat:Int)] T).alloc<|.cells #[.func (.func 184) #[] #[]] T') (w.heap.size+1+1,0)=some (.func (.func 184) #[] #[]):=by rw[<-g];exact za (heap_alloc_new _ _) rfl
 exact⟨(((C9.refl DA _).alloc _).alloc _).cell (a:=⟨_,0,none⟩) id c1,((C9.refl DA _).alloc _).cell (a:=⟨_,0,none⟩) id c2⟩
def NN(w:rT):rH 149 #[.int .i64 5] w (JV w 16):=by
 go_enter func149,ntmps149;go_wp2_with (go_at_call 183;refine(UP 16 _).mono ?_;rintro e w' ⟨rfl,rfl⟩);go_ret;refine⟨w.heap.size,w.heap.size+1,w.heap.size+1+1,rfl,?_,?_,?_,AI _,I,I⟩
 .have e:∀(a b c:rU),IC (w.alloc<|.cells #[a,b,c] 241) w.heap.size a b c:=λa b c=>⟨za (heap_alloc_new w _) rfl,za (heap_alloc_new w _) rfl,za (heap_alloc_new w _) rfl⟩
  exact(e _ _ _).mod ((((C9.refl DA _).alloc _).alloc _).alloc _) rP
 .exact St w _ _ _ _ _ _ rfl
 exact(((rS.alloc _).alloc _).alloc _).alloc _
def NK(w:rT):rH 149 #[.int .i64 8] w (JV w 28):=by
 go_enter func149,ntmps149;go_wp2_with (go_at_call 183;refine(UP 28 _).mono ?_;rintro e w' ⟨rfl,rfl⟩);go_ret;refine⟨w.heap.size,w.heap.size+1,w.heap.size+1+1,rfl,?_,?_,?_,AI _,I,I⟩
 .have e:∀(a b c:rU),IC (w.alloc<|.cells #[a,b,c] 241) w.heap.size a b c:=λa b c=>⟨za (heap_alloc_new w _) rfl,za (heap_alloc_new w _) rfl,za (heap_alloc_new w _) rfl⟩
  exact(e _ _ _).mod ((((C9.refl DA _).alloc _).alloc _).alloc _) rP
 .exact St w _ _ _ _ _ _ rfl
 exact(((rS.alloc _).alloc _).alloc _).alloc _
def NJ(k:Int)(a:k<1\/8<k)(w:rT):rH 149 #[[k]] w λe w'=>e=.returned (.pointer none)/\C9 DA w w':=by
 have a:(k==1)=false:=ol;have a:(k==2)=false:=ol;have a:(k==3)=false:=ol;have a:(k==4)=false:=ol;have a:(k==5)=false:=ol;have a:(k==6)=false:=ol;have a:(k==7)=false:=ol;have a:(k==8)=false:=ol;go_enter func149,ntmps149;go_wp2;go_ret;exact⟨rfl,rS.alloc _⟩
def IH(p:rU)(w:rT):rH 170 #[p] w (EX w true):=by
 go_enter func170,ntmps170;go_wp2;go_ret;exact⟨rfl,C9.refl _ _⟩
def RV(b:Nat)(f:DF)(a:rU)(w:rT)(e:zp w b f a):rH 177 #[(b,0)] w (EX w (decide (f.rel<=f.off))):=by
 obtain⟨c0,c1,c2,a,g,h,m,n,q,u⟩:=e.cells;go_enter func177,ntmps177;go_wp2;go_quiet (fail);go_wp2;go_ret;exact⟨rfl,rS.drewN _⟩
def RU(b:Nat)(f:DF)(a:rU)(w:rT)(e:zp w b f a)(g:f.off<=4611686018427387903)(hd:f.data.length<=4611686018427387903):rH 182 #[(b,0)] w (EX w (decide (f.data.length+f.off<=4611686018427387903))):=by
 obtain⟨c0,c1,c2,a,g,h,m,n,q,u⟩:=e.cells;have a:=zM f.data;have a:=wu (4611686018427387903-(f.off:Int)) I;have a:IntKind.u64.wrap (f.data.length:Int)=(f.data.length:Int):=by rw[IntKind.wrap_u64];omega
 have a:AA (decide ((f.data.length:Int)<=4611686018427387903-(f.off:Int))=decide (f.data.length+f.off<=4611686018427387903)):=by
  show _=_;rw[decide_eq_decide];omega
 go_enter func182,ntmps182;go_wp2;go_quiet (fail);go_wp2;go_ret;exact⟨by rw[<-a.z];rfl,rS.drewN _⟩
def nums(f:DF):List Nat:=[f.off,f.rel,f.lF,f.id,f.dl]
def D8(f:DF):Bool:=(nums f).all λn=>decide (n<=4611686018427387903)
def JN(f:DF)(k:Nat):Nat:=(nums f).getD k 0
variable{f:DF}{k:Nat}
def MI(a:k<5)(h:4611686018427387903<JN f k):D8 f=false:=by
 cases hq:D8 f
 .rfl
 unfold D8 at hq;rw[By]at hq;have e:JN f k∈nums f:=by
  unfold JN;rw[AQ,AG (by simpa [nums]using a)];exact Cq _
 have:=hq _ e;simp at this;omega
def i6(h:∀k,k<5->JN f k<=4611686018427387903):D8 f=true:=by
 have a:=h 0 I;have e:=h 1 I;have g:=h 2 I;have m:=h 3 I;have n:=h 4 I;simp[JN,nums]at a e g m n;simp[D8,nums];omega
def Qf(h:D8 f=true):f.off<=4611686018427387903/\f.rel<=4611686018427387903/\f.lF<=4611686018427387903/\f.id<=4611686018427387903/\f.dl<=4611686018427387903:=by
 simpa [D8,nums]using h
def D6(f:DF):Bool:=decide (0<=f.stream)&&decide (f.stream<8)
theorem Tb(b a:Nat)(f:DF)(h K L:rU)(G:FuncId)(n:Bool)(w:rT)(g:zp w b f h)(e:IC w a K L (.func (.func G) #[] #[]))(E:Eg G)
  (K:∀w',C9 DA w w'->D8 f=true->rH G #[.pointer b] w' (EX w' n)) :
  rH 150 #[(b,0),(a,0)] w (EX w<|D8 f&&D6 f&&n):=by
 have n:=zo g.cells.1;have L:∀a w,(callFunc G a).run prog w=.ok (.enter G a) w:=E;have HG:=zb K;clear K E;go_enter func150,ntmps150;go_wp2_with fail;refine zr 23 (λw'=>zp w' b f h) (g) ?_;refine GI 0 ?_;iterate 20
  refine GV rfl ?_;try simp only[PS]
 refine GI 22 ?_;refine GV rfl ?_;try simp only[PS]
 refine zD 20 rfl (λK Y=>?_);go_simp;refine Y.z _ _ ?_ ?_
 .exact zp.mod (w:=w.drew) (S:=DA) g (rS.alloc _) rP
 clear Y K;try simp only[PS]
 refine GI 21 ?_;refine GV rfl ?_;try simp only[PS]
 refine zt ?_;obtain⟨X,a⟩:=nm<|(w.alloc<|.cells #[f.off,f.rel,f.lF,f.id,f.dl] 34).drew;have h:C9 DA w X:=by rw[<-a];exact(rS.alloc _).drew
 have z:∀k,k<5->X ⟨w.heap.size,k,none⟩=some (.int .u64 (JN f k:Int)):=λk Z=>by
  rw[<-a];refine za (heap_alloc_new w _) ?_
  match k,Z with
  | 0,_=>rfl
  | 1,_=>rfl
  | 2,_=>rfl
  | 3,_=>rfl
  | 4,_=>rfl
 rw[a];have E:=g.mod h rP;have G:=(e.mod h rP).2.2;have c1:=E.cells.2.1;clear a g e E n;have m:=zb h;clear h;go_wp2_with fail
 go_loop [6,29] (λ_ i=>∃k:Nat,k<=5/\i=.int .i64 k/\AA (∀j,j<k->JN f j<=4611686018427387903)) (λ_ i=>5-(intOf i).toNat)
 case atStart=>exact⟨0,I,rfl,zb<|λj A=>absurd A<|Al j⟩
 case round =>
  obtain⟨k,Z,rfl,B⟩:=hrel;by_cases e:k<5
  .have c:=z k e;obtain⟨n,a⟩:=nm<|JN f k;rw[a]at c;have g:=zb a;clear z a;by_cases a:4611686018427387903<n
   .have h:=zb (MI e (by rw[g.z];exact a));have a:(4611686018427387903:Int)<n:=I;go_wp2;go_ret;exact⟨by rw[h.z];rfl,m.z⟩
   have a:¬(4611686018427387903:Int)<n:=I;go_wp2_with fail
   go_round
   case rel=>exact⟨k+1,I,by go_num,zb (λj A=>by
    by_cases h:j<k
    .exact B.z j h
    have:j=k:=I;rw[this,g.z];omega)⟩
   simp[intOf];omega
  have g:k=5:=I;have a:=i6 (f:=f)<|λj A=>B.z j I;have C:=zb a;have e:=HG.z X m.z a;clear a z g B;by_cases q:0<=f.stream
  .by_cases y:f.stream<8
   .have u:AA (D6 f=true):=by show _=_;simp[D6,q,y]
    have e1:decide (0<=f.stream)=true:=qp q;have e2:decide (f.stream<8)=true:=qp y;go_wp2_with (refine e.mono ?_;rintro e w' ⟨rfl,D⟩);go_ret;exact⟨by rw[C.z,u.z,CH,CH];rfl,m.z.trans D⟩
   have u:AA (D6 f=false):=by show _=_;simp[D6,y]
   have e1:decide (0<=f.stream)=true:=qp q;have e2:decide (f.stream<8)=false:=qp y;go_wp2;go_ret;exact⟨by rw[C.z,u.z,CH,Bool.false_and];rfl,m.z⟩
  have u:AA (D6 f=false):=by show _=_;simp[D6,q]
  have e1:decide (0<=f.stream)=false:=qp q;go_wp2;go_ret;exact⟨by rw[C.z,u.z,CH,Bool.false_and];rfl,m.z⟩
def DX.after{Y:rT}(m:C9 DA w Y)(h:DX Y v l new v' w'):DX w v l new v' w' :=
 ⟨h.own,h.lH,⟨h.grown.os.trans m.os,h.grown.tape.trans m.tape,h.grown.output.trans m.output,AR m.size h.grown.size,λi a e=>(h.grown.block i (Au a m.size) e).trans<|m.block i a rP⟩,λi a=>(h.at_ i a).imp id<|λq=>AR m.size q⟩
def IV(f:DF)(h:rU)(l new:qq)(m:Bool)(w:rT)(e:Ending)(w':rT):Prop :=
 ∃b F a G g,e=.returned (.pointer<|some ⟨b,0,none⟩)/\IC w' b (.func (.func F) #[] a) g (.func (.func G) #[] #[])/\Eg F/\Eg G/\C9 DA w w' /\
  (∀Y e,C9 DA w' Y->zp Y e f h->D8 f=true->rH G #[.pointer (some ⟨e,0,none⟩)] Y (EX Y m)) /\
  (∀Y v e,C9 DA w' Y->zp Y e f h->OB Y v l->(∀g,v.ownBlock=some g->g<w.heap.size)->(0<f.kC.length->DN (λk=>v.ownBlock=some k) h)->(D8 f&&D6 f&&m)=true->rH F (#[v,.pointer (some ⟨e,0,none⟩)]++a) Y (Gv Y v l new))
def OM(w:rT)(v:rU)(l:qq)(ok:Bool)(new:qq)(e:Ending)(w':rT):Prop :=
 (ok=true/\Gv w v l new e w')\/(ok=false/\e=.returned (.slice none 0 0)/\C9 DA w w')
def JF(v:rU)(l:qq)(f:DF)(n:rU)(new:qq)(M:Bool)(w:rT)(h:OB w v l)(q:0<f.kC.length->DN (λk=>v.ownBlock=some k) n)
  (C:∀D,C9 DA w D->rH 149 #[[f.kind]] D (IV f n l new M D)) :
  rH 115 #[v,.agg (ze f n)] w (OM w v l (D8 f&&D6 f&&M) new):=by
 have E:C9 DA w (w.alloc<|.cells (ze f n) 48):=rS.alloc _;have m:zp (w.alloc<|.cells (ze f n) 48) w.heap.size f n:=heap_alloc_new w _;have c0:=m.cells.1;have g:=C _ E;have K:=O8 h;have u:=zb q;obtain⟨X,hX⟩:=nm<|w.alloc<|.cells (ze f n) 48;rw[hX]at g m c0 E;have N:=E.size;have HH:=zb h;have O:=zb m;have y:=zb E;have R:=zb K;clear h C q m E K;obtain⟨ok,z⟩:=nm<|(D8 f&&D6 f&&M);have L:=zb z;rw[z];unfold ze at hX ⊢;cases ok;all_goals
  clear z;go_enter func115,ntmps115;go_wp2_with fail;refine g.mono ?_;rintro e D ⟨b,F,h,G,ev,rfl,Y,hF,hG,Z,hs,hw⟩;have q:=O.z.mod Z rP;have a:=Tb w.heap.size b f n _ ev G M D q Y hG<|λw' m h=>hs w' _ m (q.mod m rP) h;rw[L.z]at a;have Hc:=zb Y;have A:=zb Z;have Hw:=zb hw;have aa:=zb q;have m:∀h w,(callFunc F h).run prog w=.ok (.enter F h) w:=hF;clear Y Z hw hs q hG hF g;go_wp2_with fail;refine a.mono ?_;rintro e w2 ⟨rfl,B⟩;clear a
 .go_wp2;go_ret;exact .inr ⟨rfl,rfl,(y.z.trans A.z).trans B⟩
 have a:=(Hc.z.mod B rP).1;have a:=Hw.z w2 v w.heap.size B (aa.z.mod B rP) (((HH.z.kI y.z).kI A.z).kI B) (λg h=>Au (R.z g h) N) u.z L.z;have ab:=zb B;clear B;go_wp2_with fail;refine a.mono ?_;rintro e a ⟨e,rfl,ha⟩;have a:=zb ha;clear ha;go_wp2;go_ret;exact .inl ⟨rfl,_,rfl,DX.after ((y.z.trans A.z).trans ab.z) a.z⟩
def zP(f:DF):Bool :=
 if f.kind=2 then EQ f.kC
 else if f.kind=3 then decide (f.rel<=f.off)
 else if f.kind=4 then decide (f.data.length+f.off<=4611686018427387903)
 else decide (1<=f.kind)&&decide (f.kind<=8)
def zH(f:DF):Bool:=D8 f&&D6 f&&zP f
def zC(f:DF):qq :=
 if f.kind=1 then [1]
 else if f.kind=2 then Fa f
 else if f.kind=3 then IF f
 else if f.kind=4 then(if f.fin then IK f else ID f)
 else if f.kind=5 then Fy 16 f
 else if f.kind=6 then IG f
 else if f.kind=7 then IE f
 else Fy 28 f
def KN{a:Bool}(h:(D8 f&&D6 f&&a)=true)(hd:f.data.length<=35184372088832):f.Bounds:=by
 simp only[AV]at h;obtain⟨⟨m,g⟩,_⟩:=h;obtain⟨a,b,c,d,e⟩:=Qf m;simp only[D6,AV,AW]at g;exact⟨g.1,g.2,I,I,I,I,I,hd⟩
def Fh {F : FuncId} {e : Func} {c : Code} (g : prog.funcs[F]? = some e) (a : (e.name == "runtime.NumGoroutine") = false) (hb : e.body = some c) : Eg F := λe w => OR g a hb e w
def IJ:Eg 170:=Fh func170 kw rfl
def Ss:Eg 191:=Fh func191 kw rfl
def Xt:Eg 168:=Fh func168 kw rfl
def Xs:Eg 187:=Fh func187 kw rfl
def Xr:Eg 174:=Fh func174 kw rfl
def TF:Eg 177:=Fh func177 kw rfl
def Xq:Eg 178:=Fh func178 kw rfl
def TE:Eg 182:=Fh func182 kw rfl
def Xp:Eg 185:=Fh func185 kw rfl
def TC:Eg 173:=Fh func173 kw rfl
def Xo:Eg 171:=Fh func171 kw rfl
def Xn(f:DF)(a:rU)(l:qq)(w:rT)(e:f.kind=1)(n:RR w a f.kC)(q:f.kC.length<=1099511627776)(hd:f.data.length<=35184372088832)(g:l.length<=35184372088832):rH 149 #[[f.kind]] w (IV f a l ([1]) (true) w):=by
 rw[e];refine(NS w).mono ?_;rintro e w' ⟨b,rfl,h,m,hb⟩;refine⟨b,168,#[],170,_,rfl,h,Xt,IJ,m,λY a m e h=>IH _ Y,λY v a m e h m e n=>?_⟩;exact Kf v l a Y h g
def Xm(f:DF)(g:rU)(l:qq)(w:rT)(a:f.kind=2)(u:RR w g f.kC)(y:f.kC.length<=1099511627776)(hd:f.data.length<=35184372088832)(z:l.length<=35184372088832):rH 149 #[[f.kind]] w (IV f g l (Fa f) (EQ f.kC) w):=by
 rw[a];refine(NR w).mono ?_;rintro e w' ⟨b,rfl,m,h,hb⟩;refine⟨b,171,#[],173,_,rfl,m,Xo,TC,h,λY n m q a=>Um n f g Y q (u.mod (h.trans m)<|DN.no _) y,λY v n m q A B e a=>?_⟩;exact Ke v l n f g Y q (u.mod (h.trans m)<|DN.no _) (by simp only[AV]at a;exact a.2) y (e<|by simp only[AV,EQ,AW]at a;exact a.2.2) A z
def Xl(f:DF)(a:rU)(l:qq)(w:rT)(e:f.kind=3)(m:RR w a f.kC)(q:f.kC.length<=1099511627776)(hd:f.data.length<=35184372088832)(n:l.length<=35184372088832):rH 149 #[[f.kind]] w (IV f a l (IF f) (decide (f.rel<=f.off)) w):=by
 rw[e];refine(NQ w).mono ?_;rintro e w' ⟨b,rfl,g,h,hb⟩;refine⟨b,174,#[],177,_,rfl,g,Xr,TF,h,λY e m g h=>RV e f a Y g,λY v e m g q u m h=>?_⟩;exact Kd v l e f a Y g q n<|KN h hd
def Xk(f:DF)(a:rU)(l:qq)(w:rT)(e:f.kind=4)(m:RR w a f.kC)(q:f.kC.length<=1099511627776)(hd:f.data.length<=35184372088832)(n:l.length<=35184372088832):rH 149 #[[f.kind]] w (IV f a l (if f.fin then IK f else ID f) (decide (f.data.length+f.off<=4611686018427387903)) w):=by
 rw[e];refine(NO w).mono ?_;rintro e w' ⟨b,rfl,g,h,hb⟩;refine⟨b,178,#[],182,_,rfl,g,Xq,TE,h,λY e m g h=>RU e f a Y g (Qf h).1 I,λY v e m g q u m h=>?_⟩;exact Kc v l e f a Y g q n<|KN h hd
def Xj(f:DF)(g:rU)(l:qq)(w:rT)(e:f.kind=5)(n:RR w g f.kC)(q:f.kC.length<=1099511627776)(hd:f.data.length<=35184372088832)(u:l.length<=35184372088832):rH 149 #[[f.kind]] w (IV f g l (Fy 16 f) (true) w):=by
 rw[e];refine(NN w).mono ?_;rintro e w' ⟨b,tb,y,rfl,h,a,m,hb,n,q⟩;refine⟨b,_,_,170,_,rfl,h,Ss,IJ,m,λY n _ _ _=>IH _ Y,λY v n m z A e q h=>?_⟩;exact Td v l n tb y _ f g Y z (a.mod m rP rP) (λa=>qm<|e _ a) (λa=>qm<|e _ a) A u<|KN h hd
def Xi(f:DF)(a:rU)(l:qq)(w:rT)(e:f.kind=6)(m:RR w a f.kC)(q:f.kC.length<=1099511627776)(hd:f.data.length<=35184372088832)(n:l.length<=35184372088832):rH 149 #[[f.kind]] w (IV f a l (IG f) (true) w):=by
 rw[e];refine(NM w).mono ?_;rintro e w' ⟨b,rfl,g,h,hb⟩;refine⟨b,185,#[],170,_,rfl,g,Xp,IJ,h,λY g m h e=>IH _ Y,λY v g m h q u m e=>?_⟩;exact Kb v l g f a Y h q n<|KN e hd
def Xh(f:DF)(a:rU)(l:qq)(w:rT)(e:f.kind=7)(m:RR w a f.kC)(q:f.kC.length<=1099511627776)(hd:f.data.length<=35184372088832)(n:l.length<=35184372088832):rH 149 #[[f.kind]] w (IV f a l (IE f) (true) w):=by
 rw[e];refine(NL w).mono ?_;rintro e w' ⟨b,rfl,g,h,hb⟩;refine⟨b,187,#[],170,_,rfl,g,Xs,IJ,h,λY g m h e=>IH _ Y,λY v g m h q u m e=>?_⟩;exact Ka v l g f a Y h q n<|KN e hd
def Xg(f:DF)(g:rU)(l:qq)(w:rT)(e:f.kind=8)(n:RR w g f.kC)(q:f.kC.length<=1099511627776)(hd:f.data.length<=35184372088832)(u:l.length<=35184372088832):rH 149 #[[f.kind]] w (IV f g l (Fy 28 f) (true) w):=by
 rw[e];refine(NK w).mono ?_;rintro e w' ⟨b,tb,y,rfl,h,a,m,hb,n,q⟩;refine⟨b,_,_,170,_,rfl,h,Ss,IJ,m,λY n _ _ _=>IH _ Y,λY v n m z A e q h=>?_⟩;exact Td v l n tb y _ f g Y z (a.mod m rP rP) (λa=>qm<|e _ a) (λa=>qm<|e _ a) A u<|KN h hd
def dq(v:rU)(l:qq)(f:DF)(g:rU)(w:rT)(u:f.kind<1\/8<f.kind)(z:∃a n c,v=.slice a n c):rH 115 #[v,.agg (ze f g)] w λe w'=>e=.returned (.slice none 0 0)/\C9 DA w w':=by
 have c0:(w.alloc<|.cells (ze f g) 48) w=some (.int .i64 f.kind):=za (heap_alloc_new w _) rfl;have m:C9 DA w (w.alloc<|.cells (ze f g) 48):=rS.alloc _;have h:=NJ f.kind u<|w.alloc<|.cells (ze f g) 48;obtain⟨X,y⟩:=nm<|w.alloc<|.cells (ze f g) 48;rw[y]at h m c0;have q:=zb m;clear m u;obtain⟨a,n,c,rfl⟩:=z;unfold ze at y ⊢;go_enter func115,ntmps115;go_wp2_with fail;refine h.mono ?_;rintro e a ⟨rfl,A⟩;go_wp2;go_ret;exact⟨rfl,q.z.trans A⟩
def QX(v:rU)(l:qq)(f:DF)(n:rU)(w:rT)(h:OB w v l)(g:0<f.kC.length->DN (λk=>v.ownBlock=some k) n)(y:RR w n f.kC)(z:f.kC.length<=1099511627776)(hd:f.data.length<=35184372088832)(A:l.length<=35184372088832):rH 115 #[v,.agg (ze f n)] w (OM w v l (zH f) (zC f)):=by
 by_cases m:f.kind<1\/8<f.kind
 .have q:zH f=false:=by
   have:zP f=false:=by
    unfold zP;rw[AH I,AH I,AH I];simp;omega
   rw[zH,this,Bool.and_false]
  refine(dq v l f n w m (by obtain⟨a,c,rfl,_⟩:=zi h;exact⟨a,_,c,rfl⟩)).mono ?_;rintro e w' ⟨rfl,u⟩;exact .inr ⟨q,rfl,u⟩
 have a:f.kind=1\/f.kind=2\/f.kind=3\/f.kind=4\/f.kind=5\/f.kind=6\/f.kind=7\/f.kind=8:=I;rcases a with e|e|e|e|e|e|e|e
 .have a:zC f=[1]:=by simp[zC,e]
  have q:zP f=(true):=by simp[zP,e]
  rw[zH,a,q];exact JF v l f n _ _ w h g<|λu m=>Xn f n l u e (y.mod m<|DN.no _) z hd A
 .have a:zC f=Fa f:=by simp[zC,e]
  have q:zP f=(EQ f.kC):=by simp[zP,e]
  rw[zH,a,q];exact JF v l f n _ _ w h g<|λu m=>Xm f n l u e (y.mod m<|DN.no _) z hd A
 .have a:zC f=IF f:=by simp[zC,e]
  have q:zP f=(decide<|f.rel<=f.off):=by simp[zP,e]
  rw[zH,a,q];exact JF v l f n _ _ w h g<|λu m=>Xl f n l u e (y.mod m<|DN.no _) z hd A
 .have a:zC f=if f.fin then IK f else ID f:=by simp[zC,e]
  have q:zP f=(decide<|f.data.length+f.off<=4611686018427387903):=by simp[zP,e]
  rw[zH,a,q];exact JF v l f n _ _ w h g<|λu m=>Xk f n l u e (y.mod m<|DN.no _) z hd A
 .have a:zC f=Fy 16 f:=by simp[zC,e]
  have q:zP f=(true):=by simp[zP,e]
  rw[zH,a,q];exact JF v l f n _ _ w h g<|λu m=>Xj f n l u e (y.mod m<|DN.no _) z hd A
 .have a:zC f=IG f:=by simp[zC,e]
  have q:zP f=(true):=by simp[zP,e]
  rw[zH,a,q];exact JF v l f n _ _ w h g<|λu m=>Xi f n l u e (y.mod m<|DN.no _) z hd A
 .have a:zC f=IE f:=by simp[zC,e]
  have q:zP f=(true):=by simp[zP,e]
  rw[zH,a,q];exact JF v l f n _ _ w h g<|λu m=>Xh f n l u e (y.mod m<|DN.no _) z hd A
 have a:zC f=Fy 28 f:=by simp[zC,e]
 have q:zP f=(true):=by simp[zP,e]
 rw[zH,a,q];exact JF v l f n _ _ w h g<|λu m=>Xg f n l u e (y.mod m<|DN.no _) z hd A
def FE(w:rT)(v:rU)(g:List (DF×rU)):Prop :=
 ∃a e,v=.slice a g.length e/\g.length<=e/\e<=maxLen/\∀i fr,g[i]?=some fr ->
  (∃g o,a=some ⟨g,o,none⟩/\∀j x,(ze fr.1 fr.2)[j]?=some x->w ⟨g,o+i*10+j,none⟩=some x)/\RR w fr.2 fr.1.kC
def FE.mod{e:List (DF×rU)}(h:FE w v e)(m:C9 S w w')(y:DN S v)(z:∀fr∈e,DN S fr.2):FE w' v e:=by
 obtain⟨a,n,rfl,A,B,C⟩:=h;refine⟨a,n,rfl,A,B,λi fr u=>?_⟩;obtain⟨⟨g,o,rfl,D⟩,q⟩:=C i fr u;exact⟨⟨g,o,rfl,λj x e=>m.cell (a:=⟨g,_,none⟩) (y g o _ _ rfl)<|D j x e⟩,q.mod m<|z fr<|AZ u⟩
def FE.kI{a:List (DF×rU)}(h:FE w v a)(m:C9 DA w w'):FE w' v a:=h.mod m (DN.no _) (λ_ _=>DN.no _)
def DX.kI(h:DX w rV l new v' w'):C9 DA w w':=h.mod.mono (λi a=>by cases a)
def GA(a:List (DF×rU))(k:Nat):qq:=(a.take k).flatMap λfr=>zC fr.1
def i5(a:List (DF×rU))(k:Nat)(fr:DF×rU)(h:a[k]?=some fr):GA a (k+1)=GA a k++zC fr.1:=by
 unfold GA;rw[Ai,h];simp
def dp(a:List (DF×rU))(k:Nat):(GA a k).length<=(GA a a.length).length:=by
 have:a.take a.length=a.take k++a.drop k:=by rw[List.take_length,BZ]
 unfold GA;rw[this,Bv,AF];omega
def He(a:List (DF×rU))(k:Nat):Bool:=(a.take k).all λfr=>zH fr.1
def gR(a:List (DF×rU))(k:Nat)(fr:DF×rU)(h:a[k]?=some fr):He a (k+1)=(He a k&&zH fr.1):=by
 unfold He;rw[Ai,h];simp
def Uq(a:List (DF×rU))(k:Nat)(fr:DF×rU)(h:a[k]?=some fr)(e:zH fr.1=false):He a a.length=false:=by
 unfold He;rw[List.take_length];cases hq:a.all λfr=>zH fr.1
 .rfl
 rw[By]at hq;have:=hq fr<|AZ h;rw[e]at this;cases this
def Ht(n:Nat)(a:List (DF×rU)):Bool:=decide (0<a.length)&&decide (n<=4611686018427387903)&&He a a.length
def body(n:Nat)(a:List (DF×rU)):qq:=zV n++GA a a.length
def ml(l:qq):qq:=l++EP (Dz l)
def GC(h:∀j x,(ze f rv)[j]?=some x->w ⟨g,b+j,none⟩=some x):w (g,b)=some (.int .i64 f.kind)/\w (g,b+1)=some (.int .i64 f.stream)/\w (g,b+2)=some (.int .u64 f.off)/\w (g,b+3)=some (.int .u64 f.rel)/\w (g,b+4)=some (.int .u64 f.lF) /\
  w (g,b+5)=some (.bool f.fin)/\w (g,b+6)=some (.int .u64 f.id)/\w (g,b+7)=some (.int .u64 f.dl)/\w (g,b+8)=some (.string<|zy f.data)/\w (g,b+9)=some rv :=
 ⟨h 0 _ rfl,h 1 _ rfl,h 2 _ rfl,h 3 _ rfl,h 4 _ rfl,h 5 _ rfl,h 6 _ rfl,h 7 _ rfl,h 8 _ rfl,h 9 _ rfl⟩
def Xf(n:Nat):0<(zV n).length:=by
 unfold zV;split
 .simp
 split
 .simp
 split<;>simp
def EI(w:rT)(e size:Nat)(v:rU)(n:Nat)(xs:qt):Prop :=
 xs.length=n*size/\(v=.slice none 0 0/\n=0\/∃g o a h,v=.slice (some ⟨g,o*size,none⟩) n a/\w.heap[g]?=some (.cells h e (0,0))/\n<=a/\a<=maxLen/\(o+a)*size<=h.size/\(h.toList.drop<|o*size).take (n*size)=xs)
def Value.kr:rU->Option Nat
 | .slice (some a) _ _=>some a.block
 | _=>none
variable{e size:Nat}{xs:qt}
def EI.mod(h:EI w e size v n xs)(m:C9 S w w')(u:∀g,Value.kr v=some g->¬S g):EI w' e size v n xs:=by
 refine⟨h.1,?_⟩;rcases h.2 with h|⟨g,o,a,q,rfl,y,z⟩
 .exact .inl h
 exact .inr ⟨g,o,a,q,rfl,m.obj (u g rfl) y,z⟩
def EI.nil(w:rT)(e size:Nat):EI w e size rV 0 []:=⟨nl,.inl ⟨rfl,rfl⟩⟩
def GQ(tag:qr)(t:Nat×Nat)(w:rT)(v:rU)(a:List DF):Prop :=
 ∃l:List (DF×rU),l.map (·.1)=a/\FE w v l/\(∀g,Value.kr v=some g->tag g=t)/\∀fr∈l,∀g,Value.kr fr.2=some g->tag g=t
def GB(h:∀g,Value.kr v=some g->¬S g):DN S v:=λg o n c e=>h g (by rw[e];rfl)
variable{fs:List DF}{tag tag':qr}
def GQ.mod{t:Nat×Nat}(h:GQ tag t w v fs)(m:C9 S w w')(n:∀g,S g->tag g≠t)(q:∀g,tag g=t->tag' g=t):GQ tag' t w' v fs:=by
 obtain⟨l,a,e,u,y⟩:=h;exact⟨l,a,e.mod m (GB λg a x=>n g x<|u g a)<|λfr e=>GB λg a x=>n g x<|y fr e g a,λg a=>q g<|u g a,λfr e g a=>q g<|y fr e g a⟩
def Fk(w:rT)(b:Nat)(l:List (Nat×Nat)):Prop :=
 ∃D,w.ownsMap (H:=Unit) prog 34 (plainElem prog 34) b l.length D/\Maps.size D=l.length/\∀x:Nat,x<18446744073709551616->Maps.has D (.int .u64 x)=l.any (λp=>p.1==x)
def Fk.mod{l:List (Nat×Nat)}(h:Fk w b l)(m:C9 S w w')(e:¬S b):Fk w' b l:=by
 obtain⟨D,⟨g,a,n,q⟩,u⟩:=h;exact⟨D,⟨g,a,m.obj e n,q⟩,u⟩
def zF(l:List (DI×rU)):List rU:=l.flatMap λp=>[.int .u64 p.1.n,.int .u64 p.1.at_,p.2]
def zZ(l:List (Nat×qq)):List rU:=l.flatMap λp=>[.int .u64 p.1,.string (zy p.2)]
def zs(l:List DF):List rU:=l.flatMap λf=>(ze f rV).toList
structure zn(tag:qr)(i b:Nat)(c:CS)(V:CV)(W:rT):Prop where
 obj:W.heap[b]?=some (.cells (zA c V).toArray 147 (0,0))
 tb:tag b=(i,1)
 kN:Ed W V.g 0 V.gv c.kN.rs c.kN.fl c.kN.most
 tg:tag V.g=(i,2)
 nW:∀g,V.gv.ownBlock=some g->tag g=(i,3)
 wb:∀k,k<8->OB W (V.wb k) (c k).b
 ws:∀k,k<8->W.ownsRow 0 110 2 (V k) (c k).kH.rs.length (zw (c k).kH.rs)
 wc:∀k,k<8->W.ownsRow 0 110 2 (V.wc k) (c k).kG.rs.length (zw (c k).kG.rs)
 rb:∀k,k<8->OB W (V.rb k) (c.rs k).b
 rc:∀k,k<8->W.ownsRow 0 110 2 (V.rc k) (c.rs k).kG.rs.length (zw (c.rs k).kG.rs)
 nK:∀k,k<8->∀g,(V.wb k).ownBlock=some g->tag g=(i,10+k)
 nC:∀k,k<8->∀g,(V k).ownBlock=some g->tag g=(i,20+k)
 nJ:∀k,k<8->∀g,(V.wc k).ownBlock=some g->tag g=(i,30+k)
 nV:∀k,k<8->∀g,(V.rb k).ownBlock=some g->tag g=(i,40+k)
 nU:∀k,k<8->∀g,(V.rc k).ownBlock=some g->tag g=(i,50+k)
 ft:W.ownsRow 0 166 3 V.ft c.kB.length (zF<|c.kB.zip V.lh)
 fl:V.lh.length=c.kB.length
 fs:∀p∈c.kB.zip V.lh,GQ tag (i,5) W p.2 p.1.fs
 nF:∀g,V.ft.ownBlock=some g->tag g=(i,4)
 wt:EI W 48 10 V.wt c.waits.length (zs c.waits)
 nE:∀g,Value.kr V.wt=some g->tag g=(i,6)
 sn:Fk W V.sn c.seen
 nT:tag V.sn=(i,7)
 cm:W.ownsRow 0 134 2 V.cm c.kG.length (zZ c.kG)
 nN:∀g,V.cm.ownBlock=some g->tag g=(i,8)
 ou:c.kG=[]->V.cm=.slice none 0 0
variable{V:CV}{W W':rT}{c:CS}
def zn.mod(h:zn tag i b c V W)(m:C9 S W W')(e:∀g,S g->(tag g).1≠i)(u:∀g,(tag g).1=i->tag' g=tag g):zn tag' i b c V W':=by
 have q:∀{g:Nat} {t:Nat×Nat},tag g=t->t.1=i->¬S g:=λa n x=>e _ x<|by rw[a,n]
 have e:∀{g:Nat} {t:Nat×Nat},tag g=t->t.1=i->tag' g=t:=λa n=>(u _<|by rw[a,n]).trans a
 exact
  {obj:=m.obj (q h.tb rfl) h.obj
   tb:=e h.tb rfl
   kN:=h.kN.mod m (q h.tg rfl)<|λg a=>q (h.nW g a) rfl
   tg:=e h.tg rfl
   nW:=λg a=>e (h.nW g a) rfl
   wb:=λk n=>m.owns (h.wb k n)<|λg a=>q (h.nK k n g a) rfl
   ws:=λk n=>m.owns (h.ws k n)<|λg a=>q (h.nC k n g a) rfl
   wc:=λk n=>m.owns (h.wc k n)<|λg a=>q (h.nJ k n g a) rfl
   rb:=λk n=>m.owns (h.rb k n)<|λg a=>q (h.nV k n g a) rfl
   rc:=λk n=>m.owns (h.rc k n)<|λg a=>q (h.nU k n g a) rfl
   nK:=λk n g a=>e (h.nK k n g a) rfl
   nC:=λk n g a=>e (h.nC k n g a) rfl
   nJ:=λk n g a=>e (h.nJ k n g a) rfl
   nV:=λk n g a=>e (h.nV k n g a) rfl
   nU:=λk n g a=>e (h.nU k n g a) rfl
   ft:=m.owns h.ft<|λg a=>q (h.nF g a) rfl
   fl:=h.fl
   fs:=λp n=>(h.fs p n).mod m (λg a x=>q x rfl a)<|λg a=>e a rfl
   nF:=λg a=>e (h.nF g a) rfl
   wt:=h.wt.mod m<|λg a=>q (h.nE g a) rfl
   nE:=λg a=>e (h.nE g a) rfl
   sn:=h.sn.mod m<|q h.nT rfl
   nT:=e h.nT rfl
   cm:=m.owns h.cm<|λg a=>q (h.nN g a) rfl
   nN:=λg a=>e (h.nN g a) rfl
   ou:=h.ou }
def zn.kI(h:zn tag i b c V W)(m:C9 DA W W'):zn tag i b c V W':=h.mod m rQ (λ_ _=>rfl)
def zL(tag:qr)(W:rT):Prop:=∀g,W.heap.size<=g->tag g=(0,0)
def zL.mod(h:zL tag W)(m:C9 S W W'):zL tag W':=λg a=>h g (AR m.size a)
structure DK(i:Nat)(tag tag':qr)(W W':rT):Prop where
 lH:∀g,g<W.heap.size->tag' g=tag g
 new:∀g,W.heap.size<=g->(tag' g).1=i\/tag' g=(0,0)
 z:zL tag' W'
def DK.same(h:zL tag W)(m:C9 S W W'):DK i tag tag W W':=⟨λ_ _=>rfl,λg a=>.inr (h g a),h.mod m⟩
variable{W'':rT}
def DK.trans{a:qr}(h:DK i tag tag' W W')(k:DK i tag' a W' W'')(e:W.heap.size<=W'.heap.size):DK i tag a W W'':=by
 refine⟨λg a=>(k.lH g I).trans<|h.lH g a,λg a=>?_,k.z⟩;by_cases q:g<W'.heap.size
 .rw[k.lH g q];exact h.new g a
 exact k.new g I
def zT(tag:qr)(W W':rT)(t:Nat×Nat):Nat->Nat×Nat:=λg=>if g<W.heap.size then tag g else if g<W'.heap.size then t else(0,0)
def zx{t:Nat×Nat}(h:g<W.heap.size):zT tag W W' t g=tag g:=by simp[zT,h]
def FH{t:Nat×Nat}(h:W.heap.size<=g)(a:g<W'.heap.size):zT tag W W' t g=t:=by
 simp only[zT,(I:¬g<W.heap.size),AH,Ae,AL a]
variable{r:Nat}
def Gf(a:W.heap.size<=W'.heap.size):DK i tag (zT tag W W' (i,r)) W W':=by
 refine⟨λg a=>zx a,λg a=>?_,λg a=>?_⟩
 .by_cases q:g<W'.heap.size
  .exact .inl (by rw[FH a q])
  exact .inr<|by simp only[zT,(I:¬g<W.heap.size),q,AH,Ae]
 simp only[zT,(I:¬g<W.heap.size),(I:¬g<W'.heap.size),AH,Ae]
def Ds(h:zL tag W)(a:tag g=(i,r))(hi:0<i):g<W.heap.size:=by
 by_cases q:g<W.heap.size
 .exact q
 have:=h g I;rw[a]at this;simp at this;omega
variable{j:Nat}
def zn.hd(h:zn tag i b c V W)(a:(Fi c V)[j]?=some v):W (b,j)=some v :=
 za h.obj (by rw[BF];exact Vs c V a)
def zn.tl(h:zn tag i b c V W)(a:(Hj c V)[j]?=some v):W (b,233+j)=some v :=
 za h.obj (by rw[BF];exact LB c V a)
end
section
open Go.RowKit Go.Proofs.Tryz
variable{V:CV}{W:rT}{b i j k:Nat}{c:CS}{tag:qr}{v:rU}
def zn.w(h:zn tag i b c V W)(a:k<8)(e:(Fl (c k) (V.wb k) (V k) (V.wc k))[j]?=some v):W (b,9+15*k+j)=some v :=
 za h.obj (by rw[BF];exact Le c V a e)
def zn.r(h:zn tag i b c V W)(a:k<8)(e:(GH (c.rs k) (V.rb k) (V.rc k))[j]?=some v):W (b,129+13*k+j)=some v :=
 za h.obj (by rw[BF];exact LC c V a e)
def zn.fz(h:zn tag i b c V W)(j:Nat):W.frozen? ⟨b,j,none⟩=false:=by simp[World.frozen?,h.obj]
def Eb:Ending:=.panicked [{ v:=.iface 230 (.agg #[]),recovered:=false }]
def EL(w:rT)(e:Nat)(v:rU)(a:Nat):Prop:=w.heap[e]?=some (.cells #[v,[a]] 228 (0,0))
variable{S:Nat->Prop}{pos rb:Nat}{w w':rT}
def EL.mod(h:EL w rb v pos)(m:C9 S w w')(a:¬S rb):EL w' rb v pos:=m.obj a h
def EL.c0(h:EL w rb v pos):w rb=some v:=za h rfl
def EL.c1(h:EL w rb v pos):w (rb,1)=some (.int .i64 pos):=za h rfl
variable{l:qq}
def BR.mod(h:BR w v l)(m:C9 S w w')(n:DN S v):BR w' v l:=by
 obtain⟨a,e,rfl,q,u,y⟩:=h;refine⟨a,e,rfl,q,u,λi c z=>?_⟩;obtain⟨g,o,rfl,A⟩:=y i c z;exact⟨g,o,rfl,m.cell (a:=⟨g,_,none⟩) (n g o _ _ rfl) A⟩
def DY(a:Nat):Nat->Prop:=λk=>k=a
def JC(p:rU)(w:rT):rH 146 #[p] w λe w'=>e=Eb/\w=w':=by
 go_enter func146,ntmps146;go_wp2_with fail;exact rN
variable{cs:Array rU}{t:Nat}
def zc{fz:Nat×Nat}(h:w.heap[b]?=some (.cells cs t fz)):(w.setCell (b,i) v).heap[b]?=some (.cells (cs.setIfInBounds i v) t fz):=by
 simp[World.setCell,B4,h]
variable{a:qs}{bs:qq}{cap n:Nat}
def BR.sub(h:BR w (.slice a bs.length cap) bs)(m:pos+n<=bs.length):BR w (.slice (a.map λx=>x.add pos) n (cap-pos)) ((bs.drop pos).take n):=by
 obtain⟨A,m,q,B,u,y⟩:=h;cases q;have h:((bs.drop pos).take n).length=n:=ol;refine⟨a.map λx=>x.add pos,cap-pos,by rw[h],I,by unfold maxLen at u ⊢;omega,λi c e=>?_⟩;have a:i<n:=by
  have:=(AO.1 e).1;omega
 rw[B2,AL a,BM]at e;obtain⟨g,o,rfl,z⟩:=y (pos+i) c e;refine⟨g,o+pos,?_,?_⟩
 .simp only[BP,EU]
 rw[Nat.add_assoc];exact z
def BR.nil(w:rT)(a:qs)(c:Nat)(h:c<=maxLen):BR w (.slice a 0 c) []:=⟨a,c,rfl,AK _,h,λi c a=>by simp at a⟩
def RT(a:Nat)(w:rT)(e:Ending)(w':rT):Prop:=e=Eb/\C9 (DY a) w w'
def Pk(a n e:Nat)(z:Int)(q:z=(n:Int))(v:rU)(g:qq)(w:rT)(h:EL w a v e)(hb:BR w v g)(A:e<=g.length)(B:g.length-e<n):rH 147 #[(a,0),z] w (RT a w):=by
 subst q;obtain⟨a,q,rfl,z,u,y⟩:=hb;unfold maxLen at u;have c0:=h.c0;have c1:=h.c1;have a:IntKind.i64.wrap ((g.length:Int)-e)=(g.length:Int)-e:=IntWalk.i64_in _ I;have a:=wu ((g.length:Int)-e) I;have d:(g.length:Int)-e<n:=I;clear y h;go_enter func147,ntmps147;go_wp2;go_quiet (fail);go_wp2_with (go_at_call 146;refine(JC _ _).mono ?_;rintro e w' ⟨m,rfl⟩;unfold Eb at m;subst m);exact⟨rfl,rfl,rS.drewN _⟩
def Nx(m n g:Nat)(z:Int)(K:z=(n:Int))(v:rU)(q:qq)(w:rT)(h:EL w m v g)(hb:BR w v q)(L:DN (DY m) v)(M:g+n<=q.length):rH 147 #[(m,0),z] w λe w'=>∃y,e=.returned y/\BR w' y ((q.drop g).take n)/\EL w' m v (g+n)/\C9 (DY m) w w':=by
 subst K;obtain⟨a,u,rfl,e,N,O⟩:=id hb;unfold maxLen at N;have c0:=h.c0;have c1:=h.c1;have e:IntKind.i64.wrap ((q.length:Int)-g)=(q.length:Int)-g:=IntWalk.i64_in _ I;have e:=wu ((q.length:Int)-g) I;have e:IntKind.i64.wrap (n:Int)=(n:Int):=IntWalk.i64_in _ I;have e:IntKind.i64.wrap ((g:Int)+n)=(g:Int)+n:=IntWalk.i64_in _ I;have d:¬((q.length:Int)-g<n):=I;have y:w.frozen? ⟨m,1,none⟩=false:=zd h;clear O;have H:=zb h;have K:=zb hb;clear h hb;go_enter func147,ntmps147;go_wp2;go_quiet (fail);go_wp2_with fail;obtain⟨W,e⟩:=nm<|(w.drewN nq).setCell (U m 1)<|.int .i64<|(g:Int)+n;have z:C9 (DY m) w W:=by rw[<-e];exact((C9.refl (DY m) w).drewN nq).setCell (p:=U m 1) rO _
 have N:W (m,1)=some (.int .i64<|(g:Int)+n):=by rw[<-e];exact World.cell?_setCell_same _ _ _ c1
 have N:W m=some (.slice a q.length u):=by rw[<-e,World.cell?_setCell_other _ _ _ _ nl];exact c0
 have B:AA (EL W m (.slice a q.length u)<|g+n):=by
  show W.heap[m]?=_;rw[<-e,zc (w:=w.drewN nq) H.z];simp
 have HB:=zb<|K.z.mod z L;have C:=zb z;rw[e];clear e z c0 c1 y;have D:IntKind.i64.wrap ((g:Int)+n-n)=(g:Int):=by rw[(I:(g:Int)+n-n=g)];exact IntWalk.i64_in _ I
 have R:((g:Int)+n).toNat=g+n:=I;by_cases E:g=u
 .have A:n=0:=I;subst A;have G:q.length=g:=I;have a:=zb G;subst E;clear G D R;have D:IntKind.i64.wrap ((g:Int)+((0:Nat):Int)-((0:Nat):Int))=(g:Int):=by rw[(I:(g:Int)+((0:Nat):Int)-((0:Nat):Int)=g)];exact IntWalk.i64_in _ I
  go_quiet (fail);go_wp2;go_ret;refine⟨_,rfl,?_,B.z.mod (S:=DA) (rS.drewN _) rP,C.z.drewN _⟩;rw[B0];exact BR.nil _ _ _ pi
 have a:¬u=g:=λh=>E h.symm
 go_quiet (fail);go_wp2;go_ret;refine⟨_,rfl,?_,B.z.mod (S:=DA) (rS.drewN _) rP,C.z.drewN _⟩;exact(HB.z.sub M).mod (S:=DA) (rS.drewN _) (DN.no _)
def De(c:UInt8):Nat:=2 ^ (c.toNat / 64)
def Ei(c:UInt8)(l:qq):Nat:=l.foldl (λn x=>n*256+x.toNat) (c.toNat % 64)
def DU(e:qq)(a:Nat):Option (Nat×Nat) :=
 match e[a]? with
 | none=>none
 | some c=>if a+De c<=e.length then some (Ei c<|(e.drop<|a+1).take<|De c-1,a+De c)else none
def UO(c:UInt8)(l:qq)(x:UInt8):Ei c (l++[x])=Ei c l*256+x.toNat:=by simp[Ei]
theorem jN(l:qq):∀n b,n<b->l.foldl (λn x=>n*256+x.toNat) n<b*256 ^ l.length:=by
 induction l with
 | nil=>intro n b h;simpa using h
 | cons x l ih =>
  intro n b h;have a:=x.toNat_lt;have:=ih (n*256+x.toNat) (b*256) I;simp only[List.foldl_cons,Aa,Nat.pow_succ];rw[Nat.mul_assoc,AN 256]at this;exact this
def OL(c:UInt8)(l:qq):Ei c l<64*256 ^ l.length:=jN l _ 64 (Nat.mod_lt _ lc)
def Xe:∀a:Fin 256,bits .and .u8 ((a.val:Nat):Int) 63=((a.val % 64:Nat):Int):=pp
def gQ(a b:Nat)(e:a<18446744073709551616)(hb:b<18446744073709551616):bits .or .u64 (a:Int) (b:Int)=((a ||| b:Nat):Int):=by
 have e:a ||| b<2 ^ 64:=Nat.or_lt_two_pow I I;have e:(BitVec.ofInt 64 (a:Int)).toNat=a:=by
  rw[Bj,Bm];exact Bx I
 have g:(BitVec.ofInt 64 (b:Int)).toNat=b:=by
  rw[Bj,Bm];exact Bx I
 show IntKind.u64.wrap ((BitVec.ofInt 64 (a:Int) ||| BitVec.ofInt 64 (b:Int)).toNat:Int)=_;rw[BitVec.toNat_or,e,g,IntKind.wrap_u64];omega
def Ko(a c:Nat)(e:c<256):a*256 ||| c=a*256+c:=by
 have:=Nat.two_pow_add_eq_or_of_lt (b:=c) (i:=8) e a;rw[AN]at this;exact this.symm
def Kk(a c:Nat)(g:a<72057594037927936)(e:c<256):bits .or .u64 ((a:Int)*256) (c:Int)=((a*256+c:Nat):Int):=by
 have:=gQ (a*256) c I I;rw[Ko a c e]at this;rw[<-this];congr 1
def Ov(w:rT)(a:Nat)(v:rU)(r:Option (rU×Nat))(e:Ending)(w':rT):Prop :=
 (∃x p,r=some (x,p)/\e=.returned x/\EL w' a v p/\C9 (DY a) w w')\/(r=none/\RT a w e w')
def IM(A u:Nat)(v:rU)(y:qq)(w:rT)(h:EL w A v u)(hb:BR w v y)(E:DN (DY A) v)(hp:u<=y.length):rH 145 #[(A,0)] w (Ov w A v ((DU y u).map λq=>(.int .u64 q.1,q.2))):=by
 by_cases G:u<y.length
 .obtain⟨c,g⟩:∃c,y[u]?=some c:=⟨y[u],AG G⟩;have a:(y.drop u).take 1=[c]:=by
   rw[List.take_one,List.head?_drop,g];rfl
  have K:=Nx A 1 u 1 rfl v y w h hb E I;rw[a]at K;have q:=c.toNat_lt;have n:=Xe ⟨c.toNat,I⟩;simp only at n;have q:c.toNat / 64=0\/c.toNat / 64=1\/c.toNat / 64=2\/c.toNat / 64=3:=I;have Hq:=zb q;have Hb:=zb hb;have Hc:=zb g;clear h hb q g a;go_enter func145,ntmps145;go_wp2_with fail;refine K.mono ?_;rintro e w1 ⟨sv,rfl,hs,Y,m1⟩;obtain⟨a,g,rfl,_,_,Z⟩:=hs;obtain⟨g,o,rfl,m⟩:=Z 0 c rfl;clear Z K;simp only[Bb]at m;have L:=zb Y;have B:=zb m1;clear Y m1;simp only[Aa,Aw];have M:IntKind.u64.wrap (IntKind.u64.wrap (2 ^ (c.toNat / 64))-1)=((De c-1:Nat):Int):=by
   unfold De;rcases Hq.z with e|e|e|e<;>rw[e]<;>rfl
  have a:1<=De c:=Nat.one_le_two_pow;have a:De c<=8:=by
   unfold De;rcases Hq.z with e|e|e|e<;>rw[e]<;>decide
  by_cases C:u+De c<=y.length
  .have N:=Nx A (De c-1) (u+1) _ M v y w1 L.z (Hb.z.mod B.z E) E I;have O:((y.drop<|u+1).take<|De c-1).length=De c-1:=ol;have HR:AA (DU y u=some (Ei c<|(y.drop<|u+1).take<|De c-1,u+De c)):=by
    show _=_;unfold DU;rw[Hc.z];simp only[AL C]
   obtain⟨z,a⟩:=nm<|(y.drop<|u+1).take<|De c-1;rw[a]at N O HR;clear a;have Zv:=zb M;clear M;go_wp2_with fail;refine N.mono ?_;rintro e w2 ⟨sv,rfl,aa,R,m2⟩;have H2:AA (EL w2 A v<|u+De c):=by
    have e:u+1+(De c-1)=u+De c:=I;rw[e]at R;exact R
   have HM:=zb<|B.z.trans m2;obtain⟨q,a,rfl,g,ab,h4⟩:=aa;have a:z.length<=7:=I;unfold maxLen at ab;clear R m2 N O n m Zv;go_wp2_with fail
   go_loop [4,6,21] (λn _ i=>∃k:Nat,k<=z.length/\i=.int .i64 k/\n=.int .u64 (Ei c (z.take k):Int)) (λ_ _ i=>z.length-(intOf i).toNat)
   case atStart=>exact⟨0,AK _,rfl,by simp[Ei]⟩
   case round =>
    obtain⟨k,a,rfl,rfl⟩:=hrel;by_cases a:k<z.length
    .obtain⟨x,hx⟩:∃x,z[k]?=some x:=⟨z[k],AG a⟩;obtain⟨g,m,rfl,a⟩:=h4 k x hx;have g:AA (Ei c (z.take<|k+1)=Ei c (z.take k)*256+x.toNat):=by
      show _=_;rw[Om z k x hx,UO]
     have a:Ei c (z.take k)<72057594037927936:=by
      have Y:=OL c<|z.take k;have R:(z.take k).length<=6:=by rw[AU];omega
      have Z:256 ^ (z.take k).length<=256 ^ 6:=Nat.pow_le_pow_right I R;have m:64*256 ^ (z.take k).length<=64*256 ^ 6:=Bs _ Z;have n:64*256 ^ 6<=72057594037927936:=lc;exact Au Y<|AR m n
     obtain⟨m,D⟩:=nm<|Ei c<|z.take k;have n:=x.toNat_lt;rw[D]at a g ⊢;have n:=Kk m x.toNat a I;have a:=wu ((m:Int)*256) I;clear D h4 hx;go_wp2_with fail
     go_round
     case rel=>exact⟨k+1,I,by go_num,by rw[g.z];go_num⟩
     simp[intOf];omega
    have a:z.take k=z:=AS I;rw[a];clear a h4;go_wp2;go_ret;exact .inl ⟨_,_,by rw[HR.z];rfl,rfl,H2.z,HM.z⟩
  have N:=Pk A (De c-1) (u+1) _ M v y w1 L.z (Hb.z.mod B.z E) I I;have HR:AA (DU y u=none):=by
   show _=_;unfold DU;rw[Hc.z];simp only[AH C]
  clear M;go_wp2_with (go_at_call 147;refine N.mono ?_;rintro e w2 ⟨X,D⟩;unfold Eb at X;subst X);exact⟨rfl,.inr ⟨by rw[HR.z];rfl,rfl,B.z.trans D⟩⟩
 have hr:AA (DU y u=none):=by
  show _=_;unfold DU;rw[BJ I]
 have K:=Pk A 1 u 1 rfl v y w h hb hp I;clear h hb E G;go_enter func145,ntmps145;go_wp2_with (go_at_call 147;refine K.mono ?_;rintro e w1 ⟨X,D⟩;unfold Eb at X;subst X);exact⟨rfl,.inr ⟨by rw[hr.z];rfl,rfl,D⟩⟩
theorem gP(l:qq):∀s:ByteArray,(l.map λc=>((c.toNat:Nat):Int)).foldl (λr n=>r.push (UInt8.ofNat n.toNat)) s=⟨s.data++l.toArray⟩:=by
 induction l with
 | nil=>intro s;simp
 | cons c l ih =>
  intro s;simp only[BO,List.foldl_cons,Am,UInt8.ofNat_toNat];rw[ih];simp[ByteArray.push]
theorem FZ(h:BR w v l):(convert 44 9 v).run prog w=.ok (.string (zy l)) w:=by
 obtain⟨a,n,rfl,B,C,q⟩:=h;rw[run_convert_bytes_string w _ _ _ a l.length n underlying44 underlying5 underlying9];cases a with
 | none =>
  have u:l=[]:=by
   cases l with
   | nil=>rfl
   | cons c l =>
    obtain⟨g,o,e,_⟩:=q 0 c rfl;cases e
  subst u;rfl
 | some a =>
  have m:∀j u,(zS l)[j]?=some u->w (a.add j)=some u:=by
   intro j u y;simp only[zS,Ad,CC]at y;obtain⟨c,z,rfl⟩:=y;obtain⟨g,o,e,A⟩:=q j c z;cases e;rw[EU];exact A
  have MN:(loadCells a l.length).run prog w=.ok ((l.map λc=>((c.toNat:Nat):Int)).map<|Value.int .u8).toArray w:=by
   have:=run_loadCells_list (P:=prog) (w:=w) a (zS l) m;rw[Ij]at this;rw[this];simp[zS]
  rw[run_bytesToString w a l.length n _ MN,gP];simp[zy]
def Et(e:qq)(a:Nat):Option (Nat×Nat):=(DU e a).bind λq=>if q.1<8 then some q else none
def E4(a:qq)(e:Nat):Option (qq×Nat):=(DU a e).bind λq=>if q.1<=a.length-q.2 then some ((a.drop q.2).take q.1,q.2+q.1)else none
variable{p:Nat}
theorem ET(h:DU bs pos=some (n,p)):pos<p/\p<=bs.length/\n<4611686018427387904:=by
 unfold DU at h;cases hc:bs[pos]? with
 | none=>rw[hc]at h;cases h
 | some c =>
  rw[hc]at h;simp only at h;split at h
  .rename_i a;simp only[BQ,Bg]at h;obtain⟨rfl,rfl⟩:=h;have e:1<=De c:=Nat.one_le_two_pow;have e:=c.toNat_lt;have e:c.toNat / 64=0\/c.toNat / 64=1\/c.toNat / 64=2\/c.toNat / 64=3:=I;have g:De c<=8:=by
    unfold De;rcases e with e|e|e|e<;>rw[e]<;>decide
   refine⟨I,a,?_⟩;have a:=OL c<|(bs.drop<|pos+1).take<|De c-1;have a:((bs.drop<|pos+1).take<|De c-1).length<=7:=by rw[AU];omega
   have e:64*256 ^ ((bs.drop<|pos+1).take<|De c-1).length<=64*256 ^ 7:=Bs _<|Nat.pow_le_pow_right I a;have a:64*256 ^ 7=4611686018427387904:=lc;omega
  cases h
theorem i4(z a:Nat)(v:rU)(u:qq)(w:rT)(h:EL w z v a)(hb:BR w v u)(G:DN (DY z) v)(M:a<=u.length):rH 176 #[(z,0)] w (Ov w z v ((Et u a).map λq=>(.int .i64 q.1,q.2))):=by
 have A:=IM z a v u w h hb G M;clear h hb G;cases hr:DU u a with
 | none =>
  rw[hr]at A;have B:AA (Et u a=none):=by show _=_;rw[Et,hr];rfl
  clear hr;go_enter func176,ntmps176;go_wp2_with (go_at_call 145;refine A.mono ?_;rintro e K (⟨_,_,g,_⟩|⟨_,C,y⟩);cases g;unfold Eb at C;subst C);exact⟨rfl,.inr ⟨by rw[B.z];rfl,rfl,y⟩⟩
 | some q =>
  obtain⟨n,p⟩:=q;obtain⟨h,q,z⟩:=ET hr;rw[hr]at A;by_cases L:n<8
  .have B:AA (Et u a=some (n,p)):=by show _=_;rw[Et,hr];simp[L]
   have D:¬(8:Int)<=n:=I;have h:IntKind.i64.wrap (n:Int)=n:=IntWalk.i64_in _ I;clear hr;go_enter func176,ntmps176;go_wp2_with fail;refine A.mono ?_;rintro e K (⟨_,_,g,rfl,m,y⟩|⟨g,_⟩)
   .simp only[BP,BQ,Bg]at g;obtain⟨rfl,rfl⟩:=g;have h:=zb m;have E:=zb y;clear m y;go_wp2;go_ret;exact .inl ⟨_,_,by rw[B.z];rfl,rfl,h.z,E.z⟩
   cases g
  have B:AA (Et u a=none):=by show _=_;rw[Et,hr];simp[L]
  have D:(8:Int)<=n:=I;clear hr;go_enter func176,ntmps176;go_wp2_with fail;refine A.mono ?_;rintro e K (⟨_,_,g,rfl,m,y⟩|⟨g,_⟩)
  .simp only[BP,BQ,Bg]at g;obtain⟨rfl,rfl⟩:=g;have E:=zb y;clear m y;go_wp2_with (go_at_call 146;refine(JC _ _).mono ?_;rintro e w' ⟨C,rfl⟩;unfold Eb at C;subst C);exact⟨rfl,.inr ⟨by rw[B.z];rfl,rfl,E.z⟩⟩
  cases g
theorem dm(A a:Nat)(v:rU)(g:qq)(w:rT)(h:EL w A v a)(hb:BR w v g)(G:DN (DY A) v)(hp:a<=g.length):rH 181 #[(A,0)] w (Ov w A v ((E4 g a).map λq=>(.string (zy q.1),q.2))):=by
 have C:=IM A a v g w h hb G hp;have Y:=zb hb;clear h hb;cases hr:DU g a with
 | none =>
  rw[hr]at C;have B:AA (E4 g a=none):=by show _=_;rw[E4,hr];rfl
  clear hr G;go_enter func181,ntmps181;go_wp2_with (go_at_call 145;refine C.mono ?_;rintro e K (⟨_,_,m,_⟩|⟨_,D,y⟩);cases m;unfold Eb at D;subst D);exact⟨rfl,.inr ⟨by rw[B.z];rfl,rfl,y⟩⟩
 | some q =>
  obtain⟨n,p⟩:=q;obtain⟨h,q,q3⟩:=ET hr;rw[hr]at C;have Z:=zb hr;have M:=zb G;clear hr G;by_cases z:n<=g.length-p
  .have B:AA (E4 g a=some ((g.drop p).take n,p+n)):=by show _=_;rw[E4,Z.z];simp[z]
   go_enter func181,ntmps181;go_wp2_with fail;refine C.mono ?_;rintro e K (⟨_,_,m,rfl,u,y⟩|⟨m,_⟩)
   .simp only[BP,BQ,Bg]at m;obtain⟨rfl,rfl⟩:=m;have L:=Nx A n p (n:Int) rfl v g K u (Y.z.mod y M.z) M.z I;have N:=zb y;clear u y;go_wp2_with fail;refine L.mono ?_;rintro e h ⟨q,rfl,E,h2,m2⟩;have O:=FZ E;have H2:=zb h2;have R:=zb m2;obtain⟨q,h,rfl,_⟩:=E;obtain⟨q,h⟩:=nm<|(g.drop p).take n;rw[h]at O B;rw[h];clear h2 m2 L h;go_wp2;go_ret;exact .inl ⟨_,_,by rw[B.z];rfl,rfl,H2.z,N.z.trans R.z⟩
   cases m
  have B:AA (E4 g a=none):=by show _=_;rw[E4,Z.z];simp[z]
  go_enter func181,ntmps181;go_wp2_with fail;refine C.mono ?_;rintro e K (⟨_,_,m,rfl,u,y⟩|⟨m,_⟩)
  .simp only[BP,BQ,Bg]at m;obtain⟨rfl,rfl⟩:=m;have L:=Pk A n p (n:Int) rfl v g K u (Y.z.mod y M.z) I I;have N:=zb y;clear u y;go_wp2_with (go_at_call 147;refine L.mono ?_;rintro e w' ⟨D,X⟩;unfold Eb at D;subst D);exact⟨rfl,.inr ⟨by rw[B.z];rfl,rfl,N.z.trans X⟩⟩
  cases m
def Es(t:UInt8):Option Int :=
 if t=1 then some 1 else if t=2 then some 2 else if t=8\/t=9 then some 4 else if t=16 then some 5 else if t=17 then some 6 else if t=28 then some 8 else if t=36 then some 3 else if t=48 then some 7 else none
def dk(t:UInt8)(w:rT)(h:Es t=none):rH 148 #[.int .u8 (t.toNat:Int)] w λe w'=>e=.returned (.tuple #[.int .i64 0,false])/\w=w':=by
 have a:∀c:UInt8,c ∈ [1,2,8,9,16,17,28,36,48]->((t.toNat:Int)==(c.toNat:Int))=false:=by
  intro c g;rw[AM];intro e;have:t=c:=Cd.1 I;subst this;simp only[Be,CW,or_false]at g;rcases g with rfl|rfl|rfl|rfl|rfl|rfl|rfl|rfl|rfl<;>simp[Es]at h
 have e:((t.toNat:Int)==1)=false:=a 1 nl;have e:((t.toNat:Int)==2)=false:=a 2 nl;have e:((t.toNat:Int)==8)=false:=a 8 nl;have e:((t.toNat:Int)==9)=false:=a 9 nl;have e:((t.toNat:Int)==16)=false:=a 16 nl;have e:((t.toNat:Int)==17)=false:=a 17 nl;have e:((t.toNat:Int)==28)=false:=a 28 nl;have e:((t.toNat:Int)==36)=false:=a 36 nl;have e:((t.toNat:Int)==48)=false:=a 48 nl;clear a h;go_enter func148,ntmps148;go_wp2;go_ret2;exact rM
def di(t:UInt8)(k:Int)(w:rT)(h:Es t=some k):rH 148 #[.int .u8 (t.toNat:Int)] w λe w'=>e=.returned (.tuple #[[k],true])/\w=w':=by
 have a:t∈([1,2,8,9,16,17,28,36,48]:qq):=by
  refine Decidable.byContradiction λa=>?_
  simp only[Be,CW,or_false,not_or]at a;obtain⟨e,g,m,n,q,u,y,z,A⟩:=a;simp[Es, *]at h
 simp only[Be,CW,or_false]at a;rcases a with rfl|rfl|rfl|rfl|rfl|rfl|rfl|rfl|rfl;all_goals
  simp[Es]at h;subst h;simp only[UInt8.reduceToNat];go_enter func148,ntmps148;go_wp2;go_ret2;exact rM
def G5(a fb:Nat):Nat->Prop:=λk=>k=a\/k=fb
def Dj(w:rT)(v:rU)(rs:zE):Prop:=w.ownsRow 0 110 2 v rs.length (zw rs)/\∀i,i<rs.length->DE rs i<18446744073709551616/\DB rs i<18446744073709551616
def Dj.nil(w:rT):Dj w rV []:=⟨World.ownsRow_nil w 0 _ 2,λi a=>absurd a (Al i)⟩
variable{rs:zE}
def Dj.mod(h:Dj w v rs)(m:C9 S w w')(a:∀g,v.ownBlock=some g->¬S g):Dj w' v rs:=⟨m.owns h.1 a,h.2⟩
variable{T:Nat}
def Dj.mL{fz:Nat×Nat}(h:Dj w v rs)(a:w.heap[b]?=some (.cells cs T fz))(e:T≠110):¬v.ownBlock=some b:=by
 intro hb;rcases h.1.2 with⟨rfl,_⟩|⟨g,h,m,rfl,_,n,_⟩
 .cases hb
 simp[Value.ownBlock]at hb;subst hb;rw[n]at a;simp at a;exact e a.2.1.symm
def Dj.rr(h:Dj w v rs):RR w v rs:=by
 obtain⟨a,e,rfl,n,q,u⟩:=zi h.1;refine⟨a,e,rfl,n,q,λi m=>?_⟩;obtain⟨g,rfl⟩:=u I;have:=Hp h.1 i m;exact⟨g,0,rfl,qp this.1,qp this.2,h.2 i m⟩
def Jm(w:rT)(v:rU):Prop:=∀g o n c,v=.slice (some ⟨g,o,none⟩) n c->w.heap.size<=g
def f0(k:Int)(b:Bool):DF:={ kind:=k,stream:=0,off:=0,rel:=0,lF:=0,fin:=b,id:=0,dl:=0,data:=[],kC:=[] }
def JT(w:rT)(a:Nat)(v:rU)(fb:Nat)(r:Option (DF×Nat))(e:Ending)(w':rT):Prop :=
 (∃f g p,r=some (f,p)/\e=.returned (.tuple #[])/\EL w' a v p/\zp w' fb f g/\Dj w' g f.kC/\Jm w g/\C9 (G5 a fb) w w')\/(r=none/\e=Eb/\C9 (G5 a fb) w w')
variable{fb:Nat}
def Gk(m:C9 (DY rb) w w'):C9 (G5 rb fb) w w':=m.mono (λ_ h=>.inl (.inl h))
def Jm.nil(w:rT):Jm w (.slice none 0 0):=λ_ _ _ _ h=>by cases h
def NI(e fb a:Nat)(v:rU)(b:Bool)(w:rT)(h:EL w e v a)(g:zp w fb (f0 1 b) (.slice none 0 0)):rH 169 #[(e,0),(fb,0)] w (JT w e v fb (some (f0 1 b,a))):=by
 go_enter func169,ntmps169;go_wp2_with fail;exact bodyPost_end (results_none rfl _ _ _) rfl (.inl ⟨_,_,_,rfl,rfl,h,g,Dj.nil w,Jm.nil w,C9.refl _ _⟩)
variable{f:DF}{rv:rU}
def zp.set{f':DF}{rv':rU}(h:zp w b f rv)(a:(ze f rv).setIfInBounds i v=ze f' rv'):zp (w.setCell (b,i) v) b f' rv':=by
 unfold zp at h ⊢;rw[zc h,a]
def Lv(h:DU bs pos=some (n,p)):p<=bs.length:=(ET h).2.1
theorem jM(h:Et bs pos=some (n,p)):p<=bs.length:=by
 unfold Et at h;cases hr:DU bs pos with
 | none=>rw[hr]at h;cases h
 | some q =>
  rw[hr]at h;simp only[AX]at h;split at h
  .cases h;exact Lv hr
  cases h
theorem UN(h:E4 bs pos=some (l,p)):p<=bs.length:=by
 unfold E4 at h;cases hr:DU bs pos with
 | none=>rw[hr]at h;cases h
 | some q =>
  rw[hr]at h;have:=Lv hr;simp only[AX]at h;split at h
  .cases h;omega
  cases h
def In(b:Bool)(a:qq)(e:Nat):Option (DF×Nat) :=
 (Et a e).bind fun(x1,p1)=>(DU a p1).bind fun(x2,p2)=>(DU a p2).bind fun(x3,p3)=>some ({ f0 3 b with stream:=(x1:Int),off:=x2,rel:=x3 },p3)
def G4(b:Bool)(a:qq)(e:Nat):Option (DF×Nat) :=
 (Et a e).bind fun(x1,p1)=>(DU a p1).bind fun(x2,p2)=>(E4 a p2).bind fun(x3,p3)=>some ({ f0 4 b with stream:=(x1:Int),off:=x2,data:=x3 },p3)
def Gq(b:Bool)(e:qq)(a:Nat):Option (DF×Nat) :=
 (Et e a).bind fun(x1,p1)=>(DU e p1).bind fun(x2,p2)=>some ({ f0 6 b with stream:=(x1:Int),lF:=x2 },p2)
def Im(b:Bool)(a:qq)(e:Nat):Option (DF×Nat) :=
 (DU a e).bind fun(x1,p1)=>(DU a p1).bind fun(x2,p2)=>(E4 a p2).bind fun(x3,p3)=>some ({ f0 7 b with id:=x1,dl:=x2,data:=x3 },p3)
def zp.qA{f':DF}{x y:rU}(h:zp w b f rv)(a:((ze f rv).setIfInBounds i x).setIfInBounds j y=ze f' rv):zp ((w.setCell (b,i) x).setCell (b,j) y) b f' rv:=by
 unfold zp at h ⊢;rw[zc (zc h),a]
def zp.qS{f':DF}{x y z:rU}(h:zp w b f rv)(a:(((ze f rv).setIfInBounds i x).setIfInBounds j y).setIfInBounds k z=ze f' rv):zp (((w.setCell (b,i) x).setCell (b,j) y).setCell (b,k) z) b f' rv:=by
 unfold zp at h ⊢;rw[zc (zc<|zc h),a]
variable{w1:rT}
def PT{α : Type}{r:Option (α × Nat)}{val : α -> rU}{F:Nat}{R:Option (DF×Nat)}{k : α × Nat->Option (DF×Nat)}(c:rH F #[.pointer rb] w1 (Ov w1 rb v (r.map λq=>(val q.1,q.2))))(g:∀{x p'},r=some (x,p')->p'<=bs.length)(M:C9 (DY rb) w w1)(J:R=r.bind k):rH F #[.pointer rb] w1 λe w'=>(∃x p',e=.returned (val x)/\EL w' rb v p'/\p'<=bs.length/\C9 (DY rb) w w'/\R=k (x,p'))\/(e=Eb/\C9 (DY rb) w w'/\R=none):=by
 refine c.mono ?_;rintro e w' (⟨_,_,a,rfl,h,m⟩|⟨a,n,u⟩)<;>cases r
 .cases a
 .cases a;exact .inl ⟨_,_,rfl,h,g rfl,M.trans m,J⟩
 .exact .inr ⟨n,M.trans u,J⟩
 cases a
theorem reads(q fb a:Nat)(v:rU)(u:qq)(b:Bool)(w:rT)(h:EL w q v a)(hb:BR w v u)(L:DN (G5 q fb) v)(D:a<=u.length)(E:fb≠q):(zp w fb (f0 3 b) (.slice none 0 0)->rH 175 #[(q,0),(fb,0)] w (JT w q v fb (In b u a))) /\
  (zp w fb (f0 4 b) (.slice none 0 0)->rH 180 #[(q,0),(fb,0)] w (JT w q v fb<|G4 b u a)) /\
  (zp w fb (f0 6 b) (.slice none 0 0)->rH 186 #[(q,0),(fb,0)] w (JT w q v fb<|Gq b u a)) /\
  (zp w fb (f0 7 b) (.slice none 0 0)->rH 188 #[(q,0),(fb,0)] w (JT w q v fb<|Im b u a)):=by
 have y:=zb<|show DN (DY q) v from λg o n c e N=>L g o n c e<|.inl N;have z:=zb<|C9.refl (DY q) w;have K:=zb hb;have B:=zb E;have C:=zb h;clear hb L E h;refine⟨λA=>?_,λA=>?_,λA=>?_,λA=>?_⟩;generalize hR:In b u a=R;have J:=zb hR.symm;have G:=zb A;clear A hR;go_enter func175,ntmps175;rotate_left;generalize hR:G4 b u a=R;have J:=zb hR.symm;have G:=zb A;clear A hR;go_enter func180,ntmps180;rotate_left;generalize hR:Gq b u a=R;have J:=zb hR.symm;have G:=zb A;clear A hR;go_enter func186,ntmps186;rotate_left;generalize hR:Im b u a=R;have J:=zb hR.symm;have G:=zb A;clear A hR;go_enter func188,ntmps188;all_goals
  go_wp2_with fail;repeat
   first
   | refine(PT (val:=λn:Nat=>.int .u64 n) (IM q _ v u _ C.z (K.z.mod z.z y.z) y.z D) Lv z.z J.z).mono ?_
   | refine(PT (val:=λn:Nat=>.int .i64 n) (i4 q _ v u _ C.z (K.z.mod z.z y.z) y.z D) jM z.z J.z).mono ?_
   | refine(PT (val:=λs:qq=>.string<|zy s) (dm q _ v u _ C.z (K.z.mod z.z y.z) y.z D) UN z.z J.z).mono ?_
   clear z C D J;try clear k0 k1 k2 k3 k4 k5 k6 k7 k8 k9 hfz
   rintro e O (⟨a,g,rfl,h,D,m,j⟩|⟨M,m,j⟩);rotate_left
   .have J:=zb j;have z:=zb m;clear j m;unfold Eb at M;subst M;go_wp2_with fail;exact⟨rfl,.inr ⟨J.z,rfl,Gk z.z⟩⟩
   have a:=G.z.mod m B.z;obtain⟨k0,k1,k2,k3,k4,k5,k6,k7,k8,k9⟩:=a.cells;have hfz:∀j,O.frozen? ⟨fb,j,none⟩=false:=λj=>zd a
   have C:=zb h;have z:=zb m;have J:=zb j;clear h m j a;go_wp2_with fail
  refine bodyPost_end (results_none rfl _ _ _) rfl (.inl ⟨_,.slice none 0 0,_,J.z,rfl,C.z.mod (S:=λk=>k=fb) ?_<|λe=>B.z e.symm,?_,Dj.nil _,Jm.nil w,?_⟩)
  .repeat (refine C9.setCell ?_ (.inl<|by exact rfl) _)
   exact C9.refl _ _
  .have a:=G.z.mod z.z B.z
   first|(with_reducible refine a.qS ?_)|(with_reducible refine a.qA ?_)
   rfl
  repeat (refine C9.setCell ?_ (.inl<|by exact .inr rfl) _)
  exact Gk z.z
def Fj(k:Int)(b:Bool)(e:qq)(a:Nat):Option (DF×Nat):=(DU e a).bind fun(x1,p1)=>some ({ f0 k b with lF:=x1 },p1)
theorem TB(q fb g a:Nat)(k:Int)(v:rU)(u:qq)(b:Bool)(w:rT)(h:EL w q v a)(hb:BR w v u)(E:DN (G5 q fb) v)(M:a<=u.length)(G:zp w fb (f0 k b) (.slice none 0 0))(y:fb≠q)
  (n:w g=some (.func (.func 184) #[] #[])) :
  rH 192 #[(q,0),(fb,0),(g,0)] w (JT w q v fb<|Fj k b u a):=by
 have z:DN (DY q) v:=λg o n c e m=>E g o n c e<|.inl m
 have c1:=IM q a v u w h hb z M;have N:=zb G;have A:=zb y;clear hb E G z y h;cases hr1:DU u a with
 | none =>
  rw[hr1]at c1;have O:AA (Fj k b u a=none):=by show _=_;unfold Fj;rw[hr1];rfl
  clear hr1;go_enter func192,ntmps192;go_wp2_with (first|(go_at_call 184;refine(QL _ _).mono ?_;rintro e w' ⟨rfl,rfl⟩)|(go_at_call 145;refine c1.mono ?_;rintro e w' (⟨_,_,m,_⟩|⟨_,K,R⟩);cases m;unfold Eb at K;subst K));exact⟨rfl,.inr ⟨O.z,rfl,Gk R⟩⟩
 | some q1 =>
  obtain⟨B,X⟩:=q1;rw[hr1]at c1;have C:=zb hr1;clear hr1;go_enter func192,ntmps192;go_wp2_with (go_at_call 184;refine(QL _ _).mono ?_;rintro e w' ⟨rfl,rfl⟩);refine c1.mono ?_;rintro e Y (⟨_,_,m,rfl,L,D⟩|⟨m,_⟩);rotate_left
  .cases m
  simp only[BP,BQ,Bg]at m;obtain⟨rfl,rfl⟩:=m;have g:=zb D;have h:=zb L;have a:=N.z.mod D A.z;obtain⟨m,n,q,u,y,z,E,G,K,M⟩:=a.cells;have m:∀j,Y.frozen? ⟨fb,j,none⟩=false:=λj=>zd a
  have m:=zb a;clear a L c1 D;go_wp2_with fail;refine bodyPost_end (results_none rfl _ _ _) rfl (.inl ⟨{ f0 k b with lF:=B },.slice none 0 0,X,?_,rfl,?_,?_,Dj.nil _,Jm.nil w,((Gk g.z).setCell (p:=U fb 4) (.inl<|.inr rfl) _)⟩)
  .unfold Fj;simp only[C.z,AX]
  .exact h.z.mod ((C9.refl (λk=>k=fb) _).setCell (p:=U fb 4) rO _) (λe=>A.z e.symm)
  exact(m.z).set (i:=4) (v:=.int .u64 B) (f':={ f0 k b with lF:=B }) (rv':=.slice none 0 0) rfl
def Ea(a:qq):Nat->Nat->Nat->Nat->Nat->zE->Option (zE×Nat)
 | 0,_,_,_,_,_=>none
 | fuel+1,hi,n,size,pos,acc =>
  if hi<size then none
  else if n=0 then some (acc++[(hi-size,hi)],pos)
  else(DU a pos).bind λe=>(DU a e.2).bind λg =>
   if hi-size<2\/hi-size-2<e.1 then none else Ea a fuel (hi-size-2-e.1) (n-1) g.1 g.2 (acc++[(hi-size,hi)])
def El(b:Bool)(a:qq)(e:Nat):Option (DF×Nat) :=
 (DU a e).bind λe=>(DU a e.2).bind λg=>(DU a g.2).bind λh =>
  (Ea a (a.length+1) e.1 g.1 h.1 h.2 []).bind λr=>some ({ f0 2 b with kC:=r.1 },r.2)
def gl:(prog.info? 110).map (λi=>(i.zero,i.size,i.bytes))=some (some (.agg #[.int .u64 0,.int .u64 0]),2,16):=kw
def Jz(w:rT)(v:rU)(rs:zE)(lo hi:Nat)(h:w.ownsRow 0 110 2 v rs.length (zw rs))(a:rs.length<=1099511627776):∃e w',(∀a,(Builtin.append_ #[46,46] a #[v,.slice w 1 1]).run prog (w.alloc (.cells #[lo,hi] 110))=.ok e w') /\
   w'.ownsRow 0 110 2 e (rs++[(lo,hi)]).length (zw<|rs++[(lo,hi)])/\w.grownBy w' v.ownBlock/\Dh w v e:=by
 obtain⟨i,m,z,n,q⟩:=info_parts gl;have a:∀(j:Nat) u,(zw [(lo,hi)])[j]?=some u->(w.alloc<|.cells #[lo,hi] 110) ((⟨w.heap.size,0,none⟩:Addr).add j)=some u:=by
  intro j u A;rw[EU];refine za (heap_alloc_new w _) ?_;rw[An,<-Array.getElem?_toList];exact A
 obtain⟨e,w',B,C,g,D,A⟩:=KZ (P:=prog) (w.alloc<|.cells #[lo,hi] 110) 46 110 i (.agg #[.int .u64 0,.int .u64 0]) 2 16 underlying46 m z n q rfl lc v rs.length (zw rs) (World.ownsRow.alloc h _)
  ⟨w.heap.size,0,none⟩ 1 1 (zw [(lo,hi)]) rfl a (by intro u y;simp[zw]at y;rcases y with rfl|rfl<;>rfl) pi I
 refine⟨e,w',B,?_,?_,?_⟩
 .rw[AF,JK];exact C
 .exact⟨g.os,g.tape,g.output,AR nl g.size,λk a e=>(g.block k ol e).trans<|Below.heap_alloc w _ k a⟩
 intro k a;rcases D k a with x|x
 .exact .inl x
 exact .inr<|by simp at x;omega
def Iz(w:rT)(a:Nat):Nat:=match w (a,1)with
 | some (.int _ n)=>n.toNat
 | _=>0
def OJ(h:EL w rb v pos):Iz w rb=pos:=by
 unfold Iz;rw[h.c1];simp
def O7(w wr:rT)(q fb:Nat)(v:rU)(b:Bool)(h:qq)(hi n size:Nat)(R:Option (zE×Nat)):Prop :=
 ∃fuel e a m,EL wr q v e/\zp wr fb { f0 2 b with kC:=a } m/\wr.ownsRow 0 110 2 m a.length (zw a)/\(∀g,m.ownBlock=some g->w.heap.size<=g) /\
  (∀i,i<a.length->DE a i<18446744073709551616/\DB a i<18446744073709551616)/\e<=h.length/\h.length-e<fuel/\a.length<=e/\C9 (G5 q fb) w wr /\
  hi<4611686018427387904/\n<4611686018427387904/\size<4611686018427387904/\Ea h fuel hi n size e a=R
variable{hi lo:Nat}
def i3{a:zE}(h:∀i,i<a.length->DE a i<18446744073709551616/\DB a i<18446744073709551616)(m:lo<18446744073709551616)(n:hi<18446744073709551616):∀i,i<(a++[(lo,hi)]).length->DE (a++[(lo,hi)]) i<18446744073709551616/\DB (a++[(lo,hi)]) i<18446744073709551616:=by
 intro i g;by_cases e:i<a.length
 .have:=h i e;unfold DE DB at this ⊢;rw[AQ,Ag e,<-List.getD_eq_getElem?_getD];exact this
 have:i=a.length:=by simp at g;omega
 subst this;simp[DE,DB,m,n]
variable{e g m o sz:Nat}{xs:qt}
def dh{c:Nat}(h:w.ownsRow 0 e sz v n xs)(a:v=.slice (g,o) m c):v.ownBlock=some g:=by
 rcases h.2 with⟨rfl,_⟩|⟨h,e,g,rfl,_⟩
 .cases a
 cases a;rfl
def Uy(h:w.ownsRow 0 110 2 v n xs)(a:zp w b f rv):¬v.ownBlock=some b:=by
 intro hb;rcases h.2 with⟨rfl,_⟩|⟨g,e,h,rfl,_,m,_⟩
 .cases hb
 simp[Value.ownBlock]at hb;subst hb;unfold zp at a;rw[m]at a;simp at a
variable{v':rU}
def U4(h:w.ownsRow 0 110 2 v n xs)(a:EL w b v' pos):¬v.ownBlock=some b:=by
 intro hb;rcases h.2 with⟨rfl,_⟩|⟨g,e,h,rfl,_,m,_⟩
 .cases hb
 simp[Value.ownBlock]at hb;subst hb;unfold EL at a;rw[m]at a;simp at a
theorem iz(E fb m:Nat)(v:rU)(u:qq)(b:Bool)(w:rT)(h:EL w E v m)(hb:BR w v u)(hv:DN (G5 E fb) v)(hp:m<=u.length)(aY:u.length<=1099511627776)(hf:zp w fb (f0 2 b) (.slice none 0 0))(aA:fb≠E):rH 172 #[(E,0),(fb,0)] w (JT w E v fb (El b u m)):=by
 have aB:DN (DY E) v:=λg o n c e a=>hv g o n c e<|.inl a
 have aO:=zb<|C9.refl (DY E) w;have Hb:=zb hb;have Hf:=zb hf;have Hv:=zb aB;have aC:=zb hv;have an:=zb aA;clear hb hv hf aB aA;have c1:=IM E m v u w h (Hb.z) Hv.z hp;cases hr1:DU u m with
 | none =>
  rw[hr1]at c1;have K:AA (El b u m=none):=by
   show _=_;unfold El;simp only[hr1,AX,CU]
  clear hr1;go_enter func172,ntmps172;go_wp2_with (go_at_call 145;refine c1.mono ?_;rintro e w' (⟨_,_,a,_⟩|⟨_,A,O⟩);cases a;unfold Eb at A;subst A);exact⟨rfl,.inr ⟨K.z,rfl,Gk<|O⟩⟩
 | some q1 =>
  obtain⟨x1,p1⟩:=q1;rw[hr1]at c1;have aP:=Lv hr1;have aD:=(ET hr1).2.2;have ao:=zb hr1;clear hr1;go_enter func172,ntmps172;go_wp2_with fail;refine c1.mono ?_;rintro e w1 (⟨_,_,a,rfl,h1,m1⟩|⟨a,_⟩);rotate_left
  .cases a
  simp only[BP,BQ,Bg]at a;obtain⟨rfl,rfl⟩:=a;have ap:=zb<|aO.z.trans m1;clear c1 m1;have c2:=IM E p1 v u w1 h1 (Hb.z.mod ap.z Hv.z) Hv.z aP;cases hr2:DU u p1 with
  | none =>
   rw[hr2]at c2;have K:AA (El b u m=none):=by
    show _=_;unfold El;simp only[ao.z,hr2,AX,CU]
   clear hr2;go_wp2_with (go_at_call 145;refine c2.mono ?_;rintro e w' (⟨_,_,a,_⟩|⟨_,A,O⟩);cases a;unfold Eb at A;subst A);exact⟨rfl,.inr ⟨K.z,rfl,Gk<|ap.z.trans O⟩⟩
  | some q2 =>
   obtain⟨x2,p2⟩:=q2;rw[hr2]at c2;have aQ:=Lv hr2;have aE:=(ET hr2).2.2;have aF:=zb hr2;clear hr2;go_wp2_with fail;refine c2.mono ?_;rintro e w2 (⟨_,_,a,rfl,h2,m2⟩|⟨a,_⟩);rotate_left
   .cases a
   simp only[BP,BQ,Bg]at a;obtain⟨rfl,rfl⟩:=a;have aq:=zb<|ap.z.trans m2;clear c2 m2;have c3:=IM E p2 v u w2 h2 (Hb.z.mod aq.z Hv.z) Hv.z aQ;cases hr3:DU u p2 with
   | none =>
    rw[hr3]at c3;have K:AA (El b u m=none):=by
     show _=_;unfold El;simp only[ao.z,aF.z,hr3,AX,CU]
    clear hr3;go_wp2_with (go_at_call 145;refine c3.mono ?_;rintro e w' (⟨_,_,a,_⟩|⟨_,A,O⟩);cases a;unfold Eb at A;subst A);exact⟨rfl,.inr ⟨K.z,rfl,Gk<|aq.z.trans O⟩⟩
   | some q3 =>
    obtain⟨x3,p3⟩:=q3;rw[hr3]at c3;have aR:=Lv hr3;have aG:=(ET hr3).2.2;have aS:=zb hr3;clear hr3;go_wp2_with fail;refine c3.mono ?_;rintro e w3 (⟨_,_,a,rfl,h3,m3⟩|⟨a,_⟩);rotate_left
    .cases a
    simp only[BP,BQ,Bg]at a;obtain⟨rfl,rfl⟩:=a;have aH:=zb<|aq.z.trans m3;clear c3 m3;obtain⟨R,Z⟩:=nm<|Ea u (u.length+1) x1 x2 x3 p3 [];have hA:O7 w w3 E fb v b u x1 x2 x3 R:=⟨u.length+1,p3,[],.slice none 0 0,h3,Hf.z.mod aH.z an.z,World.ownsRow_nil w3 0 _ 2,(λg hg=>by cases hg),(λi z=>absurd z<|Al i),aR,I,AK _,Gk aH.z,aD,aE,aG,Z⟩;have HA:=zb hA;have X:AA (El b u m=R.bind λr=>some ({ f0 2 b with kC:=r.1 },r.2)):=by
     show _=_;unfold El;simp only[ao.z,aF.z,aS.z,AX,Z]
    clear hA Z h3 h2 h1 h aD aE aG;go_wp2_with fail
    go_loopw [4,5,6,7,8] (λz n D _ _ wr=>∃hi' n' size':Nat,z=.int .u64 hi'/\n=.int .u64 n'/\D=.int .u64 size'/\O7 w wr E fb v b u hi' n' size' R) (λ_ _ _ _ _ wr=>u.length-Iz wr E)
    case atStart=>exact⟨x1,x2,x3,rfl,rfl,rfl,HA.z⟩
    case round =>
     obtain⟨z,n,D,rfl,rfl,rfl,fuel,q,y,rv,aa,M,B,ab,ar,hq,h,aZ,O,b1,b2,b3,Z⟩:=hrel;obtain⟨fuel,rfl⟩:∃f,fuel=f+1:=⟨fuel-1,I⟩;unfold Ea at Z;have aT:=zb aa;have h:=zb M;have h:=zb B;have ai:=zb ab;have aU:=zb ar;have Hm:=zb O;by_cases d1:z<D
     .rw[AL d1]at Z;have K:AA (El b u m=none):=by show _=_;rw[X.z,<-Z];rfl
      clear Z aa M B ab ar O;go_wp2_with (go_at_call 146;refine(JC _ _).mono ?_;rintro e w' ⟨A,rfl⟩;unfold Eb at A;subst A);exact⟨rfl,.inr ⟨K.z,rfl,Hm.z⟩⟩
     rw[AH d1]at Z;have h:IntKind.u64.wrap ((z:Int)-D)=((z-D:Nat):Int):=by rw[IntKind.wrap_u64];omega
     obtain⟨C,au⟩:=nm<|z-D;rw[au]at h Z;have h:C<=z:=I;obtain⟨h,D,k2,k3,k4,k5,k6,k7,k8,k9⟩:=M.cells;have h:∀j,wr.frozen? ⟨fb,j,none⟩=false:=λj=>zd M
     obtain⟨h,W2,hr2,ac,aI,aJ⟩:=Jz wr rv y C z B I;obtain⟨ra,rc,rfl,_⟩:=zi B;have aK:=zb Z;have h:=Uy B M;have D:=U4 B aa;have mg:=rS.grown aI<|λk hk=>.inl hk;have N:=M.mod mg h;have aj:=aa.mod mg D;have h:=N.cells.2.2.2.2.2.2.2.2.2;have h:∀j,W2.frozen? ⟨fb,j,none⟩=false:=λj=>zd N
     obtain⟨a2,c2,rfl,_⟩:=zi ac;have h:=zb ac;have ak:=zb N;have aL:=zb aj;have aV:=zb mg;have aM:=zb aJ;have D:=zb au;clear Z aa M B ab ar O ac aI aJ mg N aj au;obtain⟨M,av⟩:=nm<|W2.setCell (U fb 9)<|.slice a2 (y.length+1) c2;have B:(y++[(C,z)]).length=y.length+1:=nl;have D:C9 (λk=>k=fb) W2 M:=by rw[<-av];exact(C9.refl (λk=>k=fb) W2).setCell (p:=U fb 9) rO _
     have ad:=zb<|aL.z.mod D<|λe=>an.z e.symm;have al:AA (zp M fb { f0 2 b with kC:=y++[(C,z)] }<|.slice a2 (y.length+1) c2):=by
      show zp _ _ _ _;rw[<-av];exact ak.z.set rfl
     have G:AA (M.ownsRow 0 110 2 (.slice a2 (y.length+1) c2) (y++[(C,z)]).length<|zw<|y++[(C,z)]):=by
      show World.ownsRow _ _ _ _ _ _ _;have:=D.owns h.z (λg hg e=>Uy h.z ak.z (by rw[hg,e]));rw[B]at this ⊢;exact this
     have ag:AA (C9 (G5 E fb) w M):=(Hm.z.then aV.z<|λi z=>.inr<|ai.z i z).then D<|λi z=>.inl<|.inr z;have ae:AA (∀g,(Value.slice a2 (y.length+1) c2).ownBlock=some g->w.heap.size<=g):=by
      intro g hg;have h:Dh wr (Value.slice ra y.length rc) (.slice a2 (y.length+1) c2):=by rw[<-B];exact aM.z
      rcases h g hg with h1|h1
      .exact ai.z g h1
      have:=Hm.z.size;omega
     have am:=zb<|i3 aU.z (I:C<18446744073709551616) (I:z<18446744073709551616);have h:=Hb.z.mod ag.z aC.z;have Y:=IM E q v u M ad.z h Hv.z hq;clear D B h;by_cases hn:n=0
     .have K:AA (El b u m=some ({ f0 2 b with kC:=y++[(C,z)] },q)):=by
       show _=_;have:=aK.z;rw[AL hn]at this;rw[X.z,<-this];rfl
      have aW:((n:Int)==0)=true:=by simp[hn]
      clear hn Y;go_wp2_with (at_builtin;refine zm rfl _ _ _ _ rfl _ _ _ rfl rfl hr2 ?_);refine bodyPost_ret (results_none rfl _ _ _) rfl (.inl ⟨_,_,q,K.z,rfl,ad.z,al.z,?_,?_,ag.z⟩)
      .exact⟨G.z,am.z⟩
      intro g o n' h e;cases e;exact ae.z g<|dh G.z rfl
     have aW:((n:Int)==0)=false:=by rw[AM];omega
     have h:IntKind.u64.wrap ((n:Int)-1)=((n-1:Nat):Int):=by rw[IntKind.wrap_u64];omega
     have L:=aK.z;rw[AH hn]at L;have L:=zb L;cases hg1:DU u q with
     | none =>
      rw[hg1]at Y;have K:AA (El b u m=none):=by
       show _=_;have:=L.z;rw[hg1]at this;rw[X.z,<-this];rfl
      clear hg1 hn;go_wp2_with (first|(at_builtin;refine zm rfl _ _ _ _ rfl _ _ _ rfl rfl hr2 ?_)|(go_at_call 145;refine Y.mono ?_;rintro e w' (⟨_,_,a,_⟩|⟨_,A,O⟩);cases a;unfold Eb at A;subst A));exact⟨rfl,.inr ⟨K.z,rfl,ag.z.then (Gk O)<|λi z=>.inl z⟩⟩
     | some q1 =>
      obtain⟨pH,p4⟩:=q1;obtain⟨h,u2,B⟩:=ET hg1;rw[hg1]at Y;have ah:=zb hg1;clear hg1 hn;go_wp2_with (at_builtin;refine zm rfl _ _ _ _ rfl _ _ _ rfl rfl hr2 ?_);refine Y.mono ?_;rintro e w4 (⟨_,_,a,rfl,h4,m4⟩|⟨a,_⟩);rotate_left
      .cases a
      simp only[BP,BQ,Bg]at a;obtain⟨rfl,rfl⟩:=a;have aw:=zb<|ag.z.then (Gk (fb:=fb) m4)<|λi z=>.inl z;have af:=IM E p4 v u w4 h4 (Hb.z.mod aw.z aC.z) Hv.z u2;have aX:=zb m4;clear Y m4 h4 av;cases hg2:DU u p4 with
      | none =>
       rw[hg2]at af;have K:AA (El b u m=none):=by
        show _=_;have:=L.z;rw[ah.z,AX,hg2]at this;rw[X.z,<-this];rfl
       clear hg2;go_wp2_with (go_at_call 145;refine af.mono ?_;rintro e w' (⟨_,_,a,_⟩|⟨_,A,O⟩);cases a;unfold Eb at A;subst A);exact⟨rfl,.inr ⟨K.z,rfl,aw.z.then (Gk O)<|λi z=>.inl z⟩⟩
      | some q2 =>
       obtain⟨size',p5⟩:=q2;obtain⟨h,u5,u6⟩:=ET hg2;rw[hg2]at af;have ax:=zb hg2;clear hg2;go_wp2_with fail;refine af.mono ?_;rintro e w5 (⟨_,_,a,rfl,h5,m5⟩|⟨a,_⟩);rotate_left
       .cases a
       simp only[BP,BQ,Bg]at a;obtain⟨rfl,rfl⟩:=a;have ay:=zb<|aw.z.then (Gk (fb:=fb) m5)<|λi z=>.inl z;have aN:=zb<|aX.z.trans m5;have H5:=zb h5;clear af m5 h5;by_cases d2:C<2
       .have K:AA (El b u m=none):=by
         show _=_;have:=L.z;rw[ah.z,AX,ax.z,AX,AL (.inl d2)]at this;rw[X.z,<-this];rfl
        have e2:decide ((C:Int)<2)=true:=ol;go_wp2_with (go_at_call 146;refine(JC _ _).mono ?_;rintro e w' ⟨A,rfl⟩;unfold Eb at A;subst A);exact⟨rfl,.inr ⟨K.z,rfl,ay.z⟩⟩
       have e2:decide ((C:Int)<2)=false:=ol;have a:IntKind.u64.wrap ((C:Int)-2)=((C-2:Nat):Int):=by rw[IntKind.wrap_u64];omega
       have a:=zb d2;by_cases d3:C-2<pH
       .have K:AA (El b u m=none):=by
         show _=_;have:=L.z;rw[ah.z,AX,ax.z,AX,AL (.inr d3)]at this;rw[X.z,<-this];rfl
        have e3:decide (C-2<pH)=true:=qp d3;clear d2;go_wp2_with (go_at_call 146;refine(JC _ _).mono ?_;rintro e w' ⟨A,rfl⟩;unfold Eb at A;subst A);exact⟨rfl,.inr ⟨K.z,rfl,ay.z⟩⟩
       have e3:decide (C-2<pH)=false:=qp d3;have a:IntKind.u64.wrap (((C-2:Nat):Int)-pH)=((C-2-pH:Nat):Int):=by rw[IntKind.wrap_u64];omega
       have a:AA (O7 w w5 E fb v b u (C-2-pH) (n-1) size' R):=by
        refine⟨fuel,p5,y++[(C,z)],.slice a2 (y.length+1) c2,H5.z,al.z.mod aN.z an.z,aN.z.owns G.z<|λg hg e=>U4 G.z ad.z<|by rw[hg,e],ae.z,am.z,u5,I,ol,ay.z,I,I,u6,?_⟩;have:=L.z;rw[ah.z,AX,ax.z,AX,AH I]at this;exact this
       have e:AA (Iz w5 E=p5/\Iz wr E=q):=⟨OJ H5.z,OJ aT.z⟩;clear d2;go_wp2;go_roundw
       case rel=>exact⟨C-2-pH,n-1,size',by rfl,by rfl,rfl,a.z⟩
       case measure =>
        rw[e.z.1,e.z.2];omega
def zQ(k:Int)(b:Bool)(e:qq)(a:Nat):Option (DF×Nat) :=
 if k=1 then some (f0 1 b,a)
 else if k=2 then El b e a
 else if k=3 then In b e a
 else if k=4 then G4 b e a
 else if k=5 then Fj 5 b e a
 else if k=6 then Gq b e a
 else if k=7 then Im b e a
 else Fj 8 b e a
def IU(k:Int)(b:Bool)(m:qq)(v:rU)(w:rT)(e:Ending)(w':rT):Prop :=
 ∃g h F a G,e=.returned (.pointer<|some ⟨g,0,none⟩)/\IC w' g h (.func (.func F) #[] a) (.func (.func G) #[] #[])/\Eg F/\Eg G/\C9 DA w w'/\w.heap.size<=g /\
  (∀g h e,EL w' g v e->BR w' v m->DN (G5 g h) v->e<=m.length->m.length<=1099511627776->zp w' h (f0 k b) (.slice none 0 0)->h≠g->rH F (#[.pointer (some ⟨g,0,none⟩),.pointer (some ⟨h,0,none⟩)]++a) w' (JT w' g v h<|zQ k b m e)) /\
  (∀Y a f e,zp Y a f e->RR Y e f.kC->f.kind=k->f.kC.length<=1099511627776->f.data.length<=35184372088832->D8 f=true->rH G #[.pointer (some ⟨a,0,none⟩)] Y (EX Y<|zP f))
def TA:Eg 192:=Fh func192 kw rfl
def Xd:Eg 186:=Fh func186 kw rfl
def Xc:Eg 188:=Fh func188 kw rfl
def Xb:Eg 169:=Fh func169 kw rfl
def Xa:Eg 175:=Fh func175 kw rfl
def XZ:Eg 180:=Fh func180 kw rfl
def XY:Eg 172:=Fh func172 kw rfl
def XX(b:Bool)(g:qq)(v:rU)(w:rT):rH 149 #[.int .i64 1] w (IU 1 b g v w):=by
 refine(NS w).mono ?_;rintro e w' ⟨a,rfl,h,m,hb⟩;refine⟨a,_,169,#[],170,rfl,h,Xb,IJ,m,hb,λm n a h hb u y z e q=>by rw[show zQ 1 b g a=some (f0 1 b,a)by simp[zQ]];exact NI m n a v b w' h e,λY g f h e e a m hd n=>?_⟩;rw[show zP f=(true)by simp[zP,a]];exact IH _ Y
def XW(b:Bool)(g:qq)(v:rU)(w:rT):rH 149 #[.int .i64 2] w (IU 2 b g v w):=by
 refine(NR w).mono ?_;rintro e w' ⟨a,rfl,h,m,hb⟩;refine⟨a,_,172,#[],173,rfl,h,XY,TC,m,hb,λn q a h hb u y z e m=>by rw[show zQ 2 b g a=El b g a by simp[zQ]];exact iz n q a v g b w' h hb u y z e m,λY a f g e h m n hd q=>?_⟩;rw[show zP f=(EQ f.kC)by simp[zP,m]];exact Um a f g Y e h n
def YL(b:Bool)(g:qq)(v:rU)(w:rT):rH 149 #[.int .i64 3] w (IU 3 b g v w):=by
 refine(NQ w).mono ?_;rintro e w' ⟨a,rfl,h,m,hb⟩;refine⟨a,_,175,#[],177,rfl,h,Xa,TF,m,hb,λn q a h hb u y z e m=>by rw[show zQ 3 b g a=In b g a by simp[zQ]];exact(reads n q a v g b w' h hb u y m).1 e,λY a f g e m h n hd q=>?_⟩;rw[show zP f=(decide<|f.rel<=f.off)by simp[zP,h]];exact RV a f g Y e
def YK(b:Bool)(g:qq)(v:rU)(w:rT):rH 149 #[.int .i64 4] w (IU 4 b g v w):=by
 refine(NO w).mono ?_;rintro e w' ⟨a,rfl,h,m,hb⟩;refine⟨a,_,180,#[],182,rfl,h,XZ,TE,m,hb,λn q a h hb u y z e m=>by rw[show zQ 4 b g a=G4 b g a by simp[zQ]];exact(reads n q a v g b w' h hb u y m).2.1 e,λY a f g e n h q hd m=>?_⟩;rw[show zP f=(decide<|f.data.length+f.off<=4611686018427387903)by simp[zP,h]];exact RU a f g Y e (Qf m).1 I
def YJ(b:Bool)(m:qq)(v:rU)(w:rT):rH 149 #[.int .i64 5] w (IU 5 b m v w):=by
 refine(NN w).mono ?_;rintro e w' ⟨a,tb,q,rfl,h,g,n,hb,_,_⟩;refine⟨a,_,_,_,170,rfl,h,TA,IJ,n,hb,λu y a h hb z A B n e=>by rw[show zQ 5 b m a=Fj 5 b m a by simp[zQ]];exact TB u y q a 5 v m b w' h hb z A n e g.2,λY e f g n h a m hd n=>?_⟩;rw[show zP f=(true)by simp[zP,a]];exact IH _ Y
def YI(b:Bool)(g:qq)(v:rU)(w:rT):rH 149 #[.int .i64 6] w (IU 6 b g v w):=by
 refine(NM w).mono ?_;rintro e w' ⟨a,rfl,h,m,hb⟩;refine⟨a,_,186,#[],170,rfl,h,Xd,IJ,m,hb,λn q a h hb u y z m e=>by rw[show zQ 6 b g a=Gq b g a by simp[zQ]];exact(reads n q a v g b w' h hb u y e).2.2.1 m,λY e f g m h a m hd n=>?_⟩;rw[show zP f=(true)by simp[zP,a]];exact IH _ Y
def YH(b:Bool)(g:qq)(v:rU)(w:rT):rH 149 #[.int .i64 7] w (IU 7 b g v w):=by
 refine(NL w).mono ?_;rintro e w' ⟨a,rfl,h,m,hb⟩;refine⟨a,_,188,#[],170,rfl,h,Xc,IJ,m,hb,λn q a h hb u y z m e=>by rw[show zQ 7 b g a=Im b g a by simp[zQ]];exact(reads n q a v g b w' h hb u y e).2.2.2 m,λY e f g m h a m hd n=>?_⟩;rw[show zP f=(true)by simp[zP,a]];exact IH _ Y
def YG(b:Bool)(m:qq)(v:rU)(w:rT):rH 149 #[.int .i64 8] w (IU 8 b m v w):=by
 refine(NK w).mono ?_;rintro e w' ⟨a,tb,q,rfl,h,g,n,hb,_,_⟩;refine⟨a,_,_,_,170,rfl,h,TA,IJ,n,hb,λu y a h hb z A B n e=>by rw[show zQ 8 b m a=Fj 8 b m a by simp[zQ]];exact TB u y q a 8 v m b w' h hb z A n e g.2,λY e f g n h a m hd n=>?_⟩;rw[show zP f=(true)by simp[zP,a]];exact IH _ Y
def gk(t:UInt8)(k:Int)(e:Es t=some k)(b:Bool)(a:qq)(v:rU)(w:rT):rH 149 #[[k]] w (IU k b a v w):=by
 have g:k=1\/k=2\/k=3\/k=4\/k=5\/k=6\/k=7\/k=8:=by
  unfold Es at e;repeat' split at e
  all_goals simp at e
  all_goals omega
 rcases g with rfl|rfl|rfl|rfl|rfl|rfl|rfl|rfl
 .exact XX b a v w
 .exact XW b a v w
 .exact YL b a v w
 .exact YK b a v w
 .exact YJ b a v w
 .exact YI b a v w
 .exact YH b a v w
 exact YG b a v w
def E0(a:List (DF×rU)):List rU:=a.flatMap λx=>(ze x.1 x.2).toList
def je(a b:List (DF×rU)):E0 (a++b)=E0 a++E0 b:=by simp[E0]
theorem jd(a:List (DF×rU)):(E0 a).length=a.length*10:=by
 induction a with
 | nil=>rfl
 | cons x a ih =>
  have:E0 (x::a)=(ze x.1 x.2).toList++E0 a:=rfl;rw[this,AF,ih];simp[ze];omega
theorem Ta(a:List (DF×rU)):∀i x,a[i]?=some x->∀j u,(ze x.1 x.2)[j]?=some u->(E0 a)[i*10+j]?=some u:=by
 induction a with
 | nil=>intro i x h;simp at h
 | cons y a ih =>
  intro i x h j u g;have m:((ze y.1 y.2).toList).length=10:=rfl;have e:E0 (y::a)=(ze y.1 y.2).toList++E0 a:=rfl;cases i with
  | zero =>
   simp only[List.getElem?_cons_zero,BQ]at h;subst h;have a:j<10:=(AJ.1 g).1;rw[e,B6,An,Ag I,Ba];exact g
  | succ i =>
   simp only[Cr]at h;rw[e,(I:(i+1)*10+j=10+(i*10+j)),Ac I,m,CB];exact ih i x h j u g
def EV(w:rT)(v:rU)(a:List (DF×rU)):Prop:=w.ownsRow 0 48 10 v a.length (E0 a)/\∀x∈a,Dj w x.2 x.1.kC
def EV.qO{e:List (DF×rU)}(h:EV w v e):FE w v e:=by
 obtain⟨a,m,rfl,q,u,y⟩:=zi h.1;refine⟨a,m,rfl,q,u,λi fr n=>⟨?_,(h.2 fr<|AZ n).rr⟩⟩;have a:=(AO.1 n).1;obtain⟨g,rfl⟩:=y I;refine⟨g,0,rfl,λj x a=>?_⟩;have:=h.1.cells (g:=g) rfl _ _ (Ta e i fr n j x a);rw[EU]at this;rw[An]at this
 rwa [An]
def gj:(prog.info? 48).map (λi=>(i.zero,i.size,i.bytes))=some (some (.agg #[.int .i64 0,.int .i64 0,.int .u64 0,.int .u64 0,.int .u64 0,.bool false,.int .u64 0,.int .u64 0,.string ⟨#[]⟩,.slice none 0 0]),10,104):=kw
def iy(f:DF)(a:qs)(n c:Nat):∀u∈(ze f (.slice a n c)).toList,u.oneCell'=true:=by
 intro u e;simp[ze]at e;rcases e with rfl|rfl|rfl|rfl|rfl|rfl|rfl|rfl|rfl|rfl<;>rfl
def P7(w:rT)(v:rU)(e:List (DF×rU))(f:DF)(a:qs)(n c:Nat)(h:w.ownsRow 0 48 10 v e.length (E0 e))(g:e.length<=1099511627776):∃m w',(∀g,(Builtin.append_ #[35,35] g #[v,.slice w 1 1]).run prog (w.alloc (.cells (ze f (.slice a n c)) 48))=.ok m w') /\
   w'.ownsRow 0 48 10 m (e.length+1) (E0<|e++[(f,.slice a n c)])/\w.grownBy w' v.ownBlock/\Dh w v m:=by
 obtain⟨i,y,C,z,A⟩:=info_parts gj;have B:E0 [(f,.slice a n c)]=(ze f<|.slice a n c).toList:=by simp[E0]
 have g:∀(j:Nat) u,(E0 [(f,.slice a n c)])[j]?=some u->(w.alloc<|.cells (ze f<|.slice a n c) 48) ((⟨w.heap.size,0,none⟩:Addr).add j)=some u:=by
  intro j u q;rw[EU];refine za (heap_alloc_new w _) ?_;rw[An,<-Array.getElem?_toList,<-B];exact q
 obtain⟨m,w',u,D,q,E,G⟩:=KZ (P:=prog) (w.alloc<|.cells (ze f<|.slice a n c) 48) 35 48 i _ 10 104 underlying35 y C z A rfl lc v e.length (E0 e) (World.ownsRow.alloc h _)
  ⟨w.heap.size,0,none⟩ 1 1 (E0 [(f,.slice a n c)]) (by rw[jd];rfl) g (by rw[B];exact iy f a n c) pi I
 refine⟨m,w',u,?_,?_,?_⟩
 .rw[je];exact D
 .exact⟨q.os,q.tape,q.output,AR nl q.size,λk a e=>(q.block k ol e).trans<|Below.heap_alloc w _ k a⟩
 intro k a;rcases E k a with x|x
 .exact .inl x
 exact .inr<|by simp at x;omega
def Nk(G:rT->Prop):Exit->Act->rT->Prop:=λe a w'=>(e=.normal\/e=.ret)/\a.defers=[]/\G w'
def gh(a b c:rU)(w:rT):CallsD prog 144 #[a,b,c] .returning w λe m w'=>e=.returned (.tuple #[])/\m=.returning/\w'=w:=by
 refine callsD_of_wpS func144 rfl λg cs h=>?_
 apply wpS_seq;apply wpS_region;simp[wpOpsS,go_sem,recoverD,h,ntmps144,Exit.thenS];rw[(kw:#[a,b,c]++((Array.replicate 19 undef).setIfInBounds 3 Value.nilIface).setIfInBounds 0 Value.nilIface=(#[a,b,c,.nilIface,undef,undef,.nilIface,undef,undef,undef,undef,undef,undef,undef,undef,undef,undef,undef,undef,undef,undef,undef]:Array rU))];refine wpS_of_wp<|wp_mono (Q:=Nk<|λw'=>w'=w) ?_ ?_
 .go_wp2_with fail;exact⟨by first|exact .inl rfl|exact .inr rfl,rfl,rfl⟩
 rintro e a w' ⟨n,hd,rfl⟩;have q:({ g with mode:=.returning }:Frame)=g:=by
  cases g;simp at h;simp[h]
 rcases n with rfl|rfl;all_goals exact⟨hd,_,by rw[q],_,results_none rfl _ _ _,rfl,rfl,rfl⟩
def RQ(w:rT)(e g at_:Nat)(w':rT):Prop :=
 w'.heap[e]?=some (.cells #[.int .u64 0,.slice none 0 0] 37 (0,0)) /\
 (∃a,w'.heap[g]?=some (.cells #[.iface 178 (.pointer<|some ⟨a,0,none⟩)] 80 (0,0))/\w'.heap[a]?=some (.cells #[.int .i64 8,[at_]] 183 (0,0))/\w.heap.size<=a) /\
 C9 (λk=>k=e\/k=g) w w'
def ix(m a g at_:Nat)(n0 u z:rU)(h:List PanicEntry)(w:rT)(A:w m=some (.int .i64 at_))(q:w.heap[a]?=some (.cells #[n0,u] 37 (0,0)))(n:w.heap[g]?=some (.cells #[z] 80 (0,0)))(y:a≠g):CallsD prog 144 #[.pointer m,.pointer a,.pointer g] (.panicking ({ v:=.iface 230 (.agg #[]),recovered:=false }::h)) w λe B w' =>
   e=.returned (.tuple #[])/\B=.panicking ({ v:=.iface 230<|.agg #[],recovered:=true }::h)/\RQ w a g at_ w':=by
 refine callsD_of_wpS func144 rfl λB cs h=>?_
 have B:=zb q;have C:=zb n;have D:=zo<|za (o:=0) q rfl;have D:=zo<|za (o:=0) n rfl;have D:=zo A;have A:w a=some n0:=za (o:=0) q rfl;have A:w (a,1)=some u:=za (o:=1) q rfl;have u:w g=some z:=za (o:=0) n rfl;have u:∀w,(Instr.typeAssert (.iface 230<|.agg #[]) 20 230 true).run prog w=.ok (.tuple #[.agg #[],true]) w:=λ_=>kw
 have u:∀j,w.frozen? ⟨a,j,none⟩=false:=λj=>zd q
 have u:∀j,w.frozen? ⟨g,j,none⟩=false:=λj=>zd n
 apply wpS_seq;apply wpS_region;simp[wpOpsS,go_sem,recoverD,h,ntmps144,Exit.thenS];rw[(kw:#[Value.pointer m,Value.pointer a,Value.pointer g]++((Array.replicate 19 undef).setIfInBounds 3<|Value.iface 230<|.agg #[]).setIfInBounds 0 (Value.iface 230<|.agg #[])=(#[.pointer m,.pointer a,.pointer g,.iface 230<|.agg #[],undef,undef,.iface 230<|.agg #[],undef,undef,undef,undef,undef,undef,undef,undef,undef,undef,undef,undef,undef,undef,undef]:Array rU))];refine wpS_of_wp<|wp_mono (Q:=Nk<|RQ w a g at_) ?_ ?_
 .clear q n h;go_wp2_with fail;refine⟨.inl rfl,rfl,?_⟩;obtain⟨W,h⟩:=nm<|((w.setCell a<|.int .u64 0).setCell (U a 1)<|.slice none 0 0).setCell g<|.iface 178<|.pointer<|U (w.heap.size+1) 0;rw[h];have m:C9 (λk=>k=a\/k=g) w W:=by
   rw[<-h];exact(((C9.refl (λk=>k=a\/k=g) w).setCell (p:=a) (.inl rO) _).setCell (p:=U a 1) (.inl rO) _).setCell (p:=g) (.inl<|.inr rfl) _
  have q:=zc (i:=1) (v:=.slice none 0 0)<|zc (i:=0) (v:=.int .u64 0) B.z;have u:W.heap[a]?=some (.cells #[.int .u64 0,.slice none 0 0] 37 (0,0)):=by
   rw[<-h];exact(((C9.refl (λk=>k=g) _).setCell (p:=g) rO _).obj y q).trans nl
  have q:W.heap[g]?=some (.cells #[.iface 178 (.pointer (w.heap.size+1,0))] 80 (0,0)):=by
   rw[<-h];have g:=(((C9.refl (λk=>k=a) w).setCell (p:=a) rO<|.int .u64 0).setCell (p:=U a 1) rO rV).obj (λe=>y e.symm) C.z;exact(zc (i:=0) g).trans nl
  have g:W.heap.size=w.heap.size:=by rw[<-h];simp[World.setCell]
  have a:C9 DA W ((W.alloc<|.cells #[] 230).alloc<|.cells #[.int .i64 8,[at_]] 183):=(rS.alloc _).alloc _;refine⟨a.obj rP u,⟨w.heap.size+1,a.obj rP q,?_,I⟩,m.then a rQ⟩;have:(W.alloc<|.cells #[] 230).heap.size=w.heap.size+1:=by simp[g]
  rw[<-this];exact heap_alloc_new _ _
 rintro e a w' ⟨n,hd,E⟩;rcases n with rfl|rfl;all_goals exact⟨hd,_,rfl,_,results_none rfl _ _ _,rfl,rfl,E⟩
def DQ(a:qq)(i:Nat):Nat:=(a.getD i 0).toNat
def Gr(a:qq)(n:Nat):Nat:=DQ a n*16777216+DQ a (n+1)*65536+DQ a (n+2)*256+DQ a (n+3)
inductive FK where
 | sum:FK
 | bad (at_:Nat):FK
 | ok (num:Nat) (fs:List DF):FK
def FI(e:qq)(a:Nat):Option (DF×Nat) :=
 match e[a]? with
 | none=>none
 | some t=>(Es t).bind λk=>(zQ k (decide<|t=9) e<|a+1).bind λr=>if zH r.1=true then some r else none
def Fu(a:qq):Nat->Nat->Nat->List DF->FK
 | 0,_,pos,_=>.bad pos
 | fuel+1,num,pos,acc =>
  if pos<a.length then
   match FI a pos with
   | none=>.bad pos
   | some r=>Fu a fuel num r.2<|acc++[r.1]
  else .ok num acc
def ER(a:qq):FK :=
 match DU a 0 with
 | none=>.bad 0
 | some q=>if q.2=a.length then .bad 0 else Fu a (a.length+1) q.1 q.2 []
def dec(a:qq):FK :=
 if a.length<4 then .sum
 else if Gr a (a.length-4)=Dz (a.take<|a.length-4)then ER (a.take<|a.length-4)else .sum
theorem TZ(m:qq):∀fuel q n e a g r,a<=m.length->Ea m fuel q n e a g=some r->a<=r.2/\r.2<=m.length/\r.1.length<=g.length+(r.2-a)+1
 | 0,_,_,_,_,_,_,_,h=>by cases h
 | fuel+1,q,n,e,a,g,r,hp,h=>by
  unfold Ea at h;split at h
  .cases h
  split at h
  .cases h;simp;exact hp
  cases h1:DU m a with
  | none=>rw[h1]at h;cases h
  | some q1 =>
   obtain⟨g,u⟩:=q1;obtain⟨a,e,_⟩:=ET h1;rw[h1]at h;simp only[AX]at h;cases h2:DU m u with
   | none=>rw[h2]at h;cases h
   | some q2 =>
    obtain⟨s,a⟩:=q2;obtain⟨b1,b2,_⟩:=ET h2;rw[h2]at h;simp only[AX]at h;split at h
    .cases h
    obtain⟨c1,c2,a⟩:=TZ m fuel _ _ _ _ _ _ b2 h;simp only[AF,Aa,Aw]at a;exact⟨I,c2,I⟩
theorem TY(h:E4 bs pos=some (l,p)):pos<=p/\p<=bs.length/\l.length<=bs.length:=by
 have a:=UN h;unfold E4 at h;cases hr:DU bs pos with
 | none=>rw[hr]at h;cases h
 | some q =>
  obtain⟨n,e⟩:=q;rw[hr]at h;obtain⟨e,g,_⟩:=ET hr;simp only[AX]at h;split at h
  .cases h;refine⟨I,a,?_⟩;simp;omega
  cases h
theorem Qn(h:Et bs pos=some (n,p)):pos<=p/\p<=bs.length:=by
 unfold Et at h;cases hr:DU bs pos with
 | none=>rw[hr]at h;cases h
 | some q =>
  rw[hr]at h;have:=ET hr;simp only[AX]at h;split at h
  .cases h;exact⟨I,this.2.1⟩
  cases h
def Qx(a:qq)(e:Nat)(k:Int)(f:DF)(p:Nat):Prop:=f.kind=k/\e<=p/\p<=a.length/\f.data.length<=a.length/\f.kC.length<=a.length+1
def Up{t:UInt8}{k:Int}{b:Bool}(z:Es t=some k)(C:pos<=bs.length)(h:zQ k b bs pos=some (f,p)):Qx bs pos k f p:=by
 have A:k=1\/k=2\/k=3\/k=4\/k=5\/k=6\/k=7\/k=8:=by
  unfold Es at z;repeat' split at z
  all_goals simp at z
  all_goals omega
 rcases A with rfl|rfl|rfl|rfl|rfl|rfl|rfl|rfl
 .rw[show zQ 1 b bs pos=some (f0 1 b,pos)by simp[zQ]]at h;cases h;exact⟨rfl,AI _,C,AK _,AK _⟩
 .rw[show zQ 2 b bs pos=El b bs pos by simp[zQ],El,Ao]at h;obtain⟨⟨m,n⟩,a,h⟩:=h;rw[Ao]at h;obtain⟨⟨u,y⟩,e,h⟩:=h;rw[Ao]at h;obtain⟨⟨q,B⟩,g,h⟩:=h;rw[Ao]at h;obtain⟨r,D,h⟩:=h;cases h;have:=ET a;have:=ET e;have:=ET g;simp only at *;obtain⟨c1,c2,z⟩:=TZ bs _ _ _ _ _ _ _ (ET g).2.1 D;refine⟨rfl,I,c2,AK _,?_⟩;show r.1.length<=_;simp only[Aw]at z;omega
 .rw[show zQ 3 b bs pos=In b bs pos by simp[zQ],In,Ao]at h;obtain⟨⟨m,n⟩,a,h⟩:=h;rw[Ao]at h;obtain⟨⟨u,y⟩,e,h⟩:=h;rw[Ao]at h;obtain⟨⟨q,B⟩,g,h⟩:=h;cases h;have:=Qn a;have:=ET e;have:=ET g;simp only at *;exact⟨rfl,I,I,AK _,AK _⟩
 .rw[show zQ 4 b bs pos=G4 b bs pos by simp[zQ],G4,Ao]at h;obtain⟨⟨m,n⟩,a,h⟩:=h;rw[Ao]at h;obtain⟨⟨u,y⟩,e,h⟩:=h;rw[Ao]at h;obtain⟨⟨q,B⟩,g,h⟩:=h;cases h;have:=Qn a;have:=ET e;have:=TY g;simp only at *;exact⟨rfl,I,I,by show q.length<=_;omega,AK _⟩
 .rw[show zQ 5 b bs pos=Fj 5 b bs pos by simp[zQ],Fj,Ao]at h;obtain⟨⟨m,n⟩,a,h⟩:=h;cases h;have:=ET a;simp only at *;exact⟨rfl,I,I,AK _,AK _⟩
 .rw[show zQ 6 b bs pos=Gq b bs pos by simp[zQ],Gq,Ao]at h;obtain⟨⟨m,n⟩,a,h⟩:=h;rw[Ao]at h;obtain⟨⟨u,y⟩,e,h⟩:=h;cases h;have:=Qn a;have:=ET e;simp only at *;exact⟨rfl,I,I,AK _,AK _⟩
 .rw[show zQ 7 b bs pos=Im b bs pos by simp[zQ],Im,Ao]at h;obtain⟨⟨m,n⟩,a,h⟩:=h;rw[Ao]at h;obtain⟨⟨u,y⟩,e,h⟩:=h;rw[Ao]at h;obtain⟨⟨q,B⟩,g,h⟩:=h;cases h;have:=ET a;have:=ET e;have:=TY g;simp only at *;exact⟨rfl,I,I,by show q.length<=_;omega,AK _⟩
 rw[show zQ 8 b bs pos=Fj 8 b bs pos by simp[zQ],Fj,Ao]at h;obtain⟨⟨m,n⟩,a,h⟩:=h;cases h;have:=ET a;simp only at *;exact⟨rfl,I,I,AK _,AK _⟩
def Fo(w:rT)(a num:Nat)(e:rU):Prop:=w.heap[a]?=some (.cells #[num,e] 37 (0,0))
def IR(w:rT)(a:Nat)(v:rU):Prop:=w.heap[a]?=some (.cells #[v] 80 (0,0))
def Fg(w:rT)(r:FK)(e:Ending)(w':rT):Prop :=
 C9 DA w w'/\match r with
 | .sum=>e=.returned (.tuple #[.agg #[.int .u64 0,.slice none 0 0],.iface 41 (.int .i64 7)])
 | .bad at_=>∃a,e=.returned (.tuple #[.agg #[.int .u64 0,.slice none 0 0],.iface 178 (.pointer<|some ⟨a,0,none⟩)])/\w'.heap[a]?=some (.cells #[.int .i64 8,[at_]] 183 (0,0))/\w.heap.size<=a
 | .ok num fs=>∃h a,e=.returned (.tuple #[.agg #[.int .u64 num,h],.nilIface])/\EV w' h a/\a.map (·.1)=fs/\(∀g,h.ownBlock=some g->w.heap.size<=g)/\∀x∈a,∀g,x.2.ownBlock=some g->w.heap.size<=g
def Oc(a:Array rU)(w:rT)(e g:Nat)(n h m:rU)(q:a.getD 2 undef=.pointer e)(u:a.getD 3 undef=.pointer g)
  (c0:w e=some n) (c1:w (e,1)=some h) (c2:w g=some m) :
  (results f106 a).run prog w=.ok (.tuple #[.agg #[n,h],m]) w:=by
 have h:a[2]?.getD undef=.pointer e:=by rw[<-q];simp
 have e:a[3]?.getD undef=.pointer g:=by rw[<-u];simp
 simp[results,results106,go_sem,h,e,c0,c1,c2]
def de(v:rU)(e:qq)(w:rT)(hb:BR w v e)(a:e.length<4):rH 106 #[v] w (Fg w .sum):=by
 obtain⟨a,g,rfl,n,h,m⟩:=hb;unfold maxLen at h;have a:IntKind.i64.wrap ((e.length:Int)-4)=(e.length:Int)-4:=IntWalk.i64_in _ I;have d:(e.length:Int)-4<0:=I;clear m
 go_enter_defers func106,ntmps106
 go_wp2_with fail;refine⟨_,Oc _ _ _ _ _ _ _ rfl rfl nl nl nl,(rS.alloc _).alloc _,rfl⟩
def QW(a b:Nat)(e:a<4294967296)(hb:b<4294967296):bits .or .u32 (a:Int) (b:Int)=((a ||| b:Nat):Int):=by
 have e:a ||| b<2 ^ 32:=Nat.or_lt_two_pow I I;have e:(BitVec.ofInt 32 (a:Int)).toNat=a:=by
  rw[Bj,Bm];exact Bx I
 have g:(BitVec.ofInt 32 (b:Int)).toNat=b:=by
  rw[Bj,Bm];exact Bx I
 show IntKind.u32.wrap ((BitVec.ofInt 32 (a:Int) ||| BitVec.ofInt 32 (b:Int)).toNat:Int)=_;rw[BitVec.toNat_or,e,g,Ig];omega
def PR(a b i:Nat)(h:b<2 ^ i):a*2 ^ i ||| b=a*2 ^ i+b:=by
 have:=Nat.two_pow_add_eq_or_of_lt h a;rw[AN]at this;exact this.symm
def JL(a g h m:Nat)(e:a<256)(n:g<256)(q:h<256)(u:m<256):bits .or .u32 ((a:Int)*16777216) ((g:Int)*65536)=(a:Int)*16777216+(g:Int)*65536 /\
  bits .or .u32 ((a:Int)*16777216+(g:Int)*65536) ((h:Int)*256)=(a:Int)*16777216+(g:Int)*65536+(h:Int)*256 /\
  bits .or .u32 ((a:Int)*16777216+(g:Int)*65536+(h:Int)*256) (m:Int)=(a:Int)*16777216+(g:Int)*65536+(h:Int)*256+(m:Int):=by
 refine⟨?_,?_,?_⟩
 .have:=QW (a*16777216) (g*65536) I I;rw[PR a (g*65536) 24 I]at this;rw[(I:(a:Int)*16777216=((a*16777216:Nat):Int)),(I:(g:Int)*65536=((g*65536:Nat):Int)),this];omega
 .have:=QW (a*16777216+g*65536) (h*256) I I;have e:a*16777216+g*65536=(a*256+g)*2 ^ 16:=I;rw[e,PR _ (h*256) 16 I,<-e]at this;rw[(I:(a:Int)*16777216+(g:Int)*65536=((a*16777216+g*65536:Nat):Int)),(I:(h:Int)*256=((h*256:Nat):Int)),this];omega
 have:=QW (a*16777216+g*65536+h*256) m I I;have e:a*16777216+g*65536+h*256=(a*65536+g*256+h)*2 ^ 8:=I;rw[e,PR _ m 8 I,<-e]at this;rw[(I:(a:Int)*16777216+(g:Int)*65536+(h:Int)*256=((a*16777216+g*65536+h*256:Nat):Int)),this];omega
def BR.pre(h:BR w (.slice a bs.length cap) bs)(e:n<=bs.length):BR w (.slice a n cap) (bs.take n):=by
 obtain⟨u,e,g,y,m,q⟩:=h;cases g;have e:(bs.take n).length=n:=ol;refine⟨a,cap,by rw[e],I,m,λi c a=>?_⟩;have e:i<n:=by
  have:=(AO.1 a).1;omega
 rw[B2,AL e]at a;exact q i c a
def BR.byte{l:Nat}(h:BR w (.slice a l cap) bs)(hi:i<bs.length):∃g o,a=some ⟨g,o,none⟩/\w ⟨g,o+i,none⟩=some (.int .u8 (DQ bs i:Int)):=by
 obtain⟨g,a,e,n,q,m⟩:=h;cases e;have:=m i bs[i]<|AG hi;unfold DQ;rw[AQ,AG hi];exact this
def JH(a:qq)(i:Nat):DQ a i<256:=by
 unfold DQ;have:=(a.getD i 0).toNat_lt;omega
def Vq(v:rU)(h:qq)(n:Nat)(w:rT)(hb:BR w v h)(B:Fb w)(m:h.length=n+4)(y:Gr h n≠Dz (h.take n)):rH 106 #[v] w (Fg w .sum):=by
 obtain⟨a,z,rfl,u,A,O⟩:=id hb;unfold maxLen at A;rw[m]at u hb ⊢;have q:BR w (.slice a h.length z) h:=by rw[m];exact hb
 obtain⟨g,o,rfl,C⟩:=q.byte (i:=n) I;obtain⟨_,_,e,R⟩:=q.byte (i:=n+1) I;cases e;obtain⟨_,_,e,X⟩:=q.byte (i:=n+2) I;cases e;obtain⟨_,_,e,Y⟩:=q.byte (i:=n+3) I;cases e;have a:=zo C;have a:=q.pre (n:=n) I;have u:=λw' (m:C9 DA w w')=>Pl (.slice (g,o) n z) (h.take n) w' (a.mod m<|DN.no _)<|B.mod m rP
 have m:=Lf<|h.take n;obtain⟨s,g⟩:=nm<|Dz<|h.take n;rw[g]at u y m;have D:=JH h n;have b1:=JH h<|n+1;have b2:=JH h<|n+2;have E:=JH h<|n+3;unfold Gr at y;obtain⟨m,G⟩:=nm<|DQ h n;obtain⟨z,K⟩:=nm<|DQ h<|n+1;obtain⟨A,L⟩:=nm<|DQ h<|n+2;obtain⟨M,N⟩:=nm<|DQ h<|n+3;rw[G]at C D y;rw[K]at R b1 y;rw[L]at X b2 y;rw[N]at Y E y;obtain⟨h,C,R⟩:=JL m z A M D b1 b2 E;have h:IntKind.i64.wrap (((n+4:Nat):Int)-4)=(n:Int):=by rw[(I:((n+4:Nat):Int)-4=n)];exact IntWalk.i64_in _ I
 have h:IntKind.i64.wrap ((n:Int)+1)=(n:Int)+1:=IntWalk.i64_in _ I;have h:IntKind.i64.wrap ((n:Int)+2)=(n:Int)+2:=IntWalk.i64_in _ I;have h:IntKind.i64.wrap ((n:Int)+3)=(n:Int)+3:=IntWalk.i64_in _ I;have h:((n:Int)+1).toNat=n+1:=I;have h:((n:Int)+2).toNat=n+2:=I;have h:((n:Int)+3).toNat=n+3:=I;have h:IntKind.u32.wrap ((m:Int)*16777216)=(m:Int)*16777216:=by rw[Ig];omega
 have h:IntKind.u32.wrap ((z:Int)*65536)=(z:Int)*65536:=by rw[Ig];omega
 have h:IntKind.u32.wrap ((A:Int)*256)=(A:Int)*256:=by rw[Ig];omega
 have h:((m:Int)*16777216+(z:Int)*65536+(A:Int)*256+(M:Int) != (s:Int))=true:=by rw[bne_iff_ne];omega
 clear O hb q B a G K L N g y
 go_enter_defers func106,ntmps106
 go_wp2_with (go_at_call 123;refine(u _<|(rS.alloc _).alloc _).mono ?_;rintro e w' ⟨rfl,rfl⟩);go_quiet (fail);go_wp2_with fail;have h:C9 DA w (((w.alloc<|.cells #[.int .u64 0,.slice none 0 0] 37).alloc<|.cells #[.nilIface] 80).drewN nq):=((rS.alloc _).alloc _).drewN _;obtain⟨X,a⟩:=nm<|((w.alloc<|.cells #[.int .u64 0,.slice none 0 0] 37).alloc<|.cells #[.nilIface] 80).drewN nq;have g:X.heap[w.heap.size]?=some (.cells #[.int .u64 0,.slice none 0 0] 37 (0,0)):=by
  rw[<-a];exact(((C9.refl DA _).alloc<|.cells #[.nilIface] 80).drewN nq).obj rP (heap_alloc_new w _)
 have m:X.heap[w.heap.size+1]?=some (.cells #[.nilIface] 80 (0,0)):=by
  rw[<-a];have e:(w.alloc<|.cells #[.int .u64 0,.slice none 0 0] 37).heap.size=w.heap.size+1:=nl;rw[<-e];exact((C9.refl DA _).drewN nq).obj rP (heap_alloc_new _ _)
 rw[a]at h ⊢;have e:=zc (i:=1) (v:=.slice none 0 0)<|zc (i:=0) (v:=.int .u64 0) g;have a:C9 (λk=>k=w.heap.size) X ((X.setCell w.heap.size<|.int .u64 0).setCell (U w 1)<|.slice none 0 0):=((C9.refl (λk=>k=w.heap.size) X).setCell (p:=w.heap.size) rO _).setCell (p:=U w.heap.size 1) rO _;have g:=zc (i:=0) (v:=.iface 41<|.int .i64 7) (a.obj (by show ¬w.heap.size+1=w.heap.size;omega) m);have m:∀u,C9 (λk=>k=w.heap.size+1) ((X.setCell w.heap.size<|.int .u64 0).setCell (U w 1)<|.slice none 0 0) (((X.setCell w.heap.size<|.int .u64 0).setCell (U w 1)<|.slice none 0 0).setCell (U (w.heap.size+1) 0) u):=λu=>(C9.refl (λk=>k=w.heap.size+1) _).setCell (p:=U (w.heap.size+1) 0) rO u
 have a:=(m<|.iface 41<|.int .i64 7).obj (by show ¬w.heap.size=w.heap.size+1;omega) e;refine⟨_,Oc _ _ _ _ _ _ _ rfl rfl (za a rfl) (za a rfl) (za g rfl),((h.setCell (p:=w.heap.size) (.inr<|AI _) _).setCell (p:=U w.heap.size 1) (.inr<|AI _) _).setCell (p:=U (w.heap.size+1) 0) (.inr<|Ar _) _,rfl⟩
def ge(r:FK)(w W:rT)(tmps:Array rU)(a e g at_:Nat)(n0 q u:rU)(z:tmps.getD 2 undef=.pointer a)(A:tmps.getD 3 undef=.pointer e)(y:C9 DA w W)
  (B:W.heap[a]?=some (.cells #[n0,q] 37 (0,0))) (C:W.heap[e]?=some (.cells #[u] 80 (0,0))) (D:W g=some (.int .i64 at_)) (h:a≠e) (m:w.heap.size<=a) (n:w.heap.size<=e) (E:r=.bad at_) :
  bodyPostD prog f106 (Fg w r) (Exit.panic [{ v:=.iface 230<|.agg #[],recovered:=false }]) { tmps:=tmps,defers:=[{ target:=.fn (.func 144) #[.pointer g,.pointer a,.pointer e],args:=#[] }] } W:=by
 subst E;refine leaves_cons (f:=144) (args:=#[.pointer g,.pointer a,.pointer e]) nl (by simp[go_sem]) ?_;refine(ix g a e at_ n0 q u [] W D B C h).mono ?_;rintro e a w'' ⟨rfl,rfl,c1,⟨G,c2,K,L⟩,M⟩;show Leaves prog f106 tmps (Fg w<|.bad at_) [] .returning w'';refine⟨_,Oc _ _ _ _ _ _ _ z A (za c1 rfl) (za c1 rfl)<|za c2 rfl,?_,G,rfl,K,?_⟩
 .refine y.then M ?_;rintro i (rfl|rfl)
  .exact .inr m
  exact .inr n
 exact AR y.size L
def Vp(r:FK)(w W:rT)(tmps:Array rU)(e g num:Nat)(a b c:rU)(m:rU)(h:List (DF×rU))(y:tmps.getD 2 undef=.pointer e)(z:tmps.getD 3 undef=.pointer g)(A:C9 DA w W)
  (u:Fo W e num m) (B:IR W g .nilIface) (C:EV W m h) (n:∀g,m.ownBlock=some g->w.heap.size<=g) (q:∀x∈h,∀g,x.2.ownBlock=some g->w.heap.size<=g) (D:r=.ok num (h.map (·.1))) :
  bodyPostD prog f106 (Fg w r) Exit.ret { tmps:=tmps,defers:=[{ target:=.fn (.func 144) #[a,b,c],args:=#[] }] } W:=by
 subst D;refine leaves_cons (f:=144) (args:=#[a,b,c]) nl (by simp[go_sem]) ?_;refine(gh a b c W).mono ?_;rintro e a w'' ⟨rfl,rfl,rfl⟩;show Leaves prog f106 tmps (Fg w<|.ok num<|h.map (·.1)) [] .returning w'';exact⟨_,Oc _ _ _ _ _ _ _ y z (za u rfl) (za u rfl)<|za B rfl,A,m,h,rfl,C,rfl,n,q⟩
variable{base:Nat}
def Ro(h:w.ownsRow base e sz v n xs):∀g,v.ownBlock=some g->g<w.heap.size:=by
 intro g a;rcases h.2 with⟨rfl,rfl⟩|⟨h,e,g,rfl,_,m,n,q,_⟩
 .cases a
 simp[Value.ownBlock]at a;subst a;exact(AJ.1 m).1
def Gm{fz:Nat×Nat}(h:w.ownsRow base e sz v n xs)(a:w.heap[b]?=some (.cells cs T fz))(m:T≠e):¬v.ownBlock=some b:=by
 intro hb;rcases h.2 with⟨rfl,_⟩|⟨g,e,h,rfl,_,q,_⟩
 .cases hb
 simp[Value.ownBlock]at hb;subst hb;rw[q]at a;simp at a;exact m a.2.1.symm
def OP{b1 b2 y m z:Nat}{q:qt}(h:w.ownsRow b1 e sz v n xs)(A:w.ownsRow b2 y m v' z q)(u:y≠e)(B:v.ownBlock=some g)(a:v'.ownBlock=some g):False:=by
 rcases A.2 with⟨rfl,_⟩|⟨m,e,g,rfl,_,C,_⟩
 .cases a
 simp[Value.ownBlock]at a;subst a;exact Gm h C u B
def eT(h:w.ownsRow base e sz v n xs)(m:Jm W v):∀g,v.ownBlock=some g->W.heap.size<=g:=by
 intro g a;rcases h.2 with⟨rfl,_⟩|⟨h,e,g,rfl,_⟩
 .cases a
 simp[Value.ownBlock]at a;subst a;exact m _ _ _ _ rfl
def Iw(w:rT)(a at_:Nat):Prop:=w.heap[a]?=some (.cells #[[at_]] 3 (0,0))
def O6(w wr:rT)(v:rU)(h:qq)(num:Nat)(R:FK):Prop :=
 ∃fuel a m e at_,EL wr (w.heap.size+1+1) v a/\Fo wr w.heap.size num m/\IR wr (w.heap.size+1) .nilIface/\Iw wr (w.heap.size+1+1+1) at_/\EV wr m e/\(∀g,m.ownBlock=some g->w.heap.size<=g)/\(∀x∈e,∀g,x.2.ownBlock=some g->w.heap.size<=g) /\
  a<=h.length/\h.length-a<fuel/\e.length<=a/\C9 DA w wr/\Fu h fuel num a (e.map (·.1))=R
def RA(w:rT):Nat->Prop:=λk=>k=w.heap.size+1+1\/k=w.heap.size+1+1+1
def EV.mod{a:List (DF×rU)}(h:EV w v a)(m:C9 S w w')(u:∀i,S i->w.heap.size<=i\/∃cs T fz,w.heap[i]?=some (.cells cs T fz)/\T≠48/\T≠110):EV w' v a:=by
 refine⟨m.owns h.1<|λg a e=>?_,λx e=>(h.2 x e).mod m<|λg a n=>?_⟩
 .rcases u g e with m|⟨cs,T,fz,m,q,_⟩
  .have:=Ro h.1 g a;omega
  exact Gm h.1 m q a
 rcases u g n with m|⟨cs,T,fz,m,_,q⟩
 .have:=Ro (h.2 x e).1 g a;omega
 exact Gm (h.2 x e).1 m q a
structure Nn(w W:rT)(v:rU):Prop where
 rd:EL W (w.heap.size+1+1) v 0
 pk:Fo W w.heap.size 0 rV
 er:IR W (w.heap.size+1) .nilIface
 at_:Iw W (w.heap.size+1+1+1) 0
 mod:C9 DA w W
def NZ(w:rT)(a:Nat)(v:rU):Nn w (((((w.alloc (.cells #[.int .u64 0,.slice none 0 0] 37)).alloc (.cells #[.nilIface] 80)).drewN a).alloc (.cells #[v,.int .i64 0] 228)).alloc (.cells #[.int .i64 0] 3)) v:=by
 have e:(w.alloc<|.cells #[.int .u64 0,.slice none 0 0] 37).heap.size=w.heap.size+1:=nl;have g:(((w.alloc<|.cells #[.int .u64 0,.slice none 0 0] 37).alloc<|.cells #[.nilIface] 80).drewN a).heap.size=w.heap.size+1+1:=nl;have h:((((w.alloc<|.cells #[.int .u64 0,.slice none 0 0] 37).alloc<|.cells #[.nilIface] 80).drewN a).alloc<|.cells #[v,.int .i64 0] 228).heap.size=w.heap.size+1+1+1:=nl;refine⟨?_,?_,?_,?_,(((rS.alloc _).alloc _).drewN _).alloc _ |>.alloc _⟩
 .unfold EL;rw[<-g];exact((C9.refl DA _).alloc _).obj rP (heap_alloc_new _ _)
 .exact(((((C9.refl DA _).alloc _).drewN a).alloc _).alloc _).obj rP (heap_alloc_new w _)
 .unfold IR;rw[<-e];exact((((C9.refl DA _).drewN a).alloc _).alloc _).obj rP (heap_alloc_new _ _)
 unfold Iw;rw[<-h];exact heap_alloc_new _ _
theorem YF(v:rU)(h:qq)(n:Nat)(w:rT)(hb:BR w v h)(ht:Fb w)(hn:h.length=n+4)(hs:Gr h n=Dz (h.take n))(bE:n<1099511627776):rH 106 #[v] w (Fg w (ER (h.take n))):=by
 obtain⟨a,A,rfl,E,h2,h3⟩:=id hb;unfold maxLen at h2;rw[hn]at E hb ⊢;have K:BR w (.slice a h.length A) h:=by rw[hn];exact hb
 obtain⟨g,o,rfl,k0⟩:=K.byte (i:=n) I;obtain⟨_,_,e,k1⟩:=K.byte (i:=n+1) I;cases e;obtain⟨_,_,e,k2⟩:=K.byte (i:=n+2) I;cases e;obtain⟨_,_,e,k3⟩:=K.byte (i:=n+3) I;cases e;have bm:=zo k0;have a:=K.pre (n:=n) I;have af:=λw' (m:C9 DA w w')=>Pl (.slice (g,o) n A) (h.take n) w' (a.mod m<|DN.no _)<|ht.mod m rP
 have bn:=Lf<|h.take n;obtain⟨s,aT⟩:=nm<|Dz<|h.take n;rw[aT]at af hs bn;have b0:=JH h n;have b1:=JH h<|n+1;have b2:=JH h<|n+2;have b3:=JH h<|n+3;unfold Gr at hs;obtain⟨x0,e0⟩:=nm<|DQ h n;obtain⟨x1,e1⟩:=nm<|DQ h<|n+1;obtain⟨x2,e2⟩:=nm<|DQ h<|n+2;obtain⟨x3,e3⟩:=nm<|DQ h<|n+3;rw[e0]at k0 b0 hs;rw[e1]at k1 b1 hs;rw[e2]at k2 b2 hs;rw[e3]at k3 b3 hs;obtain⟨o1,o2,o3⟩:=JL x0 x1 x2 x3 b0 b1 b2 b3;have z1:IntKind.i64.wrap (((n+4:Nat):Int)-4)=(n:Int):=by rw[(I:((n+4:Nat):Int)-4=n)];exact IntWalk.i64_in _ I
 have z2:IntKind.i64.wrap ((n:Int)+1)=(n:Int)+1:=IntWalk.i64_in _ I;have z3:IntKind.i64.wrap ((n:Int)+2)=(n:Int)+2:=IntWalk.i64_in _ I;have z4:IntKind.i64.wrap ((n:Int)+3)=(n:Int)+3:=IntWalk.i64_in _ I;have t2:((n:Int)+1).toNat=n+1:=I;have t3:((n:Int)+2).toNat=n+2:=I;have t4:((n:Int)+3).toNat=n+3:=I;have y0:IntKind.u32.wrap ((x0:Int)*16777216)=(x0:Int)*16777216:=by rw[Ig];omega
 have y1:IntKind.u32.wrap ((x1:Int)*65536)=(x1:Int)*65536:=by rw[Ig];omega
 have y2:IntKind.u32.wrap ((x2:Int)*256)=(x2:Int)*256:=by rw[Ig];omega
 have hq:((x0:Int)*16777216+(x1:Int)*65536+(x2:Int)*256+(x3:Int) != (s:Int))=false:=by rw[bne_eq_false_iff_eq];omega
 have Z:=zb a;clear h3 hb K ht a e0 e1 e2 e3 aT hs;have aU:(h.take n).length=n:=ol;obtain⟨bd,a⟩:=nm<|h.take n;rw[a]at Z aU ⊢;clear a hn;subst aU
 go_enter_defers func106,ntmps106
 go_wp2_with (go_at_call 123;refine(af _<|(rS.alloc _).alloc _).mono ?_;rintro e w' ⟨rfl,rfl⟩);go_quiet (fail);have hD:=NZ w nq<|.slice (g,o) bd.length A;obtain⟨W,a⟩:=nm<|((((w.alloc<|.cells #[.int .u64 0,.slice none 0 0] 37).alloc<|.cells #[.nilIface] 80).drewN nq).alloc<|.cells #[.slice (g,o) bd.length A,.int .i64 0] 228).alloc<|.cells #[.int .i64 0] 3;rw[a]at hD;have HW:=zb a;clear a;have HD:=zb hD;have a:=bm;have ag:∀b,w.heap.size<=b->DN (DY b) (.slice (g,o) bd.length A):=λb K g' o' n' c' e u=>by
  cases e;have:g=b:=u;omega
 have aV:=zb ag;have ah:=IM (w.heap.size+1+1) 0 (.slice (g,o) bd.length A) bd W hD.rd (Z.z.mod hD.mod<|DN.no _) (ag _ I)<|AK _;clear hD ag af k0 k1 k2 k3 o1 o2 o3 t2 t3 t4 y0 y1 y2 b0 b1 b2 b3;go_wp2_with fail;rw[HW.z];have hk:∀tmps r W' at_ num fv,tmps.getD 2 undef=.pointer w->tmps.getD 3 undef=.pointer (w.heap.size+1,0)->C9 DA w W'->Fo W' w.heap.size num fv->IR W' (w.heap.size+1) .nilIface->Iw W' (w.heap.size+1+1+1) at_->r=.bad at_ ->
   bodyPostD prog f106 (Fg w r) (Exit.panic [{ v:=.iface 230<|.agg #[],recovered:=false }]) { tmps:=tmps,defers:=[{ target:=.fn (.func 144) #[.pointer (U (w.heap.size+1+1+1) 0),.pointer w,.pointer (U (w.heap.size+1) 0)],args:=#[] }] } W' :=
  λtmps r W' at_ num fv e2 e3 hm a D h n=>ge r w W' tmps _ _ _ at_ _ fv _ e2 e3 hm a D (za h rfl) I (AI _) I n
 have Hk:=zb hk;clear hk HW;cases hr0:DU bd 0 with
 | none =>
  rw[hr0]at ah;have HR:AA (ER bd=.bad 0):=by show _=_;unfold ER;rw[hr0]
  clear hr0;refine ah.mono ?_;rintro e w1 (⟨_,_,u,_⟩|⟨_,D,hm⟩)
  .cases u
  unfold Eb at D;subst D;have ar:=hm;exact Hk.z _ _ w1 0 0 _ rfl rfl (HD.z.mod.then ar<|λi q=>.inr<|by cases q;omega) (ar.obj (by show ¬w.heap.size=w.heap.size+1+1;omega) HD.z.pk) (ar.obj (by show ¬w.heap.size+1=w.heap.size+1+1;omega) HD.z.er) (ar.obj (by show ¬w.heap.size+1+1+1=w.heap.size+1+1;omega) HD.z.at_) HR.z
 | some q0 =>
  obtain⟨num,p0⟩:=q0;rw[hr0]at ah;obtain⟨a,u2,h⟩:=ET hr0;have aE:=zb hr0;clear hr0;refine ah.mono ?_;rintro e w1 (⟨_,_,u,rfl,aW,m1⟩|⟨u,_⟩);rotate_left
  .cases u
  simp only[BP,BQ,Bg]at u;obtain⟨rfl,rfl⟩:=u;have B:Fo w1 w.heap.size 0 (.slice none 0 0):=m1.obj (by show ¬w.heap.size=w.heap.size+1+1;omega) HD.z.pk;have bo:w1 w=some (.int .u64 0):=za B rfl;have a:w1.frozen? ⟨w.heap.size,0,none⟩=false:=zd B;obtain⟨X,a⟩:=nm<|w1.setCell w.heap.size<|.int .u64 num;have mX:C9 (λk=>k=w.heap.size) w1 X:=by rw[<-a];exact(C9.refl (λk=>k=w.heap.size) w1).setCell (p:=w.heap.size) rO _
  have pX:Fo X w.heap.size num (.slice none 0 0):=by
   unfold Fo;rw[<-a,zc B];simp
  have rX:=aW.mod mX (by show ¬w.heap.size+1+1=w.heap.size;omega);have eX:IR X (w.heap.size+1) .nilIface:=mX.obj (by show ¬w.heap.size+1=w.heap.size;omega) (m1.obj (by show ¬w.heap.size+1=w.heap.size+1+1;omega) HD.z.er);have aX:Iw X (w.heap.size+1+1+1) 0:=mX.obj (by show ¬w.heap.size+1+1+1=w.heap.size;omega) (m1.obj (by show ¬w.heap.size+1+1+1=w.heap.size+1+1;omega) HD.z.at_);have aY:=(HD.z.mod.then m1<|λi q=>.inr<|by cases q;omega).then mX (λi q=>.inr (by cases q;omega));have bp:=rX.c1;have aF:=zb pX;have aZ:=zb rX;have aG:=zb eX;have aH:=zb aX;have aI:=zb aY;clear B mX pX rX eX aX aY aW m1 ah;by_cases L:p0=bd.length
  .have HR:AA (ER bd=.bad 0):=by show _=_;unfold ER;rw[aE.z];simp only[AL L]
   have e1:(p0==bd.length)=true:=by simp[L]
   have bq:((p0:Int)==(bd.length:Int))=true:=by simp[L]
   clear L;go_wp2_with (go_at_call 146;refine(JC _ _).mono ?_;rintro e w' ⟨D,rfl⟩;unfold Eb at D;subst D);exact Hk.z _ _ X 0 num _ rfl rfl aI.z aF.z aG.z aH.z HR.z
  have e1:(p0==bd.length)=false:=qp L;have bq:((p0:Int)==(bd.length:Int))=false:=by rw[AM];omega
  obtain⟨R,hR⟩:=nm<|Fu bd (bd.length+1) num p0 [];have HR:AA (ER bd=R):=by show _=_;unfold ER;rw[aE.z];simp only[AH L];exact hR
  have a0:=HR;have HA:AA (O6 w X (.slice (g,o) bd.length A) bd num R):=⟨bd.length+1,p0,.slice none 0 0,[],0,aZ.z,aF.z,aG.z,aH.z,⟨World.ownsRow_nil X 0 _ 10,λx u=>by cases u⟩,(λg hg=>by cases hg),(λx u=>by cases u),u2,I,AK _,aI.z,hR⟩;clear hR HR aE L aF aZ aG aH aI;go_wp2_with fail
  go_loopw [8,9,10,11,12] (λ_ _ _ _ _ wr=>O6 w wr (.slice (g,o) bd.length A) bd num R) (λ_ _ _ _ _ wr=>bd.length-Iz wr (w.heap.size+1+1))
  case atStart=>exact HA.z
  case round =>
   obtain⟨fuel,z,fv,y,at_,ai,B,aj,M,au,aJ,aK,a,h,n,hm,hR⟩:=hrel;obtain⟨fuel,rfl⟩:∃f,fuel=f+1:=⟨fuel-1,I⟩;unfold Fu at hR;have bp:=ai.c1;have av:=zb ai;have aw:=zb B;have ak:=zb aj;have a3:=zb M;have ac:=zb au;have a4:=zb aJ;have a5:=zb aK;have Hm:=zb hm;have a:=hm.size;have a:=(AJ.1 M).1;by_cases al:z<bd.length
   .rw[AL al]at hR;have HR:=zb hR;have a:wr (w.heap.size+1+1+1,0)=some (.int .i64 at_):=za M rfl;have a:wr.frozen? ⟨w.heap.size+1+1+1,0,none⟩=false:=zd M;obtain⟨W1,a⟩:=nm<|wr.setCell (U (w.heap.size+1+1+1) 0)<|.int .i64 z;have m1:C9 (RA w) wr W1:=by rw[<-a];exact(C9.refl (RA w) wr).setCell (p:=U (w.heap.size+1+1+1) 0) (.inl<|.inr rfl) _
    have a6:C9 (DY<|w.heap.size+1+1+1) wr W1:=by rw[<-a];exact(C9.refl (DY<|w.heap.size+1+1+1) wr).setCell (p:=U (w.heap.size+1+1+1) 0) rO _
    have a1:Iw W1 (w.heap.size+1+1+1) z:=by
     unfold Iw;rw[<-a,zc M];simp
    have r1:=ai.mod a6 (by show ¬w.heap.size+1+1=w.heap.size+1+1+1;omega);have a7:=hm.then m1 (λi q=>.inr (by rcases q with rfl|rfl<;>omega));have aL:=Nx (w.heap.size+1+1) 1 z 1 rfl (.slice (g,o) bd.length A) bd W1 r1 (Z.z.mod a7<|DN.no _) (aV.z _ I) I;obtain⟨tb,aM⟩:∃c,bd[z]?=some c:=⟨bd[z],AG al⟩;have a8:(bd.drop z).take 1=[tb]:=by
     rw[List.take_one,List.head?_drop,aM];rfl
    rw[a8]at aL;have ax:=zb aM;have M1:=zb m1;have A1:=zb a1;have a:=m1.size;have a:=r1.c1;have am:FI bd z=none->∀tmps W',tmps.getD 2 undef=.pointer w->tmps.getD 3 undef=.pointer (w.heap.size+1,0)->C9 (RA w) wr W'->C9 (DY<|w.heap.size+1+1) W1 W' ->
      bodyPostD prog f106 (Fg w<|ER bd) (Exit.panic [{ v:=.iface 230<|.agg #[],recovered:=false }]) { tmps:=tmps,defers:=[{ target:=.fn (.func 144) #[.pointer (U (w.heap.size+1+1+1) 0),.pointer w,.pointer (U (w.heap.size+1) 0)],args:=#[] }] } W':=by
     intro C tmps W' e2 e3 mA mB;refine Hk.z tmps (ER bd) W' z num fv e2 e3 (Hm.z.then mA<|λi q=>.inr<|by rcases q with rfl|rfl<;>omega) (mA.obj (λu=>by rcases u with u|u<;>omega) aw.z) (mA.obj (λu=>by rcases u with u|u<;>omega) ak.z) (mB.obj (λu=>by have:w.heap.size+1+1+1=w.heap.size+1+1:=u;omega) A1.z) ?_;have:=HR.z;rw[C]at this;rw[a0.z];exact this.symm
    have N:=zb am;clear hR ai B aj M au aJ aK hm m1 a6 a1 r1 a7 aM a8 am;go_wp2_with fail;refine aL.mono ?_;rintro e w2 ⟨a,rfl,bt,a9,m2⟩;obtain⟨a,c2,rfl,_,_,ba⟩:=bt;obtain⟨a,o2,rfl,ct⟩:=ba 0 tb rfl;simp only[Bb]at ct;have M2:AA (C9 (RA w) wr w2):=M1.z.then m2<|λi q=>.inl<|.inl q;have N2:=zb m2;have H2:=zb a9;have a:=m2.size;clear ba aL a9 m2;cases hkd:Es tb with
    | none =>
     have C:AA (FI bd z=none):=by
      show _=_;unfold FI;rw[ax.z];simp only[hkd,CU]
     have ay:=λw=>dk tb w hkd
     clear hkd;go_wp2_with (first|(go_at_call 148;refine(ay _).mono ?_;rintro e w' ⟨rfl,rfl⟩)|(go_at_call 146;refine(JC _ _).mono ?_;rintro e w' ⟨D,rfl⟩;unfold Eb at D;subst D));show bodyPostD prog f106 (Fg w<|ER bd) (Exit.panic _) _ _;exact N.z C.z _ w2 (by rfl) (by rfl) M2.z N2.z
    | some k =>
     have ay:=λw=>di tb k w hkd
     have aA:=zb hkd;have bb:((tb.toNat:Int)==9)=decide (tb=9):=by
      rw[Cv,Ch,AW];constructor
      .intro h;exact Cd.1<|by show _=9;omega
      rintro rfl;rfl
     obtain⟨K,a⟩:=nm<|decide<|tb=9;rw[a]at bb;have aN:=zb a;obtain⟨n,h⟩:=nm<|w2.alloc<|.cells #[[k],.int .i64 0,.int .u64 0,.int .u64 0,.int .u64 0,K,.int .u64 0,.int .u64 0,.string ⟨#[]⟩,.slice none 0 0] 48;have L:=AB h;have X:zp n w2.heap.size (f0 k K) (.slice none 0 0):=by rw[<-h];exact heap_alloc_new w2 _
     have aC:=gk tb k hkd K bd (.slice (g,o) bd.length A) n;have M3:=zb L;have F3:=zb X;have K:=AC h;have bu:=zb h;clear hkd a L X h;go_wp2_with (go_at_call 148;refine(ay _).mono ?_;rintro e w' ⟨rfl,rfl⟩);rw[bu.z];refine aC.mono ?_;rintro e w4 ⟨cb,wv,F,a,G,rfl,aO,gF,gG,m4,h,an,aa⟩;have a:=M3.z.size;have bv:=aO.2.1;have N4:AA (C9 (DY<|w.heap.size+1+1) W1 w4):=(N2.z.then M3.z rQ).then m4 rQ;have M4:AA (C9 (RA w) wr w4):=(M2.z.then M3.z rQ).then m4 rQ;have F4:=F3.z.mod m4 rP;have R4:=(H2.z.mod M3.z rP).mod m4 rP;have bc:=Hm.z.then M4.z (λi q=>.inr (by rcases q with rfl|rfl<;>omega));have aD:=an (w.heap.size+1+1) w2.heap.size (z+1) R4 (Z.z.mod bc<|DN.no _) (λg' o' n' c' e u=>by cases e;rcases u with u|u<;>omega) I I F4 I;have bw:=zb aO;have bx:=zb aa;have bz:=zb gG;have bA:∀args w,(callFunc F args).run prog w=.ok (.enter F args) w:=gF;have a:=m4.size;clear aC aO m4 an aa gF gG F4 R4 bc ay bb;go_wp2_with fail;refine aD.mono ?_;rintro e w5 (⟨f,rv,p,O,rfl,h5,aB,aP,ao,m5⟩|⟨O,D,m5⟩)
     .have M5:AA (C9 (RA w) wr w5):=M4.z.then m5 (λi q=>by
       rcases q with q|q
       .exact .inl (.inl q)
       exact .inr I)
      have N5:AA (C9 (DY<|w.heap.size+1+1) W1 w5):=N4.z.then m5 (λi q=>by
       rcases q with q|q
       .exact .inl q
       have:=N2.z.size;exact .inr I)
      obtain⟨h,a,d3,n,K⟩:=Up aA.z I O;have a:=bw.z.mod m5 (by rintro(q|q)<;>omega);have ad:=Tb w2.heap.size cb f rv wv _ G (zP f) w5 aB a bz.z<|λw' m hq=>bx.z w' w2.heap.size f rv (aB.mod m rP) (aP.rr.mod m<|DN.no _) h I I hq;rw[show(D8 f&&D6 f&&zP f)=zH f from rfl]at ad;have bB:=zb aB;have bC:=zb aP;have bD:=zb ao;have H5:=zb h5;have m:=m5.size;clear aD a aB aP ao h5 m5 bA bv h;cases hsf:zH f with
      | false =>
       rw[hsf]at ad;have C:AA (FI bd z=none):=by
        show _=_;unfold FI;rw[ax.z];simp only[aA.z,AX,aN.z,O,hsf];rfl
       clear O hsf;go_wp2_with (first|(go_at_call 150;refine ad.mono ?_;rintro e w6 ⟨rfl,m6⟩;have M6:=zb m6;clear m6)|(go_at_call 146;refine(JC _ _).mono ?_;rintro e w' ⟨D,rfl⟩;unfold Eb at D;subst D));show bodyPostD prog f106 (Fg w<|ER bd) (Exit.panic _) _ _;exact N.z C.z _ w6 (by rfl) (by rfl) (M5.z.then M6.z rQ)<|N5.z.then M6.z rQ
      | true =>
       rw[hsf]at ad;have C:AA (FI bd z=some (f,p)):=by
        show _=_;unfold FI;rw[ax.z];simp only[aA.z,AX,aN.z,O,hsf];rfl
       clear O hsf;go_wp2_with fail;refine ad.mono ?_;rintro e w6 ⟨rfl,m6⟩;have M6:AA (C9 (RA w) wr w6):=M5.z.then m6 rQ;have be:AA (C9 DA w5 w6):=m6;have N6:AA (C9 (DY<|w.heap.size+1+1) W1 w6):=N5.z.then m6 rQ;have f6:=bB.z.mod m6 rP;have o6:=bC.z.mod m6<|λ_ _ x=>x;have p6:Fo w6 w.heap.size num fv:=M6.z.obj (λu=>by rcases u with u|u<;>omega) aw.z;have ap:=ac.z.mod M6.z (λi q=>.inr (by
        rcases q with rfl|rfl
        .exact⟨_,_,_,av.z,lc,lc⟩
        exact⟨_,_,_,a3.z,lc,lc⟩))
       obtain⟨ra,rc,rfl,_⟩:=zi o6.1;obtain⟨k0,k1,k2,k3,a,e,h,m,n,G⟩:=f6.cells;obtain⟨v7,W7,bf,aq,bg,bh⟩:=P7 w6 fv y f ra f.kC.length rc ap.1 I;obtain⟨Y,fc,rfl,_⟩:=zi ap.1;have a:w6 (w,1)=some (.slice Y y.length fc):=za p6 rfl;obtain⟨W8,bi⟩:=nm<|W7.setCell (U w 1) v7;have m7:=rS.grown bg<|λk hk=>.inl hk;have p7:Fo W7 w.heap.size num (.slice Y y.length fc):=m7.obj (λu=>Gm ap.1 p6 lc u) p6;have a:W7 (w,1)=some (.slice Y y.length fc):=za p7 rfl;have a:W7.frozen? ⟨w.heap.size,1,none⟩=false:=zd p7;obtain⟨va,vc,rfl,_⟩:=zi aq;have aQ:=zb o6;have aR:=zb p7;have ab:=zb ap;have ae:=zb m7;have a:=zb aq;have bj:=zb bh;have e:=zb f6;clear ad m6 f6 o6 p6 ap p7 m7 aq bh bg;unfold ze at bf;go_wp2_with (at_builtin;refine zm rfl _ _ _ _ rfl _ _ _ rfl rfl bf ?_);have m8:C9 (λk=>k=w.heap.size) W7 W8:=by rw[<-bi];exact(C9.refl (λk=>k=w.heap.size) W7).setCell (p:=U w.heap.size 1) rO _
       have aS:O6 w W8 (.slice (g,o) bd.length A) bd num R:=by
        have bk:=λi q=>a4.z i q
        have q1:¬(Value.slice Y y.length fc).ownBlock=some (w.heap.size+1+1):=λu=>Gm ac.z.1 av.z lc u
        have h:¬(Value.slice Y y.length fc).ownBlock=some (w.heap.size+1):=λu=>Gm ac.z.1 ak.z lc u
        have m:¬(Value.slice Y y.length fc).ownBlock=some (w.heap.size+1+1+1):=λu=>Gm ac.z.1 a3.z lc u
        have e:IR w6 (w.heap.size+1) .nilIface:=M6.z.obj (λu=>by rcases u with u|u<;>omega) ak.z;have g:Iw w6 (w.heap.size+1+1+1) z:=N6.z.obj (λu=>by have:w.heap.size+1+1+1=w.heap.size+1+1:=u;omega) A1.z;have Gq:=H5.z.mod (C9.refl DA w5) rP |>.mod (S:=DA) be.z rP;refine⟨fuel,p,.slice va (y.length+1) vc,y++[(f,.slice ra f.kC.length rc)],z,?_,?_,?_,?_,⟨?_,?_⟩,?_,?_,d3,I,?_,?_,?_⟩
        .exact(Gq.mod ae.z q1).mod m8 (by show ¬w.heap.size+1+1=w.heap.size;omega)
        .unfold Fo;rw[<-bi,zc aR.z];simp
        .exact m8.obj (by show ¬w.heap.size+1=w.heap.size;omega) (ae.z.obj h e)
        .exact m8.obj (by show ¬w.heap.size+1+1+1=w.heap.size;omega) (ae.z.obj m g)
        .have:=m8.owns a.z (λi q u=>Gm a.z aR.z lc (by rw[q,u]));simpa using this
        .intro x u;have bl:Dj w6 x.2 x.1.kC/\∀i,x.2.ownBlock=some i->¬(Value.slice Y y.length fc).ownBlock=some i:=by
          rcases Ap.1 u with E|E
          .refine⟨ab.z.2 x E,λi q hj=>?_⟩;exact OP ab.z.1 (ab.z.2 x E).1 lc hj q
          simp only[As]at E;subst E;exact⟨aQ.z,λi q hj=>OP ab.z.1 aQ.z.1 lc hj q⟩
         have a:=bl.1.mod ae.z bl.2;exact a.mod m8<|λi q hj=>Gm a.1 aR.z lc<|by rw[q];exact Ax some hj
        .intro i q;rcases bj.z i q with E|E
         .exact bk i E
         have:=M6.z.size;omega
        .intro x u i q;rcases Ap.1 u with E|E
         .exact a5.z x E i q
         simp only[As]at E;subst E;have:=eT aQ.z.1 bD.z i q;omega
        .simp only[AF,Aa,Aw];omega
        .exact((Hm.z.then M6.z<|λi q=>.inr<|by rcases q with rfl|rfl<;>omega).then ae.z<|λi q=>.inr<|bk i q).then m8 (λi q=>.inr<|by cases q;omega)
        have:=HR.z;rw[C.z]at this;simpa using this
       have g:AA (Iz W8 (w.heap.size+1+1)=p/\Iz wr (w.heap.size+1+1)=z):=by
        obtain⟨_,p',_,_,_,a,_,_,_,_,_,_,_,_,_,_,_⟩:=id aS;refine⟨?_,OJ av.z⟩;have Gq:=H5.z.mod (S:=DA) be.z rP;have q1:¬(Value.slice Y y.length fc).ownBlock=some (w.heap.size+1+1):=λu=>Gm ac.z.1 av.z lc u
        exact OJ<|(Gq.mod ae.z q1).mod m8<|by show ¬w.heap.size+1+1=w.heap.size;omega
       have a:=zb aS;have e:=zb al;clear aS m8 al;go_roundw
       case rel=>exact a.z
       case measure =>
        have:=e.z;rw[g.z.1,g.z.2];omega
     have N5:AA (C9 (DY<|w.heap.size+1+1) W1 w5):=N4.z.then m5 (λi q=>by
      rcases q with q|q
      .exact .inl q
      have:=N2.z.size;exact .inr I)
     have M5:AA (C9 (RA w) wr w5):=M4.z.then m5 (λi q=>by
      rcases q with q|q
      .exact .inl (.inl q)
      exact .inr I)
     have C:AA (FI bd z=none):=by
      show _=_;unfold FI;rw[ax.z];simp only[aA.z,AX,aN.z,O,CU]
     unfold Eb at D;subst D;show bodyPostD prog f106 (Fg w<|ER bd) (Exit.panic _) _ _;exact N.z C.z _ w5 (by rfl) (by rfl) M5.z N5.z
   rw[AH al]at hR;have HR:AA (ER bd=.ok num (y.map (·.1))):=by show _=_;rw[a0.z];exact hR.symm
   have bo:wr w=some (.int .u64 num):=za B rfl;have a:wr (w.heap.size+1,0)=some .nilIface:=za aj rfl;obtain⟨Y,fc,rfl,_⟩:=zi au.1;have a:wr (w,1)=some (.slice Y y.length fc):=za B rfl;have a:∀j,wr.frozen? ⟨w.heap.size,j,none⟩=false:=λj=>zd B
   have a:∀j,wr.frozen? ⟨w.heap.size+1,j,none⟩=false:=λj=>zd aj
   clear hR ai B aj M au aJ aK hm;go_wp2_with fail;obtain⟨Z,a⟩:=nm<|((wr.setCell w.heap.size<|.int .u64 num).setCell (U w 1)<|.slice Y y.length fc).setCell (U (w.heap.size+1) 0) .nilIface;rw[a];have mZ:C9 (λk=>k=w.heap.size\/k=w.heap.size+1) wr Z:=by
    rw[<-a];exact(((C9.refl (λk=>k=w.heap.size\/k=w.heap.size+1) wr).setCell (p:=w.heap.size) (.inl rO) _).setCell (p:=U w.heap.size 1) (.inl rO) _).setCell (p:=U (w.heap.size+1) 0) (.inl<|.inr rfl) _
   have o1:=zc (i:=1) (v:=.slice Y y.length fc)<|zc (i:=0) (v:=.int .u64 num) aw.z;have pZ:Fo Z w.heap.size num (.slice Y y.length fc):=by
    unfold Fo;rw[<-a];exact(((C9.refl (λk=>k=w.heap.size+1) _).setCell (p:=U (w.heap.size+1) 0) rO _).obj (by show ¬w.heap.size=w.heap.size+1;omega) o1).trans nl
   have eZ:IR Z (w.heap.size+1) .nilIface:=by
    unfold IR;rw[<-a];have e1:=(((C9.refl (λk=>k=w.heap.size) wr).setCell (p:=w.heap.size) rO<|.int .u64 num).setCell (p:=U w.heap.size 1) rO<|.slice Y y.length fc).obj (by show ¬w.heap.size+1=w.heap.size;omega) ak.z;exact(zc (i:=0) e1).trans nl
   refine Vp (ER bd) w Z _ w.heap.size (w.heap.size+1) num _ _ _ (.slice Y y.length fc) y (by rfl) (by rfl) (Hm.z.then mZ<|λi q=>.inr<|by rcases q with rfl|rfl<;>omega) pZ eZ ?_ a4.z a5.z HR.z;exact ac.z.mod mZ (λi q=>.inr (by
    rcases q with rfl|rfl
    .exact⟨_,_,_,aw.z,lc,lc⟩
    exact⟨_,_,_,ak.z,lc,lc⟩))
def Qm(v:rU)(a:qq)(w:rT)(hb:BR w v a)(g:Fb w)(e:a.length<1099511627776):rH 106 #[v] w (Fg w (dec a)):=by
 unfold dec;by_cases e:a.length<4
 .rw[AL e];exact de v a w hb e
 rw[AH e];obtain⟨n,h⟩:∃n,a.length=n+4:=⟨a.length-4,I⟩;rw[(I:a.length-4=n)];by_cases e:Gr a n=Dz (a.take n)
 .rw[AL e];exact YF v a n w hb g h e I
 rw[AH e];exact Vq v a n w hb g h e
end
end Go.Proofs.YtddfdpbaiedcjabGreatDoor
