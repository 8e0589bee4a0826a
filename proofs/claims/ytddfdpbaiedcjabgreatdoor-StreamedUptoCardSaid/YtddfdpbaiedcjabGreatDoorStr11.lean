/- Streamed. Part 11 of 17. -/
import Derived.Test.YtddfdpbaiedcjabGreatDoorStr9
import Derived.Deep.CutBlock
set_option maxRecDepth 100000
set_option maxHeartbeats 16000000
set_option linter.all false
namespace Go.Proofs.YtddfdpbaiedcjabGreatDoor
section
open Go.RowKit Go.Proofs.Tryz
def Fn(c:Nat):Nat:=if c % 2=1 then c / 2 ^^^ 3988292384 else c / 2
def Df:Nat->Nat->Nat
 | 0,c=>c
 | k+1,c=>Fn<|Df k c
def XF(a b:Nat):Fn (a ^^^ b)=Fn a ^^^ Fn b:=by
 unfold Fn;have g:(a ^^^ b) / 2=a / 2 ^^^ b / 2:=by
  have:=Nat.shiftRight_xor_distrib (a:=a) (b:=b) (i:=1);simpa [Nat.shiftRight_eq_div_pow]using this
 have m:(a ^^^ b) % 2=(a % 2+b % 2) % 2:=by
  have h:=Nat.xor_mod_two_pow (a:=a) (b:=b) (n:=1);simp only[Nat.pow_one]at h;rw[h];rcases Nat.mod_two_eq_zero_or_one a with e|e<;>rcases Nat.mod_two_eq_zero_or_one b with hb|hb<;>simp[e,hb]
 rw[g,m];rcases Nat.mod_two_eq_zero_or_one a with e|e<;>rcases Nat.mod_two_eq_zero_or_one b with hb|hb<;>simp[e,hb]
 .rw[Nat.xor_assoc]
 .rw[Nat.xor_assoc,Nat.xor_comm<|b / 2,<-Nat.xor_assoc]
 rw[Nat.xor_comm (b / 2),<-Nat.xor_assoc,Nat.xor_assoc<|a / 2,Nat.xor_self,Nat.xor_zero]
theorem TM:∀k a b,Df k (a ^^^ b)=Df k a ^^^ Df k b
 | 0,_,_=>rfl
 | k+1,a,b=>by
  show Fn _=Fn _ ^^^ Fn _;rw[TM k a b,XF]
def Q9(c:Nat):c / 16*16 ^^^ c % 16=c:=by
 apply Nat.eq_of_testBit_eq;intro i;rw[Nat.testBit_xor,show(16:Nat)=2 ^ 4 from rfl,Nat.testBit_mod_two_pow,Nat.testBit_mul_two_pow,Nat.testBit_div_two_pow];by_cases h:i<4
 .simp[h,(I:¬4<=i)]
 simp[h,(I:4<=i)]
def ff:∀d:Fin 16,Df 4 d.val=ct d.val:=pp
def fe(h:Nat):Df 4 (h*16)=h:=by
 have e:∀m,Fn (m*2)=m:=λm=>by
  unfold Fn;rw[AH I];omega
 simp only[Df];rw[(I:h*16=h*8*2),e,(I:h*8=h*4*2),e,(I:h*4=h*2*2),e,e]
def TL(c:Nat):Df 4 c=Kq c:=by
 rw[<-Q9 c,TM,fe,ff ⟨c % 16,I⟩,Q9];rfl
def Yh(c:Nat)(x:UInt8):Df 8 (c ^^^ x.toNat)=H8 c x:=by
 unfold H8;rw[<-TL,<-TL];rfl
def G3(n size i:Nat):UInt8:=UInt8.ofNat (n / 256 ^ i % 256+(if i+1=size then(if size=8 then 3 else if size=4 then 2 else if size=2 then 1 else 0)*64 else 0))
def IS(n:Nat):Nat:=if 1073741824<=n then 8 else if 16384<=n then 4 else if 64<=n then 2 else 1
def Gi(n:Nat)(size:Nat):Nat->qq
 | 0=>[]
 | k+1=>Gi n size k++[G3 n size (size-1-k)]
def fd(n:Nat)(h:n<4611686018427387904):Gi n (IS n) (IS n)=zV n:=by
 have e:∀a b:Nat,a % 256=b % 256->UInt8.ofNat a=UInt8.ofNat b:=by
  intro a b a;apply Cd.1;rw[BH,BH];exact a
 unfold IS zV;by_cases a:1073741824<=n
 .rw[AL a,AH I,AH I,AH I];simp[Gi,G3];refine⟨e _ _ I,e _ _ I,e _ _ I,e _ _ I,e _ _ I,e _ _ I,e _ _ I,e _ _ I⟩
 rw[AH a];by_cases a:16384<=n
 .rw[AL a,AH I,AH I,AL I];simp[Gi,G3];refine⟨e _ _ I,e _ _ I,e _ _ I,e _ _ I⟩
 rw[AH a];by_cases a:64<=n
 .rw[AL a,AH I,AL I];simp[Gi,G3];refine⟨e _ _ I,e _ _ I⟩
 rw[AH a,AL I];simp[Gi,G3];exact e _ _ I
def XE(a:Nat)(e:a<4294967296):bits .and .u32 (a:Int) 1=((a % 2:Nat):Int):=by
 have:=Rq a 1 e I;rw[show a &&& 1=a % 2 from Nat.and_two_pow_sub_one_eq_mod a 1]at this;exact this
def VB(c:Nat)(h:c<4294967296):Fn c<4294967296:=by
 unfold Fn;split
 .exact CO (n:=32) I I
 omega
theorem Sk:∀k c,c<4294967296->Df k c<4294967296
 | 0,_,h=>h
 | k+1,c,h=>VB _<|Sk k c h
def XD(v:rU)(l:qq)(w:rT)(h:BR w v l):rH 25 #[v] w λe w'=>e=.returned (.int .u32 (Dz l:Int))/\w=w':=by
 obtain⟨a,e,rfl,E,g,C⟩:=h;unfold maxLen at g;go_enter func25,ntmps25;go_wp2_with fail
 go_loop [3,4] (λc i=>∃k:Nat,k<=l.length/\i=.int .i64 k/\c=.int .u32 (Dy (l.take k):Int)) (λ_ i=>l.length-(intOf i).toNat)
 case atStart=>exact⟨0,AK _,rfl,rfl⟩
 case round =>
  obtain⟨k,a,rfl,rfl⟩:=hrel;by_cases a:k<l.length
  .obtain⟨c,u⟩:∃c,l[k]?=some c:=⟨l[k],AG a⟩;obtain⟨g,o,rfl,n⟩:=C k c u;have h:=zb<|Ax Dy<|Om l k c u;obtain⟨x,e⟩:=nm<|Dy<|l.take k;have a:=Mi<|l.take k;rw[e]at a;have A:AA (Dy (l.take<|k+1)=H8 x c):=by
    show _=_;rw[h.z,Te,e]
   rw[e];have g:=c.toNat_lt;obtain⟨d,hd⟩:=nm c.toNat;have q:AA (Df 8 (x ^^^ d)=H8 x c):=by
    show _=_;rw[<-hd];exact Yh x c
   rw[hd]at n g;have D:=J7 x d a I;have z:=Pm x c a;rw[hd]at z;obtain⟨y,a⟩:=nm<|x ^^^ d;rw[a]at D z q;clear h e hd a C u;go_wp2_with fail
   go_loop [3,5] (λc i=>∃m:Nat,m<=8/\i=.int .i64 m/\c=.int .u32 (Df m y:Int)) (λ_ i=>8-(intOf i).toNat)
   case atStart=>exact⟨0,I,rfl,rfl⟩
   case round =>
    obtain⟨m,a,rfl,rfl⟩:=hrel;by_cases a:m<8
    .have g:=Sk m y z;have e:AA (Df (m+1) y=Fn (Df m y)):=rfl;obtain⟨z,a⟩:=nm<|Df m y;rw[a]at g e;rw[a];clear a;have h:=XE z g;have g:=J7 (z / 2) 3988292384 I I;rw[(I:((z / 2:Nat):Int)=(z:Int) / 2)]at g;rcases Nat.mod_two_eq_zero_or_one z with a|a
     .rw[a]at h;have HB:AA (Fn z=z / 2):=by show _=_;unfold Fn;rw[AH I]
      clear a;go_wp2_with fail
      go_round
      case rel=>exact⟨m+1,I,by go_num,by rw[e.z,HB.z];rfl⟩
      simp[intOf];omega
     rw[a]at h;have HB:AA (Fn z=(z / 2 ^^^ 3988292384)):=by show _=_;unfold Fn;rw[AL a]
     clear a;go_wp2_with fail
     go_round
     case rel=>exact⟨m+1,I,by go_num,by rw[e.z,HB.z];exact Ax (Value.int .u32) g⟩
     simp[intOf];omega
    have B:m=8:=I;subst B;rw[q.z];clear D;go_wp2_with fail
    go_round
    case rel=>exact⟨k+1,I,by go_num,by rw[A.z]⟩
    simp[intOf];omega
  have a:l.take k=l:=AS I;rw[a];have e:AA (bits .xor .u32 IntKind.u32.max (Dy l:Int)=(Dz l:Int)):=J7 4294967295 (Dy l) I<|Mi l;clear a;go_wp2;go_ret;exact⟨by rw[e.z];rfl,rfl⟩
theorem Ub(n size:Nat):∀k,(Gi n size k).length=k
 | 0=>rfl
 | k+1=>by simp[Gi,Ub n size k]
def XC(n:Nat):(1073741824<=n->IS n=8)/\(16384<=n->n<1073741824->IS n=4)/\(64<=n->n<16384->IS n=2)/\(n<64->IS n=1):=by
 unfold IS;split
 .omega
 split
 .omega
 split<;>omega
def KI(v:rU)(l:qq)(n:Nat)(w:rT)(h:OB w v l)(e:l.length<=35184372088832)(hn:n<4611686018427387904):rH 50 #[v,n] w λe w'=>∃L,e=.returned L/\DX w v l (zV n) L w':=by
 rw[<-fd n hn];obtain⟨X,Y,Z,s1⟩:=XC n;generalize IS n=S at *;obtain⟨a,G,rfl,_⟩:=zi h;have H:=zb h;clear h;by_cases e:(1073741824:Int)<=n<;>by_cases h:(16384:Int)<=n<;>by_cases L:(64:Int)<=n<;>first|(exfalso;omega)|skip;all_goals
  first|have u:AA (S=8):=X I|have u:AA (S=4):=Y I I|have u:AA (S=2):=Z I I|have u:AA (S=1):=s1 I
  clear X Y Z s1;go_enter func50,ntmps50;go_wp2_with fail;clear e h L
  go_loopw [0,7] (λe i wr=>∃(j:Nat) (z:Int),j<=S/\z=(S:Int)-1-(j:Int)/\i=.int .i64 z/\DX w (.slice a l.length G) l (Gi n S j) e wr) (λ_ i _=>(intOf i+1).toNat)
  case atStart =>
   refine⟨0,_,AK _,?_,rfl,DX.refl H.z⟩;have:=u.z;omega
  case round =>
   obtain⟨j,z,a,A,rfl,K⟩:=hrel;have D:=u.z;have HA:=zb K;have C:=K.own;have E:(l++Gi n S j).length<=70368744177664:=by
    rw[AF,Ub];omega
   obtain⟨L,M⟩:=nm<|l++Gi n S j;rw[M]at C E;obtain⟨a,e,rfl,_⟩:=zi C;have HL:=zb M;clear K M;by_cases a:j<S
   .obtain⟨B,N⟩:∃B:Nat,z=(B:Int):=⟨z.toNat,I⟩;subst N;have y:=zb (I:B+j+1=S);have a:B<=7:=I;clear A D;go_wp2_with fail
    go_loop [8,9] (λb k=>∃m:Nat,m<=B/\k=.int .i64 m/\b=.int .u64 ((n / 256 ^ m:Nat):Int)) (λ_ k=>B-(intOf k).toNat)
    case atStart=>exact⟨0,AK _,rfl,nl⟩
    case round =>
     obtain⟨m,a,rfl,rfl⟩:=hrel;have hq:n / 256 ^ m<=n:=Nat.div_le_self _ _;by_cases a:m<B
     .have a:AA (n / 256 ^ m / 256=n / 256 ^ (m+1)):=by
       show _=_;rw[Nat.pow_succ,Nat.div_div_eq_div_mul]
      obtain⟨q,g⟩:=nm<|n / 256 ^ m;rw[g]at a hq;rw[g];clear g;go_wp2_with fail
      go_round
      case rel=>exact⟨m+1,I,by go_num,by rw[<-a.z];rfl⟩
      simp[intOf];omega
     have O:m=B:=I;subst O;have h:AA (Gi n S (j+1)=Gi n S j++[G3 n S m]):=by
      show _=_;rw[(qm y.z:m=S-1-j)];rfl
     have hb:G3 n S m=UInt8.ofNat (n / 256 ^ m % 256+(if m+1=S then(if S=8 then 3 else if S=4 then 2 else if S=2 then 1 else 0)*64 else 0)):=rfl;obtain⟨q,g⟩:=nm<|n / 256 ^ m;rw[g]at hb hq;rw[g];clear g;rw[u.z]at hb;simp only[reduceIte,Nat.reduceEqDiff,Nat.reduceMul]at hb;have a:m+1<=S:=qm y.z;rw[u.z]at a;by_cases a:(m:Int)=7<;>by_cases a:(m:Int)=3<;>by_cases a:(m:Int)=1<;>by_cases a:(m:Int)=0<;>first|(exfalso;omega)|skip;all_goals
      first|have A:(q:Int) % 256=((G3 n S m).toNat:Int):=by rw[u.z,hb,BH];(try split)<;>omega|have A:((q:Int)+64) % 256=((G3 n S m).toNat:Int):=by rw[u.z,hb,BH];(try split)<;>omega|have A:((q:Int)+128) % 256=((G3 n S m).toNat:Int):=by rw[u.z,hb,BH];(try split)<;>omega|have A:((q:Int)+192) % 256=((G3 n S m).toNat:Int):=by rw[u.z,hb,BH];(try split)<;>omega
      obtain⟨g,q,e,a⟩:=J2 wr _ _ (G3 n S m) _ C A E;have g:=zb (HA.z.trans (by rw[HL.z];exact a));clear a hb A;go_wp2_with (at_builtin;refine zm rfl _ _ _ _ rfl _ _ _ rfl rfl e ?_);go_roundw
      case rel=>exact⟨j+1,(m:Int)-1,qm y.z,qm y.z,by go_num,by rw[h.z];exact g.z⟩
      first|(simp[intOf];done)|(simp[intOf];omega)
   have R:j=S:=I;subst R;have a:z<0:=I;clear A D;go_wp2;go_ret;exact⟨_,rfl,HA.z⟩
def OY(v:rU)(l:qq)(w:rT)(h:BR w v l)(a:l.length<=35184372088832):rH 10 #[v] w λe w'=>∃a,e=.returned a/\OB w' a (l++EP (Dz l))/\C9 DA w w'/\∀g,a.ownBlock=some g->w.heap.size<=g:=by
 have n:=XD v l w h;have B:=Lf l;obtain⟨C,W1,q,m,z,u⟩:=VH w v l h I;obtain⟨s,y⟩:=nm<|Dz l;rw[y]at n B;rw[y];obtain⟨a,w',D,DG⟩:=J8 W1 C l (EP s) #[.int .u8 ((s:Int) / 16777216),.int .u8<|(s:Int) / 65536 % 256,.int .u8<|(s:Int) / 256 % 256,.int .u8 ((s:Int) % 256)] 4 m (by
  simp only[EP,zS,BO,B8,Mj];simp;omega) rfl I
 obtain⟨a,B,rfl,_⟩:=h;obtain⟨a,h,rfl,_⟩:=zi m;have H:=zb DG;have A:=zb z;clear DG y z m;go_enter func10,ntmps10;go_wp2_with (first|(go_at_call 25;refine n.mono ?_;rintro e w' ⟨rfl,rfl⟩)|(at_builtin;first|(refine zm rfl _ _ _ _ rfl _ _ _ rfl rfl q ?_;clear q)|(refine zm rfl _ _ _ _ rfl _ _ _ rfl rfl D ?_)));go_ret;refine⟨_,rfl,H.z.own,A.z.then H.z.mod<|λi a=>.inr<|u i a,λg a=>?_⟩;rcases H.z.at_ g a with x|x
 .exact u g x
 have:=A.z.size;omega
variable{f:DF}
def Mv(h:D8 f=false):zH f=false:=by
 unfold zH;rw[h,Bool.false_and,Bool.false_and]
def Tz(h:D6 f=false):zH f=false:=by
 unfold zH;rw[h,Bool.and_false,Bool.false_and]
def OX(a:D8 f=true)(e:D6 f=true):zH f=zP f:=by
 unfold zH;rw[a,e,CH,CH]
def fZ(f:DF)(a:rU)(w:rT) (h:4611686018427387903<f.off):rH 29 #[.agg (ze f a)] w (EX w (zH f)):=by
 have a:=zb<|Mv<|MI (k:=0) I h;have d:(4611686018427387903:Int)<f.off:=I;unfold ze;go_enter func29,ntmps29;go_wp2;go_ret;exact⟨by rw[a.z];rfl,(rS.alloc _)⟩
def fY(f:DF)(e:rU)(w:rT)(a:¬4611686018427387903<f.off)(h:4611686018427387903<f.rel):rH 29 #[.agg (ze f e)] w (EX w (zH f)):=by
 have e:=zb<|Mv<|MI (k:=1) I h;have a:¬(4611686018427387903:Int)<f.off:=I;have d:(4611686018427387903:Int)<f.rel:=I;unfold ze;go_enter func29,ntmps29;go_wp2;go_ret;exact⟨by rw[e.z];rfl,(rS.alloc _)⟩
def fX(f:DF)(e:rU)(w:rT)(a:¬4611686018427387903<f.off)(hrel:¬4611686018427387903<f.rel)(h:4611686018427387903<f.lF):rH 29 #[.agg (ze f e)] w (EX w (zH f)):=by
 have e:=zb<|Mv<|MI (k:=2) I h;have a:¬(4611686018427387903:Int)<f.off:=I;have a:¬(4611686018427387903:Int)<f.rel:=I;have d:(4611686018427387903:Int)<f.lF:=I;unfold ze;go_enter func29,ntmps29;go_wp2;go_ret;exact⟨by rw[e.z];rfl,(rS.alloc _)⟩
def Yg(f:DF)(g:rU)(w:rT)(a:¬4611686018427387903<f.off)(hrel:¬4611686018427387903<f.rel)(e:¬4611686018427387903<f.lF)(h:4611686018427387903<f.id):rH 29 #[.agg (ze f g)] w (EX w (zH f)):=by
 have e:=zb<|Mv<|MI (k:=3) I h;have a:¬(4611686018427387903:Int)<f.off:=I;have a:¬(4611686018427387903:Int)<f.rel:=I;have a:¬(4611686018427387903:Int)<f.lF:=I;have d:(4611686018427387903:Int)<f.id:=I;unfold ze;go_enter func29,ntmps29;go_wp2;go_ret;exact⟨by rw[e.z];rfl,(rS.alloc _)⟩
def Yf(f:DF)(g:rU)(w:rT)(a:¬4611686018427387903<f.off)(hrel:¬4611686018427387903<f.rel)(e:¬4611686018427387903<f.lF)(m:¬4611686018427387903<f.id)(h:4611686018427387903<f.dl):rH 29 #[.agg (ze f g)] w (EX w (zH f)):=by
 have e:=zb<|Mv<|MI (k:=4) I h;have a:¬(4611686018427387903:Int)<f.off:=I;have a:¬(4611686018427387903:Int)<f.rel:=I;have a:¬(4611686018427387903:Int)<f.lF:=I;have a:¬(4611686018427387903:Int)<f.id:=I;have d:(4611686018427387903:Int)<f.dl:=I;unfold ze;go_enter func29,ntmps29;go_wp2;go_ret;exact⟨by rw[e.z];rfl,(rS.alloc _)⟩
def fW(f:DF)(g:rU)(w:rT)(a:¬4611686018427387903<f.off)(hrel:¬4611686018427387903<f.rel)(e:¬4611686018427387903<f.lF)(m:¬4611686018427387903<f.id)(n:¬4611686018427387903<f.dl)(h:f.stream<0):rH 29 #[.agg (ze f g)] w (EX w (zH f)):=by
 have e:=zb (Tz (f:=f) (by simp[D6];omega));have a:¬(4611686018427387903:Int)<f.off:=I;have a:¬(4611686018427387903:Int)<f.rel:=I;have a:¬(4611686018427387903:Int)<f.lF:=I;have a:¬(4611686018427387903:Int)<f.id:=I;have a:¬(4611686018427387903:Int)<f.dl:=I;unfold ze;go_enter func29,ntmps29;go_wp2;go_ret;exact⟨by rw[e.z];rfl,(rS.alloc _)⟩
def fV(f:DF)(g:rU)(w:rT)(a:¬4611686018427387903<f.off)(hrel:¬4611686018427387903<f.rel)(e:¬4611686018427387903<f.lF)(m:¬4611686018427387903<f.id)(n:¬4611686018427387903<f.dl)(h:8<=f.stream):rH 29 #[.agg (ze f g)] w (EX w (zH f)):=by
 have e:=zb (Tz (f:=f) (by simp[D6];omega));have a:¬(4611686018427387903:Int)<f.off:=I;have a:¬(4611686018427387903:Int)<f.rel:=I;have a:¬(4611686018427387903:Int)<f.lF:=I;have a:¬(4611686018427387903:Int)<f.id:=I;have a:¬(4611686018427387903:Int)<f.dl:=I;have a:¬f.stream<0:=I;unfold ze;go_enter func29,ntmps29;go_wp2;go_ret;exact⟨by rw[e.z];rfl,(rS.alloc _)⟩
def XB(f:DF)(rv:rU)(w:rT)(a:¬4611686018427387903<f.off)(hrel:¬4611686018427387903<f.rel)(b:¬4611686018427387903<f.lF)(hid:¬4611686018427387903<f.id)(hdl:¬4611686018427387903<f.dl)(hn:¬f.stream<0)(h8:¬8<=f.stream)(hk:f.kind=3):rH 29 #[.agg (ze f rv)] w (EX w (zH f)):=by
 have c:¬(4611686018427387903:Int)<f.off:=I;have d:¬(4611686018427387903:Int)<f.rel:=I;have e:¬(4611686018427387903:Int)<f.lF:=I;have did:¬(4611686018427387903:Int)<f.id:=I;have ddl:¬(4611686018427387903:Int)<f.dl:=I;have dn:¬f.stream<0:=I;have db:¬8<=f.stream:=I;have HR:=zb (OX (f:=f) (by simp[D8,nums];omega) (by simp[D6];omega));have HC:AA (zP f=decide (f.rel<=f.off)):=by show _=_;simp[zP,hk]
 unfold ze;go_enter func29,ntmps29;go_wp2;go_ret;exact⟨by rw[HR.z,HC.z];rfl,(rS.alloc _)⟩
def XA(f:DF)(rv:rU)(w:rT)(a:¬4611686018427387903<f.off)(hrel:¬4611686018427387903<f.rel)(b:¬4611686018427387903<f.lF)(hid:¬4611686018427387903<f.id)(hdl:¬4611686018427387903<f.dl)(hn:¬f.stream<0)(h8:¬8<=f.stream)(hk:f.kind=4)(hd:f.data.length<=35184372088832):rH 29 #[.agg (ze f rv)] w (EX w (zH f)):=by
 have c:¬(4611686018427387903:Int)<f.off:=I;have d:¬(4611686018427387903:Int)<f.rel:=I;have e:¬(4611686018427387903:Int)<f.lF:=I;have did:¬(4611686018427387903:Int)<f.id:=I;have ddl:¬(4611686018427387903:Int)<f.dl:=I;have dn:¬f.stream<0:=I;have db:¬8<=f.stream:=I;have HR:=zb (OX (f:=f) (by simp[D8,nums];omega) (by simp[D6];omega));have g:AA (zP f=decide ((f.data.length:Int)<=4611686018427387903-f.off)):=by show _=_;simp[zP,hk];omega
 have hz:=zM f.data;have hzm:(zy f.data).size<=9223372036854775807:=I;rw[<-hz]at g;unfold ze;go_enter func29,ntmps29;go_wp2;go_ret;exact⟨by rw[HR.z,g.z];rfl,(rS.alloc _)⟩
def iQ(f:DF)(rv:rU)(w:rT)(d:¬4611686018427387903<f.off)(hrel:¬4611686018427387903<f.rel)(e:¬4611686018427387903<f.lF)(hid:¬4611686018427387903<f.id)(hdl:¬4611686018427387903<f.dl)(hn:¬f.stream<0)(h8:¬8<=f.stream)(g:f.kind≠2)(h:f.kind≠3)(i:f.kind≠4):rH 29 #[.agg (ze f rv)] w (EX w (zH f)):=by
 have j:¬(4611686018427387903:Int)<f.off:=I;have k:¬(4611686018427387903:Int)<f.rel:=I;have l:¬(4611686018427387903:Int)<f.lF:=I;have did:¬(4611686018427387903:Int)<f.id:=I;have ddl:¬(4611686018427387903:Int)<f.dl:=I;have dn:¬f.stream<0:=I;have db:¬8<=f.stream:=I;have a:=zb (OX (f:=f) (by simp[D8,nums];omega) (by simp[D6];omega));have k2:¬f.kind=2:=g;have k3:¬f.kind=3:=h;have k4:¬f.kind=4:=i;have b:AA (zP f=(decide (1<=f.kind)&&decide (f.kind<=8))):=by show _=_;simp[zP,g,h,i]
 by_cases c:1<=f.kind
 .by_cases m:f.kind<=8
  .unfold ze;go_enter func29,ntmps29;go_wp2;go_ret;exact⟨by rw[a.z,b.z];simp[c,m],(rS.alloc _)⟩
  unfold ze;go_enter func29,ntmps29;go_wp2;go_ret;exact⟨by rw[a.z,b.z];simp[c,m],(rS.alloc _)⟩
 unfold ze;go_enter func29,ntmps29;go_wp2;go_ret;exact⟨by rw[a.z,b.z];simp[c];omega,(rS.alloc _)⟩
def Wz(f:DF)(a:qs)(c:Nat)(w:rT)(h:¬4611686018427387903<f.off)(hrel:¬4611686018427387903<f.rel)(q:¬4611686018427387903<f.lF)(M:¬4611686018427387903<f.id)(N:¬4611686018427387903<f.dl)(hn:¬f.stream<0)(h8:¬8<=f.stream)(u:f.kind=2)(O:RR w (.slice a f.kC.length c) f.kC)(hb:f.kC.length<=1099511627776):rH 29 #[.agg (ze f (.slice a f.kC.length c))] w (EX w (zH f)):=by
 have A:¬(4611686018427387903:Int)<f.off:=I;have B:¬(4611686018427387903:Int)<f.rel:=I;have C:¬(4611686018427387903:Int)<f.lF:=I;have R:¬(4611686018427387903:Int)<f.id:=I;have X:¬(4611686018427387903:Int)<f.dl:=I;have dn:¬f.stream<0:=I;have db:¬8<=f.stream:=I;have HR:=zb (OX (f:=f) (by simp[D8,nums];omega) (by simp[D6];omega));have HC:AA (zP f=EQ f.kC):=by show _=_;simp[zP,u]
 have y:zp (w.alloc<|.cells (ze f<|.slice a f.kC.length c) 48) w.heap.size f (.slice a f.kC.length c):=heap_alloc_new w _;have L:C9 DA w (w.alloc<|.cells (ze f<|.slice a f.kC.length c) 48):=rS.alloc _;obtain⟨W0,e⟩:=nm<|w.alloc<|.cells (ze f<|.slice a f.kC.length c) 48;rw[e]at y L;have c9:=y.cells.2.2.2.2.2.2.2.2.2;have D:=O.mod L<|DN.no _;obtain⟨a',a,Y,h1,Z,_⟩:=id O;cases Y;unfold maxLen at Z;unfold ze at e;rw[u]at e;have Z:=zb e;have E:=zb L;have a:=zb u;have a:=y.cells;clear e L O;obtain⟨k0,e,L,O,k4,k5,k6,k7,k8,k9⟩:=a;clear e L O k4 k5 k6 k7 k8 k9;unfold ze;go_enter func29,ntmps29;go_wp2_with fail;rw[Z.z];clear u A B C R X dn db h hrel q M N hn h8
 go_loopw [3] (λi wr=>∃k:Nat,k<=f.kC.length/\i=.int .i64 k/\G7 f.kC k=true/\C9 DA W0 wr) (λi _=>f.kC.length-(intOf i).toNat)
 case atStart=>exact⟨0,AK _,rfl,rfl,C9.refl _ _⟩
 case round =>
  obtain⟨k,u,rfl,G,m⟩:=hrel;have n:=zb G;clear G;by_cases K:k<f.kC.length
  .obtain⟨a',a,Y,_,_,h3⟩:=D.mod m<|DN.no _;cases Y;obtain⟨g,o,rfl,e1,e2,b1,b2⟩:=h3 k K;have z:0<k->wr (g,o+(k-1)*2)=some (.int .u64 (DE f.kC (k-1):Int))/\DE f.kC (k-1)<18446744073709551616:=λa=>by
    obtain⟨a,e,hg,z,_,b3,_⟩:=h3 (k-1) I;cases hg;exact⟨z,b3⟩
   have A:=(y.mod m rP).cells.2.2.2.2.2.2.2.2.2;have a:=zo A;have a:=zo e1;have G:=zb<|Tc f.kC k;have B:=zb<|λh=>(HR.z.trans HC.z).trans<|UQ (rs:=f.kC) K h;have e:AA (G8 f.kC k=(decide (DE f.kC k<=DB f.kC k)&&decide (DB f.kC k<=4611686018427387903)&&(decide (k=0)||(decide (2<=DE f.kC (k-1))&&decide (DB f.kC k+2<=DE f.kC (k-1)))))):=rfl;obtain⟨C,g⟩:=nm<|DE f.kC k;obtain⟨a,h⟩:=nm<|DB f.kC k;obtain⟨q,u⟩:=nm<|DE f.kC<|k-1;rw[g,h,u]at e;rw[g]at e1 b1;rw[h]at e2 b2;rw[u]at z;clear g h u h3 D;clear y c9;by_cases h:a<C
   .have g:decide (a<C)=true:=qp h;go_wp2;go_quiet (fail);go_wp2;go_ret;exact⟨by rw[B.z (by rw[e.z];simp;omega)];rfl,E.z.trans<|(m.alloc _).drewN _⟩
   have g:decide (a<C)=false:=qp h;by_cases h:(4611686018427387903:Int)<a
   .have g:decide ((4611686018427387903:Int)<a)=true:=qp h;go_wp2;go_quiet (fail);go_wp2;go_ret;exact⟨by rw[B.z (by rw[e.z];simp;omega)];rfl,E.z.trans<|(m.alloc _).drewN _⟩
   have g:decide ((4611686018427387903:Int)<a)=false:=qp h;by_cases u:0<k
   .have g:decide (0<k)=true:=qp u;obtain⟨h,C⟩:=z I;have h:IntKind.i64.wrap ((k:Int)-1)=(k:Int)-1:=IntWalk.i64_in _ I;have h:((k:Int)-1).toNat=k-1:=I;have h:0<=(k:Int)-1:=I;have h:(k:Int)-1<f.kC.length:=I;clear z;by_cases C:(q:Int)<2
    .have h:decide ((q:Int)<2)=true:=qp C;go_wp2;go_quiet (fail);go_wp2;go_ret;exact⟨by rw[B.z (by rw[e.z];simp;omega)];rfl,E.z.trans<|(m.alloc _).drewN _⟩
    have h:decide ((q:Int)<2)=false:=qp C;have h:=wu ((q:Int)-2) I;by_cases C:(q:Int)-2<a
    .have h:decide ((q:Int)-2<a)=true:=qp C;go_wp2;go_quiet (fail);go_wp2;go_ret;exact⟨by rw[B.z (by rw[e.z];simp;omega)];rfl,E.z.trans<|(m.alloc _).drewN _⟩
    have h:decide ((q:Int)-2<a)=false:=qp C;go_wp2;go_quiet (fail);go_wp2;go_roundw
    case rel=>exact⟨k+1,I,by go_num,by rw[G.z,n.z,e.z];simp;omega,(m.alloc _).drewN _⟩
    simp[intOf];omega
   have g:decide (0<k)=false:=qp u;clear z;go_wp2;go_quiet (fail);go_wp2;go_roundw
   case rel=>exact⟨k+1,I,by go_num,by rw[G.z,n.z,e.z];simp;omega,(m.alloc _).drewN _⟩
   simp[intOf];omega
  have a:k=f.kC.length:=I;have e:AA (EQ f.kC=decide (0<f.kC.length)):=by
   show _=_;unfold EQ;have:=n.z;rw[a]at this;rw[this];simp
  have A:=(y.mod m rP).cells.2.2.2.2.2.2.2.2.2;clear a;go_wp2;go_ret;exact⟨by rw[HR.z,HC.z,e.z];rfl,E.z.trans m⟩
def Ty(f:DF)(a:qs)(c:Nat)(w:rT)(z:RR w (.slice a f.kC.length c) f.kC)(hb:f.kC.length<=1099511627776)(hd:f.data.length<=35184372088832):rH 29 #[.agg (ze f (.slice a f.kC.length c))] w (EX w (zH f)):=by
 by_cases e:4611686018427387903<f.off
 .exact fZ f _ w e
 by_cases g:4611686018427387903<f.rel
 .exact fY f _ w e g
 by_cases h:4611686018427387903<f.lF
 .exact fX f _ w e g h
 by_cases m:4611686018427387903<f.id
 .exact Yg f _ w e g h m
 by_cases n:4611686018427387903<f.dl
 .exact Yf f _ w e g h m n
 by_cases q:f.stream<0
 .exact fW f _ w e g h m n q
 by_cases u:8<=f.stream
 .exact fV f _ w e g h m n u
 by_cases y:f.kind=2
 .exact Wz f a c w e g h m n q u y z hb
 by_cases a:f.kind=3
 .exact XB f _ w e g h m n q u a
 by_cases z:f.kind=4
 .exact XA f _ w e g h m n q u z hd
 exact iQ f _ w e g h m n q u y a z
def Wy(v:rU)(l:qq)(f:DF)(a:rU)(w:rT)(h:OB w v l)(e:l.length<=17592186044416)(t:UInt8)(z:Int)(m:z=(t.toNat:Int)):∃g w',(∀e,(Builtin.append_ #[44,44] e #[v,.slice (w.heap.size+1,0) 1 1]).run prog ((w.alloc (.cells (ze f a) 48)).alloc (.cells #[.int .u8 z] 5))=.ok g w')/\E7 w w' w.heap.size f a v l [t] g 17592186044417:=by
 have g:C9 DA w (w.alloc<|.cells (ze f a) 48):=rS.alloc _;have n:zp (w.alloc<|.cells (ze f a) 48) w.heap.size f a:=heap_alloc_new w _;obtain⟨q,u,y,A⟩:=J2 (w.alloc<|.cells (ze f a) 48) v l t z (h.kI g) m I;refine⟨q,u,λe=>?_,n.app (h.kI g) A,DX.after g A,ol⟩;have:=y e;simpa using this
variable{W w:rT}{b n:Nat}{l:qq}{rv v v':rU}
def E7.ph{x:qq}(h:E7 w W b f rv v l x v' n)(z:Int)(m:0<=z)(u:z<4611686018427387904)(q:n<=35184372088832):rH 50 #[v',z] W λe W'=>∃g,e=.returned g/\E7 w W' b f rv v l (x++zV z.toNat) g (n+8):=by
 have k:=KI v' (l++x) z.toNat W h.ap.own (AR h.le q) I;rw[Int.toNat_of_nonneg m]at k;refine k.mono ?_;rintro e W' ⟨g,rfl,a⟩;have:=h.next a;exact⟨g,rfl,this.fr,this.ap,AR this.le<|qm<|zK z.toNat⟩
def E7.form{x:qq}(h:E7 w W b f rv v l x v' n):∃N a c,v'=.slice a N c:=by
 obtain⟨a,c,e,_⟩:=zi h.ap.own;exact⟨_,_,_,e⟩
theorem Wx(v:rU)(l:qq)(f:DF)(a:rU)(w:rT)(h:OB w v l)(m:l.length<=17592186044416)(hb:f.Bounds)(g:f.kind=1\/f.kind=3\/f.kind=5\/f.kind=6\/f.kind=8\/f.kind=7\/f.kind=4):rH 51 #[v,.agg (ze f a)] w (Gv w v l (zC f)):=by
 obtain⟨s0,z,E,br,G,K,bd,L⟩:=hb;have z:IntKind.u64.wrap f.stream=f.stream:=by rw[IntKind.wrap_u64];omega
 have z:=zM f.data;have z:(zy f.data).size<=9223372036854775807:=I;have S:=λt z e=>Wy v l f a w h m t z e
 obtain⟨a,m,rfl,_⟩:=zi h;clear h;rcases g with g|g|g|g|g|g|g
 rotate_right
 cases hfin:f.fin;obtain⟨h,m,a,H⟩:=S 8 8 rfl;rotate_left;obtain⟨h,m,a,H⟩:=S 9 9 rfl;rotate_left;obtain⟨h,m,a,H⟩:=S 1 1 rfl;rotate_left;obtain⟨h,m,a,H⟩:=S 36 36 rfl;rotate_left;obtain⟨h,m,a,H⟩:=S 16 16 rfl;rotate_left;obtain⟨h,m,a,H⟩:=S 17 17 rfl;rotate_left;obtain⟨h,m,a,H⟩:=S 28 28 rfl;rotate_left;obtain⟨h,m,a,H⟩:=S 48 48 rfl;all_goals
  clear S;obtain⟨c0,c1,c2,u,y,q,A,B,C,D⟩:=H.fr.cells;have n:=zb H;clear H;unfold ze at a ⊢;rw[g]at a c0 ⊢;try rw[hfin]at a q ⊢
  go_enter func51,ntmps51;go_wp2_with (at_builtin;refine zm rfl _ _ _ _ rfl _ _ _ rfl rfl a ?_;clear a);repeat
   refine(n.z.ph _ I I I).mono ?_;clear c0 c1 c2 u y q A B C D;rintro e a ⟨e,rfl,H⟩;obtain⟨N,a,e,rfl⟩:=H.form;obtain⟨c0,c1,c2,u,y,q,A,B,C,D⟩:=H.fr.cells;have n:=zb H;clear H;rw[g]at c0;try rw[hfin]at q
   try clear hr5 HA5
   obtain⟨e,h,hr5,a⟩:=Rp _ _ _ (zy f.data) n.z.ap.own (by have:=n.z.le;rw[zM];omega);rw[KY]at a;have HA5:=zb<|n.z.ap.trans a;clear a;go_wp2_with (at_builtin;refine zm rfl _ _ _ _ rfl _ _ _ rfl rfl hr5 ?_)
  go_ret;refine⟨_,rfl,?_⟩
  first
  | (have a:=n.z.ap;simp[zC,IF,IG,Fy,g]at a ⊢;exact a)
  | (have a:=HA5.z;simp[zC,ID,IK,g,hfin]at a ⊢;exact a)
  | (have a:=HA5.z;simp[zC,IE,g]at a ⊢;exact a)
def Ww(v:rU)(l:qq)(f:DF)(a:qs)(cap:Nat)(w:rT)(hk:f.kind=2)(hr:RR w (.slice a f.kC.length cap) f.kC)(hs:EQ f.kC=true)(hn:f.kC.length<=1099511627776)(aj:DN (λk=>v.ownBlock=some k) (.slice a f.kC.length cap))(h:OB w v l)(hl:l.length<=8796093022208):rH 51 #[v,.agg (ze f (.slice a f.kC.length cap))] w (Gv w v l (zC f)):=by
 have B:0<f.kC.length:=by
  unfold EQ at hs;simp only[AV,AW]at hs;exact hs.2
 obtain⟨a',aJ,aD,h1,h2,h3⟩:=id hr;cases aD;unfold maxLen at h2;obtain⟨g,o,rfl,Y,e2,b1,b2⟩:=h3 0 B;obtain⟨k1,k2,_⟩:=JD hs B;have aK:=zo Y;have ac:¬v.ownBlock=some g:=aj g o _ _ rfl;have HB:AA (zC f=((([2]++zV (DB f.kC 0))++zV (f.kC.length-1))++zV (DB f.kC 0-DE f.kC 0))++Di f.kC (f.kC.length-1)):=by
  show _=_;simp[zC,hk,Fa]
 have hH:∀i,i<f.kC.length->DE f.kC i<=DB f.kC i/\DB f.kC i<=4611686018427387903/\(0<i->DB f.kC i+2<=DE f.kC (i-1)):=λi A=>JD hs A
 have HH:=zb hH;clear hH;obtain⟨lo,ad⟩:=nm<|DE f.kC 0;obtain⟨A,ak⟩:=nm<|DB f.kC 0;rw[ad]at Y b1 k1;rw[ak]at e2 b2 k1 k2;rw[ad,ak]at HB;simp only[B6,Bb]at Y e2;have al:=zb ad;clear ad ak h3;have z1:IntKind.i64.wrap ((f.kC.length:Int)-1)=(f.kC.length:Int)-1:=IntWalk.i64_in _ I;have z2:IntKind.u64.wrap ((f.kC.length:Int)-1)=((f.kC.length-1:Nat):Int):=by rw[IntKind.wrap_u64];omega
 have z3:IntKind.u64.wrap ((A:Int)-lo)=((A-lo:Nat):Int):=by rw[IntKind.wrap_u64];omega
 have m0:C9 DA w (w.alloc<|.cells (ze f<|.slice (g,o) f.kC.length cap) 48):=rS.alloc _;have F0:zp (w.alloc<|.cells (ze f<|.slice (g,o) f.kC.length cap) 48) w.heap.size f (.slice (g,o) f.kC.length cap):=heap_alloc_new w _;have h0:=h.kI m0;obtain⟨v1,w1,Z,O⟩:=J2 (w.alloc<|.cells (ze f<|.slice (g,o) f.kC.length cap) 48) v l 2 2 h0 rfl I;have X:=F0.app h0 O;have L1:(l++[(2:UInt8)]).length<=8796093022208+1:=ol;have ay:(w.alloc<|.cells (ze f<|.slice (g,o) f.kC.length cap) 48).heap.size=w.heap.size+1:=nl;rw[ay]at Z;clear ay;obtain⟨W0,u⟩:=nm<|w.alloc<|.cells (ze f<|.slice (g,o) f.kC.length cap) 48;have M0:AA (C9 DA w W0):=by rw[<-u];exact m0
 have am:AA (RR W0 (.slice (g,o) f.kC.length cap) f.kC):=by rw[<-u];exact hr.mod m0<|DN.no _
 have R:AA (DX W0 v l [2] v1 w1):=by rw[<-u];exact O
 have aE:AA (zp W0 w.heap.size f<|.slice (g,o) f.kC.length cap):=by rw[<-u];exact F0
 have aF:AA (OB W0 v l):=by rw[<-u];exact h0
 have ae:=zb X;have g1:=O.mod.cell (a:=(g,o)) ac<|m0.cell (a:=(g,o)) id Y;have g2:=O.mod.cell (a:=(g,o+1)) ac<|m0.cell (a:=(g,o+1)) id e2;obtain⟨c0,c1,c2,D,E,G,L,M,N,C⟩:=X.cells;have an:AA (W0 (g,o+1)=some (.int .u64 A)):=by rw[<-u];exact m0.cell (a:=(g,o+1)) id e2
 obtain⟨va,vc,rfl,_⟩:=zi h;have HK:=zb hk;have y:=zb ac;clear m0 F0 h0 O X hr hs aj Y e2 h ac;unfold ze at Z u ⊢;rw[hk]at Z c0 u;have h:=zb u;clear u;go_enter func51,ntmps51;go_wp2_with (at_builtin;refine zm rfl _ _ _ _ rfl _ _ _ rfl rfl Z ?_;clear Z);refine(KI v1 (l++([2])) (A) w1 R.z.own I I).mono ?_;rintro e w2 ⟨v2,rfl,n⟩;have ao:=zb<|ae.z.app R.z.own n;have z:=zb<|R.z.trans n;have L2:(l++([2]++zV A)).length<=8796093022208+9:=by have:=zK<|A;simp at this L1 ⊢;omega
 clear n g1 g2;have aG:¬v2.ownBlock=some g:=λhx=>by
  rcases z.z.at_ g hx with x|x
  .exact y.z x
  have:=M0.z.size;omega
 have g1:=z.z.mod.cell (a:=(g,o)) y.z (by have:=am.z.cell0 B;simpa [al.z]using this);have g2:=z.z.mod.cell (a:=(g,o+1)) y.z an.z;clear c0 c1 c2 D E G L M N C;obtain⟨c0,c1,c2,D,E,G,L,M,N,C⟩:=ao.z.cells;rw[HK.z]at c0;go_wp2_with fail;refine(KI v2 (l++([2]++zV A)) (f.kC.length-1) w2 z.z.own I I).mono ?_;rintro e w3 ⟨v3,rfl,n⟩;have aq:=zb<|ao.z.app z.z.own n;have aa:=zb<|z.z.trans n;have L3:(l++([2]++zV A++zV (f.kC.length-1))).length<=8796093022208+17:=by have:=zK<|f.kC.length-1;simp at this L2 ⊢;omega
 clear n g1 g2;have ar:¬v3.ownBlock=some g:=λhx=>by
  rcases aa.z.at_ g hx with x|x
  .exact y.z x
  have:=M0.z.size;omega
 have g1:=aa.z.mod.cell (a:=(g,o)) y.z (by have:=am.z.cell0 B;simpa [al.z]using this);have g2:=aa.z.mod.cell (a:=(g,o+1)) y.z an.z;clear c0 c1 c2 D E G L M N C;obtain⟨c0,c1,c2,D,E,G,L,M,N,C⟩:=aq.z.cells;rw[HK.z]at c0;go_wp2_with fail;have A3:=aa.z.n8;have F3:=aq.z.mod (S:=DA) rS.drew rP;clear c0 c1 c2 D E G L M N C;refine zr 14 (λw'=>zp w' w.heap.size f (.slice (g,o) f.kC.length cap)/\w' (g,o)=some (.int .u64 lo)/\w' (g,o+1)=some (.int .u64 A)) ⟨F3,g1,g2⟩ ?_;refine GI 0 ?_;iterate 12
  refine GV rfl ?_;try simp only[PS]
 refine zD 12 rfl (λK hK=>?_);go_simp;refine(KI v3 (l++([2]++zV A++zV (f.kC.length-1))) (A-lo) w3.drew A3.own I I).mono ?_;rintro e h ⟨u,rfl,n⟩;have F4:=F3.app A3.own n;have A4:=A3.trans n;have u:=n.mod.cell (a:=(g,o)) ar g1;have Z:=n.mod.cell (a:=(g,o+1)) ar g2;have L4:(l++([2]++zV A++zV (f.kC.length-1)++zV (A-lo))).length<=8796093022208+25:=by have:=zK<|A-lo;simp at this L3 ⊢;omega
 refine hK.z _ _ ⟨F4,u,Z⟩ ?_;clear n;clear hK K;try simp only[PS]
 refine GI 13 ?_;refine GV rfl ?_;try simp only[PS]
 refine zt ?_;have h:=zb F4;have aA:=zb A4;obtain⟨af,h⟩:=nm<|[2]++zV A++zV (f.kC.length-1)++zV (A-lo);rw[h]at aA HB L4;clear F4 A4 F3 A3 ae ao aq R z aa L1 L2 L3 h z1 z2 z3 g1 g2 u Z aG ar al an b1 b2 k1 k2;go_wp2_with fail
 go_loopw [0,5] (λvb i wr=>∃j:Nat,1<=j/\j<=f.kC.length/\i=.int .i64 j/\DX W0 (.slice va l.length vc) l (af++Di f.kC (j-1)) vb wr) (λ_ i _=>f.kC.length-(intOf i).toNat)
 case atStart=>exact⟨1,AI _,B,rfl,by simpa [Di]using aA.z⟩
 case round =>
  obtain⟨j,h,u,rfl,hA⟩:=hrel;have aB:=zp.app aE.z aF.z hA;obtain⟨c0,c1,c2,D,E,G,L,M,N,C⟩:=aB.cells;have h:=zo C;have au:=zb hA;by_cases aC:j<f.kC.length
  .have aH:=am.z.mod hA.mod (λg' o' h u e hx=>by cases e;exact y.z hx);obtain⟨_,_,aI,_,_,h3⟩:=aH;cases aI;obtain⟨g',o',av,Y,_,b1,_⟩:=h3 (j-1) I;cases av;obtain⟨g',o',av,e3,e4,b3,b4⟩:=h3 j aC;cases av;obtain⟨Z,q2,q3⟩:=HH.z j aC;have q4:=q3 I;obtain⟨B,r2,_⟩:=HH.z (j-1) I;have h:=zo Y;have HS:AA (Di f.kC (j+1-1)=(Di f.kC (j-1)++zV (DE f.kC (j-1)-DB f.kC j-2))++zV (DB f.kC j-DE f.kC j)):=by
    show _=_;rw[(I:j+1-1=(j-1)+1)];simp only[Di];rw[(I:j-1+1=j)]
   have h:=Mu f.kC<|j-1;obtain⟨pl,A⟩:=nm<|DE f.kC<|j-1;obtain⟨ab,h⟩:=nm<|DE f.kC j;obtain⟨q,u⟩:=nm<|DB f.kC j;rw[A]at Y b1 q4 HS B;have r3:=AR B r2;clear B r2;rw[h]at e3 b3 Z HS;rw[u]at e4 b4 Z q2 q4 HS;clear A h u q3 h3;have z1:=wu ((pl:Int)-q) I;have z2:IntKind.u64.wrap ((pl:Int)-q-2)=((pl-q-2:Nat):Int):=by rw[IntKind.wrap_u64];omega
   have z3:IntKind.u64.wrap ((q:Int)-ab)=((q-ab:Nat):Int):=by rw[IntKind.wrap_u64];omega
   have s1:IntKind.i64.wrap ((j:Int)-1)=(j:Int)-1:=IntWalk.i64_in _ I;have s2:((j:Int)-1).toNat=j-1:=I;have s3:0<=(j:Int)-1:=I;have s4:(j:Int)-1<f.kC.length:=I;have h:1<=(j:Int):=I;have h:=hA.own;have h:∀vb u,DX W0 (.slice va l.length vc) l vb u0 u->True:=λ_ _ _=>trivial
   have aw:¬u0.ownBlock=some g:=λhx=>by
    rcases au.z.at_ g hx with x|x
    .exact y.z x
    have:=M0.z.size;omega
   clear hA h;go_wp2_with fail;have A0:=au.z.n8;have F0:=aB.mod (S:=DA) rS.drew rP;clear c0 c1 c2 D E G L M N C;refine zr 18 (λw'=>zp w' w.heap.size f (.slice (g,o) f.kC.length cap)/\w' (g,o+(j-1)*2)=some (.int .u64 pl)/\w' (g,o+j*2)=some (.int .u64 ab)/\w' (g,o+j*2+1)=some (.int .u64 q)) ⟨F0,Y,e3,e4⟩ ?_;refine GI 0 ?_;iterate 16
    refine GV rfl ?_;try simp only[PS]
   refine zD 16 rfl (λK hK=>?_);go_simp;refine(KI u0 (l++(af++Di f.kC (j-1))) (pl-q-2) wr.drew A0.own (by simp at L4 ⊢;omega) I).mono ?_;rintro e y1 ⟨x1,rfl,n⟩;have X:=F0.app A0.own n;have O:=A0.trans n;have ag:=n.mod.cell (a:=⟨g,_,none⟩) aw Y;have ah:=n.mod.cell (a:=⟨g,_,none⟩) aw e3;have ai:=n.mod.cell (a:=⟨g,_,none⟩) aw e4;have h:=zK<|pl-q-2;refine hK.z _ _ ⟨X,ag,ah,ai⟩ ?_;clear n;clear hK K;try simp only[PS]
   refine GI 17 ?_;refine GV rfl ?_;try simp only[PS]
   refine zt ?_;have ax:¬x1.ownBlock=some g:=λhx=>by
    rcases O.at_ g hx with x|x
    .exact y.z x
    have:=M0.z.size;omega
   obtain⟨c0,c1,c2,D,E,G,L,M,N,C⟩:=X.cells;have R:=zb O;have ae:=zb X;clear Y e3 e4 X O F0 A0;go_wp2_with fail;have O:=R.z.n8;have X:=ae.z.mod (S:=DA) rS.drew rP;clear c0 c1 c2 D E G L M N C;refine zr 16 (λw'=>zp w' w.heap.size f (.slice (g,o) f.kC.length cap)/\w' (g,o+(j-1)*2)=some (.int .u64 pl)/\w' (g,o+j*2)=some (.int .u64 ab)/\w' (g,o+j*2+1)=some (.int .u64 q)) ⟨X,ag,ah,ai⟩ ?_;refine GI 0 ?_;iterate 14
    refine GV rfl ?_;try simp only[PS]
   refine zD 14 rfl (λK hK=>?_);go_simp;refine(KI x1 (l++(af++Di f.kC (j-1)++zV (pl-q-2))) (q-ab) y1.drew O.own (by simp at L4 ⊢;omega) I).mono ?_;rintro e e ⟨h,rfl,n⟩;have e:=X.app O.own n;have h:=O.trans n;refine hK.z _ _ ⟨e,n.mod.cell (a:=⟨g,_,none⟩) ax ag,n.mod.cell (a:=⟨g,_,none⟩) ax ah,n.mod.cell (a:=⟨g,_,none⟩) ax ai⟩ ?_;clear n;clear hK K;try simp only[PS]
   refine GI 15 ?_;refine GV rfl ?_;try simp only[PS]
   refine zt ?_;have z:=zb h;clear h e X O ag ah ai z1 z2 z3 s1 s2 s3 s4;go_wp2;go_roundw
   case rel=>exact⟨j+1,I,I,by go_num,by rw[HS.z,<-List.append_assoc,<-List.append_assoc];exact z.z⟩
   simp[intOf];omega
  have a:j=f.kC.length:=I;have e:AA (zC f=af++Di f.kC (j-1)):=by rw[a];exact HB.z
  clear hA a;go_wp2;go_ret;exact⟨_,rfl,DX.after M0.z<|by rw[e.z];exact au.z⟩
def Dm(w:rT)(e:Nat)(v:rU)(a:Nat)(bad:Bool):Prop:=w.heap[e]?=some (.cells #[v,[a],bad] 52 (0,0))
variable{S:Nat->Prop}{bad:Bool}{pos rb:Nat}{w':rT}
def Dm.mod(h:Dm w rb v pos bad)(m:C9 S w w')(a:¬S rb):Dm w' rb v pos bad:=m.obj a h
def Dm.c0(h:Dm w rb v pos bad):w rb=some v:=za h rfl
def Dm.c1(h:Dm w rb v pos bad):w (rb,1)=some (.int .i64 pos):=za h rfl
def Dm.c2(h:Dm w rb v pos bad):w (rb,2)=some (.bool bad):=za h rfl
def Dm.fail(h:Dm w rb v pos bad):Dm (w.setCell (rb,2) (.bool true)) rb v pos true:=by
 unfold Dm at h ⊢;rw[zc h];simp
def Dm.go(h:Dm w rb v pos bad)(p:Nat)(z:Int)(a:z=(p:Int)):Dm (w.setCell (rb,1) (.int .i64 z)) rb v p bad:=by
 unfold Dm at h ⊢;rw[zc h,a];simp
def Q0(w:rT)(m:Nat)(v:rU)(h:qq)(g:Nat)(bad:Bool)(e:Ending)(w':rT):Prop :=
 ∃n p a,e=.returned (.int .u64 ((n:Nat):Int))/\Dm w' m v p a/\g<=p/\p<=h.length/\n<4611686018427387904/\C9 (DY m) w w'/\((a=bad/\DU h g=some (n,p))\/(a=true/\DU h g=none))
variable{bs:qq}{p:Nat}
theorem iP(h:DU bs pos=some (n,p)):n<4611686018427387904/\pos<=p/\p<=bs.length:=by
 unfold DU at h;cases hc:bs[pos]? with
 | none=>rw[hc]at h;cases h
 | some c =>
  rw[hc]at h;simp only at h;split at h
  .rename_i a;cases h;have g:=OL c<|(bs.drop<|pos+1).take<|De c-1;have e:=c.toNat_lt;have e:De c<=8:=by
    have e:c.toNat / 64=0\/c.toNat / 64=1\/c.toNat / 64=2\/c.toNat / 64=3:=I;unfold De;rcases e with e|e|e|e<;>rw[e]<;>decide
   have e:((bs.drop<|pos+1).take<|De c-1).length<=7:=by rw[AU];omega
   have m:256 ^ ((bs.drop<|pos+1).take<|De c-1).length<=256 ^ 7:=Nat.pow_le_pow_right I e;have e:64*256 ^ ((bs.drop<|pos+1).take<|De c-1).length<=64*256 ^ 7:=Bs _ m;have m:64*256 ^ 7<=4611686018427387904:=lc;exact⟨Au g<|AR e m,I,a⟩
  cases h
def If(B u:Nat)(v:rU)(A:qq)(bad:Bool)(w:rT)(h:Dm w B v u bad)(hb:BR w v A)(g:DN (DY B) v)(hp:u<=A.length)(a:A.length<=1099511627776):rH 11 #[(B,0)] w (Q0 w B v A u bad):=by
 obtain⟨a,g,rfl,h1,X,D⟩:=id hb;unfold maxLen at X;have k0:=h.c0;have k1:=h.c1;have k2:=h.c2;have kz:w.frozen? ⟨B,2,none⟩=false:=zd h;have H:=zb h;have HB:=zb hb;clear h hb;by_cases a:u<A.length
 .obtain⟨c,y⟩:∃c,A[u]?=some c:=⟨A[u],AG a⟩;obtain⟨g,o,rfl,m⟩:=D u c y;have a:=c.toNat_lt;have g:=zb (I:c.toNat / 64=0\/c.toNat / 64=1\/c.toNat / 64=2\/c.toNat / 64=3);have M:1<=De c:=Nat.one_le_two_pow;have Y:De c<=8:=by
   unfold De;rcases g.z with e|e|e|e<;>rw[e]<;>decide
  have E:AA (DU A u=if u+De c<=A.length then some (Ei c<|(A.drop<|u+1).take<|De c-1,u+De c)else none):=by
   show _=_;unfold DU;rw[y]
  have h:=zb y;have n:AA (De c=2 ^ (c.toNat / 64)):=rfl;have N:AA (Ei c []=c.toNat % 64):=rfl;obtain⟨d,hd⟩:=nm c.toNat;rw[hd]at m a g n N;have Z:¬((A.length:Int)<=u):=I;clear y hd D;go_enter func11,ntmps11;go_wp2;go_quiet (fail);obtain⟨n1,a⟩:=nm nq;rw[a];clear a;go_wp2;go_quiet (fail);obtain⟨n2,a⟩:=nm nq;rw[a];clear a;go_wp2;go_quiet (fail);obtain⟨n3,a⟩:=nm nq;rw[a];clear a;go_wp2_with fail;obtain⟨W,a⟩:=nm<|((w.drewN n1).drewN n2).drewN n3;rw[a];have R:AA (C9 DA w W):=by rw[<-a];exact(((C9.refl DA w).drewN _).drewN _).drewN _
  clear a;have G:=zb<|H.z.mod R.z rP;have aa:=zb<|HB.z.mod R.z<|DN.no _;clear k0 k1 k2 kz m;obtain⟨t,h⟩:=nm<|d / 64;rw[h]at n g;have a:(d:Int) / 64=(t:Int):=I;have m:t<=3:=by rcases g.z with e|e|e|e<;>omega
  rw[a];clear h a
  go_loop [4,5] (λs k=>∃j:Nat,j<=t/\s=.int .i64 ((2 ^ j:Nat):Int)/\k=.int .u8 ((t-j:Nat):Int)) (λ_ k=>(intOf k).toNat)
  case atStart=>exact⟨0,AK _,rfl,rfl⟩
  case round =>
   obtain⟨j,a,rfl,rfl⟩:=hrel;by_cases a:j<t
   .have a:2 ^ j<=4:=by
     have:j=0\/j=1\/j=2:=I;rcases this with e|e|e<;>rw[e]<;>decide
    have e:AA (2 ^ (j+1)=2 ^ j*2):=Nat.pow_succ ..;obtain⟨x,K⟩:=nm<|2 ^ j;rw[K]at a e ⊢;obtain⟨y,a⟩:=nm<|t-j;have g:AA (t-(j+1)+1=y):=by show _=_;omega
    have h:0<y:=I;have h:y<=3:=I;rw[a];clear K a;go_wp2_with fail
    go_round
    case rel=>exact⟨j+1,I,by rw[e.z];go_num,by have:=g.z;go_num⟩
    simp[intOf];omega
   have O:j=t:=I;subst O;rw[Cs,<-n.z];obtain⟨z,a⟩:=nm<|De c;rw[a]at M Y E n ⊢;have a:=G.z.c0;have a:=G.z.c1;have a:=G.z.c2;have a:W.frozen? ⟨B,2,none⟩=false:=zd G.z;by_cases C:u+z<=A.length
   .have L:AA (DU A u=some (Ei c<|(A.drop<|u+1).take<|z-1,u+z)):=by
     show _=_;rw[E.z,AL C]
    have ab:¬((A.length:Int)<u+z):=I;have e4:IntKind.i64.wrap ((u:Int)+z)=(u:Int)+z:=IntWalk.i64_in _ I;go_wp2;go_quiet (fail);go_wp2_with fail
    go_loopw [3,6] (λn i wr=>∃j q:Nat,1<=j/\j<=z/\i=.int .i64 j/\n=.int .u64 (Ei c ((A.drop<|u+1).take<|j-1):Int)/\wr=W.drewN q) (λ_ i _=>z-(intOf i).toNat)
    case atStart=>exact⟨1,nq,AI _,M,rfl,by rw[show(1:Nat)-1=0 from rfl,B0,N.z];rfl,rfl⟩
    case round =>
     obtain⟨j,q,a,e,rfl,rfl,rfl⟩:=hrel;by_cases a:j<z
     .obtain⟨x,K⟩:∃x,A[u+j]?=some x:=⟨A[u+j],AG I⟩;obtain⟨_,_,ac,_,_,D⟩:=aa.z;cases ac;obtain⟨e,g,ad,a⟩:=D (u+j) x K;cases ad;have e:AA (Ei c ((A.drop<|u+1).take<|j+1-1)=Ei c ((A.drop<|u+1).take<|j-1)*256+x.toNat):=by
       show _=_;rw[(I:j+1-1=(j-1)+1),Om (A.drop<|u+1) (j-1) x<|by rw[BM,(I:u+1+(j-1)=u+j)];exact K,UO]
      have a:Ei c ((A.drop<|u+1).take<|j-1)<72057594037927936:=by
       have h1:=OL c<|(A.drop<|u+1).take<|j-1;have X:((A.drop<|u+1).take<|j-1).length<=6:=by rw[AU];omega
       have D:256 ^ ((A.drop<|u+1).take<|j-1).length<=256 ^ 6:=Nat.pow_le_pow_right I X;have g:64*256 ^ ((A.drop<|u+1).take<|j-1).length<=64*256 ^ 6:=Bs _ D;have h:64*256 ^ 6<=72057594037927936:=lc;exact Au h1<|AR g h
      obtain⟨m,g⟩:=nm<|Ei c<|(A.drop<|u+1).take<|j-1;have h:=x.toNat_lt;rw[g]at a e ⊢;have a:=wu ((m:Int)*256) I;have a:=wu ((m:Int)*256+x.toNat) I;have a:IntKind.i64.wrap ((u:Int)+j)=(u:Int)+j:=IntWalk.i64_in _ I;have a:((u:Int)+j).toNat=u+j:=I;clear g D K;go_wp2;go_quiet (fail);go_wp2;go_roundw
      case rel=>exact⟨j+1,q+nq,I,I,by go_num,by rw[e.z];go_num,nl⟩
      simp[intOf];omega
     have ae:j=z:=I;subst ae;have a:W.frozen? ⟨B,1,none⟩=false:=zd G.z;go_wp2;go_ret;have hd:=((G.z.mod (S:=DA) ((C9.refl DA W).drewN q) rP).go (u+j) ((u:Int)+j) I);have a:=iP L.z;exact⟨_,_,bad,rfl,hd,I,C,a.1,(R.z.mono rQ).then (((C9.refl (DY B) W).drewN _).setCell (p:=U B 1) rO _)<|λi a=>.inl a,.inl ⟨rfl,L.z⟩⟩
   have L:AA (DU A u=none):=by
    show _=_;rw[E.z,AH C]
   have ab:(A.length:Int)<u+z:=I;have e4:IntKind.i64.wrap ((u:Int)+z)=(u:Int)+z:=IntWalk.i64_in _ I;go_wp2;go_quiet (fail);go_wp2;go_ret;have hd:=(G.z.mod (S:=DA) ((C9.refl DA W).drewN nq) rP).fail;exact⟨0,u,true,rfl,hd,AI _,hp,I,(R.z.mono rQ).then (((C9.refl (DY B) W).drewN _).setCell (p:=U B 2) rO _)<|λi a=>.inl a,.inr ⟨rfl,L.z⟩⟩
 have L:AA (DU A u=none):=by
  show _=_;unfold DU;rw[BJ I]
 have Z:(A.length:Int)<=u:=I;clear D;go_enter func11,ntmps11;go_wp2;go_quiet (fail);go_wp2;go_ret;have hd:=(H.z.mod (S:=DA) ((C9.refl DA w).drewN nq) rP).fail;exact⟨0,u,true,rfl,hd,AI _,hp,I,((C9.refl (DY B) w).drewN _).setCell (p:=U B 2) rO _,.inr ⟨rfl,L.z⟩⟩
def Qz(w:rT)(m:Nat)(v:rU)(h:qq)(g:Nat)(bad:Bool)(e:Ending)(w':rT):Prop :=
 ∃n p a,e=.returned (.int .i64 ((n:Nat):Int))/\Dm w' m v p a/\g<=p/\p<=h.length/\n<8/\C9 (DY m) w w'/\((a=bad/\Et h g=some (n,p))\/(a=true/\Et h g=none))
def Wv(g a:Nat)(v:rU)(q:qq)(bad:Bool)(w:rT)(h:Dm w g v a bad)(hb:BR w v q)(C:DN (DY g) v)(K:a<=q.length)(B:q.length<=1099511627776):rH 27 #[(g,0)] w (Qz w g v q a bad):=by
 have D:=If g a v q bad w h hb C K B;clear h hb C;go_enter func27,ntmps27;go_wp2_with fail;refine D.mono ?_;rintro e E ⟨n,p,u,rfl,z,y,A,a,G,m⟩;have a:=z.c2;have a:E.frozen? ⟨g,2,none⟩=false:=zd z;have H:=zb z;have M:=zb G;have a:=zb m;clear z G m D;by_cases h:8<=n
 .have d:(8:Int)<=n:=I;go_wp2;go_ret;refine⟨0,p,true,rfl,H.z.fail,y,A,I,M.z.trans<|(C9.refl (DY g) E).setCell (p:=U g 2) rO _,.inr ⟨rfl,?_⟩⟩;rcases a.z with⟨_,e⟩|⟨_,e⟩
  .unfold Et;rw[e];simp;omega
  unfold Et;rw[e];rfl
 have d:¬(8:Int)<=n:=I;have z:IntKind.i64.wrap (n:Int)=(n:Int):=IntWalk.i64_in _ I;go_wp2;go_ret;refine⟨n,p,u,rfl,H.z,y,A,I,M.z,?_⟩;rcases a.z with⟨a,e⟩|⟨a,e⟩
 .refine .inl ⟨a,?_⟩;unfold Et;rw[e];simp;omega
 refine .inr ⟨a,?_⟩;unfold Et;rw[e];rfl
def Qy(w:rT)(m:Nat)(v:rU)(h:qq)(g:Nat)(bad:Bool)(e:Ending)(w':rT):Prop :=
 ∃l p a,e=.returned (.string<|zy l)/\Dm w' m v p a/\g<=p/\p<=h.length/\l.length<=h.length/\C9 (DY m) w w'/\((bad=false/\a=false/\E4 h g=some (l,p))\/(a=true/\(bad=true\/E4 h g=none)))
def Wu(m q:Nat)(v:rU)(g:qq)(bad:Bool)(w:rT)(h:Dm w m v q bad)(hb:BR w v g)(O:DN (DY m) v)(hp:q<=g.length)(R:g.length<=1099511627776):rH 28 #[(m,0)] w (Qy w m v g q bad):=by
 have k1:=If m q v g bad w h hb O hp R;have HB:=zb hb;have HV:=zb O;obtain⟨a,D,rfl,R,X,h3⟩:=hb;unfold maxLen at X;clear h O h3;go_enter func28,ntmps28;go_wp2_with fail;refine k1.mono ?_;rintro e u ⟨n,p,E,rfl,B,G,K,O,Y,A⟩;have O:=B.c0;have O:=B.c1;have O:=B.c2;have O:u.frozen? ⟨m,2,none⟩=false:=zd B;have O:u.frozen? ⟨m,1,none⟩=false:=zd B;have H:=zb B;have M:=zb Y;have y:=zb A;have Z:=zb<|HB.z.mod Y HV.z;clear B Y A k1;have A:IntKind.i64.wrap ((g.length:Int)-p)=(g.length:Int)-p:=IntWalk.i64_in _ I;have A:=wu ((g.length:Int)-p) I;cases E
 .by_cases d:(g.length:Int)-p<n
  .have hd:=Ah d;go_wp2;go_quiet (fail);go_wp2;go_ret;have hd:=(H.z.mod (S:=DA) ((C9.refl DA u).drewN nq) rP).fail;refine⟨[],p,true,rfl,hd,G,K,AK _,M.z.trans<|((C9.refl (DY m) u).drewN nq).setCell (p:=U m 2) rO _,.inr ⟨rfl,?_⟩⟩;rcases y.z with⟨z,e⟩|⟨z,e⟩
   .refine .inr ?_;unfold E4;rw[e];simp;omega
   cases z
  have hd:=A8 d;have C:p+n<=g.length:=I;have z:IntKind.i64.wrap (n:Int)=(n:Int):=IntWalk.i64_in _ I;have A:IntKind.i64.wrap ((p:Int)+n)=(p:Int)+n:=IntWalk.i64_in _ I;have A:((p:Int)+n).toNat=p+n:=I;have hT:bad=false/\E4 g q=some ((g.drop p).take n,p+n):=by
   rcases y.z with⟨z,e⟩|⟨z,e⟩
   .refine⟨z.symm,?_⟩;unfold E4;rw[e];simp;omega
   cases z
  have N:=zb hT;clear hT d;have L:((g.drop p).take n).length<=g.length:=ol;by_cases hc:p=D
  .have aa:n=0:=I;subst aa;subst hc;have A:∀a q,(convert 44 9<|.slice a 0 0).run prog (u.drewN q)=.ok (.string<|zy []) (u.drewN q):=λa q=>FZ<|BR.nil _ a 0 pi
   go_wp2;go_quiet (fail);obtain⟨n1,a⟩:=nm nq;rw[a];clear a;go_wp2;go_quiet (fail);go_wp2;go_ret;have hd:=(H.z.mod (S:=DA) ((C9.refl DA u).drewN<|n1+nq) rP).go (p+0) ((p:Int)) I;exact⟨(g.drop p).take 0,p+0,false,rfl,hd,I,C,L,M.z.trans<|((C9.refl (DY m) u).drewN<|n1+nq).setCell (p:=U m 1) rO _,.inl ⟨N.z.1,rfl,N.z.2⟩⟩
  have B:¬D=p:=λh=>hc h.symm
  have A:=λq=>FZ<|(Z.z.sub C).mod (S:=DA) (rS.drewN q)<|DN.no _
  go_wp2;go_quiet (fail);obtain⟨n1,a⟩:=nm nq;rw[a];clear a;go_wp2;go_quiet (fail);go_wp2;go_ret;have hd:=(H.z.mod (S:=DA) ((C9.refl DA u).drewN<|n1+nq) rP).go (p+n) ((p:Int)+n) I;exact⟨(g.drop p).take n,p+n,false,rfl,hd,I,C,L,M.z.trans<|((C9.refl (DY m) u).drewN<|n1+nq).setCell (p:=U m 1) rO _,.inl ⟨N.z.1,rfl,N.z.2⟩⟩
 go_wp2;go_quiet (fail);go_wp2;go_ret;have hd:=(H.z.mod (S:=DA) ((C9.refl DA u).drewN nq) rP).fail;refine⟨[],p,true,rfl,hd,G,K,AK _,M.z.trans<|((C9.refl (DY m) u).drewN nq).setCell (p:=U m 2) rO _,.inr ⟨rfl,?_⟩⟩;rcases y.z with⟨z,e⟩|⟨z,e⟩
 .exact .inl z.symm
 refine .inr ?_;unfold E4;rw[e];rfl
def Fc(a:qq)(e:Nat):Option (zE×Nat) :=
 (DU a e).bind λe=>(DU a e.2).bind λg=>(DU a g.2).bind λh=>Ea a (a.length+1) e.1 g.1 h.1 h.2 []
def LJ(w:rT)(u:Nat)(v:rU)(m:qq)(h:Nat)(bad:Bool)(e:Ending)(w':rT):Prop :=
 ∃n q p a,e=.returned n/\Dj w' n q/\(∀g,n.ownBlock=some g->w.heap.size<=g)/\Dm w' u v p a/\h<=p/\p<=m.length/\q.length<=m.length+1/\C9 (DY u) w w' /\
  ((bad=false/\a=false/\Fc m h=some (q,p))\/(a=true/\(bad=true\/Fc m h=none)))
def Ow(w wr:rT)(u:Nat)(v:rU)(m:qq)(q n i:Nat)(y:rU)(R:Option (zE×Nat)):Prop :=
 ∃e h a p fuel,Dm wr u v p false/\Dj wr y (e++[(h-a,h)])/\(∀g,y.ownBlock=some g->w.heap.size<=g)/\a<=h/\h<4611686018427387904/\q<=p/\p<=m.length/\C9 (DY u) w wr /\
  R=Ea m fuel h (n-i) a p e/\m.length-p<fuel/\e.length<=p/\i<=n
def Dj.one(w:rT)(lo hi:Nat)(a:lo<18446744073709551616)(e:hi<18446744073709551616):Dj (w.alloc (.cells #[lo,hi] 110)) (.slice w 1 1) [(lo,hi)]:=by
 refine⟨⟨rfl,.inr ⟨w.heap.size,1,_,rfl,AK _,heap_alloc_new w _,AI _,pi,rfl,rfl⟩⟩,λi hi=>?_⟩;have:i=0:=qp hi;subst this;exact⟨a,e⟩
variable{hi m size:Nat}
def iO{f:Nat}{a:zE}(h:size<=hi)(n:m≠0):Ea bs (f+1) hi m size p a =
  (DU bs p).bind λe=>(DU bs e.2).bind λg=>if hi-size<2\/hi-size-2<e.1 then none else Ea bs f (hi-size-2-e.1) (m-1) g.1 g.2 (a++[(hi-size,hi)]):=by
 conv=>lhs;unfold Ea
 rw[AH I,AH n]
theorem iN{f:Nat}{a:zE}(h:hi<size):Ea bs f hi m size p a=none:=by
 cases f with
 | zero=>rfl
 | succ f=>unfold Ea;rw[AL h]
def fU{f:Nat}{a:zE}(h:size<=hi):Ea bs (f+1) hi 0 size p a=some (a++[(hi-size,hi)],p):=by
 unfold Ea;rw[AH I,AL rfl]
def Ph(a:zE)(r:Nat×Nat):DE (a++[r]) a.length=r.1/\DB (a++[r]) a.length=r.2:=by simp[DE,DB,List.getD]
def Wt(u a:Nat)(v:rU)(q:qq)(bad:Bool)(w:rT)(h:Dm w u v a bad)(hb:BR w v q)(hv:DN (DY u) v)(hp:a<=q.length)(aZ:q.length<=549755813888):rH 26 #[(u,0)] w (LJ w u v q a bad):=by
 have k1:=If u a v q bad w h hb hv hp I;have a0:=zo h.c0;have HB:=zb hb;have M:=zb hv;clear h hb hv;go_enter func26,ntmps26;go_wp2_with fail;refine k1.mono ?_;rintro e w1 ⟨n1,p1,b1,rfl,aw,h,aO,aP,m1,ak⟩;have k2:=If u p1 v q b1 w1 aw (HB.z.mod m1 M.z) M.z aO I;have M1:=zb m1;have ax:=zb ak;clear k1 aw m1 ak;go_wp2_with fail;refine k2.mono ?_;rintro e w2 ⟨n2,p2,b2,rfl,ay,h,aQ,a1,m2,al⟩;have k3:=If u p2 v q b2 w2 ay ((HB.z.mod M1.z M.z).mod m2 M.z) M.z aQ I;have M2:=zb<|M1.z.trans m2;have am:=zb al;clear k2 ay m2 al;go_wp2_with fail;refine k3.mono ?_;rintro e w3 ⟨n3,p3,b3,rfl,ae,h,aA,a2,m3,an⟩;have M3:=zb<|M2.z.trans m3;have h:=zb<|((HB.z.mod M2.z M.z)).mod m3 M.z;have H3:=zb ae;have E:=zb an;have q2:=ae.c2;have qz:w3.frozen? ⟨u,2,none⟩=false:=zd ae;clear k3 ae m3 an;have X:AA ((b3=false/\bad=false/\Fc q a=Ea q (q.length+1) n1 n2 n3 p3 [])\/(b3=true/\(bad=true\/Fc q a=none))):=by
  show _\/_;unfold Fc;rcases ax.z with⟨e1,r1⟩|⟨e1,r1⟩
  .rcases am.z with⟨N,r2⟩|⟨N,r2⟩
   .rcases E.z with⟨B,r3⟩|⟨B,r3⟩
    .cases hbad:bad
     .refine .inl ⟨by rw[B,N,e1,hbad],rfl,?_⟩;rw[r1];simp only[AX];rw[r2];simp only[AX];rw[r3];rfl
     exact .inr ⟨by rw[B,N,e1,hbad],.inl rfl⟩
    refine .inr ⟨B,.inr ?_⟩;rw[r1];simp only[AX];rw[r2];simp only[AX];rw[r3];rfl
   rcases E.z with⟨B,r3⟩|⟨B,r3⟩
   .refine .inr ⟨by rw[B,N],.inr ?_⟩;rw[r1];simp only[AX];rw[r2];rfl
   refine .inr ⟨B,.inr ?_⟩;rw[r1];simp only[AX];rw[r2];rfl
  have h:((DU q a).bind λq1=>(DU q q1.2).bind λq2=>(DU q q2.2).bind λq3=>Ea q (q.length+1) q1.1 q2.1 q3.1 q3.2 [])=none:=by rw[r1];rfl
  rcases am.z with⟨N,r2⟩|⟨N,r2⟩
  .rcases E.z with⟨B,r3⟩|⟨B,r3⟩
   .exact .inr ⟨by rw[B,N,e1],.inr h⟩
   exact .inr ⟨B,.inr h⟩
  rcases E.z with⟨B,r3⟩|⟨B,r3⟩
  .exact .inr ⟨by rw[B,N],.inr h⟩
  exact .inr ⟨B,.inr h⟩
 have Y:∀wf,C9 (DY u) w wf->Dm wf u v p3 true->(bad=true\/Fc q a=none)->LJ w u v q a bad (.returned rV) wf:=λwf hm hr hx =>
  ⟨_,[],p3,true,rfl,Dj.nil _,λg hg=>(by cases hg),hr,I,aA,AK _,hm,.inr ⟨rfl,hx⟩⟩
 have HF:=zb Y;clear Y;cases b3
 .by_cases d:(n1:Int)<n3
  .go_wp2;go_ret;refine HF.z _ (M3.z.trans<|(C9.refl (DY u) w3).setCell (p:=U u 2) rO _) H3.z.fail ?_;rcases X.z with⟨_,_,e⟩|⟨e,_⟩
   .refine .inr ?_;rw[e];unfold Ea;rw[AL I]
   cases e
  have aB:n3<=n1:=I;have z1:IntKind.u64.wrap ((n1:Int)-n3)=((n1-n3:Nat):Int):=by rw[IntKind.wrap_u64];omega
  have hA:bad=false/\Fc q a=Ea q (q.length+1) n1 n2 n3 p3 []:=by
   rcases X.z with⟨_,e1,N⟩|⟨e,_⟩
   .exact⟨e1,N⟩
   cases e
  have HA:=zb hA;have ao:∀wf h,C9 (DY u) w wf->Dm wf u v h true->a<=h->h<=q.length->Fc q a=none->LJ w u v q a bad (.returned rV) wf:=λwf h hm hr h1 D hx =>
   ⟨_,[],h,true,rfl,Dj.nil _,λg hg=>(by cases hg),hr,h1,D,AK _,hm,.inr ⟨rfl,.inr hx⟩⟩
  have af:=zb ao;have B:Ow w (w3.alloc<|.cells #[.int .u64 ((n1-n3:Nat):Int),n1] 110) u v q a n2 0 (.slice w3 1 1) (Fc q a):=by
   have hm:=M3.z.size;refine⟨[],n1,n3,p3,q.length+1,H3.z.mod (S:=DA) (rS.alloc _) rP,Dj.one w3 _ _ I I,λg hg=>?_,aB,aP,I,aA,M3.z.alloc _,by rw[HA.z.2];rfl,I,AK _,AK _⟩;simp[Value.ownBlock]at hg;omega
  obtain⟨E,h⟩:=nm<|w3.alloc<|.cells #[.int .u64 ((n1-n3:Nat):Int),n1] 110;rw[h]at B;have E:=zb h;have Y:=zb B;have aR:=zb hA.1;have a3:decide (n1<n3)=false:=A8 I;clear hA h B ao;go_wp2_with fail;rw[E.z];clear q2 qz z1 d aB
  go_loopw [6,7] (λB h wr=>∃i:Nat,h=.int .u64 i/\Ow w wr u v q a n2 i B (Fc q a)) (λ_ h _=>n2-(intOf h).toNat)
  case atStart=>exact⟨0,rfl,Y.z⟩
  case round =>
   obtain⟨i,rfl,m,z,y,p,fuel,hr,ho,hn,aC,h,aS,aD,hm,hR,B,aT,E⟩:=hrel;have h:=zo hr.c0;have r2:=hr.c2;obtain⟨h,oc,rfl,aU,aV,aE⟩:=zi ho.1;have h:(m++[(z-y,z)]).length=m.length+1:=nl;rw[h]at ho aU aE hn;rw[h];unfold maxLen at aV;obtain⟨og,rfl⟩:=aE I;have HO:=zb ho;have HN:=zb hn;have HM:=zb hm;have ar:=zb hr;have ag:=zb hR;clear ho hn hm hr hR;by_cases h:i<n2
   .have d:(i:Int)<n2:=I;have h:=If u p v q false wr ar.z (HB.z.mod HM.z M.z) M.z aD I;go_wp2_with fail;refine h.mono ?_;clear h;rintro e w4 ⟨n4,p4,b4,rfl,aF,h,aW,B,m4,ap⟩;have h:=If u p4 v q b4 w4 aF ((HB.z.mod HM.z M.z).mod m4 M.z) M.z aW I;have M4:=zb m4;have G:=zb ap;clear aF m4 ap r2;go_wp2_with fail;refine h.mono ?_;clear h;rintro e w5 ⟨Z,p5,b5,rfl,ah,h,aa,B,m5,aq⟩;have h:=zb<|M4.z.trans m5;have au:=zb<|HM.z.trans h.z;have H5:=zb ah;have K:=zb aq;have B:=ah.c2;have B:w5.frozen? ⟨u,2,none⟩=false:=zd ah;have B:=HO.z.mod h.z (λg hg hx=>HO.z.mL ar.z lc (by have hx:g=u:=hx;rw[<-hx];exact hg));have h:=Hp (g:=og) (n:=m.length+1) (cap:=oc) B.1 m.length nl;have n:=(Ph m (z-y,z)).1;simp only at n;rw[n]at h;have c0:=h.1;have ai:=zb B;have E:=zo c0;clear ah m5 aq B h n;obtain⟨f,hf⟩:∃f,fuel=f+1:=⟨fuel-1,I⟩;have ab:Fc q a=(DU q p).bind λq1=>(DU q q1.2).bind λq2=>if z-y<2\/z-y-2<q1.1 then none else Ea q f (z-y-2-q1.1) (n2-i-1) q2.1 q2.2 (m++[(z-y,z)]):=by
     rw[ag.z,hf];exact iO aC I
    have L:=zb ab;clear ab;obtain⟨A,h⟩:=nm<|z-y;have n:A<=z:=I;rw[h]at c0 L HO ai;have n:=zb h;clear h ag;have aj:AA (C9 (DY u) w<|w5.setCell (u,2)<|.bool true):=au.z.trans<|(C9.refl (DY u) w5).setCell (p:=U u 2) rO _;have h:IntKind.i64.wrap ((m.length:Int)+1-1)=(m.length:Int):=by rw[(I:(m.length:Int)+1-1=m.length)];exact IntWalk.i64_in _ I
    cases b5
    .have av:b4=false/\DU q p=some (n4,p4)/\DU q p4=some (Z,p5):=by
      rcases K.z with⟨C,r5⟩|⟨C,r5⟩
      .rcases G.z with⟨O,R⟩|⟨O,R⟩
       .exact⟨C.symm,R,r5⟩
       rw[<-C]at O;cases O
      cases C
     have h:AA (Fc q a=if A<2\/A-2<n4 then none else Ea q f (A-2-n4) (n2-i-1) Z p5 (m++[(A,z)])):=by
      show _=_;rw[L.z,av.2.1];simp only[AX];rw[av.2.2];rfl
     clear av;by_cases n:(A:Int)<2
     .go_wp2;go_ret;exact af.z _ p5 aj.z H5.z.fail I aa<|by rw[h.z,AL (.inl I)]
     have z1:IntKind.u64.wrap ((A:Int)-2)=((A-2:Nat):Int):=by rw[IntKind.wrap_u64];omega
     obtain⟨n,aG⟩:=nm<|A-2;have B:n<4611686018427387904:=I;rw[aG]at z1 h;by_cases B:(n:Int)<n4
     .go_wp2;go_ret;exact af.z _ p5 aj.z H5.z.fail I aa<|by rw[h.z,AL (.inr I)]
     have B:IntKind.u64.wrap ((n:Int)-n4)=((n-n4:Nat):Int):=by rw[IntKind.wrap_u64];omega
     have ac:AA (Fc q a=Ea q f (n-n4) (n2-i-1) Z p5 (m++[(A,z)])):=by
      show _=_;rw[h.z,AH I]
     obtain⟨D,aH⟩:=nm<|n-n4;have h:D<4611686018427387904:=I;rw[aH]at B ac;by_cases n:(D:Int)<Z
     .go_wp2;go_ret;exact af.z _ p5 aj.z H5.z.fail I aa<|by rw[ac.z];exact iN I
     have n:IntKind.u64.wrap ((D:Int)-Z)=((D-Z:Nat):Int):=by rw[IntKind.wrap_u64];omega
     obtain⟨B,E,aI,ad,aJ,aK⟩:=Jz w5 (.slice og (m.length+1) oc) (m++[(A,z)]) (D-Z) D ai.z.1 ol;have m6:=rS.grown aJ<|λk hk=>.inl hk;have n:=ai.z.mL H5.z lc;have aX:=HN.z og rfl;have aY:AA (Ow w E u v q a n2 (i+1) B<|Fc q a):=by
      have B:=au.z.size;refine⟨m++[(A,z)],D,Z,p5,f,H5.z.mod m6 n,⟨qp ad,λk hk=>?_⟩,λg hg=>?_,I,h,I,aa,au.z.then m6<|λk hk=>.inr ?_,?_,?_,?_,I⟩
      .by_cases h:k<(m++[(A,z)]).length
       .have e1:DE (m++[(A,z)]++[(D-Z,D)]) k=DE (m++[(A,z)]) k:=by simp only[DE,AQ];rw[Ag h]
        have N:DB (m++[(A,z)]++[(D-Z,D)]) k=DB (m++[(A,z)]) k:=by simp only[DB,AQ];rw[Ag h]
        rw[e1,N];exact ai.z.2 k h
       have n:k=(m++[(A,z)]).length:=by
        have:=hk;simp only[AF,Aa,Aw]at this h ⊢;omega
       rw[n,(Ph _ _).1,(Ph _ _).2];simp only;omega
      .rcases aK g hg with x|x
       .exact HN.z g x
       omega
      .have hk:some og=some k:=hk;cases hk;exact aX
      .rw[(I:n2-(i+1)=n2-i-1)];exact ac.z
      .rcases G.z with⟨_,R⟩|⟨O,R⟩
       .have:=ET R;omega
       rcases K.z with⟨C,_⟩|⟨C,_⟩
       .rw[<-C]at O;cases O
       cases C
      simp only[AF,Aa,Aw];rcases G.z with⟨_,R⟩|⟨O,R⟩
      .have:=ET R;omega
      rcases K.z with⟨C,_⟩|⟨C,_⟩
      .rw[<-C]at O;cases O
      cases C
     obtain⟨g,h,aL,_⟩:=zi ad;obtain⟨g,aM⟩:=nm<|(m++[(A,z)]++[(D-Z,D)]).length;rw[aM]at aL;subst aL;clear ad aJ aK m6 aG aH aM;go_wp2_with (at_builtin;refine zm rfl _ _ _ _ rfl _ _ _ rfl rfl aI ?_;clear aI);go_roundw
     case rel=>exact⟨i+1,by go_num,aY.z⟩
     simp[intOf];omega
    have aN:Fc q a=none:=by
     rcases G.z with⟨O,R⟩|⟨O,R⟩
     .rcases K.z with⟨C,r5⟩|⟨C,r5⟩
      .rw[O]at C;cases C
      rw[L.z,R];simp only[AX];rw[r5];rfl
     rw[L.z,R];rfl
    have g:=zb aN;clear aN;go_wp2;go_ret;exact af.z _ p5 aj.z H5.z.fail I aa g.z
   have g:i=n2:=I;obtain⟨f,hf⟩:∃f,fuel=f+1:=⟨fuel-1,I⟩;have ab:Fc q a=some (m++[(z-y,z)],p):=by
    rw[ag.z,hf,g,Cs];exact fU aC
   have L:=zb ab;have a:=zb aT;clear ab g ag;go_wp2;go_ret;exact⟨_,m++[(z-y,z)],p,false,rfl,HO.z,HN.z,ar.z,aS,aD,by simp only[AF,Aa,Aw];have:=a.z;omega,HM.z,.inl ⟨aR.z,rfl,L.z⟩⟩
 go_wp2;go_ret;refine HF.z _ (M3.z.trans<|(C9.refl (DY u) w3).setCell (p:=U u 2) rO _) H3.z.fail ?_;rcases X.z with⟨e,_⟩|⟨_,e⟩
 .cases e
 exact e
def Gc(e:qq)(t:UInt8)(a:Nat):Option (DF×Nat):=(Es t).bind λk=>zQ k (decide (t=9)) e a
def J{α : Type}(b:Bool)(R X:Option α):Prop:=(b=false/\R=X)\/(b=true/\R=none)
def J.num{α β : Type}{b a:Bool}{R:Option β}{o:Option α}{x : α}{k : α -> Option β}(h:J b R (o.bind k))(r:(a=b/\o=some x)\/(a=true/\o=none)):J a R (k x):=by
 rcases h with⟨g,e⟩|⟨g,e⟩
 .rcases r with⟨a,h⟩|⟨a,h⟩
  .exact .inl ⟨by rw[a,g],by rw[e,h];rfl⟩
  exact .inr ⟨a,by rw[e,h];rfl⟩
 rcases r with⟨a,_⟩|⟨a,_⟩
 .exact .inr ⟨by rw[a,g],e⟩
 exact .inr ⟨a,e⟩
def J.qe{α β : Type}{b m:Bool}{R:Option β}{o:Option α}{x : α}{k : α -> Option β}(h:J b R (o.bind k))(r:(b=false/\m=false/\o=some x)\/(m=true/\(b=true\/o=none))):J m R (k x):=by
 rcases h with⟨n,g⟩|⟨n,g⟩
 .rcases r with⟨_,a,e⟩|⟨a,e⟩
  .exact .inl ⟨a,by rw[g,e];rfl⟩
  rcases e with e|e
  .rw[n]at e;cases e
  exact .inr ⟨a,by rw[g,e];rfl⟩
 rcases r with⟨a,_,_⟩|⟨a,_⟩
 .rw[n]at a;cases a
 exact .inr ⟨a,g⟩
theorem VA(b:Bool)(e:qq)(a:Nat):El b e a=(Fc e a).bind λr=>some ({ f0 2 b with kC:=r.1 },r.2):=by
 unfold El Fc;cases DU e a with
 | none=>rfl
 | some q1 =>
  simp only[AX];cases DU e q1.2 with
  | none=>rfl
  | some q2 =>
   simp only[AX];cases DU e q2.2 with
   | none=>rfl
   | some q3=>rfl
structure En(w W:rT)(rb fb:Nat)(v:rU)(bs:qq)(pos:Nat)(f:DF)(rv:rU)(p:Nat)(bad:Bool):Prop where
 fr:zp W fb f rv
 own:Dj W rv f.kC
 new:∀g,rv.ownBlock=some g->w.heap.size<=g
 rd:Dm W rb v p bad
 le:pos<=p
 oy:p<=bs.length
 dl:f.data.length<=bs.length
 rl:f.kC.length<=bs.length+1
 br:BR W v bs
 mod:C9 (G5 rb fb) w W
 q:W.heap[w.heap.size]?=some (.cells (ze (f0 0 false)<|.slice none 0 0) 48 (0,0))
variable{W':rT}{fb:Nat}
def En.call{p':Nat}{a:Bool}(h:En w W rb fb v bs pos f rv p bad)(g:rb≠fb)(n:DN (DY rb) v)(m:C9 (DY rb) W W')(q:Dm W' rb v p' a)(u:p<=p')(y:p'<=bs.length)(e:rb<w.heap.size):En w W' rb fb v bs pos f rv p' a :=
 ⟨h.fr.mod m<|λe=>g (by have e:fb=rb:=e;exact e.symm),h.own.mod m<|λg a e=>h.own.mL h.rd lc (by have e:g=rb:=e;rw[<-e];exact a),h.new,q,AR h.le u,y,h.dl,h.rl,h.br.mod m n,h.mod.trans<|Gk m,m.obj (λe=>by have e:w.heap.size=rb:=e;omega) h.q⟩
variable{i:Nat}
def En.set{rv' x:rU}{f':DF}(h:En w W rb fb v bs pos f rv p bad)(a:rb≠fb)(e:w.heap.size<fb)(n:DN (λk=>k=fb) v)(e:(ze f rv).setIfInBounds i x=ze f' rv')
  (q:Dj W rv' f'.kC) (u:∀g,rv'.ownBlock=some g->w.heap.size<=g) (hd:f'.data.length<=bs.length) (y:f'.kC.length<=bs.length+1) :
  En w (W.setCell (fb,i) x) rb fb v bs pos f' rv' p bad:=by
 have m:C9 (λk=>k=fb) W (W.setCell (fb,i) x):=(C9.refl (λk=>k=fb) W).setCell (p:=(fb,i)) rO _;exact⟨h.fr.set e,q.mod m<|λg z e=>q.mL h.fr lc (by have e:g=fb:=e;rw[<-e];exact z),u,h.rd.mod m a,h.le,h.oy,hd,y,h.br.mod m n,h.mod.then m<|λk a=>.inr (by have a:k=fb:=a;omega),m.obj (λe=>by have e:w.heap.size=fb:=e;omega) h.q⟩
structure Nl(w:rT)(rb fb:Nat)(v:rU)(bs:qq):Prop where
 ne:rb≠fb
 fw:w.heap.size<fb
 v1:DN (DY rb) v
 v2:DN (λk=>k=fb) v
 rl:rb<w.heap.size
 bl:bs.length<=549755813888
variable{X:rT}
def En.step{p':Nat}{b e:Bool}(h:En w X rb fb v bs pos f rv p b)(c:Nl w rb fb v bs)(m:C9 (DY rb) X W)(g:Dm W rb v p' e)(n:p<=p')(q:p'<=bs.length):(∀i,W.frozen? ⟨fb,i,none⟩=false)/\zp W fb f rv/\∀i x a,(ze f rv).setIfInBounds i x=ze a rv->a.kC=f.kC->a.data.length<=bs.length->En w (W.setCell ⟨fb,i,none⟩ x) rb fb v bs pos a rv p' e:=by
 have B:=h.call c.ne c.v1 m g n q c.rl;exact⟨λi=>zd B.fr,B.fr,λi x a e a hd=>B.set c.ne c.fw c.v2 e (a ▸ B.own) B.new hd<|a ▸ B.rl⟩
def j8(f:DF)(x:Nat):Nat->DF
 | 2=>{ f with off:=x }
 | 3=>{ f with rel:=x }
 | 4=>{ f with lF:=x }
 | 6=>{ f with id:=x }
 | 7=>{ f with dl:=x }
 | _=>f
def j9:Nat->Bool
 | 2|3|4|6|7=>true
 | _=>false
theorem En.ph{b:Bool}(h:En w X rb fb v bs pos f rv p b)(c:Nl w rb fb v bs):rH 11 #[(rb,0)] X λe W=>∃(x p':Nat) (a:Bool),e=.returned (.int .u64 x)/\(∀i,W.frozen? ⟨fb,i,none⟩=false)/\zp W fb f rv/\(∀i,j9 i=true->En w (W.setCell ⟨fb,i,none⟩ (.int .u64 x)) rb fb v bs pos (j8 f x i) rv p' a) /\
   ∀(R:Option (DF×Nat)) k,J b R ((DU bs p).bind k)->J a R (k (x,p')):=by
 refine(If rb p v bs b X h.rd h.br c.v1 h.oy<|qm c.bl).mono ?_;rintro e W ⟨x,p',a,rfl,m,n,q,e,u,g⟩;obtain⟨e,y,z⟩:=h.step c u m n q;refine⟨x,p',a,rfl,e,y,λi a=>?_,λR k j=>j.num g⟩
 match i,a with
 | 2,_|3,_|4,_|6,_|7,_=>exact z _ _ _ rfl rfl h.dl
def En.qU{b:Bool}(h:En w X rb fb v bs pos f rv p b)(c:Nl w rb fb v bs):rH 27 #[(rb,0)] X λe W=>∃(x p':Nat) (a:Bool),e=.returned (.int .i64 x)/\(∀i,W.frozen? ⟨fb,i,none⟩=false)/\zp W fb f rv/\(∀i,i=1->En w (W.setCell ⟨fb,i,none⟩ (.int .i64 x)) rb fb v bs pos { f with stream:=(x:Int) } rv p' a) /\
   ∀(R:Option (DF×Nat)) k,J b R ((Et bs p).bind k)->J a R (k (x,p')):=by
 refine(Wv rb p v bs b X h.rd h.br c.v1 h.oy<|qm c.bl).mono ?_;rintro e W ⟨x,p',a,rfl,m,n,q,e,u,g⟩;obtain⟨e,y,z⟩:=h.step c u m n q;exact⟨x,p',a,rfl,e,y,λi a=>a ▸ z 1 _ _ rfl rfl h.dl,λR k j=>j.num g⟩
def En.qT{b:Bool}(h:En w X rb fb v bs pos f rv p b)(c:Nl w rb fb v bs):rH 28 #[(rb,0)] X λe W=>∃(x:qq) (p':Nat) (a:Bool),e=.returned (.string (zy x))/\(∀i,W.frozen? ⟨fb,i,none⟩=false)/\zp W fb f rv/\(∀i,i=8->En w (W.setCell ⟨fb,i,none⟩ (.string (zy x))) rb fb v bs pos { f with data:=x } rv p' a) /\
   ∀(R:Option (DF×Nat)) k,J b R ((E4 bs p).bind k)->J a R (k (x,p')):=by
 refine(Wu rb p v bs b X h.rd h.br c.v1 h.oy<|qm c.bl).mono ?_;rintro e W ⟨x,p',a,rfl,m,n,q,u,y,g⟩;obtain⟨e,z,A⟩:=h.step c y m n q;exact⟨x,p',a,rfl,e,z,λi a=>a ▸ A 8 _ _ rfl rfl u,λR k j=>j.qe g⟩
def Q5(w:rT)(n:Nat)(v:rU)(h:qq)(a:Nat)(e:Ending)(w':rT):Prop :=
 ∃f m p bad,e=.returned (.agg<|ze f m)/\Dj w' m f.kC/\(∀g,m.ownBlock=some g->w.heap.size<=g)/\Dm w' n v p bad/\a<p/\p<=h.length/\f.data.length<=h.length/\f.kC.length<=h.length+1/\C9 (DY n) w w'/\J bad (FI h a) (some (f,p))
theorem Ua{t:UInt8}(a:bs[pos]?=some t):FI bs pos=(Gc bs t (pos+1)).bind λr=>if zH r.1=true then some r else none:=by
 unfold FI Gc;rw[a];simp only;cases Es t with
 | none=>rfl
 | some k=>rfl
def Uz(e:Array rU)(w:rT)(a:Nat)(f:DF)(h:rU)(n:e.getD 2 undef=.pointer a)(g:w.heap[a]?=some (.cells (ze f h) 48 (0,0))):(results f12 e).run prog w=.ok (.agg (ze f h)) w:=by
 have m:e[2]?.getD undef=.pointer a:=by rw[<-n];simp
 have c0:w a=some (.int .i64 f.kind):=za g rfl;have c1:w (a,1)=some (.int .i64 f.stream):=za g rfl;have c2:w (a,2)=some (.int .u64 f.off):=za g rfl;have e:w (a,3)=some (.int .u64 f.rel):=za g rfl;have n:w (a,4)=some (.int .u64 f.lF):=za g rfl;have q:w (a,5)=some (.bool f.fin):=za g rfl;have u:w (a,6)=some (.int .u64 f.id):=za g rfl;have y:w (a,7)=some (.int .u64 f.dl):=za g rfl;have z:w (a,8)=some (.string<|zy f.data):=za g rfl;have A:w (a,9)=some h:=za g rfl;simp[results,results12,go_sem,m,c0,c1,c2,e,n,q,u,y,z,A,ze]
theorem fT(A n:Nat)(v:rU)(z:qq)(t:UInt8)(w:rT)(h:Dm w A v n false)(hb:BR w v z)(hv:DN (DY A) v)(ht:z[n]?=some t)(ak:z.length<=549755813888):rH 12 #[(A,0)] w (Q5 w A v z n):=by
 have a:n<z.length:=(AO.1 ht).1;obtain⟨a,D,rfl,ap,q,h3⟩:=id hb;unfold maxLen at q;obtain⟨g,o,rfl,y⟩:=h3 n t ht;have a:=t.toNat_lt;have k0:=h.c0;have k1:=h.c1;have al:w.frozen? ⟨A,1,none⟩=false:=zd h;have N:=zo k0;have a:=zo y;have H:=zb h;have HB:=zb hb;have HV:=zb hv;have m:AA (DN (λk=>k=w.heap.size+1)<|.slice (g,o) z.length D):=by
  intro g' o' n' c' e hx;cases e;have hx:g=w.heap.size+1:=hx;omega
 have E:A≠w.heap.size+1:=I;have O:w.heap.size<w.heap.size+1:=I;have e4:IntKind.i64.wrap ((n:Int)+1)=(n:Int)+1:=IntWalk.i64_in _ I;clear h hb hv h3;go_enter func12,ntmps12;go_wp2;go_quiet (fail)
 go_upto_block 0 with fail
 obtain⟨W,hW⟩:=nm<|(((w.alloc<|.cells #[.int .i64 0,.int .i64 0,.int .u64 0,.int .u64 0,.int .u64 0,false,.int .u64 0,.int .u64 0,.string ⟨#[]⟩,.slice none 0 0] 48).drewN nq).setCell (U A 1)<|.int .i64<|(n:Int)+1).alloc<|.cells #[.int .i64 0,.int .i64 0,.int .u64 0,.int .u64 0,.int .u64 0,false,.int .u64 0,.int .u64 0,.string ⟨#[]⟩,.slice none 0 0] 48;have HA:AA (En w W A (w.heap.size+1) (.slice (g,o) z.length D) z (n+1) (f0 0 false) (.slice none 0 0) (n+1) false):=by
  have hz:(((w.alloc<|.cells #[.int .i64 0,.int .i64 0,.int .u64 0,.int .u64 0,.int .u64 0,false,.int .u64 0,.int .u64 0,.string ⟨#[]⟩,.slice none 0 0] 48).drewN nq).setCell (A,1)<|.int .i64<|(n:Int)+1).heap.size=w.heap.size+1:=by simp[World.setCell]
  have a:C9 (G5 A<|w.heap.size+1) w (((w.alloc<|.cells #[.int .i64 0,.int .i64 0,.int .u64 0,.int .u64 0,.int .u64 0,false,.int .u64 0,.int .u64 0,.string ⟨#[]⟩,.slice none 0 0] 48).drewN nq).setCell (A,1)<|.int .i64<|(n:Int)+1):=((rS.alloc _).drewN nq).setCell (p:=U A 1) (.inl rO) _;have m2:C9 (G5 A<|w.heap.size+1) w W:=by rw[<-hW];exact a.alloc _
  have r1:Dm (((w.alloc<|.cells #[.int .i64 0,.int .i64 0,.int .u64 0,.int .u64 0,.int .u64 0,false,.int .u64 0,.int .u64 0,.string ⟨#[]⟩,.slice none 0 0] 48).drewN nq).setCell (A,1)<|.int .i64<|(n:Int)+1) A (.slice (g,o) z.length D) (n+1) false :=
   Dm.go (H.z.mod (S:=DA) (((C9.refl DA w).alloc _).drewN nq) rP) (n+1) _ I
  refine⟨?_,Dj.nil _,(λg hg=>by cases hg),?_,AI _,I,AK _,AK _,HB.z.mod m2 ?_,m2,?_⟩
  .have q:=heap_alloc_new (((w.alloc<|.cells #[.int .i64 0,.int .i64 0,.int .u64 0,.int .u64 0,.int .u64 0,false,.int .u64 0,.int .u64 0,.string ⟨#[]⟩,.slice none 0 0] 48).drewN nq).setCell (U A 1)<|.int .i64<|(n:Int)+1)<|.cells #[.int .i64 0,.int .i64 0,.int .u64 0,.int .u64 0,.int .u64 0,false,.int .u64 0,.int .u64 0,.string ⟨#[]⟩,.slice none 0 0] 48;rw[hz,hW]at q;exact q
  .rw[<-hW];exact r1.mod (S:=DA) (rS.alloc _) rP
  .intro g' o' n' c' e hx;rcases hx with hx|hx
   .exact HV.z g' o' n' c' e hx
   exact m.z g' o' n' c' e hx
  rw[<-hW];refine((C9.refl DA _).alloc _).obj rP ?_;refine((C9.refl (λk=>k=A) _).setCell (p:=U A 1) rO _).obj (λe=>by have e:w.heap.size=A:=e;omega) ?_;exact((C9.refl DA _).drewN nq).obj rP (heap_alloc_new w _)
 rw[hW];clear hW k0 k1 al y e4
 go_cut [] (λa=>∃f rv p bad,En w a A (w.heap.size+1) (.slice (g,o) z.length D) z (n+1) f rv p bad/\J bad (Gc z t<|n+1) (some (f,p)))
 case first =>
  have y:=HA.z.fr.cells;obtain⟨c0,c1,c2,c3,c4,c5,c6,c7,c8,c9⟩:=y;have a:W.frozen? ⟨w.heap.size+1,0,none⟩=false:=zd HA.z.fr;have q2:=HA.z.rd.c2;have qz:W.frozen? ⟨A,2,none⟩=false:=zd HA.z.rd;have CX:AA (Nl w A (w.heap.size+1) (.slice (g,o) z.length D) z):=⟨E,O,HV.z,m.z,N,ak⟩;have R:∀k:Int,En w (W.setCell (w.heap.size+1,0)<|.int .i64 k) A (w.heap.size+1) (.slice (g,o) z.length D) z (n+1) (f0 k false) (.slice none 0 0) (n+1) false:=λk=>HA.z.set E O m.z rfl (Dj.nil _) (λg hg=>by cases hg) (AK _) (AK _)
  have S5:=zb (λc:Bool=>((R 4).set (i:=5) (x:=.bool c) (f':=f0 4 c) E O m.z rfl (Dj.nil _) (λg hg=>by cases hg) (AK _) (AK _)));have a:(W.setCell (w.heap.size+1,0)<|.int .i64 4).frozen? ⟨w.heap.size+1,5,none⟩=false:=zd (R 4).fr;have a:(W.setCell (w.heap.size+1,0)<|.int .i64 4) (w.heap.size+1,5)=some (.bool false):=(R 4).fr.cell rfl;replace R:=zb R;by_cases af:t=1;have K:J false (Gc z 1<|n+1) _:=.inl ⟨rfl,rfl⟩;have ST:=fun(i:Nat) (_:i=0)=>R.z 1
  rotate_left;by_cases ac:t=2
  .subst ac;have j0:J false (Gc z 2<|n+1) (zQ 2 false z<|n+1):=.inl ⟨rfl,rfl⟩;rw[show zQ 2 false z (n+1)=El false z (n+1)by simp[zQ],VA]at j0;have A0:=HA.z.set (i:=0) (x:=.int .i64 2) (f':=f0 2 false) (rv':=.slice none 0 0) E O m.z rfl (Dj.nil _) (λg hg=>by cases hg) (AK _) (AK _);obtain⟨q,a⟩:=nm<|(W.setCell (U (w.heap.size+1) 0)<|.int .i64 2);rw[a]at A0;have X:=zb A0;have h:=zb a;have J0:=zb j0;clear A0 a j0;go_wp2_with fail;rw[h.z];have k1:=Wt A (n+1) _ z false q X.z.rd X.z.br HV.z X.z.oy I;refine k1.mono ?_;clear k1;rintro e w1 ⟨a,x1,p1,b1,rfl,ad,ah,ai,am,an,ao,aj,ae⟩;obtain⟨L,M,rfl,_⟩:=zi ad.1;have q:=X.z.call E HV.z aj ai am an N;have h:Dj w1 (.slice L x1.length M) x1:=ad;have y:=q.set (i:=9) (x:=.slice L x1.length M) (f':={ f0 2 false with kC:=x1 }) (rv':=.slice L x1.length M) E O m.z rfl ad (λg hg=>qn (ah g hg) X.z.mod.size) (AK _) ao;have a:=q.fr.cells;obtain⟨c0,c1,c2,c3,c4,c5,c6,c7,c8,c9⟩:=a;have X:w1.frozen? ⟨w.heap.size+1,9,none⟩=false:=zd q.fr;obtain⟨m,a⟩:=nm<|w1.setCell (U (w.heap.size+1) 9)<|.slice L x1.length M;rw[a]at y;have m:=zb y;have O:=zb a;have J1:=zb<|J0.z.qe ae;clear q y a ai aj ae ad ah h;go_wp2_with fail;rw[O.z];clear c0 c1 c2 c3 c4 c5 c6 c7 c8 c9 X;go_meet;exact⟨_,_,_,_,m.z,J1.z⟩
  by_cases a:t=36;have K:J false (Gc z 36<|n+1) (In false z<|n+1):=.inl ⟨rfl,rfl⟩;have ST:=fun(i:Nat) (_:i=0)=>R.z 3
  rotate_left;by_cases X:t=8;have K:J false (Gc z 8<|n+1) (G4 false z<|n+1):=.inl ⟨rfl,rfl⟩;have ST:=fun(i:Nat) (_:i=0)=>S5.z false
  rotate_left;by_cases ag:t=9;have K:J false (Gc z 9<|n+1) (G4 true z<|n+1):=.inl ⟨rfl,rfl⟩;have ST:=fun(i:Nat) (_:i=0)=>S5.z true
  rotate_left;by_cases h:t=16;have K:J false (Gc z 16<|n+1) (Fj 5 false z<|n+1):=.inl ⟨rfl,rfl⟩;have ST:=fun(i:Nat) (_:i=0)=>R.z 5
  rotate_left;by_cases m:t=17;have K:J false (Gc z 17<|n+1) (Gq false z<|n+1):=.inl ⟨rfl,rfl⟩;have ST:=fun(i:Nat) (_:i=0)=>R.z 6
  rotate_left;by_cases q:t=48;have K:J false (Gc z 48<|n+1) (Im false z<|n+1):=.inl ⟨rfl,rfl⟩;have ST:=fun(i:Nat) (_:i=0)=>R.z 7
  rotate_left;by_cases y:t=28;have K:J false (Gc z 28<|n+1) (Fj 8 false z<|n+1):=.inl ⟨rfl,rfl⟩;have ST:=fun(i:Nat) (_:i=0)=>R.z 8
  rotate_left
  .have O:∀c:UInt8,t≠c->((t.toNat:Int)==(c.toNat:Int))=false:=by
    intro c R;rw[AM];intro he;exact R<|Cd.1 I
   have R:((t.toNat:Int)==1)=false:=O 1 af;have R:((t.toNat:Int)==2)=false:=O 2 ac;have h3:((t.toNat:Int)==36)=false:=O 36 a;have R:((t.toNat:Int)==8)=false:=O 8 X;have R:((t.toNat:Int)==9)=false:=O 9 ag;have R:((t.toNat:Int)==16)=false:=O 16 h;have R:((t.toNat:Int)==17)=false:=O 17 m;have R:((t.toNat:Int)==48)=false:=O 48 q;have R:((t.toNat:Int)==28)=false:=O 28 y;have R:AA (Gc z t (n+1)=none):=by
    show _=_;unfold Gc Es;rw[AH af,AH ac,AH<|by rintro(e|e);exact X e;exact ag e,AH h,AH m,AH y,AH a,AH q];rfl
   clear O af ac a X ag h m q y;go_wp2;go_meet;have m:=(C9.refl (DY A) W).setCell (p:=U A 2) rO<|.bool true;exact⟨f0 0 false,.slice none 0 0,n+1,true,HA.z.call E HV.z m HA.z.rd.fail (AI _) HA.z.oy N,.inr ⟨rfl,R.z⟩⟩
  all_goals
   subst t;replace K:=zb K;replace ST:=zb ST;go_wp2_with fail;repeat
    first
    | refine((ST.z _<|by rfl).ph CX.z).mono ?_
    | refine((ST.z _<|by rfl).qU CX.z).mono ?_
    | refine((ST.z _<|by rfl).qT CX.z).mono ?_
    clear c0 c1 c2 c3 c4 c5 c6 c7 c8 c9 ST;rintro e w1 ⟨x1,p1,b1,rfl,fz,FA,ST,JJ⟩;replace ST:=zb ST;replace K:=zb<|JJ _ _ K.z;clear JJ;obtain⟨c0,c1,c2,c3,c4,c5,c6,c7,c8,c9⟩:=FA.cells;clear FA;go_wp2_with fail
   go_meet;exact⟨_,_,_,_,ST.z _<|by rfl,K.z⟩
 case rest =>
  obtain⟨f,rv,p,bad,hF,hJ⟩:=hcut;obtain⟨L,M,rfl,_⟩:=zi hF.own.1;have HF:=zb hF;have HJ:=zb hJ;have q2:=hF.rd.c2;obtain⟨c0,c1,c2,c3,c4,c5,c6,c7,c8,c9⟩:=hF.fr.cells;have a:=zb hF.q;clear hF hJ;cases bad
  .have ks:=Ty f L M wc HF.z.own.rr (qm HF.z.rl)<|qm HF.z.dl;unfold ze at ks;go_wp2_with fail;refine ks.mono ?_;rintro e w5 ⟨rfl,m5⟩;clear ks;have Z:En w w5 A (w.heap.size+1) (.slice (g,o) z.length D) z (n+1) f (.slice L f.kC.length M) p false:=HF.z.call E HV.z (m5.mono rQ) (HF.z.rd.mod m5 rP) (AI _) HF.z.oy N;have aa:∀b,(!zH f)=b->J b (FI z n) (some (f,p)):=by
    intro b hb;rcases HJ.z with⟨_,e⟩|⟨e,_⟩
    .have hq:=Ua ht;rw[e]at hq;simp only[AX]at hq;cases hs:zH f
     .rw[hs]at hb hq;exact .inr ⟨hb.symm,by rw[hq];rfl⟩
     rw[hs]at hb hq;exact .inl ⟨hb.symm,by rw[hq];rfl⟩
    cases e
   obtain⟨a,h⟩:=nm<|(!zH f);have ab:=zb<|aa a h;have q2:=Z.rd.c2;have qz:w5.frozen? ⟨A,2,none⟩=false:=zd Z.rd;clear c0 c1 c2 c3 c4 c5 c6 c7 c8 c9;have h:Dm (w5.setCell (A,2)<|.bool a) A (.slice (g,o) z.length D) p a:=by
    have:=Z.rd;unfold Dm at this ⊢;rw[zc this];simp
   have B:En w (w5.setCell (A,2)<|.bool a) A (w.heap.size+1) (.slice (g,o) z.length D) z (n+1) f (.slice L f.kC.length M) p a :=
    Z.call E HV.z ((C9.refl (DY A) w5).setCell (p:=U A 2) rO _) h (AI _) Z.oy N
   obtain⟨X,g⟩:=nm<|w5.setCell (U A 2)<|.bool a;rw[g]at B;obtain⟨c0,c1,c2,c3,c4,c5,c6,c7,c8,c9⟩:=B.fr.cells;obtain⟨d0,d1,d2,d3,d4,d5,d6,d7,d8,d9⟩:=zp.cells (f:=f0 0 false) B.q;have C:∀i,X.frozen? ⟨w.heap.size,i,none⟩=false:=λi=>zd B.q
   have e0:=C 0;have e1:=C 1;have e2:=C 2;have e3:=C 3;have e4:=C 4;have e5:=C 5;have e6:=C 6;have e7:=C 7;have e8:=C 8;have e9:=C 9;have u:=zb B;clear B C;go_wp2_with fail;try rw[g]
   obtain⟨Y,hY⟩:=nm<|(((((((((X.setCell w.heap.size<|.int .i64 f.kind).setCell (U w 1)<|.int .i64 f.stream).setCell (U w 2)<|.int .u64 f.off).setCell (U w 3)<|.int .u64 f.rel).setCell (U w 4)<|.int .u64 f.lF).setCell (U w 5)<|.bool f.fin).setCell (U w 6)<|.int .u64 f.id).setCell (U w 7)<|.int .u64 f.dl).setCell (U w 8)<|.string<|zy f.data).setCell (U w 9)<|.slice L f.kC.length M;rw[hY];have mY:C9 (λk=>k=w.heap.size) X Y:=by
    rw[<-hY];exact((((((((((C9.refl (λk=>k=w.heap.size) X).setCell (p:=w.heap.size) rO _).setCell (p:=U w.heap.size 1) rO _).setCell (p:=U w.heap.size 2) rO _).setCell (p:=U w.heap.size 3) rO _).setCell (p:=U w.heap.size 4) rO _).setCell (p:=U w.heap.size 5) rO _).setCell (p:=U w.heap.size 6) rO _).setCell (p:=U w.heap.size 7) rO _).setCell (p:=U w.heap.size 8) rO _).setCell (p:=U w.heap.size 9) rO _
   have oY:Y.heap[w.heap.size]?=some (.cells (ze f<|.slice L f.kC.length M) 48 (0,0)):=by
    rw[<-hY];rw[zc (zc<|zc<|zc<|zc<|zc<|zc<|zc<|zc<|zc u.z.q)];simp[ze]
   refine bodyPost_ret (Uz _ _ w.heap.size f _ rfl oY) rfl ?_;exact⟨f,_,p,a,rfl,u.z.own.mod mY<|λk G e=>u.z.own.mL u.z.q lc (by have e:k=w.heap.size:=e;rw[<-e];exact G),u.z.new,u.z.rd.mod mY (λe=>by have e:A=w.heap.size:=e;omega),qm u.z.le,u.z.oy,u.z.dl,u.z.rl,
    (u.z.mod.then mY<|λk G=>.inr (by have G:k=w.heap.size:=G;omega)).mono (λk G=>by
     rcases G with G|G
     .exact .inl G
     exact .inr I),ab.z⟩
  have aa:J true (FI z n) (some (f,p)):=by
   rcases HJ.z with⟨e,_⟩|⟨_,e⟩
   .cases e
   refine .inr ⟨rfl,?_⟩;rw[Ua ht,e];rfl
  have ab:=zb aa;have B:=HF.z;clear c0 c1 c2 c3 c4 c5 c6 c7 c8 c9;obtain⟨c0,c1,c2,c3,c4,c5,c6,c7,c8,c9⟩:=B.fr.cells;obtain⟨d0,d1,d2,d3,d4,d5,d6,d7,d8,d9⟩:=zp.cells (f:=f0 0 false) B.q;have C:∀i,wc.frozen? ⟨w.heap.size,i,none⟩=false:=λi=>zd B.q
  have e0:=C 0;have e1:=C 1;have e2:=C 2;have e3:=C 3;have e4:=C 4;have e5:=C 5;have e6:=C 6;have e7:=C 7;have e8:=C 8;have e9:=C 9;have u:=zb B;clear B C;go_wp2_with fail;obtain⟨Y,hY⟩:=nm<|(((((((((wc.setCell w.heap.size<|.int .i64 f.kind).setCell (U w 1)<|.int .i64 f.stream).setCell (U w 2)<|.int .u64 f.off).setCell (U w 3)<|.int .u64 f.rel).setCell (U w 4)<|.int .u64 f.lF).setCell (U w 5)<|.bool f.fin).setCell (U w 6)<|.int .u64 f.id).setCell (U w 7)<|.int .u64 f.dl).setCell (U w 8)<|.string<|zy f.data).setCell (U w 9)<|.slice L f.kC.length M;rw[hY];have mY:C9 (λk=>k=w.heap.size) wc Y:=by
   rw[<-hY];exact((((((((((C9.refl (λk=>k=w.heap.size) wc).setCell (p:=w.heap.size) rO _).setCell (p:=U w.heap.size 1) rO _).setCell (p:=U w.heap.size 2) rO _).setCell (p:=U w.heap.size 3) rO _).setCell (p:=U w.heap.size 4) rO _).setCell (p:=U w.heap.size 5) rO _).setCell (p:=U w.heap.size 6) rO _).setCell (p:=U w.heap.size 7) rO _).setCell (p:=U w.heap.size 8) rO _).setCell (p:=U w.heap.size 9) rO _
  have oY:Y.heap[w.heap.size]?=some (.cells (ze f<|.slice L f.kC.length M) 48 (0,0)):=by
   rw[<-hY];rw[zc (zc<|zc<|zc<|zc<|zc<|zc<|zc<|zc<|zc u.z.q)];simp[ze]
  refine bodyPost_ret (Uz _ _ w.heap.size f _ rfl oY) rfl ?_;exact⟨f,_,p,true,rfl,u.z.own.mod mY<|λk G e=>u.z.own.mL u.z.q lc (by have e:k=w.heap.size:=e;rw[<-e];exact G),u.z.new,u.z.rd.mod mY (λe=>by have e:A=w.heap.size:=e;omega),qm u.z.le,u.z.oy,u.z.dl,u.z.rl,
   (u.z.mod.then mY<|λk G=>.inr (by have G:k=w.heap.size:=G;omega)).mono (λk G=>by
    rcases G with G|G
    .exact .inl G
    exact .inr I),ab.z⟩
end
end Go.Proofs.YtddfdpbaiedcjabGreatDoor
