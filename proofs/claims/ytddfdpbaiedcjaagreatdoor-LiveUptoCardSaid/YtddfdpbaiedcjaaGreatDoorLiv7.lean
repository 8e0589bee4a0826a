/- A part of Live's proof. Conditions: none. Part 7 of 15. -/
import Derived.Test.YtddfdpbaiedcjaaGreatDoorLiv6
set_option maxRecDepth 100000
set_option maxHeartbeats 16000000
set_option linter.all false
namespace Go.Proofs.YtddfdpbaiedcjaaGreatDoor
section
open Go.RowKit Go.Proofs.Tryz
def Gz:Nat->List Nat->Nat->Nat->List Nat
 | 0,l,_,_=>l
 | f+1,l,i,n =>
  if 2*i+1<n then
   if 2*i+2<n/\l.getD (2*i+2) 0<l.getD (2*i+1) 0 then
    if l.getD (2*i+2) 0<l.getD i 0 then Gz f (Fi l i (2*i+2)) (2*i+2) n else l
   else if l.getD (2*i+1) 0<l.getD i 0 then Gz f (Fi l i (2*i+1)) (2*i+1) n else l
  else l
variable{i:Nat}
def NP{l:List Nat}(h:i<l.length):l[i]?=some (l.getD i 0):=by
 rw[Ak,AK h];rfl
def WJ(l:List Nat)(i k:Nat):(Fi l i k).length=l.length:=by simp[Fi]
structure I7(sb:Nat)(fn:Nat->Value)(l0:List Nat)(n g cap:Nat)(W0:World)(i:Nat)(l:List Nat)(W:World):Prop where
 h:EJ sb fn l g cap W
 m:DW (λq=>q=g) W0 W
 len:l.length=l0.length
 f:∃f,n<=i+f/\Gz f l i n=Gz n l0 0 n
variable{W W0:World}{cap g sb:Nat}{fn:Nat->Value}
theorem I7.leave{a:List Nat}{n:Nat}{l:List Nat}(h:I7 sb fn a n g cap W0 i l W)(hn:¬2*i+1<n):Gz n a 0 n=l:=by
 obtain⟨f,h1,h2⟩:=h.f;rw[<-h2];cases f with
 | zero=>rfl
 | succ f =>
  unfold Gz;rw[AI hn]
variable{j:Nat}
theorem I7.stop{b:List Nat}{n:Nat}{l:List Nat}(h:I7 sb fn b n g cap W0 i l W)(hn:2*i+1<n)(a:j=if 2*i+2<n/\l.getD (2*i+2) 0<l.getD (2*i+1) 0 then 2*i+2 else 2*i+1)(hl:¬l.getD j 0<l.getD i 0):Gz n b 0 n=l:=by
 obtain⟨f,h1,h2⟩:=h.f;rw[<-h2];cases f with
 | zero=>rfl
 | succ f =>
  unfold Gz;rw[AQ hn];split at a
  .rw[AQ (by assumption),<-a,AI hl]
  rw[AI (by assumption),<-a,AI hl]
variable{W':World}
theorem I7.next{b:List Nat}{n:Nat}{l:List Nat}(h:I7 sb fn b n g cap W0 i l W)(hn:2*i+1<n)(a:j=if 2*i+2<n/\l.getD (2*i+2) 0<l.getD (2*i+1) 0 then 2*i+2 else 2*i+1)(hl:l.getD j 0<l.getD i 0)
  (hh:EJ sb fn (Fi l i j) g cap W') (hm:DW (λq=>q=g) W W'):I7 sb fn b n g cap W0 j (Fi l i j) W':=by
 obtain⟨f,h1,h2⟩:=h.f;refine⟨hh,h.m.trans hm,by rw[WJ];exact h.len,?_⟩;cases f with
 | zero=>omega
 | succ f =>
  refine⟨f,by split at a<;>omega,?_⟩;rw[<-h2]
  conv=>rhs;unfold Gz
  rw[AQ hn];split at a
  .rw[AQ (by assumption),<-a,AQ hl]
  rw[AI (by assumption),<-a,AQ hl]
def gW{l:List Nat}(h:EJ sb fn l g cap W)(n:Nat)(hn:n<=l.length):Calls prog 200 #[hI sb,.int .i64 0,[n]] W λe W'=>(∃b,e=.returned (.bool b))/\EJ sb fn (Gz n l 0 n) g cap W'/\DW (λq=>q=g) W W':=by
 have hs:=h.small;have HH:AA (I7 sb fn l n g cap W 0 l W):=⟨h,DW.refl _ _,rfl,n,I,rfl⟩;obtain⟨R,hR⟩:=nm (Gz n l 0 n);rw[hR];have Z:=zb hR;clear h hR;unfold hI;go_enter func200,ntmps200;go_wp2_with fail
 go_loopw [7] (λiv wr=>∃(i:Nat) (j:List Nat),iv=.int .i64 i/\i<=n/\AA (I7 sb fn l n g cap W i j wr)) (λiv _=>n-(intOf iv).toNat)
 case atStart=>exact⟨0,l,rfl,I,HH⟩
 case round =>
  obtain⟨i,j,rfl,hi,c⟩:=hrel;obtain⟨p,J⟩:∃p:Nat,2*i+1=p:=⟨_,rfl⟩;obtain⟨w,K⟩:∃w:Nat,2*i+2=w:=⟨_,rfl⟩;have q1:IntKind.i64.wrap (2*(i:Int))=2*(i:Int):=IntWalk.i64_in _ I;have q2:IntKind.i64.wrap (2*(i:Int)+1)=(p:Int):=by rw[IntWalk.i64_in _ I];omega
  have q3:IntKind.i64.wrap ((p:Int)+1)=(w:Int):=by rw[IntWalk.i64_in _ I];omega
  have D:=c.z.len;by_cases h1:p<n
  .have C:2*i+1<n:=I;have s:=zb C;have gi:=NP (l:=j) (i:=i) I;have g1:=NP (l:=j) (i:=p) I;have O:=zb D;obtain⟨x,hx⟩:=nm (j.getD i 0);obtain⟨y1,L⟩:=nm (j.getD p 0);obtain⟨y2,P⟩:=nm (j.getD w 0);rw[hx]at gi;rw[L]at g1;have t:=zb J;have u:=zb K;have M:=zb hx;have r:=zb L;have v:=zb P;clear D;have hm:=M7 c.z.h.c0;have d1:¬(n:Int)<=p:=I;have d2:¬(p:Int)<0:=I;clear J K C hx L P;by_cases h2:w<n
   .have g2:=NP (l:=j) (i:=w) (nC O.z);rw[v.z]at g2;have N:=Nb c.z.h g2 g1;have d3:(w:Int)<n:=I;by_cases h3:y2<y1
    .rw[Ax h3]at N;have KL:=zb N;have H3:=zb h3;clear N h3;go_upto_region 8 with(go_at_call 245;refine KL.z.mono ?_;rintro e w2 ⟨rfl,Q⟩;have y:=zb Q;clear Q);have z:=c.z.h.mod y.z (λx=>x) (λx=>x);have A:=M7 z.c0;have a:=Nb z g2 gi;have E:w=if 2*i+2<n/\j.getD (2*i+2) 0<j.getD (2*i+1) 0 then 2*i+2 else 2*i+1:=by
      rw[u.z,t.z,r.z];rw[v.z,AQ ⟨h2,H3.z⟩]
     have F:=zb E;clear E z hm;by_cases h4:y2<x
     .rw[Ax h4]at a;have d:=zb a;have B:=zb h4;clear a h4;go_upto_region 9 with(go_at_call 245;refine d.z.mono ?_;rintro e S ⟨rfl,k⟩;have o:=zb (y.z.trans k);clear k);have f:=c.z.h.mod o.z (λx=>x) (λx=>x);have T:=Ol f.c0;have G:=PL f gi g2;have V:=zb G;clear G f A;go_wp2_with (go_at_call 248;refine V.z.mono ?_;rintro e w4 ⟨rfl,h4,H⟩;have X:=zb h4;have Y:=zb H;clear h4 H);go_roundw
      case rel=>exact⟨w,Fi j i w,rfl,I,zb (c.z.next s.z F.z (by rw[M.z,v.z];exact B.z) X.z ((o.z.mono (λ_ x=>x.elim)).trans Y.z))⟩
      case measure =>
       have a1:=t.z;have a2:=u.z;simp[intOf];omega
     rw[Aw h4]at a;have d:=zb a;have B:=zb h4;clear a h4;go_wp2_with (go_at_call 245;refine d.z.mono ?_;rintro e S ⟨rfl,k⟩;have o:=zb (y.z.trans k);clear k);all_goals
      go_ret;have e:=c.z.stop s.z F.z (by rw[M.z,v.z];exact B.z);rw[Z.z]at e;exact⟨⟨_,rfl⟩,by rw[e];exact c.z.h.mod o.z (λx=>x) (λx=>x),c.z.m.trans (o.z.mono (λ_ x=>x.elim))⟩
    rw[Aw h3]at N;have KL:=zb N;have H3:=zb h3;clear N h3;go_upto_region 8 with(go_at_call 245;refine KL.z.mono ?_;rintro e w2 ⟨rfl,Q⟩;have y:=zb Q;clear Q);have z:=c.z.h.mod y.z (λx=>x) (λx=>x);have A:=M7 z.c0;have a:=Nb z g1 gi;have E:p=if 2*i+2<n/\j.getD (2*i+2) 0<j.getD (2*i+1) 0 then 2*i+2 else 2*i+1:=by
     rw[u.z,t.z,r.z];rw[v.z,AI (λx=>H3.z x.2)]
    have F:=zb E;clear E z hm;by_cases h4:y1<x
    .rw[Ax h4]at a;have d:=zb a;have B:=zb h4;clear a h4;go_upto_region 9 with(go_at_call 245;refine d.z.mono ?_;rintro e S ⟨rfl,k⟩;have o:=zb (y.z.trans k);clear k);have f:=c.z.h.mod o.z (λx=>x) (λx=>x);have T:=Ol f.c0;have G:=PL f gi g1;have V:=zb G;clear G f A;go_wp2_with (go_at_call 248;refine V.z.mono ?_;rintro e w4 ⟨rfl,h4,H⟩;have X:=zb h4;have Y:=zb H;clear h4 H);go_roundw
     case rel=>exact⟨p,Fi j i p,rfl,I,zb (c.z.next s.z F.z (by rw[M.z,r.z];exact B.z) X.z ((o.z.mono (λ_ x=>x.elim)).trans Y.z))⟩
     case measure =>
      have a1:=t.z;have a2:=u.z;simp[intOf];omega
    rw[Aw h4]at a;have d:=zb a;have B:=zb h4;clear a h4;go_wp2_with (go_at_call 245;refine d.z.mono ?_;rintro e S ⟨rfl,k⟩;have o:=zb (y.z.trans k);clear k);all_goals
     go_ret;have e:=c.z.stop s.z F.z (by rw[M.z,r.z];exact B.z);rw[Z.z]at e;exact⟨⟨_,rfl⟩,by rw[e];exact c.z.h.mod o.z (λx=>x) (λx=>x),c.z.m.trans (o.z.mono (λ_ x=>x.elim))⟩
   have d3:¬(w:Int)<n:=I;clear v;go_upto_region 8 with fail;have y:AA (DW DY wr wr):=zb (DW.refl _ _);have z:=c.z.h.mod y.z (λx=>x) (λx=>x);have A:=M7 z.c0;have a:=Nb z g1 gi;have E:p=if 2*i+2<n/\j.getD (2*i+2) 0<j.getD (2*i+1) 0 then 2*i+2 else 2*i+1:=by
    rw[u.z,t.z,r.z];rw[AI (λx=>h2 x.1)]
   have F:=zb E;clear E z hm;by_cases h4:y1<x
   .rw[Ax h4]at a;have d:=zb a;have B:=zb h4;clear a h4;go_upto_region 9 with(go_at_call 245;refine d.z.mono ?_;rintro e S ⟨rfl,k⟩;have o:=zb (y.z.trans k);clear k);have f:=c.z.h.mod o.z (λx=>x) (λx=>x);have T:=Ol f.c0;have G:=PL f gi g1;have V:=zb G;clear G f A;go_wp2_with (go_at_call 248;refine V.z.mono ?_;rintro e w4 ⟨rfl,h4,H⟩;have X:=zb h4;have Y:=zb H;clear h4 H);go_roundw
    case rel=>exact⟨p,Fi j i p,rfl,I,zb (c.z.next s.z F.z (by rw[M.z,r.z];exact B.z) X.z ((o.z.mono (λ_ x=>x.elim)).trans Y.z))⟩
    case measure =>
     have a1:=t.z;have a2:=u.z;simp[intOf];omega
   rw[Aw h4]at a;have d:=zb a;have B:=zb h4;clear a h4;go_wp2_with (go_at_call 245;refine d.z.mono ?_;rintro e S ⟨rfl,k⟩;have o:=zb (y.z.trans k);clear k);all_goals
    go_ret;have e:=c.z.stop s.z F.z (by rw[M.z,r.z];exact B.z);rw[Z.z]at e;exact⟨⟨_,rfl⟩,by rw[e];exact c.z.h.mod o.z (λx=>x) (λx=>x),c.z.m.trans (o.z.mono (λ_ x=>x.elim))⟩
  have d1:(n:Int)<=p:=I;have C:¬2*i+1<n:=I;have HF:EJ sb fn R g cap wr:=by
   rw[<-Z.z,c.z.leave C];exact c.z.h
  have aa:=zb HF;clear J K HF;go_wp2_with fail;all_goals
   go_ret;exact⟨⟨_,rfl⟩,aa.z,c.z.m⟩
def gV{l o:List Nat}{c:Nat}(h:EJ sb fn l g cap W)(h1:1<=l.length)(f:Gz (l.length-1) (Fi l 0 (l.length-1)) 0 (l.length-1)=o++[c]):Calls prog 151 #[hI sb] W λe W'=>e=.returned (.iface 266 (.agg #[.int .i64 c,fn c]))/\EJ sb fn o g cap W'/\DW (λq=>q=sb\/q=g) W W':=by
 have hs:=h.small;obtain⟨n,j⟩:∃n,l.length=n+1:=⟨l.length-1,I⟩;have a:l.length-1=n:=I;rw[a]at f;have p:=J3 h.c0;have b:=Ol h.c0;have k:=Qi (some ⟨g,0,none⟩) l.length cap W;have d:=PL h (NP (l:=l) (i:=0) I) (NP (l:=l) (i:=n) I);have q1:IntKind.i64.wrap (((n+1:Nat):Int)-1)=(n:Int):=by rw[IntWalk.i64_in _ I];omega
 have q2:wrap64 (n:Int)=(n:Int):=IntWalk.wrap64_in _ I;have r:(Fi l 0 n).length=n+1:=by rw[WJ,j]
 rw[j]at p b k d;rw[show((0:Nat):Int)=0 from rfl]at d;have KL:=zb k;have KS:=zb d;have HP:=zb f;have E1:=zb r;clear h k d f j a r;unfold hI;go_enter func151,ntmps151;go_upto_region 3 with(first|(go_at_call 150;refine KL.z.mono ?_;rintro e w2 ⟨rfl,rfl⟩)|(go_at_call 248;refine KS.z.mono ?_;rintro e w3 ⟨rfl,h3,s⟩;have H3:=zb h3;have M3:=zb s;clear h3 s));have m:=gW H3.z n (by rw[E1.z];omega);rw[HP.z]at m;have t:=zb m;unfold hI at t;clear m p b;go_upto_region 4 with(go_at_call 200;refine t.z.mono ?_;rintro e w4 ⟨⟨rb,rfl⟩,h4,u⟩;have H4:=zb h4;have M4:=zb u;clear h4 u);have hmp:=OD sb w4;have v:=gX H4.z;have KP:=zb v;clear v;go_wp2_with (go_at_call 246;refine KP.z.mono ?_;rintro e w5 ⟨rfl,w,y⟩;have H5:=zb w;have M5:=zb y;clear w y);go_ret;exact⟨rfl,H5.z,((M3.z.trans M4.z).mono (λ_ x=>.inl (.inr x))).trans (M5.z.mono (λ_ x=>.inl (.inl x)))⟩
def zT(p:Nat->Bool)(n:Nat):FD n p (zW p n):=by
 have a:=List.findIdx_le_length (xs:=List.range n) (p:=p);rw[CO]at a;refine⟨a,λh=>?_,λh=>?_⟩
 .have:=List.not_of_lt_findIdx (p:=p) (xs:=List.range n) (i:=zW p n-1) (by unfold zW at h ⊢;omega);simpa using this
 have:=List.findIdx_getElem (xs:=List.range n) (p:=p) (w:=by rw[CO];exact h);simpa [zW]using this
structure Dl.Ok(s:Dl):Prop where
 wf:WF s.rs
 hi:∀j,j<s.rs.length->DX s.rs j<=zF
 fl:s.fl<=zF
 most:1<=s.most/\s.most<=1099511627776
 rl:s.rs.length<=s.most
variable{B hi m m1:Nat}{rs:zC}
def PJ{a:Nat}(h1:m1<=a)(h2:a<=rs.length)(b:∀j,j<rs.length->DX rs j<=B)(hb:hi<=B):∀i,i<(EI rs m hi m1 a).length->DX (EI rs m hi m1 a) i<=B:=by
 intro i hl;rw[Pd rs m hi m1 a h1 h2]at hl;rcases CM i m1 with hc|hc|hc
 .rw[(Me rs m hi m1 a i h1 h2 hc).2];exact b i I
 .subst hc;rw[(RI rs m hi i a h1 h2).2];unfold EM;split
  .have:=b (a-1) I;exact Nat.max_le.2 ⟨hb,this⟩
  exact hb
 rw[(Je rs m hi m1 a i h1 h2 hc).2];exact b _ I
def TX(h:WF rs)(k:Nat):WF (rs.drop k):=by
 refine⟨λi hi=>?_,λi j hij hj=>?_⟩
 .rw[(Za rs k i).1,(Za rs k i).2];exact h.1 _ (by rw[Ac]at hi;omega)
 rw[(Za rs k i).2,(Za rs k j).1];exact h.2 _ _ I (by rw[Ac]at hj;omega)
variable{s:Dl}
def Dl.Ok.add(h:s.Ok)(lo:Nat)(i:hi<=zF):(s.add lo hi).Ok:=by
 have hb:hi<18446744073709551616:=by unfold zF at i;omega
 unfold Dl.add;split
 .exact h
 rename_i hin;have s1:=zT (D0 s.rs (max lo s.fl)) s.rs.length;have s2:=zT (EF s.rs hi) s.rs.length;have d:=Jo h.wf I s1 s2;have e:=Qj h.wf I hb s1 s2;have hl:=Pd s.rs (max lo s.fl) hi _ _ d s2.1;have f:=PJ (m:=max lo s.fl) d s2.1 h.hi i;have g:=h.rl;have k:=h.most;have hs2:=s2.1;have hL:(EI s.rs (max lo s.fl) hi (zW (D0 s.rs (max lo s.fl)) s.rs.length) (zW (EF s.rs hi) s.rs.length)).length<=s.rs.length+1:=by
  rw[hl];omega
 split
 .rename_i hgt;refine⟨TX e 1,λj hj=>?_,?_,k,?_⟩
  .rw[(Za _ 1 j).2];exact f _ (by rw[Ac]at hj;omega)
  .have a:=e.2 0 1 I I;have b:=e.1 1 I;have c:=f 1 I;show _+1<=zF;omega
  rw[Ac];exact AJ (Nat.sub_le_of_le_add hL) g
 rename_i hgt;exact⟨e,f,h.fl,k,DC hgt⟩
structure WS.Ok(x:WS):Prop where
 sent:x.sent.Ok
 came:x.came.Ok
 cut:x.keep<=x.final/\x.final<=zF/\x.keep<=zF
 len:x.b.length<=1048576
 credit:x.credit<=zF
 high:x.high<=x.b.length
structure CS.Ok(c:CS):Prop where
 mtu:c.mtu<=65536
 win:c.window<=4096
 tot:c.total<=4096
 grant:c.grant<=zF
 credit:c.credit<=zF
 ws:∀k,k<8->(c.ws k).Ok
 rs:∀k,k<8->((c.rs k).used<=zF/\(c.rs k).grant<=zF)/\((c.rs k).hopes=true->(c.rs k).used<=2305843009213693951)
 waits:∀f∈c.waits,f.Fits
variable{c:CS}
def CS.Ok.ctl(h:c.Ok):KY c :=
 ⟨h.win,h.tot,h.grant,λk hk=>(h.rs k hk).1,λk hk q=>by have:=(h.rs k hk).2 q;have:=h.win;unfold zF;omega,λk hk=>⟨(h.ws k hk).cut.1,(h.ws k hk).cut.2.1⟩⟩
theorem jR{f:Nat->WS}:∀n,(∀k,k<n->(f k).high<=B)->zI f n<=n*B:=by
 intro n
 induction n with
 | zero=>intro _;simp[zI]
 | succ n ih =>
  intro h;have h1:=ih (λk hk=>h k I);have h2:=h n I;have:zI f (n+1)=zI f n+(f n).high:=rfl;rw[this,DV];omega
variable{k:Nat}
def CS.Ok.by_(h:c.Ok)(hk:k<8):QR c k:=by
 have w:=h.ws k hk;have hi:=w.high;have hl:=w.len;refine⟨hk,w.cut.2.2,hl,w.credit,by unfold zF;omega,h.credit,?_,w.sent.wf,λj hj=>by have:=w.sent.hi j hj;unfold zF at this;omega,w.sent.fl,w.sent.most,AJ w.sent.rl w.sent.most.2⟩;have:=jR (f:=c.ws) (B:=1048576) 8 (λk hk=>by have a:=(h.ws k hk).high;have b:=(h.ws k hk).len;omega);show zI c.ws 8<=zF;unfold zF;omega
def CS.put(c:CS)(d:Dd):Nat->Bool×CS×Dd
 | 0=>((c.control d).isSome,((c.control d).getD (c,d)).1,((c.control d).getD (c,d)).2)
 | 1=>((c.datagrams d).isSome,((c.datagrams d).getD (c,d)).1,((c.datagrams d).getD (c,d)).2)
 | k+2=>c.bytes d k
structure Ge(c:CS)(d:Dd)(r:Bool)(c':CS)(d':Dd):Prop where
 ok:c'.Ok
 yes:r=true->∃f,f.Fits/\f.kind≠2/\d.add f=some d'
 no:r=false->c'=c/\(d'=d\/d'={ d with full:=true })
 next:c'.next=c.next/\c'.now=c.now/\c'.closed=c.closed/\c'.flight=c.flight/\c'.mtu=c.mtu/\c'.answer=c.answer/\c'.got=c.got
variable{d:Dd}
theorem XM(h:c.Ok):∀n k t,n+k=8->t<=zF->(ER c d n k t).2<=zF/\∀x,(ER c d n k t).1=some x->Ge c d true x.1 x.2:=by
 intro n
 induction n with
 | zero=>intro k t _ f;exact⟨f,λx hx=>by cases hx⟩
 | succ n ih =>
  intro k t hk f;have a:k<8:=I;have g:min (t+(c.rs k).used) zF<=zF:=Nat.min_le_right _ _;have b:=ih (k+1) (min (t+(c.rs k).used) zF) I g;unfold ER;split
  .rename_i hcond;simp only[AZ]at hcond;split
   .rename_i d' hd;refine⟨g,λx hx=>?_⟩;cases hx;have g1:=(h.rs k a).2 hcond.2;have g0:=(h.rs k a).1.1;have g2:=(h.rs k a).1.2;have hw:=h.win;have hg:max (c.rs k).grant ((c.rs k).used+c.window)<=zF:=by unfold zF at g2 ⊢;omega
    refine⟨⟨h.mtu,h.win,h.tot,h.grant,h.credit,h.ws,λj hj=>?_,h.waits⟩,λ_=>⟨_,QT a hg,by simp[GD],hd⟩,nB,⟨rfl,rfl,rfl,rfl,rfl,rfl,rfl⟩⟩;by_cases e:j=k
    .subst e;show(((zf c.rs j _) j).used<=_/\((zf c.rs j _) j).grant<=_)/\(((zf c.rs j _) j).hopes=true->((zf c.rs j _) j).used<=_);rw[ze];exact⟨⟨g0,hg⟩,λ_=>g1⟩
    show(((zf c.rs k _) j).used<=_/\((zf c.rs k _) j).grant<=_)/\(((zf c.rs k _) j).hopes=true->((zf c.rs k _) j).used<=_);rw[zd _ _ e];exact h.rs j hj
   exact b
  exact b
theorem XL(h:c.Ok):∀n k,n+k=8->∀x,ET c d n k=some x->Ge c d true x.1 x.2:=by
 intro n
 induction n with
 | zero=>intro k _ x hx;cases hx
 | succ n ih =>
  intro k hk x hx;have a:k<8:=I;have b:=ih (k+1) I;unfold ET at hx;split at hx
  .split at hx
   .rename_i d' hd;cases hx;have w:=h.ws k a;refine⟨⟨h.mtu,h.win,h.tot,h.grant,h.credit,λj hj=>?_,h.rs,h.waits⟩,λ_=>⟨_,TO a w.cut.2.1 w.cut.1,by simp[Hj],hd⟩,nB,⟨rfl,rfl,rfl,rfl,rfl,rfl,rfl⟩⟩;by_cases e:j=k
    .subst e;show(zf c.ws j _ j).Ok;rw[ze];exact⟨w.sent,w.came,w.cut,w.len,w.credit,w.high⟩
    show(zf c.ws k _ j).Ok;rw[zd _ _ e];exact h.ws j hj
   exact b x hx
  exact b x hx
def jQ(h:c.Ok):∀x,c.control d=some x->Ge c d true x.1 x.2:=by
 intro x hx;have a:=XM (d:=d) h 8 0 c.total rfl (by have:=h.tot;unfold zF;omega);unfold CS.control at hx;split at hx
 .rename_i y hy;cases hx;exact a.2 _ hy
 unfold I1 at hx;have b:=XL (d:=d) h 8 0 rfl;split at hx
 .split at hx
  .rename_i d' hd;cases hx;have hg:=Nat.max_le.2 ⟨a.1,h.grant⟩;exact⟨⟨h.mtu,h.win,h.tot,hg,h.credit,h.ws,h.rs,h.waits⟩,λ_=>⟨_,TP hg,by simp[Gv],hd⟩,nB,⟨rfl,rfl,rfl,rfl,rfl,rfl,rfl⟩⟩
  exact b x hx
 exact b x hx
variable{lo:Nat}
def WM{fin:Bool}(h:c.Ok)(hk:k<8)(hlo:lo<=(c.ws k).b.length)(hh:hi<=(c.ws k).b.length):Ge c d (c.bytesAdd d k lo hi fin).1 (c.bytesAdd d k lo hi fin).2.1 (c.bytesAdd d k lo hi fin).2.2:=by
 have w:=h.ws k hk;have hl:=w.len;unfold CS.bytesAdd;split
 .exact⟨h,nB,λ_=>⟨rfl,.inr rfl⟩,⟨rfl,rfl,rfl,rfl,rfl,rfl,rfl⟩⟩
 rename_i d' hd;refine⟨⟨h.mtu,h.win,h.tot,h.grant,h.credit,λj hj=>?_,h.rs,h.waits⟩,λ_=>⟨_,U7 hk ?_ ?_,by simp[Ec],hd⟩,nB,⟨rfl,rfl,rfl,rfl,rfl,rfl,rfl⟩⟩
 .by_cases e:j=k
  .subst e;show(zf c.ws j _ j).Ok;rw[ze];refine⟨?_,w.came,w.cut,w.len,w.credit,Nat.max_le.2 ⟨w.high,hh⟩⟩;split
   .exact w.sent.add lo (by unfold zF;omega)
   exact w.sent
  show(zf c.ws k _ j).Ok;rw[zd _ _ e];exact h.ws j hj
 .rw[AU,Ac];omega
 rw[AU,Ac];unfold zF;omega
def U6(h:c.Ok)(hk:k<8)(a:lo<=(c.ws k).b.length)(hh:hi<=(c.ws k).b.length):Ge c d (c.bytesR d k lo hi).1 (c.bytesR d k lo hi).2.1 (c.bytesR d k lo hi).2.2:=by
 unfold CS.bytesR;split
 .rename_i hr;split
  .exact⟨h,nB,λ_=>⟨rfl,.inr rfl⟩,⟨rfl,rfl,rfl,rfl,rfl,rfl,rfl⟩⟩
  exact WM h hk a I
 exact WM h hk a hh
def Ya(h:c.Ok)(hk:k<8):Ge c d (c.bytes d k).1 (c.bytes d k).2.1 (c.bytes d k).2.2:=by
 have hle:=Il (c.ws k).sent.rs 0 (c.endOf k);have hen:=AJ (NQ c k) (AJ (Bu _ _) (Bu _ _));have no:Ge c d false c d:=⟨h,nB,λ_=>⟨rfl,.inl rfl⟩,⟨rfl,rfl,rfl,rfl,rfl,rfl,rfl⟩⟩;unfold CS.bytes;split
 .exact no
 split
 .split
  .exact no
  exact U6 h hk (AF _) (AF _)
 exact U6 h hk I I
variable{f:Da}
def gU(h:f.Fits)(hr:f.kind=2):False:=by
 have h1:=h.sound;have h2:=h.rn
 revert h1
 simp[zX,hr,h2,zO];intro _ _;rfl
variable{q:Nat}
theorem JZ(h:c.Ok)(hq:q<10):Ge c d (c.put d q).1 (c.put d q).2.1 (c.put d q).2.2:=by
 have no:Ge c d false c d:=⟨h,nB,λ_=>⟨rfl,.inl rfl⟩,⟨rfl,rfl,rfl,rfl,rfl,rfl,rfl⟩⟩
 match q,hq with
 | 0,_ =>
  show Ge c d (c.control d).isSome ((c.control d).getD (c,d)).1 ((c.control d).getD (c,d)).2;cases hc:c.control d with
  | none=>exact no
  | some x=>exact jQ h x hc
 | 1,_ =>
  show Ge c d (c.datagrams d).isSome ((c.datagrams d).getD (c,d)).1 ((c.datagrams d).getD (c,d)).2;unfold CS.datagrams;cases hw:c.waits with
  | nil=>exact no
  | cons f l =>
   cases hd:d.add f with
   | none=>simp only[hd,Option.map_none];exact no
   | some d' =>
    simp only[hd,Az];have hf:=h.waits f (by rw[hw];exact AO);exact⟨⟨h.mtu,h.win,h.tot,h.grant,h.credit,h.ws,h.rs,λg hg=>h.waits g (by rw[hw];exact AW _ hg)⟩,λ_=>⟨f,hf,λe=>gU hf e,hd⟩,nB,⟨rfl,rfl,rfl,rfl,rfl,rfl,rfl⟩⟩
 | k+2,hk =>
  exact Ya h (I:k<8)
structure Dd.Ok(d:Dd):Prop where
 b:d.b.length<=65536
 fs:d.fs.length<=d.b.length
 room:d.room<=65536
def PZ(f:Da):1<=(zA f).length:=by
 unfold zA Jm Jl Jc Ji Jk Hy Gm;repeat' split
 all_goals simp
variable{d':Dd}
def Dd.add_some(h:d.add f=some d'):d'.b=d.b++zA f/\d'.fs=d.fs++[f]/\d'.room=d.room/\d'.full=d.full/\d'.wants=(d.wants||f.kind != 2)/\d'.b.length+4<=d.room:=by
 unfold Dd.add at h;split at h
 .cases h
 rename_i hn;cases h;exact⟨rfl,rfl,rfl,rfl,rfl,by simp only;omega⟩
variable{c':CS}
theorem Ge.drf{r:Bool}(h:Ge c d r c' d')(hd:d.Ok):d'.Ok/\d'.room=d.room/\(r=true->d.b.length<d'.b.length/\d'.b.length+4<=d.room)/\d.b.length<=d'.b.length:=by
 cases r with
 | true =>
  obtain⟨f,hf,_,ha⟩:=h.yes rfl;obtain⟨h1,h2,h3,_,_,h4⟩:=Dd.add_some ha;have hb:=PZ f;have hl:d'.b.length=d.b.length+(zA f).length:=by rw[h1,AG]
  have hr:=hd.room;have hs:=hd.fs;exact⟨⟨I,by rw[h2,AG,Af];omega,I⟩,h3,λ_=>⟨I,h4⟩,I⟩
 | false =>
  obtain⟨_,e|e⟩:=h.no rfl
  .rw[e];exact⟨hd,rfl,nB,AF _⟩
  rw[e];exact⟨⟨hd.b,hd.fs,hd.room⟩,rfl,nB,AF _⟩
def CS.reps(q:Nat):Nat->CS->Dd->CS×Dd
 | 0,c,d=>(c,d)
 | n+1,c,d=>if (c.put d q).1=true then CS.reps q n (c.put d q).2.1 (c.put d q).2.2 else((c.put d q).2.1,(c.put d q).2.2)
def CS.fillN:Nat->CS->Dd->CS×Dd
 | 0,c,d=>(c,d)
 | n+1,c,d=>CS.fillN n (CS.reps (9-n) (d.room+1) c d).1 (CS.reps (9-n) (d.room+1) c d).2
def CS.fill(c:CS)(d:Dd):CS×Dd:=CS.fillN 10 c d
def SI(l:List Nat):List Nat:=(Gz (l.length-1) (Fi l 0 (l.length-1)) 0 (l.length-1)).take (l.length-1)
def Gy:Nat->List Nat
 | 0=>List.range 10
 | n+1=>SI (Gy n)
def WI:∀n,n<=10->(Gy n).length=10-n:=mu
def gT:∀n,n<10->Gz ((Gy n).length-1) (Fi (Gy n) 0 ((Gy n).length-1)) 0 ((Gy n).length-1)=Gy (n+1)++[n]:=mu
def Fb(tag:nH)(t:Nat×Nat)(W:World)(v:Value)(l:zC):Prop:=RR W v l/\∀g,Value.blk v=some g->tag g=t
variable{S:Nat->Prop}{tag tag':nH}{v:Value}
def Fb.mod{t:Nat×Nat}{l:zC}(h:Fb tag t W v l)(m:DW S W W')(hS:∀g,S g->tag g≠t)(ht:∀g,tag g=t->tag' g=t):Fb tag' t W' v l :=
 ⟨h.1.mod m (Hq λg hg x=>hS g x (h.2 g hg)),λg hg=>ht g (h.2 g hg)⟩
def Fb.nil(tag:nH)(t:Nat×Nat)(W:World):Fb tag t W (.slice none 0 0) [] :=
 ⟨⟨none,0,rfl,AF _,AM _,λi hi=>absurd hi (A5 i)⟩,λg hg=>by simp[Value.blk]at hg⟩
def CS.acks(c:CS):zC×CS:=if c.answer then(c.got.rs.reverse,{ c with answer:=false })else([],c)
def YZ(tag:nH)(i b:Nat)(W:World)(l:zC)(c':CS)(e:Ending)(W':World):Prop :=
 ∃v tag' V',e=.returned v/\Fb tag' (i,5) W' v l/\zi tag' i b c' V' W'/\Dn i tag tag' W W'/\DW (Dx i tag) W W'
variable{e sz:Nat}{w:World}{xs:nJ}
def TW{n:Nat}(h:w.ownsRow 0 e sz v n xs)(hg:Value.blk v=some g):v.ownBlock=some g:=by
 rcases h.2 with⟨rfl,_⟩|⟨g',cap,cur,rfl,_⟩
 .simp[Value.blk]at hg
 simpa [Value.blk,Value.ownBlock]using hg
variable{V:CV}{b:Nat}
theorem YY(h:zi tag i b c V W)(E:EC i tag W)(hg:c.got.Ok):Calls prog 82 #[(b,0)] W (YZ tag i b W c.acks.1 c.acks.2):=by
 have l:=h.hd (j:=8) rfl;have c7:=h.hd (j:=7) rfl;have HH:=zb h;have n:=zb E;have HG:=zb hg;cases ha:c.answer with
 | false =>
  rw[ha]at l;have hx:c.acks=([],c):=by simp[CS.acks,ha]
  rw[hx];clear h E hg hx ha;go_enter func82,ntmps82;go_wp2_with fail;go_ret;exact⟨_,tag,V,rfl,Fb.nil _ _ _,HH.z,Dn.same n.z.ok (DW.refl DY _),DW.refl _ _⟩
 | true =>
  rw[ha]at l;have hx:c.acks=(c.got.rs.reverse,{ c with answer:=false }):=by simp[CS.acks,ha]
  rw[hx];have o:V.g≠b:=λe=>by
   have p:=h.tg;have s:=h.tb;rw[e,s]at p;simp at p
  obtain⟨W1,a⟩:=nm (W.setCell (U b 8) (.bool false));have h1:zi tag i b { c with answer:=false } V W1:=by
   rw[<-a];exact h.store 8 (.bool false) (Kx c { c with answer:=false } V V (j:=8) (.bool false) mu rfl rfl rfl rfl) ⟨rfl,λ_ _=>⟨rfl,rfl,rfl⟩,λ_ _=>⟨rfl,rfl⟩,rfl,rfl,rfl,rfl⟩
  have m1:DW (λg=>g=b) W W1:=by rw[<-a];exact(DW.refl (λg=>g=b) _).setCell (.inl rfl) _
  have d:DW (Dx i tag) W W1:=m1.mono (λg hg=>.inl (EW (r:=1) (by rw[show g=b from hg];exact h.tb) mu));have C:=λW2 (m:DW DY W1 W2) (D:Nat) (t:W2.cell? D=some (.pointer V.g))=>lN c.got.rs c.got.fl c.got.most V.g D V.gv W2 (h1.mod0 m).got (λj u=>nC (hg.wf.1 j u)) t
  have F:=iS V.g W1;have c71:=h1.hd (j:=7) rfl;have fz:=h.fz 8;have H1:=zb h1;have M1:=zb m1;have w:=zb d;have KC:=zb C;have KD:=zb F;clear h E hg hx ha h1 m1 d C F o;go_enter func82,ntmps82;go_upto_region 4 with fail;clear a l c7;go_wp2_with (first|(go_at_call 141;refine KD.z.mono ?_;rintro e w2 ⟨rfl,rfl⟩)|(go_at_call 143;refine(KC.z _ ((DW.refl DY W1).alloc _) _ (za (heap_alloc_new W1 _) rfl)).mono ?_;rintro e f ⟨v,rfl,y,hn,hm⟩));go_ret;have G:=((DW.refl DY W1).alloc (.cells #[(V.g,0)] 114)).trans hm;have z:=zK y;have hsz:=M1.z.size;have H:=w.z.trans (G.mono (λ_ x=>x.elim));have k:∀g,(tag g).1=i->zQ tag W f (i,5) g=tag g:=λg hg=>zD (by
   by_cases q:g<W.heap.size
   .exact q
   have:=n.z.ok g I;rw[this]at hg;have:=n.z.pos;have hg:(0:Nat)=i:=hg;omega)
  refine⟨v,zQ tag W f (i,5),V,rfl,⟨?_,λg hg=>?_⟩,H1.z.mod G (λ_ x=>x.elim) k,⟨λg hg=>zD hg,λg hg=>?_,λg hg=>?_⟩,H⟩
  .have A:c.got.rs.reverse.length=c.got.rs.length:=mv;have B:f.ownsRow 0 214 2 v c.got.rs.reverse.length (zq c.got.rs.reverse):=by rw[A];exact y
   exact iU (rs:=c.got.rs) B (λj u=>nC (HG.z.wf.1 j u)) (λx hx=>List.mem_reverse.1 hx)
  .have hb:=TW y hg;have p:=hn g hb;have s:=z g hb;have a3:(W1.alloc (.cells #[(V.g,0)] 114)).heap.size=W1.heap.size+1:=mv;exact Gs I s
  .by_cases q:g<f.heap.size
   .exact .inl (by rw[Gs hg q])
   exact .inr (by simp only[zQ,(I:¬g<W.heap.size),q,AI,As])
  have:=H.size;simp only[zQ,(I:¬g<W.heap.size),(I:¬g<f.heap.size),AI,As]
def ackF(rs:zC):Da:=⟨2,0,0,0,0,false,0,0,[],rs⟩
def Ee(d:Dd)(l:zC):Nat->Nat
 | 0=>0
 | n+1=>if 1<n+1/\d.room<(d.b++zA (ackF (l.take (n+1)))).length+4 then Ee d l n else n+1
def GL(d:Dd)(l:zC):Dd×zC:=((d.add (ackF (l.take (Ee d l l.length)))).getD d,l.drop (Ee d l l.length))
theorem Qh(d:Dd)(l:zC):∀n,Ee d l n<=n
 | 0=>AF _
 | n+1=>by
  unfold Ee;split
  .exact AJ (Qh d l n) (Bv n)
  exact AF _
theorem Na(d:Dd)(l:zC):∀n,1<=n->1<=Ee d l n
 | 0,h=>h
 | n+1,_=>by
  unfold Ee;split
  .rename_i h;exact Na d l n I
  omega
def Sj(l:zC):Prop:=∀n,1<=n->n<=l.length->zX (ackF (l.take n))=true
def Qy(l:zC):(zA (ackF l)).length<=64+16*l.length:=by
 have e:zA (ackF l)=Gm (ackF l):=rfl;have w1:=zx (DX l 0);have w2:=zx (l.length-1);have w3:=zx (DX l 0-DZ l 0);have w4:=R8 l (l.length-1);have e2:(ackF l).rngs=l:=rfl;rw[e];unfold Gm;rw[e2];simp only[AG,AR,Ad];omega
variable{a:nI}
def QQ{n:Nat}{l:zC}(h:RR w (.slice a l.length cap) l)(hn:n<=l.length)(c2:Nat)(h1:n<=c2)(h2:c2<=maxLen):RR w (.slice a n c2) (l.take n):=by
 obtain⟨a',b,e,_,_,h3⟩:=h;cases e;have hl:(l.take n).length=n:=by rw[AU];omega
 refine⟨a,c2,by rw[hl],I,h2,λi hi=>?_⟩;obtain⟨g,o,e,x1,x2,x3⟩:=h3 i I;have c:=NJ l n i I;rw[c.1,c.2];exact⟨g,o,e,x1,x2,x3⟩
variable{o:Nat}
def TV{n:Nat}{l:zC}(h:RR w (.slice (g,o) l.length cap) l)(hn:n<=l.length):RR w (.slice (g,o+n*2) (l.length-n) (cap-n)) (l.drop n):=by
 obtain⟨a',a,e,h1,h2,h3⟩:=h;cases e;refine⟨_,cap-n,by rw[Ac],by rw[Ac];omega,I,λi hi=>?_⟩;rw[Ac]at hi;obtain⟨g',o',e,x1,x2,x3⟩:=h3 (n+i) I;cases e;have b:=Za l n i;rw[b.1,b.2];refine⟨g,o+n*2,rfl,?_,?_,x3⟩
 .rw[(I:o+n*2+i*2=o+(n+i)*2)];exact x1
 rw[(I:o+n*2+i*2+1=o+(n+i)*2+1)];exact x2
def TU{n:Nat}{l:zC}(hn:l.length-n=0):RR w (.slice a (l.length-n) 0) (l.drop n):=by
 refine⟨a,0,by rw[Ac],by rw[Ac];omega,AM _,λi hi=>?_⟩;rw[Ac]at hi;omega
variable{V':CV}{W1 W2:World}{bv' fv' v':Value}{db:Nat}{l':List (Da×Value)}{new:nG}
def zN.probe(h:zN tag i b db W c d tag' V' bv' fv' l' W1)(l:Dz W1 bv' d.b new v' W2):zN tag i b db W c d (zQ tag' W1 W2 (i,91)) V' bv' fv' l' W2/\Dn i tag' (zQ tag' W1 W2 (i,91)) W1 W2/\DW (JU i tag') W1 W2:=by
 have hk:=h.ok;have a:=h.d;have j:=(DW.refl (λg=>bv'.ownBlock=some g) W1).grown l.grown (λg hg=>.inl hg);have f:∀{g r:Nat},tag' g=(i,r)->g<W1.heap.size:=λhg=>Ei hk hg h.p
 have dd:Eh (zQ tag' W1 W2 (i,91)) i db d bv' fv' l' W2 :=
  ⟨j.obj (λx=>zi.apart a.tb (a.tbv _ x) mu rfl) a.obj,by rw[zD (f a.tb),a.tb],l.old,λg hg=>by rw[zD (f (a.tbv g hg)),a.tbv g hg],j.owns a.own (λg hg x=>zi.apart (a.tfv g hg) (a.tbv g x) mu rfl),a.lf,
   λx hx=>⟨(a.rr x hx).1.mod j (Hq λg hg y=>zi.apart ((a.rr x hx).2 g hg) (a.tbv g y) mu rfl),λg hg=>by rw[zD (f ((a.rr x hx).2 g hg)),(a.rr x hx).2 g hg]⟩,λg hg=>by rw[zD (f (a.tfv g hg)),a.tfv g hg]⟩
 have md:DW (JU i tag') W1 W2:=j.mono (λg hg=>.inl ⟨91,mu,a.tbv g hg⟩);have k:JM i tag' (zQ tag' W1 W2 (i,91)) W1 W2:=by
  refine⟨λg hg=>zD hg,λg hg=>?_,λg hg=>?_⟩
  .by_cases q:g<W2.heap.size
   .exact .inl ⟨91,mu,Gs hg q⟩
   exact .inr (by simp only[zQ,(I:¬g<W1.heap.size),q,AI,As])
  have:=j.size;simp only[zQ,(I:¬g<W1.heap.size),(I:¬g<W2.heap.size),AI,As]
 exact⟨⟨h.c.modR hk h.p md k.old,dd,h.e.trans k.ext h.m.size,Ew h.e h.m (Mj md),h.p⟩,k.ext,md⟩
def Oz(tag:nH)(i b db:Nat)(W:World)(c:CS)(d':Dd)(l':zC)(e:Ending)(W':World):Prop :=
 ∃v tag' V' bv' fv' fl',e=.returned v/\Fb tag' (i,5) W' v l'/\zN tag i b db W c d' tag' V' bv' fv' fl' W'
def Fb.drole{l:zC}(h:Fb tag (i,5) W v l)(hk:Dv tag W)(hi:0<i)(m:DW (JU i tag) W W')(e:∀g,g<W.heap.size->tag' g=tag g):Fb tag' (i,5) W' v l :=
 h.mod m (λg ⟨r,hr,hx⟩ x=>by rw[hx]at x;simp at x;omega) (λg hg=>by rw[e g (Ei hk hg hi),hg])
variable{bv fv:Value}
def YX{lv:Value}{l:List (Da×Value)}{f:zC}(h:zi tag i b c V W)(R:Eh tag i db d bv fv l W)(E:EC i tag W)(hl:Fb tag (i,5) W lv f)(T:1<=f.length)(G:Sj f)(ac:f.length<=1048576)(hbl:d.b.length<=1073741824)(hll:d.fs.length<=1073741824)(hrm:d.room<=1073741824):Calls prog 84 #[(b,0),(db,0),lv] W (Oz tag i b db W c (GL d f).1 (GL d f).2):=by
 have S0:AA (zN tag i b db W c d tag V bv fv l W):=zb ⟨h,R,Dn.same E.ok (DW.refl DY _),DW.refl _ _,E.pos⟩;have w:l.length=d.fs.length:=by rw[<-R.lf,BB]
 obtain⟨H,m,X,_⟩:=zk R.ob;subst X;obtain⟨a,cap,e,n1,n2,n3⟩:=hl.1;subst e;obtain⟨g,o,ea,_⟩:=n3 0 I;subst ea;obtain⟨N,Y⟩:=nm (Ee d f f.length);have hT:GL d f=((d.add (ackF (f.take N))).getD d,f.drop N):=by unfold GL;rw[Y]
 rw[hT];have R0:=zb hl;have F:=zb Y;have z:=zb G;have J:=zb w;have Z:=n2;unfold maxLen at Z;clear h R E hl n3 G hT Y w;go_enter func84,ntmps84;go_wp2_with fail
 go_loopw [7] (λnv wr=>∃(n:Nat) (tag':nH),nv=.int .i64 n/\1<=n/\n<=f.length/\AA (Ee d f n=N)/\AA (zN tag i b db W c d tag' V (.slice H d.b.length m) fv l wr)/\AA (Fb tag' (i,5) wr (.slice (g,o) f.length cap) f)) (λnv _=>(intOf nv).toNat)
 case atStart=>exact⟨f.length,tag,rfl,T,AF _,F,S0,R0⟩
 case round =>
  clear S0 R0 F;obtain⟨n,tag',rfl,h1,h2,F,SS,M⟩:=hrel;have d1:(0:Int)<=n:=I
  have d2:(n:Int)<=cap:=I
  have hnt:((n:Int)).toNat=n:=I
  by_cases O:1<n
  .have d3:(1:Int)<n:=I
   have ht:(f.take n).length=n:=by rw[AU];omega
   have aa:=Qy (f.take n);have A:=SS.z.mod0 ((DW.refl DY wr).drew);have rd:=M.z.mod ((DW.refl DY wr).drew) (λ_ x=>x.elim) (λ_ x=>x);have od:=A.d.obj;have ka:=Rg (.slice H d.b.length m) d.b (ackF (f.take n)) (.slice (g,o) n cap) wr.drew A.d.ob (λ_=>Hq λq r x=>zi.apart (rd.2 q r) (A.d.tbv q x) mu rfl) (QQ rd.1 h2 cap I n2) (by show(f.take n).length<=_;omega) (by show(0:Nat)<=_;omega) I;rw [show zl (ackF (f.take n)) (.slice (some ⟨g, o, none⟩) n cap) = #[.int .i64 2, .int .i64 0, .int .u64 0, .int .u64 0, .int .u64 0, .bool false, .int .u64 0, .int .u64 0, .string "".toUTF8, .slice (some ⟨g, o, none⟩) n cap] from rfl] at ka;have kb:∀e w2,O7 wr.drew (.slice H d.b.length m) d.b (zX (ackF (f.take n))) (zA (ackF (f.take n))) e w2->∃a2 c2 tag2,e=.returned (.slice a2 (d.b++zA (ackF (f.take n))).length c2)/\AA (zN tag i b db W c d tag2 V (.slice H d.b.length m) fv l w2)/\AA (Fb tag2 (i,5) w2 (.slice (g,o) f.length cap) f):=by
    rintro e w2 (⟨_,v',rfl,hA⟩|⟨hx,_⟩)
    .obtain⟨s2,e2,m2⟩:=A.probe hA;obtain⟨a2,c2,e3,_⟩:=zk hA.own;exact⟨a2,c2,_,by rw[e3],s2,rd.drole A.ok A.p m2 e2.old⟩
    .rw[z.z n h1 h2]at hx;cases hx
   obtain⟨L,S⟩:=nm ((d.b++zA (ackF (f.take n))).length);rw[S]at kb;have hLb:L<=2147483648:=by rw[<-S,AG];omega
   have q4:IntKind.i64.wrap ((L:Int)+4)=(L:Int)+4:=IntWalk.i64_in _ I;have KA:=zb (ka.mono kb);have HL:=zb S;have ab:=zb od;clear ka kb aa S ht A rd od;go_wp2_with fail;refine zo 20 (λw'=>w'.heap[db]?=some (.cells #[.slice H d.b.length m,fv,[d.room],d.wants,d.full] 180 (0,0))) (ab.z) ?_;refine GI 0 ?_;iterate 11
    refine GS rfl ?_ ?_ ?_;rotate_left
    ·(intro wx j;(try dsimp only at j);have c0:=za (o:=0) j rfl;have c2:=za (o:=2) j rfl;go_simp;try with_reducible rfl)
    try simp only[PS]
   refine GI 14 ?_;iterate 4
    refine GS rfl ?_ ?_ ?_;rotate_left
    ·(intro wx j;(try dsimp only at j);have c0:=za (o:=0) j rfl;have c2:=za (o:=2) j rfl;go_simp;try with_reducible rfl)
    try simp only[PS]
   refine zE 11 rfl (λK hK=>?_);go_simp;refine KA.z.mono ?_;rintro e w2 ⟨a2,c2,tag2,rfl,s,v⟩;refine hK.z _ _ s.z.d.obj ?_;clear hK K;try simp only[PS]
   refine GI 12 ?_;iterate 2
    refine GS rfl ?_ ?_ ?_;rotate_left
    ·(intro wx j;(try dsimp only at j);have c0:=za (o:=0) j rfl;have c2:=za (o:=2) j rfl;go_simp;try with_reducible rfl)
    try simp only[PS]
   refine GI 18 ?_;iterate 2
    refine GS rfl ?_ ?_ ?_;rotate_left
    ·(intro wx j;(try dsimp only at j);have c0:=za (o:=0) j rfl;have c2:=za (o:=2) j rfl;go_simp;try with_reducible rfl)
    try simp only[PS]
   refine zr ?_;by_cases y:d.room<L+4
   .have d4:(d.room:Int)<(L:Int)+4:=I
    have q5:IntKind.i64.wrap ((n:Int)-1)=((n-1:Nat):Int):=by rw[IntWalk.i64_in _ I];omega
    go_wp2_with fail;go_roundw
    case rel =>
     have hl:=HL.z;have hn:=F.z;refine⟨n-1,tag2,rfl,I,I,zb ?_,s,v⟩;obtain⟨k,rfl⟩:∃k,n=k+1:=⟨n-1,I⟩;rw[<-hn,CF]
     conv=>rhs;unfold Ee
     rw[AQ ⟨O,by rw[hl];exact y⟩]
    case measure =>
     simp[intOf];omega
   .have d4:¬(d.room:Int)<(L:Int)+4:=I
    have B:N=n:=by
     have hl:=HL.z;rw[<-F.z];obtain⟨k,rfl⟩:∃k,n=k+1:=⟨n-1,I⟩;unfold Ee;rw[AI (λx=>y (by have:=x.2;rw[hl]at this;exact this))]
    subst B;go_upto_region 4 with fail;have C:=O0 s.z.d s.z.ok s.z.p (ackF (f.take N)) (some ⟨g,o,none⟩) N N (z.z N h1 h2) (QQ v.z.1 h2 N (AF _) I) (λq r=>v.z.2 q (by simpa [Value.blk]using r)) (by show(f.take N).length<=_;rw[AU];omega) (by show(0:Nat)<=_;omega) I (by have:=Qy (f.take N);rw[AU]at this;omega) (by rw[J.z];omega);rw [show zl (ackF (f.take N)) (.slice (some ⟨g, o, none⟩) N N) = #[.int .i64 2, .int .i64 0, .int .u64 0, .int .u64 0, .int .u64 0, .bool false, .int .u64 0, .int .u64 0, .string "".toUTF8, .slice (some ⟨g, o, none⟩) N N] from rfl] at C;have KD:=zb (C.mono (R':=λe u=>∃x tag3 bv3 fv3 l3,e=.returned (.bool x)/\AA (zN tag i b db W c ((d.add (ackF (f.take N))).getD d) tag3 V bv3 fv3 l3 u)/\AA (Fb tag3 (i,5) u (.slice (g,o) f.length cap) f)) (λe u D=>by
     obtain⟨e1,tag3,bv3,fv3,l3,s3,t,m3⟩:=s.z.add2 D;exact⟨_,tag3,bv3,fv3,l3,e1,s3,v.z.drole s.z.ok s.z.p m3 t⟩))
    clear C;go_upto_region 5 with(go_at_call 142;refine KD.z.mono ?_;rintro e u ⟨x,tag3,bv3,fv3,l3,rfl,S3,P⟩);have Q:AA (∀v2,RR u v2 (f.drop N)->(∀q,Value.blk v2=some q->q=g)->Oz tag i b db W c ((d.add (ackF (f.take N))).getD d) (f.drop N) (.returned v2) u):=zb λv2 hv r=>⟨v2,tag3,V,bv3,fv3,l3,rfl,⟨hv,λq hb=>by rw[r q hb];exact P.z.2 g rfl⟩,S3.z⟩
    have d5:(N:Int)<=f.length:=I
    go_wp2_with fail;all_goals go_ret
    .exact Q.z _ (TU I) (λq r=>by simpa [Value.blk]using r.symm)
    .exact Q.z _ (TV P.z.1 h2) (λq r=>by simpa [Value.blk]using r.symm)
  .have d3:¬(1:Int)<n:=I
   have B:N=n:=by
    rw[<-F.z];obtain⟨k,rfl⟩:∃k,n=k+1:=⟨n-1,I⟩;unfold Ee;rw[AI (λx=>O x.1)]
   subst B;have hd:decide ((1:Int)<N)=false:=nF d3
   go_wp2_with fail;go_quiet (fail);have s:=λa=>zb (SS.z.mod0 ((DW.refl DY wr).drewN a))
   have v:=λa=>zb (M.z.mod ((DW.refl DY wr).drewN a) (λ_ x=>x.elim) (λ_ x=>x))
   replace s:=s ‹Nat›;replace v:=v ‹Nat›;go_upto_region 4 with fail;have C:=O0 s.z.d s.z.ok s.z.p (ackF (f.take N)) (some ⟨g,o,none⟩) N N (z.z N h1 h2) (QQ v.z.1 h2 N (AF _) I) (λq r=>v.z.2 q (by simpa [Value.blk]using r)) (by show(f.take N).length<=_;rw[AU];omega) (by show(0:Nat)<=_;omega) I (by have:=Qy (f.take N);rw[AU]at this;omega) (by rw[J.z];omega);rw [show zl (ackF (f.take N)) (.slice (some ⟨g, o, none⟩) N N) = #[.int .i64 2, .int .i64 0, .int .u64 0, .int .u64 0, .int .u64 0, .bool false, .int .u64 0, .int .u64 0, .string "".toUTF8, .slice (some ⟨g, o, none⟩) N N] from rfl] at C;have KD:=zb (C.mono (R':=λe u=>∃x tag3 bv3 fv3 l3,e=.returned (.bool x)/\AA (zN tag i b db W c ((d.add (ackF (f.take N))).getD d) tag3 V bv3 fv3 l3 u)/\AA (Fb tag3 (i,5) u (.slice (g,o) f.length cap) f)) (λe u D=>by
    obtain⟨e1,tag3,bv3,fv3,l3,s3,t,m3⟩:=s.z.add2 D;exact⟨_,tag3,bv3,fv3,l3,e1,s3,v.z.drole s.z.ok s.z.p m3 t⟩))
   clear C;go_upto_region 5 with(go_at_call 142;refine KD.z.mono ?_;rintro e u ⟨x,tag3,bv3,fv3,l3,rfl,S3,P⟩);have Q:AA (∀v2,RR u v2 (f.drop N)->(∀q,Value.blk v2=some q->q=g)->Oz tag i b db W c ((d.add (ackF (f.take N))).getD d) (f.drop N) (.returned v2) u):=zb λv2 hv r=>⟨v2,tag3,V,bv3,fv3,l3,rfl,⟨hv,λq hb=>by rw[r q hb];exact P.z.2 g rfl⟩,S3.z⟩
   have d5:(N:Int)<=f.length:=I
   go_wp2_with fail;all_goals go_ret
   .exact Q.z _ (TU I) (λq r=>by simpa [Value.blk]using r.symm)
   .exact Q.z _ (TV P.z.1 h2) (λq r=>by simpa [Value.blk]using r.symm)
theorem mR{a:Nat->Value}:∀{l:List Nat},(∀x∈l,fn x=a x)->zR fn l=zR a l:=by
 intro l
 induction l with
 | nil=>intro _;rfl
 | cons x l ih =>
  intro h;have e:=ih (λy hy=>h y (AW _ hy));show [Value.int .i64 x,fn x]++zR fn l=[Value.int .i64 x,a x]++zR a l;rw[e,h x AO]
def EJ.congr{d:Nat->Value}{l:List Nat}(h:EJ sb fn l g cap W)(he:∀x∈l,fn x=d x)(hf:∀c,∃f a b,d c=.func f a b):EJ sb d l g cap W :=
 {h with own:=by rw[<-mR he];exact h.own,fns:=hf }
def Kn(b cb:Nat)(kb:Nat->Nat):Nat->Value
 | 0=>.func (.func 145) #[.pointer b] #[]
 | 1=>.func (.func 146) #[.pointer b] #[]
 | k+2=>.func (.func 148) #[] #[.pointer cb,.pointer (U (kb k) 0)]
theorem Rv(b cb:Nat)(kb:Nat->Nat):∀c,∃f a x,Kn b cb kb c=.func f a x
 | 0=>⟨_,_,_,rfl⟩
 | 1=>⟨_,_,_,rfl⟩
 | _+2=>⟨_,_,_,rfl⟩
variable{W'':World}
def zN.then{r:Bool}{e:Ending}(h:zN tag i b db W c d tag' V' bv' fv' l' W')(hp:Gk tag' i b db W' c' d' r e W''):e=.returned (.bool r)/\∃tag2 V2 bv2 fv2 l2,zN tag i b db W c' d' tag2 V2 bv2 fv2 l2 W''/\Dn i tag' tag2 W' W''/\DW (Dx i tag') W' W'':=by
 obtain⟨rfl,tag2,V2,bv2,fv2,l2,h1,h2,h3,h4⟩:=hp;exact⟨rfl,tag2,V2,bv2,fv2,l2,⟨h1,h2,h.e.trans h3 h.m.size,Ew h.e h.m h4,h.p⟩,h3,h4⟩
def Gk.from0{r:Bool}{e:Ending}(ht:Dv tag W)(m0:DW DY W W0)(h:Gk tag i b db W0 c d r e W'):Gk tag i b db W c d r e W':=by
 obtain⟨rfl,tag2,V2,a,f,l2,h1,h2,h3,h4⟩:=h;refine⟨rfl,tag2,V2,a,f,l2,h1,h2,(Dn.same ht m0).trans h3 m0.size,(m0.mono (λ_ x=>x.elim)).trans h4⟩
structure E6(tag:nH)(i b db:Nat)(W0:World)(cb:Nat)(kb:Nat->Nat)(n:Nat)(l:List Nat)(sb g cap:Nat)(tag':nH)(W:World):Prop where
 heap:EJ sb (Kn b cb kb) l g cap W
 hc:W.cell? cb=some (.pointer b)
 hk:∀k,k<n->W.cell? ⟨kb k,0,none⟩=some (.int .i64 k)
 fr:∀q,(q=sb\/q=g\/q=cb\/∃k,k<n/\q=kb k)->W0.heap.size<=q/\tag' q=(0,0)
 ne:∀q,(q=cb\/∃k,k<n/\q=kb k)->q≠sb/\q≠g
variable{cb:Nat}
def E6.mod{a:Nat->Nat}{n:Nat}{l:List Nat}{tag2:nH}(h:E6 tag i b db W0 cb a n l sb g cap tag' W)(m:DW S W W')(hS:∀q,S q->W0.heap.size<=q->tag' q≠(0,0))(ht:∀q,q<W.heap.size->tag2 q=tag' q):E6 tag i b db W0 cb a n l sb g cap tag2 W':=by
 have q:∀{q:Nat},(q=sb\/q=g\/q=cb\/∃k,k<n/\q=a k)->¬S q:=λd x=>hS _ x (h.fr _ d).1 (h.fr _ d).2
 have c:=zm h.heap.c0;have lg:=zK h.heap.own g rfl;refine⟨h.heap.mod m (q (.inl rfl)) (q (.inr (.inl rfl))),m.cell (q (.inr (.inr (.inl rfl)))) h.hc,λk hk=>m.cell (q (.inr (.inr (.inr ⟨k,hk,rfl⟩)))) (h.hk k hk),λx hx=>⟨(h.fr x hx).1,?_⟩,h.ne⟩;rw[ht x ?_]
 .exact(h.fr x hx).2
 rcases hx with rfl|rfl|rfl|⟨k,hk,rfl⟩
 .exact c
 .exact lg
 .exact zm h.hc
 exact zm (h.hk k hk)
def E6.src{c:Nat->Nat}{n:Nat}{l:List Nat}{tag2:nH}(h:E6 tag i b db W0 cb c n l sb g cap tag' W)(hi:0<i)(e:Dn i tag' tag2 W W')(m:DW (Dx i tag') W W'):E6 tag i b db W0 cb c n l sb g cap tag2 W' :=
 h.mod m.ofC (λq a _ x=>by rw[x]at a;simp at a;omega) (λq a=>e.old q a)
def E6.mod0{a:Nat->Nat}{n:Nat}{l:List Nat}(h:E6 tag i b db W0 cb a n l sb g cap tag' W)(m:DW DY W W'):E6 tag i b db W0 cb a n l sb g cap tag' W' :=
 h.mod m (λ_ x=>x.elim) (λ_ _=>rfl)
def E6.heaped{c:Nat->Nat}{n:Nat}{l f:List Nat}{g2 a:Nat}(h:E6 tag i b db W0 cb c n l sb g cap tag' W)(ht:Dv tag' W)(hw:W0.heap.size<=W.heap.size)(hh:EJ sb (Kn b cb c) f g2 a W')(hg:g2=g\/W.heap.size<=g2)(m:DW (λq=>q=sb\/q=g) W W'):E6 tag i b db W0 cb c n f sb g2 a tag' W':=by
 have q:∀{q:Nat},(q=cb\/∃k,k<n/\q=c k)->¬(q=sb\/q=g):=λd x=>by
  have:=h.ne _ d;rcases x with x|x
  .exact this.1 x
  exact this.2 x
 have lt:∀{q:Nat},(q=cb\/∃k,k<n/\q=c k)->q<W.heap.size:=λd=>by
  rcases d with rfl|⟨k,hk,rfl⟩
  .exact zm h.hc
  exact zm (h.hk k hk)
 refine⟨hh,m.cell (q (.inl rfl)) h.hc,λk hk=>m.cell (q (.inr ⟨k,hk,rfl⟩)) (h.hk k hk),λx hx=>?_,λx hx=>⟨(h.ne x hx).1,λe=>?_⟩⟩
 .rcases hx with rfl|rfl|hx
  .exact h.fr _ (.inl rfl)
  .rcases hg with rfl|hg
   .exact h.fr _ (.inr (.inl rfl))
   exact⟨I,ht _ hg⟩
  exact h.fr _ (.inr (.inr hx))
 rcases hg with rfl|hg
 .exact(h.ne x hx).2 e
 have:=lt hx;omega
def zN.own(h:zN tag i b db W c d tag' V' bv' fv' l' W')(m:DW S W' W'')(a:∀g,S g->W.heap.size<=g/\tag' g=(0,0)):zN tag i b db W c d tag' V' bv' fv' l' W'':=h.free m (λg hg=>⟨(a g hg).2,(a g hg).1⟩)
def gS{f:Nat}{l:List (Da×Value)}(h:zi tag i b c V W)(g:Eh tag i db d bv fv l W)(E:EC i tag W)(k:Nat)(ok:QR c k)(hd:d.Ok)
  (h1:W.cell? cb=some (.pointer b)) (h2:W.cell? f=some (.int .i64 k)) :
  Calls prog 148 #[(db,0),(cb,0),(f,0)] W (Gk tag i b db W (c.bytes d k).2.1 (c.bytes d k).2.2 (c.bytes d k).1):=by
 have j:∀W1,DW DY W W1->Calls prog 149 #[(b,0),(db,0),[k]] W1 (Gk tag i b db W (c.bytes d k).2.1 (c.bytes d k).2.2 (c.bytes d k).1):=λW1 m =>
  (fZ (h.mod0 m) (g.modN m (λ_ x=>x.elim)) (E.mod0 m) k ok (nC hd.b) (nD hd.fs hd.b) (nC hd.room)).mono λe W' a=>a.from0 E.ok m
 have n:=zb j;obtain⟨r,o⟩:=nm ((c.bytes d k).1);rw[o]at n ⊢;clear h g E ok hd j o;go_enter func148,ntmps148;go_wp2_with (go_at_call 149;refine(n.z _ (DW.refl _ _)).mono ?_;rintro e w2 ⟨rfl,a⟩;have HP:=zb a;clear a);go_ret;exact⟨rfl,HP.z⟩
def Kd(sb:Nat)(w:World):Nat:=match w.cell? sb with|some (.slice _ n _)=>n|_=>0
def EJ.sbLen_is{l:List Nat}(h:EJ sb fn l g cap W):Kd sb W=l.length:=by
 unfold Kd;rw[h.c0]
def Eh.sbLen_is{l:List (Da×Value)}(h:Eh tag i db d bv fv l W):Kd db W=d.b.length:=by
 obtain⟨a,cap,e,_⟩:=zk h.ob;have c0:W.cell? db=some bv:=za h.obj rfl;unfold Kd;rw[c0,e]
def jP(v:Value)(w:World):(Instr.typeAssert (.iface 266 v) 20 266 false).run prog w=.ok v w:=mr
variable{w':World}
def RU{a:Nat}{x y:Value}{t:TypeId}(h:w.heap[a]?=some (.cells #[x,y] t (0,0)))(h':∃o,w'.heap[a]?=some o/\w.heap[a]?=some o):w'.cell? a=some x/\w'.cell? (a,1)=some y:=by
 obtain⟨o,h1,h2⟩:=h';rw[h]at h2;cases h2;exact⟨za h1 rfl,za h1 rfl⟩
def YW(b db cb:Nat)(kb:Nat->Nat)(q:Nat)(W:World)(Q:Ending->World->Prop):Prop :=
 match q with
 | 0=>Calls prog 145 #[(b,0),(db,0)] W Q
 | 1=>Calls prog 146 #[(b,0),(db,0)] W Q
 | k+2=>Calls prog 148 #[(db,0),(cb,0),.pointer (U (kb k) 0)] W Q
theorem XK{e:Nat->Nat}{l:List (Da×Value)}(h:zi tag i b c V W)(a:Eh tag i db d bv fv l W)(E:EC i tag W)(ok:c.Ok)(hd:d.Ok)(hq:q<10)
  (h1:W.cell? cb=some (.pointer b)) (h2:∀k,k<8->W.cell? ⟨e k,0,none⟩=some (.int .i64 k)) :
  YW b db cb e q W (Gk tag i b db W (c.put d q).2.1 (c.put d q).2.2 (c.put d q).1):=by
 have b1:=hd.b;have b2:=hd.fs;have b3:l.length=d.fs.length:=by rw[<-a.lf,BB]
 match q,hq with
 | 0,_=>exact jy h a E ok.ctl I I
 | 1,_=>exact mS h a E ok.waits I I
 | k+2,hk=>exact gS h a E k (ok.by_ I) hd h1 (h2 k I)
def UC(tag:nH)(i b db:Nat)(W:World)(c':CS)(d':Dd)(e:Ending)(W':World):Prop :=
 e=.returned (.tuple #[])/\∃tag' V' bv' fv' l',zN tag i b db W c' d' tag' V' bv' fv' l' W'
def jO{l:List (Da×Value)}(n:zN tag i b db W c d tag V bv fv l W)(kb:Nat->Nat){t:TypeId}:zN tag i b db W c d tag V bv fv l (((W.alloc (.cells #[(b,0)] t)).alloc (.cells #[.int .i64 0,.func (.func 145) #[.pointer b] #[],.int .i64 1,.func (.func 146) #[.pointer b] #[]] 266)).alloc (.cells #[.slice (W.heap.size+1,0) 2 2] 268)) /\
  E6 tag i b db W W.heap.size kb 0 (List.range 2) (W.heap.size+1+1) (W.heap.size+1) 2 tag (((W.alloc (.cells #[(b,0)] t)).alloc (.cells #[.int .i64 0,.func (.func 145) #[.pointer b] #[],.int .i64 1,.func (.func 146) #[.pointer b] #[]] 266)).alloc (.cells #[.slice (W.heap.size+1,0) 2 2] 268)):=by
 obtain⟨o1,g⟩:=nm (Obj.cells #[(b,0)] t);obtain⟨a,e⟩:=nm (Obj.cells #[.int .i64 0,.func (.func 145) #[.pointer b] #[],.int .i64 1,.func (.func 146) #[.pointer b] #[]] 266);obtain⟨f,h⟩:=nm (Obj.cells #[.slice (U (W.heap.size+1) 0) 2 2] 268);rw[g,e,h];have s1:(W.alloc o1).heap.size=W.heap.size+1:=mv;have s2:((W.alloc o1).alloc a).heap.size=W.heap.size+1+1:=mv;have a3:(((W.alloc o1).alloc a).alloc f).heap[W.heap.size+1+1]?=some f:=by
  have:=heap_alloc_new ((W.alloc o1).alloc a) f;rw[s2]at this;exact this
 have o:(((W.alloc o1).alloc a).alloc f).heap[W.heap.size+1]?=some a:=by
  have:=heap_alloc_new (W.alloc o1) a;rw[s1]at this;rw[Below.heap_alloc _ _ _ I];exact this
 have a1:(((W.alloc o1).alloc a).alloc f).heap[W.heap.size]?=some o1:=by
  rw[Below.heap_alloc _ _ _ I,Below.heap_alloc _ _ _ I];exact heap_alloc_new W o1
 have m:DW DY W (((W.alloc o1).alloc a).alloc f):=(((DW.refl _ _).alloc _).alloc _).alloc _;rw[<-e]at o;refine⟨n.mod0 m,⟨⟨?_,⟨rfl,.inr ⟨_,_,_,rfl,AM _,by rw[<-e];exact o,AF _,mu,rfl,rfl⟩⟩,I,mu,Rv _ _ _⟩,?_,λk hk=>absurd hk (A5 k),λq j=>?_,λq j=>?_⟩⟩
 .rw[a3,<-h];rfl
 .exact za (a1.trans (A8 some g.symm)) rfl
 .have:W.heap.size<=q:=by
   rcases j with rfl|rfl|rfl|⟨k,hk,_⟩
   .omega
   .omega
   .omega
   omega
  exact⟨this,n.ok _ this⟩
 rcases j with rfl|⟨k,hk,_⟩
 .omega
 omega
theorem E6.count{d:Nat->Nat}{n:Nat}(h:E6 tag i b db W0 cb d n (List.range (n+2)) sb g cap tag' W)(ht:Dv tag' W)(hw:W0.heap.size<=W.heap.size)(m:DW DY W W')(hc:W'.cell? W.heap.size=some (.int .i64 n)):E6 tag i b db W0 cb (zf d n W.heap.size) (n+1) (List.range (n+2)) sb g cap tag' W':=by
 have f:=h.mod0 m;have e:∀k,k<n->zf d n W.heap.size k=d k:=λk hk=>zd _ _ I
 have lsb:=zm h.heap.c0;have lg:=zK h.heap.own g rfl;refine⟨f.heap.congr (λx hx=>?_) (Rv _ _ _),f.hc,λk hk=>?_,λq a=>?_,λq a=>?_⟩
 .have hx:=Bn.1 hx
  match x,hx with
  | 0,_=>rfl
  | 1,_=>rfl
  | k+2,hk =>
   show Value.func _ #[] #[.pointer cb,.pointer (U (d k) 0)]=Value.func _ #[] #[.pointer cb,.pointer (U (zf d n W.heap.size k) 0)];rw[e k I]
 .by_cases a:k=n
  .rw[a,ze];exact hc
  rw[e k I];exact f.hk k I
 .rcases a with a|a|a|⟨k,hk,a⟩
  .exact h.fr q (.inl a)
  .exact h.fr q (.inr (.inl a))
  .exact h.fr q (.inr (.inr (.inl a)))
  by_cases c:k=n
  .rw[c,ze]at a;rw[a];exact⟨hw,ht _ (AF _)⟩
  rw[e k I]at a;exact h.fr q (.inr (.inr (.inr ⟨k,I,a⟩)))
 rcases a with a|⟨k,hk,a⟩
 .exact h.ne q (.inl a)
 by_cases c:k=n
 .rw[c,ze]at a;omega
 rw[e k I]at a;exact h.ne q (.inr ⟨k,I,a⟩)
theorem YV{l:List (Da×Value)}(h:zi tag i b c V W)(hD:Eh tag i db d bv fv l W)(E:EC i tag W)(ok:c.Ok)(hd:d.Ok):Calls prog 85 #[(b,0),(db,0)] W (UC tag i b db W (c.fill d).1 (c.fill d).2):=by
 have S0:AA (zN tag i b db W c d tag V bv fv l W):=zb ⟨h,hD,Dn.same E.ok (DW.refl DY _),DW.refl _ _,E.pos⟩;obtain⟨R,hR⟩:=nm (c.fill d);rw[hR];have HR:=zb hR;have OK:=zb ok;have HD:=zb hd;have EE:=zb E;clear h hD E ok hd hR;go_enter func85,ntmps85;go_upto_region 2 with fail;have st:=jO (t:=69) S0.z id;obtain⟨W3,am⟩:=nm ((((W.alloc (.cells #[(b,0)] 69)).alloc (.cells #[.int .i64 0,.func (.func 145) #[.pointer b] #[],.int .i64 1,.func (.func 146) #[.pointer b] #[]] 266)).alloc (.cells #[.slice (U (W.heap.size+1) 0) 2 2] 268)));rw[am]at st ⊢;clear am;obtain⟨cb,ah⟩:=nm W.heap.size;have HCB:=zb ah;obtain⟨M,an⟩:=nm (W.heap.size+1+1);have F0:=zb st.2;have w:=zb st.1;rw[an]at F0 ⊢;obtain⟨g0,ao⟩:=nm (W.heap.size+1);rw[ao]at F0 ⊢;rw[ah]at F0 ⊢;clear ah an ao st;go_wp2_with fail
 go_loopw [15] (λiv wr=>∃(k:Nat) (C:Nat->Nat) (g cap:Nat),iv=.int .i64 k/\k<=8/\AA (zN tag i b db W c d tag V bv fv l wr)/\AA (E6 tag i b db W cb C k (List.range (k+2)) M g cap tag wr)) (λiv _=>8-(intOf iv).toNat)
 case atStart=>exact⟨0,id,g0,2,rfl,I,w,F0⟩
 case round =>
  obtain⟨k,C,g,cap,rfl,hk,N,L⟩:=hrel;by_cases aB:k<8
  .have q1:IntKind.i64.wrap (2+(k:Int))=((k+2:Nat):Int):=by rw[IntWalk.i64_in _ I];omega
   have q3:IntKind.i64.wrap ((k:Int)+1)=((k+1:Nat):Int):=by rw[IntWalk.i64_in _ I];omega
   have d1:(k:Int)<8:=I;go_upto_region 5 with fail;obtain⟨W4,Z⟩:=nm (wr.alloc (.cells #[[k]] 3));have m4:=AB Z;have c4:W4.cell? wr.heap.size=some (.int .i64 k):=by rw[<-Z];exact za (heap_alloc_new wr _) rfl
   have fc:=L.z.count N.z.ok N.z.m.size m4 c4;have D:=jS fc.heap (k+2) (by rw[CO];omega) (by rw[CO];omega) (λx hx=>Nat.le_of_lt (Bn.1 hx));rw[show Kn b cb (zf C k wr.heap.size) (k+2)=.func (.func 148) #[] #[.pointer cb,.pointer (U (zf C k wr.heap.size k) 0)]from rfl,ze]at D;have S4:=zb (N.z.mod0 m4);have FC:=zb fc;have O:=zb D;unfold hI at O;rw[Z];have HW:=m4.size;have HHW:=zb HW;clear fc D m4 Z HW;go_wp2_with (go_at_call 147;refine O.z.mono ?_;rintro e w5 ⟨rfl,g',ap,h5,hg,m5⟩;have H5:=zb h5;have HG:=zb hg;have M5:=zb m5;clear h5 hg m5);go_roundw
   case rel =>
    have A:∀q,(q=M\/q=g)->W.heap.size<=q/\tag q=(0,0):=λq A=>FC.z.fr q (by
     rcases A with A|A
     .exact .inl A
     exact .inr (.inl A))
    refine⟨k+1,zf C k wr.heap.size,g',ap,rfl,I,zb (S4.z.own M5.z A),zb ?_⟩;have h5:=H5.z;rw[<-List.range_succ]at h5;exact FC.z.heaped S4.z.ok S4.z.m.size h5 HG.z M5.z
   case measure =>
    simp[intOf];omega
  have d1:¬(k:Int)<8:=I;have ae:k=8:=I;rw[ae]at L;have n0:AA (zN tag i b db W c d tag V bv fv l wr/\E6 tag i b db W cb C 8 (Gy 0) M g cap tag wr):=zb ⟨N.z,L.z⟩;clear N L hk aB w F0 S0 ae;go_wp2_with fail;clear d1
  go_loopw [6] (λ_ wr=>∃(n:Nat) (c':CS) (d':Dd) (g cap:Nat) (tag':nH) (V':CV) (aa ab:Value) (l':List (Da×Value)),n<=10/\AA (zN tag i b db W c' d' tag' V' aa ab l' wr)/\AA (E6 tag i b db W cb C 8 (Gy (10-n)) M g cap tag' wr)/\AA (c'.Ok/\d'.Ok/\CS.fillN n c' d'=R)) (λ_ wr=>Kd M wr)
  case atStart=>exact⟨10,c,d,g,cap,tag,V,bv,fv,l,AF _,zb n0.z.1,zb n0.z.2,zb ⟨OK.z,HD.z,HR.z⟩⟩
  case round =>
   clear n0;obtain⟨n,c',d',g,cap,tag',V',aa,ab,l',hn,N,L,P⟩:=hrel;have ac:=WI (10-n) I;rw[(I:10-(10-n)=n)]at ac;have c0:=L.z.heap.c0;rw[ac]at c0;have kl:=Qi (some ⟨g,0,none⟩) n cap wr;have KL:=zb kl;have ai:=zb ac;clear kl ac;cases n with
   | zero =>
    go_wp2_with (go_at_call 150;refine KL.z.mono ?_;rintro e J ⟨rfl,rfl⟩);refine bodyPost_end (results_none rfl _ _ _) rfl ⟨rfl,tag',V',aa,ab,l',?_⟩;have e:(c',d')=R:=P.z.2.2;rw[<-e];exact N.z
   | succ n =>
    obtain⟨q,A⟩:∃q,q+n=9:=⟨9-n,I⟩;have e1:10-(n+1)=q:=I;have e2:10-n=q+1:=I;rw[e1]at L ai;have hp:=gV L.z.heap (by rw[ai.z];omega) (gT q I);have aq:CS.fillN n (CS.reps q (d'.room+1) c' d').1 (CS.reps q (d'.room+1) c' d').2=R:=by
     have:=P.z.2.2;have e9:9-n=q:=I;rw[<-this,CS.fillN,e9]
    obtain⟨f,fa,fx,hf⟩:=Rv b cb C q;rw[hf]at hp;have ar:=zb aq;have HP:=zb hp;have aC:=zb hf;have HQ:=zb A;have E2:=zb e2;have HRM:AA (∃r,r=d'.room):=zb ⟨_,rfl⟩;unfold hI at HP;have d1:(0:Int)<(n:Int)+1:=I;clear hp aq hf e1 e2 A;go_upto_region 8 with(go_at_call 150;refine KL.z.mono ?_;rintro e J ⟨rfl,rfl⟩);go_upto_region 9 with(go_at_call 151;refine HP.z.mono ?_;rintro e J ⟨rfl,h2,m2⟩;have H2:=zb h2;have M2:=zb m2;have aD:=jP (.agg #[.int .i64 q,.func f fa fx]) J;clear h2 m2);have au:∀q,(q=M\/q=g)->W.heap.size<=q/\tag' q=(0,0):=λq A=>L.z.fr q (by
     rcases A with A|A
     .exact .inl A
     exact .inr (.inl A))
    have s2:=N.z.own M2.z au;have f2:=L.z.heaped N.z.ok N.z.m.size H2.z (.inl rfl) M2.z;obtain⟨W5,ad⟩:=nm (J.alloc (.cells #[[q],.func f fa fx] 266));have m5:=AB ad;have av:=AD ad;have S5:=zb (s2.mod0 m5);have F5:=zb (f2.mod0 m5);have aj:W.heap.size<=J.heap.size/\tag' J.heap.size=(0,0):=⟨s2.m.size,s2.ok _ (AF _)⟩;have X5:AA (W5.heap[J.heap.size]?=some (.cells #[[q],.func f fa fx] 266 (0,0))/\W.heap.size<=J.heap.size/\tag' J.heap.size=(0,0)):=⟨av,aj.1,aj.2⟩;rw[ad];have HL:AA (Kd M wr=n+1):=L.z.heap.sbLen_is.trans ai.z;have Q:AA ((Gy (q+1)).length=n):=by
     have:=WI (q+1) (nC HQ.z);have:=HQ.z;show _=n;omega
    clear au s2 f2 ad m5 av aj aD c0 d1
    go_loopw [6] (λxv S=>∃(K m:Nat) (c2:CS) (d2:Dd) (tag2:nH) (V2:CV) (aw ax:Value) (T:List (Da×Value)),xv=.pointer K/\AA (zN tag i b db W c2 d2 tag2 V2 aw ax T S)/\AA (E6 tag i b db W cb C 8 (Gy (q+1)) M g cap tag2 S) /\
      AA (S.heap[K]?=some (.cells #[[q],.func f fa fx] 266 (0,0))/\W.heap.size<=K/\tag2 K=(0,0))/\AA (c2.Ok/\d2.Ok/\1<=m/\d2.room=d'.room/\d2.room<d2.b.length+m/\CS.fillN n (CS.reps q m c2 d2).1 (CS.reps q m c2 d2).2=R)) (λ_ S=>d'.room+1-Kd db S)
    case atStart=>exact⟨J.heap.size,d'.room+1,c',d',tag',V',aa,ab,l',rfl,S5,F5,X5,zb ⟨P.z.1,P.z.2.1,I,rfl,I,ar.z⟩⟩
    case round =>
     clear X5 S5 F5 N L P ar KL HP M2 H2;obtain⟨K,m,c2,d2,tag2,V2,aw,ax,T,rfl,B,FF,F,RR⟩:=hrel;have af:q<10:=nC HQ.z;have D:=XK B.z.c B.z.d (EE.z.left B.z.e B.z.m.ofC) RR.z.1 RR.z.2.1 af FF.z.hc FF.z.hk;have pk:=JZ (d:=d2) RR.z.1 af;have pd:=pk.drf RR.z.2.1;have cx0:wr.cell? K=some (.int .i64 q):=za F.z.1 rfl;have cx1:wr.cell? (K,1)=some (.func f fa fx):=za F.z.1 rfl;obtain⟨m',ak⟩:∃m',m=m'+1:=⟨m-1,nC RR.z.2.2.1⟩;have X:CS.reps q m c2 d2=if (c2.put d2 q).1=true then CS.reps q m' (c2.put d2 q).2.1 (c2.put d2 q).2.2 else((c2.put d2 q).2.1,(c2.put d2 q).2.2):=by rw[ak];rfl
     have hf:=aC.z;obtain⟨r,hr⟩:=nm ((c2.put d2 q).1);obtain⟨c3,ay⟩:=nm ((c2.put d2 q).2.1);obtain⟨d3,al⟩:=nm ((c2.put d2 q).2.2);rw[hr,al]at pd;rw[hr,ay,al]at D X pk;have PK:=zb pk;have PD:=zb pd;have HM:=zb ak;have z:=zb X;clear pk pd ak X hr ay al;obtain hq0|hq1|⟨k,hqk⟩:q=0\/q=1\/∃k,q=k+2:=by
      rcases q with _|_|k
      .exact .inl rfl
      .exact .inr (.inl rfl)
      exact .inr (.inr ⟨k,rfl⟩)
     .rw[hq0]at D hf;have O:AA (Calls prog 145 #[(b,0),(db,0)] wr _):=D;simp only[Kn,Value.func.injEq]at hf;obtain⟨rfl,rfl,rfl⟩:=hf;clear D hq0;have KQ:AA (Calls prog 145 #[(b,0),(db,0)] wr λe u=>e=.returned (.bool r)/\∃(a:nH) (y:CV) (j s:Value) (v:List (Da×Value)),AA (zN tag i b db W c3 d3 a y j s v u)/\AA (E6 tag i b db W cb C 8 (Gy (q+1)) M g cap a u) /\
        AA (∃o,u.heap[K]?=some o/\wr.heap[K]?=some o)):=zb (O.z.mono (by
       intro e u Y;obtain⟨rfl,a,y,j,s,v,s3,e3,m3⟩:=B.z.then Y;exact⟨rfl,a,y,j,s,v,s3,FF.z.src B.z.p e3 m3,⟨_,m3.obj (λx=>by
        have h1:=F.z.2.2;have h2:=B.z.p;have x:=x.1;rw[h1]at x;have x:(0:Nat)=i:=x;omega) F.z.1,F.z.1⟩⟩))
      clear O;cases r with
      | true =>
       go_wp2_with (go_at_call 145;refine KQ.z.mono ?_;rintro e u ⟨rfl,a,y,j,s,v,w,G,X3⟩;obtain⟨az,aA⟩:=RU F.z.1 X3.z);go_roundw
       case rel =>
        have H:=RR.z;have hd:=PD.z;have hm:=HM.z;have hl:=(hd.2.2.1 m9);refine⟨u.heap.size,m',c3,d3,a,y,j,s,v,rfl,zb (w.z.mod0 ((DW.refl _ _).alloc _)),zb (G.z.mod0 ((DW.refl _ _).alloc _)),zb ⟨heap_alloc_new u _,w.z.m.size,w.z.ok _ (AF _)⟩,zb ⟨PK.z.ok,hd.1,I,I,I,?_⟩⟩;have e:=z.z;rw[AQ m9]at e;rw[<-e];exact H.2.2.2.2.2
       case measure =>
        have l1:=B.z.d.sbLen_is;have T:=λo=>(w.z.mod0 ((DW.refl DY u).alloc o)).d.sbLen_is
        have hl:=(PD.z.2.2.1 m9);have hr:=RR.z.2.2.2.1;rw[l1,T];omega
      | false =>
       go_wp2_with (go_at_call 145;refine KQ.z.mono ?_;rintro e u ⟨rfl,a,y,j,s,v,w,G,X3⟩);go_roundw
       case rel =>
        refine⟨n,c3,d3,g,cap,a,y,j,s,v,I,w,by rw[E2.z];exact G,zb ⟨PK.z.ok,PD.z.1,?_⟩⟩;have e:=z.z;rw[AI mv]at e;have H:=RR.z.2.2.2.2.2;rw[e]at H;exact H
       case measure =>
        have l1:=G.z.heap.sbLen_is;have T:=HL.z;have v:=Q.z;omega
     .rw[hq1]at D hf;have O:AA (Calls prog 146 #[(b,0),(db,0)] wr _):=D;simp only[Kn,Value.func.injEq]at hf;obtain⟨rfl,rfl,rfl⟩:=hf;clear D hq1;have KQ:AA (Calls prog 146 #[(b,0),(db,0)] wr λe u=>e=.returned (.bool r)/\∃(a:nH) (y:CV) (j s:Value) (v:List (Da×Value)),AA (zN tag i b db W c3 d3 a y j s v u)/\AA (E6 tag i b db W cb C 8 (Gy (q+1)) M g cap a u) /\
        AA (∃o,u.heap[K]?=some o/\wr.heap[K]?=some o)):=zb (O.z.mono (by
       intro e u Y;obtain⟨rfl,a,y,j,s,v,s3,e3,m3⟩:=B.z.then Y;exact⟨rfl,a,y,j,s,v,s3,FF.z.src B.z.p e3 m3,⟨_,m3.obj (λx=>by
        have h1:=F.z.2.2;have h2:=B.z.p;have x:=x.1;rw[h1]at x;have x:(0:Nat)=i:=x;omega) F.z.1,F.z.1⟩⟩))
      clear O;cases r with
      | true =>
       go_wp2_with (go_at_call 146;refine KQ.z.mono ?_;rintro e u ⟨rfl,a,y,j,s,v,w,G,X3⟩;obtain⟨az,aA⟩:=RU F.z.1 X3.z);go_roundw
       case rel =>
        have H:=RR.z;have hd:=PD.z;have hm:=HM.z;have hl:=(hd.2.2.1 m9);refine⟨u.heap.size,m',c3,d3,a,y,j,s,v,rfl,zb (w.z.mod0 ((DW.refl _ _).alloc _)),zb (G.z.mod0 ((DW.refl _ _).alloc _)),zb ⟨heap_alloc_new u _,w.z.m.size,w.z.ok _ (AF _)⟩,zb ⟨PK.z.ok,hd.1,I,I,I,?_⟩⟩;have e:=z.z;rw[AQ m9]at e;rw[<-e];exact H.2.2.2.2.2
       case measure =>
        have l1:=B.z.d.sbLen_is;have T:=λo=>(w.z.mod0 ((DW.refl DY u).alloc o)).d.sbLen_is
        have hl:=(PD.z.2.2.1 m9);have hr:=RR.z.2.2.2.1;rw[l1,T];omega
      | false =>
       go_wp2_with (go_at_call 146;refine KQ.z.mono ?_;rintro e u ⟨rfl,a,y,j,s,v,w,G,X3⟩);go_roundw
       case rel =>
        refine⟨n,c3,d3,g,cap,a,y,j,s,v,I,w,by rw[E2.z];exact G,zb ⟨PK.z.ok,PD.z.1,?_⟩⟩;have e:=z.z;rw[AI mv]at e;have H:=RR.z.2.2.2.2.2;rw[e]at H;exact H
       case measure =>
        have l1:=G.z.heap.sbLen_is;have T:=HL.z;have v:=Q.z;omega
     rw[hqk]at D hf;have O:AA (Calls prog 148 #[(db,0),(cb,0),(C k,0)] wr _):=D;simp only[Kn,Value.func.injEq]at hf;obtain⟨rfl,rfl,rfl⟩:=hf;clear D hqk;have KQ:AA (Calls prog 148 #[(db,0),(cb,0),(C k,0)] wr λe u=>e=.returned (.bool r)/\∃(a:nH) (y:CV) (j s:Value) (v:List (Da×Value)),AA (zN tag i b db W c3 d3 a y j s v u)/\AA (E6 tag i b db W cb C 8 (Gy (q+1)) M g cap a u) /\
       AA (∃o,u.heap[K]?=some o/\wr.heap[K]?=some o)):=zb (O.z.mono (by
      intro e u Y;obtain⟨rfl,a,y,j,s,v,s3,e3,m3⟩:=B.z.then Y;exact⟨rfl,a,y,j,s,v,s3,FF.z.src B.z.p e3 m3,⟨_,m3.obj (λx=>by
       have h1:=F.z.2.2;have h2:=B.z.p;have x:=x.1;rw[h1]at x;have x:(0:Nat)=i:=x;omega) F.z.1,F.z.1⟩⟩))
     clear O;cases r with
     | true =>
      go_wp2_with (go_at_call 148;refine KQ.z.mono ?_;rintro e u ⟨rfl,a,y,j,s,v,w,G,X3⟩;obtain⟨az,aA⟩:=RU F.z.1 X3.z);go_roundw
      case rel =>
       have H:=RR.z;have hd:=PD.z;have hm:=HM.z;have hl:=(hd.2.2.1 m9);refine⟨u.heap.size,m',c3,d3,a,y,j,s,v,rfl,zb (w.z.mod0 ((DW.refl _ _).alloc _)),zb (G.z.mod0 ((DW.refl _ _).alloc _)),zb ⟨heap_alloc_new u _,w.z.m.size,w.z.ok _ (AF _)⟩,zb ⟨PK.z.ok,hd.1,I,I,I,?_⟩⟩;have e:=z.z;rw[AQ m9]at e;rw[<-e];exact H.2.2.2.2.2
      case measure =>
       have l1:=B.z.d.sbLen_is;have T:=λo=>(w.z.mod0 ((DW.refl DY u).alloc o)).d.sbLen_is
       have hl:=(PD.z.2.2.1 m9);have hr:=RR.z.2.2.2.1;rw[l1,T];omega
     | false =>
      go_wp2_with (go_at_call 148;refine KQ.z.mono ?_;rintro e u ⟨rfl,a,y,j,s,v,w,G,X3⟩);go_roundw
      case rel =>
       refine⟨n,c3,d3,g,cap,a,y,j,s,v,I,w,by rw[E2.z];exact G,zb ⟨PK.z.ok,PD.z.1,?_⟩⟩;have e:=z.z;rw[AI mv]at e;have H:=RR.z.2.2.2.2.2;rw[e]at H;exact H
      case measure =>
       have l1:=G.z.heap.sbLen_is;have T:=HL.z;have v:=Q.z;omega
def jt:(prog.info? 60).map (λi=>(i.zero,i.size,i.bytes))=some (some (.slice none 0 0),1,24):=mr
def js:(prog.info? 173).map (λi=>(i.zero,i.size,i.bytes))=some (some (.agg #[.int .u64 0,.int .u64 0,.slice none 0 0]),3,40):=mr
def YU(w:World)(v:Value)(b:nJ)(a:nI)(n c:Nat)(h:w.ownsRow 0 60 1 v b.length b)(hl:b.length<=1099511627776):∃v' w',(∀ty,(Builtin.append_ #[130,130] ty #[v,.slice w.heap.size 1 1]).run prog (w.alloc (.cells #[.slice a n c] 60))=.ok v' w') /\
   w'.ownsRow 0 60 1 v' (b.length+1) (b++[.slice a n c])/\w.grownBy w' v.ownBlock/\EA w v v':=by
 obtain⟨i,e,hz,f,g⟩:=info_parts jt;have d:∀(j:Nat) u,([Value.slice a n c])[j]?=some u->(w.alloc (.cells #[.slice a n c] 60)).cell? ((⟨w.heap.size,0,none⟩:Addr).add j)=some u:=by
  intro j u hj;rw[zZ];refine za (heap_alloc_new w _) ?_;rw[A6,<-Array.getElem?_toList];exact hj
 obtain⟨v',w',h1,h2,h3,h4,h5⟩:=K3 (P:=prog) (w.alloc (.cells #[.slice a n c] 60)) 130 60 i _ 1 24 underlying130 e hz f g rfl mu v b.length b (World.ownsRow.alloc h _)
  ⟨w.heap.size,0,none⟩ 1 1 [.slice a n c] rfl d (by intro u l;simp at l;rcases l with rfl;rfl) mz I
 refine⟨v',w',h1,h2,?_,?_⟩
 .exact⟨h3.os,h3.tape,h3.output,AJ mv h3.size,λk hk hn=>(h3.block k my hn).trans (Below.heap_alloc w _ k hk)⟩
 intro k hk;rcases h4 k hk with x|x
 .exact .inl x
 exact .inr (by simp at x;omega)
def YT(w:World)(v:Value)(b:List (Dc×Value))(f:Dc)(a:nI)(n c:Nat)(h:w.ownsRow 0 173 3 v b.length (zy b))(hl:b.length<=1099511627776):∃v' w',(∀ty,(Builtin.append_ #[123,123] ty #[v,.slice w.heap.size 1 1]).run prog (w.alloc (.cells #[f.n,f.at_,.slice a n c] 173))=.ok v' w') /\
   w'.ownsRow 0 173 3 v' (b.length+1) (zy (b++[(f,.slice a n c)]))/\w.grownBy w' v.ownBlock/\EA w v v':=by
 obtain⟨i,e,hz,g,l⟩:=info_parts js;have e1:zy [(f,.slice a n c)]=[.int .u64 f.n,.int .u64 f.at_,.slice a n c]:=rfl;have d:∀(j:Nat) u,(zy [(f,.slice a n c)])[j]?=some u->(w.alloc (.cells #[f.n,f.at_,.slice a n c] 173)).cell? ((⟨w.heap.size,0,none⟩:Addr).add j)=some u:=by
  intro j u hj;rw[zZ];refine za (heap_alloc_new w _) ?_;rw[A6,<-Array.getElem?_toList];exact hj
 obtain⟨v',w',h1,h2,h3,h4,h5⟩:=K3 (P:=prog) (w.alloc (.cells #[f.n,f.at_,.slice a n c] 173)) 123 173 i _ 3 40 underlying123 e hz g l rfl mu v b.length (zy b) (World.ownsRow.alloc h _)
  ⟨w.heap.size,0,none⟩ 1 1 (zy [(f,.slice a n c)]) rfl d (by rw[e1];intro u m;simp at m;rcases m with rfl|rfl|rfl<;>rfl) mz I
 have e2:zy b++zy [(f,.slice a n c)]=zy (b++[(f,.slice a n c)]):=by simp[zy]
 rw[e2]at h2;refine⟨v',w',h1,h2,?_,?_⟩
 .exact⟨h3.os,h3.tape,h3.output,AJ mv h3.size,λk hk hn=>(h3.block k my hn).trans (Below.heap_alloc w _ k hk)⟩
 intro k hk;rcases h4 k hk with x|x
 .exact .inl x
 exact .inr (by simp at x;omega)
def zi.retag(h:zi tag i b c V W)(ht:∀g r,r<90->tag g=(i,r)->tag' g=(i,r)):zi tag' i b c V W:=by
 have e:∀{g r:Nat},tag g=(i,r)->r<90->tag' g=(i,r):=λhg hr=>ht _ _ hr hg
 exact
  {obj:=h.obj
   tb:=e h.tb mu
   got:=h.got
   tg:=e h.tg mu
   tgv:=λg hg=>e (h.tgv g hg) mu
   wb:=h.wb
   ws:=h.ws
   wc:=h.wc
   rb:=h.rb
   rc:=h.rc
   twb:=λk hk g hg=>e (h.twb k hk g hg) I
   tws:=λk hk g hg=>e (h.tws k hk g hg) I
   twc:=λk hk g hg=>e (h.twc k hk g hg) I
   trb:=λk hk g hg=>e (h.trb k hk g hg) I
   trc:=λk hk g hg=>e (h.trc k hk g hg) I
   ft:=h.ft
   fl:=h.fl
   fs:=λp hp=>(h.fs p hp).mod (DW.refl DY W) (λ_ x=>x.elim) (λg hg=>e hg mu)
   tft:=λg hg=>e (h.tft g hg) mu
   wt:=h.wt
   twt:=λg hg=>e (h.twt g hg) mu
   sn:=h.sn
   tsn:=e h.tsn mu
   cm:=h.cm
   tcm:=λg hg=>e (h.tcm g hg) mu }
structure Gd(tag:nH)(W0 W:World)(ov:Value)(vs:nJ)(bs:List nG):Prop where
 own:W.ownsRow 0 60 1 ov vs.length vs
 tov:∀g,ov.ownBlock=some g->W0.heap.size<=g/\tag g=(0,0)
 len:vs.length=bs.length
 each:∀(k:Nat) (v:Value) (l:nG),vs[k]?=some v->bs[k]?=some l->OB W v l/\∀g,v.ownBlock=some g->W0.heap.size<=g/\tag g=(0,0)
 apart:∀(j k:Nat) (u v:Value),j<k->vs[j]?=some u->vs[k]?=some v->∀g,u.ownBlock=some g->v.ownBlock≠some g
def Gd.nil(tag:nH)(W0 W:World):Gd tag W0 W (.slice none 0 0) [] [] :=
 ⟨World.ownsRow_nil _ 0 _ 1,(λg hg=>by cases hg),rfl,(λk v l hv _=>by simp at hv),(λj k u v _ hu _=>by simp at hu)⟩
variable{ov:Value}{vs:nJ}
def Gd.mod{bs:List nG}(h:Gd tag W0 W ov vs bs)(m:DW S W W')(hS:∀g,S g->tag g≠(0,0))(c:∀g,g<W.heap.size->tag g=(0,0)->tag' g=(0,0)):Gd tag' W0 W' ov vs bs:=by
 have q:∀g,tag g=(0,0)->¬S g:=λg hg x=>hS g x hg
 refine⟨m.owns h.own (λg hg=>q g (h.tov g hg).2),λg hg=>⟨(h.tov g hg).1,c g (zK h.own g hg) (h.tov g hg).2⟩,h.len,λk v l hv hl=>?_,h.apart⟩;obtain⟨a,b⟩:=h.each k v l hv hl;exact⟨m.owns a (λg hg=>q g (b g hg).2),λg hg=>⟨(b g hg).1,c g (zK a g hg) (b g hg).2⟩⟩
variable{l:nG}
def Gd.push{f:Value}{bs:List nG}(h:Gd tag W0 W ov vs bs)(m:DW (λg=>ov.ownBlock=some g) W W')(hw:W0.heap.size<=W.heap.size)(ho:W'.ownsRow 0 60 1 f (vs.length+1) (vs++[v]))(hn:EA W ov f)(hv:OB W v l)
  (hb:∀g,v.ownBlock=some g->W0.heap.size<=g/\tag' g=(0,0)) (n:∀g,v.ownBlock=some g->ov.ownBlock≠some g) (o:∀(k:Nat) (u:Value),vs[k]?=some u->∀g,u.ownBlock=some g->v.ownBlock≠some g) (s:∀g,g<W.heap.size->tag g=(0,0)->tag' g=(0,0)) (p:∀g,W.heap.size<=g->tag' g=(0,0)) (q:∀(k:Nat) (u:Value),vs[k]?=some u->∀g,u.ownBlock=some g->ov.ownBlock≠some g):Gd tag' W0 W' f (vs++[v]) (bs++[l]):=by
 refine⟨by rw[AG,Af];exact ho,λg hg=>?_,by simp[h.len],λk u l' d hl=>?_,λj k u u' r d c=>?_⟩
 .rcases hn g hg with x|x
  .exact⟨(h.tov g x).1,s g (zK h.own g x) (h.tov g x).2⟩
  exact⟨I,p g x⟩
 .by_cases hk:k<vs.length
  .rw[Ao hk]at d;rw[Ao (by rw[<-h.len];exact hk)]at hl;obtain⟨a,b⟩:=h.each k u l' d hl;exact⟨m.owns a (λg hg x=>q k u d g hg x),λg hg=>⟨(b g hg).1,s g (zK a g hg) (b g hg).2⟩⟩
  have e:=(AN.1 d).1;rw[AG,Af]at e;have i:k=vs.length:=I;subst i;rw[Ab (AF _)]at d;rw[h.len,Ab (AF _)]at hl;simp at d hl;subst d;subst hl;exact⟨m.owns hv (λg hg x=>n g hg x),hb⟩
 have e:=(AN.1 c).1;rw[AG,Af]at e;rw[Ao I]at d;by_cases hk:k<vs.length
 .rw[Ao hk]at c;exact h.apart j k u u' r d c
 have i:k=vs.length:=I;subst i;rw[Ab (AF _)]at c;simp at c;subst c;exact o j u d
def CS.pkDraft(c:CS):Dd:=⟨zH c.next,[],c.mtu,false,false⟩
def zp(d:Dd)(l:zC):Dd×zC:=if l=[]then(d,l)else GL d l
def CS.pkFill(c:CS)(d:Dd):CS×Dd:=if c.flight.length<12 then c.fill d else(c,d)
def CS.pkDone(c:CS)(d:Dd):CS:={ c with flight:=if d.wants then c.flight++[⟨c.next,c.now,d.fs⟩]else c.flight,next:=c.next+1 }
def FV(l:nG):nG:=l++ES (D3 l)
def CS.pkts:Nat->CS->zC->List nG×CS
 | 0,c,_=>([],c)
 | n+1,c,l =>
  if (c.pkFill (zp c.pkDraft l).1).2.fs=[]then([],(c.pkFill (zp c.pkDraft l).1).1)
  else(FV (c.pkFill (zp c.pkDraft l).1).2.b::(CS.pkts n ((c.pkFill (zp c.pkDraft l).1).1.pkDone (c.pkFill (zp c.pkDraft l).1).2) (zp c.pkDraft l).2).1,
   (CS.pkts n ((c.pkFill (zp c.pkDraft l).1).1.pkDone (c.pkFill (zp c.pkDraft l).1).2) (zp c.pkDraft l).2).2)
def CS.packets(c:CS):List nG×CS:=CS.pkts (12-c.flight.length+c.acks.1.length+1) c.acks.2 c.acks.1
theorem Oy(hq:q<10):∀n (c:CS) (d:Dd),c.Ok->d.Ok->(CS.reps q n c d).1.Ok/\(CS.reps q n c d).2.Ok/\(CS.reps q n c d).2.room=d.room/\((CS.reps q n c d).2.wants=true\/(CS.reps q n c d).2.fs=d.fs)/\(d.wants=true->(CS.reps q n c d).2.wants=true)/\(d.fs≠[]->(CS.reps q n c d).2.fs≠[]) /\
  ((CS.reps q n c d).1.next=c.next/\(CS.reps q n c d).1.now=c.now/\(CS.reps q n c d).1.closed=c.closed/\(CS.reps q n c d).1.flight=c.flight/\(CS.reps q n c d).1.mtu=c.mtu/\(CS.reps q n c d).1.answer=c.answer/\(CS.reps q n c d).1.got=c.got):=by
 intro n
 induction n with
 | zero=>intro c d hc hd;exact⟨hc,hd,rfl,.inr rfl,id,id,⟨rfl,rfl,rfl,rfl,rfl,rfl,rfl⟩⟩
 | succ n ih =>
  intro c d hc hd;have pk:=JZ (d:=d) hc hq;have a:=pk.drf hd;unfold CS.reps;split
  .rename_i hr;obtain⟨f,_,hk,ha⟩:=pk.yes hr;obtain⟨_,e2,e3,_,e5,_⟩:=Dd.add_some ha;have i:(c.put d q).2.2.wants=true:=by
    rw[e5];simp[hk]
   obtain⟨i1,i2,i3,i4,j,i6,i7⟩:=ih _ _ pk.ok a.1;obtain⟨x1,x2,x3,x4,x5,x6,x7⟩:=pk.next;obtain⟨y1,y2,y3,y4,y5,y6,y7⟩:=i7;exact⟨i1,i2,i3.trans a.2.1,.inl (j i),λ_=>j i,λ_=>i6 (by rw[e2];simp),y1.trans x1,y2.trans x2,y3.trans x3,y4.trans x4,y5.trans x5,y6.trans x6,y7.trans x7⟩
  rename_i hr;have b:(c.put d q).1=false:=nF hr;obtain⟨hc',g⟩:=pk.no b;have e:(c.put d q).2.2.fs=d.fs/\(c.put d q).2.2.wants=d.wants:=by
   rcases g with e|e
   .rw[e];exact⟨rfl,rfl⟩
   rw[e];exact⟨rfl,rfl⟩
  exact⟨pk.ok,a.1,a.2.1,.inr e.1,λh=>by rw[e.2];exact h,λh=>by rw[e.1];exact h,pk.next⟩
theorem Qx:∀n (c:CS) (d:Dd),n<=10->c.Ok->d.Ok->(CS.fillN n c d).1.Ok/\(CS.fillN n c d).2.Ok/\(CS.fillN n c d).2.room=d.room/\((CS.fillN n c d).2.wants=true\/(CS.fillN n c d).2.fs=d.fs)/\(d.wants=true->(CS.fillN n c d).2.wants=true)/\(d.fs≠[]->(CS.fillN n c d).2.fs≠[]) /\
  ((CS.fillN n c d).1.next=c.next/\(CS.fillN n c d).1.now=c.now/\(CS.fillN n c d).1.closed=c.closed/\(CS.fillN n c d).1.flight=c.flight/\(CS.fillN n c d).1.mtu=c.mtu/\(CS.fillN n c d).1.answer=c.answer/\(CS.fillN n c d).1.got=c.got):=by
 intro n
 induction n with
 | zero=>intro c d _ hc hd;exact⟨hc,hd,rfl,.inr rfl,id,id,⟨rfl,rfl,rfl,rfl,rfl,rfl,rfl⟩⟩
 | succ n ih =>
  intro c d hn hc hd;obtain⟨h1,h2,h3,h4,h5,h6,x1,x2,x3,x4,x5,x6,x7⟩:=Oy (q:=9-n) I (d.room+1) c d hc hd;obtain⟨i1,i2,i3,a,b,i6,y1,y2,y3,y4,y5,y6,y7⟩:=ih _ _ I h1 h2;unfold CS.fillN;refine⟨i1,i2,i3.trans h3,?_,λh=>b (h5 h),λh=>i6 (h6 h),y1.trans x1,y2.trans x2,y3.trans x3,y4.trans x4,y5.trans x5,y6.trans x6,y7.trans x7⟩;rcases h4 with h4|h4
  .exact .inl (b h4)
  rcases a with a|a
  .exact .inl a
  exact .inr (a.trans h4)
structure GK(tag:nH)(i b:Nat)(W0:World)(c:CS)(told:zC)(outs:List nG)(tag':nH)(V:CV)(vs:nJ)(ov tv:Value)(W:World):Prop where
 c:zi tag' i b c V W
 e:Dn i tag tag' W0 W
 m:DW (Dx i tag) W0 W
 o:Gd tag' W0 W ov vs outs
 t:Fb tag' (i,5) W tv told
 p:0<i
structure Fu(tag:nH)(i b db:Nat)(W0:World)(c:CS)(d:Dd)(told:zC)(outs:List nG)(tag':nH)(V:CV)(bv fv:Value)(l:List (Da×Value))(vs:nJ)(ov tv:Value)(W:World):Prop where
 s:zN tag i b db W0 c d tag' V bv fv l W
 o:Gd tag' W0 W ov vs outs
 t:Fb tag' (i,5) W tv told
def zN.comp{a tag2:nH}{V1 l:CV}{j k f g:Value}{l1 n:List (Da×Value)}(h:zN tag i b db W c d a V1 j k l1 W1)(h2:zN a i b db W1 c' d' tag2 l f g n W2):zN tag i b db W c' d' tag2 l f g n W2:=⟨h2.c,h2.d,h.e.trans h2.e h.m.size,Ew h.e h.m h2.m,h.p⟩
def Gd.own_{bs:List nG}(h:Gd tag W0 W ov vs bs)(hi:0<i)(e:Dn i tag tag' W W')(m:DW (Dx i tag) W W'):Gd tag' W0 W' ov vs bs :=
 h.mod m.ofC (λg hg x=>by rw[x]at hg;have hg:(0:Nat)=i:=hg;omega) (λg hg x=>by rw[e.old g hg,x])
variable{outs:List nG}{told:zC}{tv:Value}
def Fu.tell{a:zC}{l:List (Da×Value)}{e:Ending}(h:Fu tag i b db W0 c d told outs tag' V bv fv l vs ov tv W)(hp:Oz tag' i b db W c d' a e W'):∃v tag2 V2 bv2 fv2 l2,e=.returned v/\Fu tag i b db W0 c d' a outs tag2 V2 bv2 fv2 l2 vs ov v W':=by
 obtain⟨v,tag2,V2,bv2,fv2,l2,rfl,ht,f⟩:=hp;exact⟨v,tag2,V2,bv2,fv2,l2,rfl,h.s.comp f,h.o.own_ h.s.p f.e f.m,ht⟩
def Fu.fill{l:List (Da×Value)}{e:Ending}(h:Fu tag i b db W0 c d told outs tag' V bv fv l vs ov tv W)(hp:UC tag' i b db W c' d' e W'):e=.returned (.tuple #[])/\∃tag2 V2 bv2 fv2 l2,Fu tag i b db W0 c' d' told outs tag2 V2 bv2 fv2 l2 vs ov tv W':=by
 obtain⟨rfl,tag2,V2,bv2,fv2,l2,a⟩:=hp;exact⟨rfl,tag2,V2,bv2,fv2,l2,h.s.comp a,h.o.own_ h.s.p a.e a.m,h.t.mod a.m (λg hg x=>hg.2 (by rw[x])) (λg hg=>by rw[a.e.old g (Ei h.s.ok hg h.s.p),hg])⟩
def GK.draft(h:GK tag i b W0 c told outs tag' V vs ov tv W)(m1:DW DY W W1)(l:Dz W1 (.slice none 0 0) [] (zH c.next) bv W2):∃tag1,Fu tag i b W2.heap.size W0 c c.pkDraft told outs tag1 V bv (.slice none 0 0) [] vs ov tv (W2.alloc (.cells #[bv,.slice none 0 0,[c.mtu],false,false] 180)):=by
 have hk:=h.e.z;have s:=h.p;have u:=m1.trans ((DW.refl DY W1).grown l.grown (λg hg=>by simp[Value.ownBlock]at hg));obtain⟨o,v⟩:=nm (Obj.cells #[bv,.slice none 0 0,[c.mtu],false,false] 180);rw[v];have n:DW DY W (W2.alloc o):=u.alloc _;have hs1:=m1.size;have hs2:=u.size;have q:(W2.alloc o).heap.size=W2.heap.size+1:=mv;have j:∀g,bv.ownBlock=some g->W.heap.size<=g/\g<W2.heap.size:=λg hg=>by
  refine⟨?_,zK l.own g hg⟩;rcases l.at_ g hg with x|x
  .simp[Value.ownBlock]at x
  omega
 obtain⟨tag1,a⟩:∃tag1:Nat->Nat×Nat,(λg=>if g=W2.heap.size then(i,90)else if bv.ownBlock=some g then(i,91)else tag' g)=tag1:=⟨_,rfl⟩;have d:∀g,g<W.heap.size->tag1 g=tag' g:=λg hg=>by
  rw[<-a];simp only;rw[AI I,AI (λx=>nC ((j g x).1))]
 have f:∀g,(tag' g).1=i->tag1 g=tag' g:=λg hg=>d g (Ei hk (i:=i) (r:=(tag' g).2) (by rw[<-hg]) s)
 have k:Dn i tag' tag1 W (W2.alloc o):=by
  refine⟨d,λg hg=>?_,λg hg=>?_⟩
  .rw[<-a];simp only;split
   .exact .inl rfl
   split
   .exact .inl rfl
   exact .inr (hk g hg)
  rw[q]at hg;rw[<-a];simp only;rw[AI I,AI (λx=>nC ((j g x).2))];exact hk g I
 refine⟨tag1,⟨h.c.mod n (λ_ x=>x.elim) f,⟨?_,?_,World.ownsRow.alloc l.own _,λg hg=>?_,World.ownsRow_nil _ 0 _ 10,rfl,λx hx=>absurd hx Cf,λg hg=>by simp[Value.ownBlock]at hg⟩,h.e.trans k h.m.size,h.m.trans (n.mono (λ_ x=>x.elim)),s⟩,h.o.mod n (λ_ x=>x.elim) (λg hg x=>by rw[d g hg,x]),h.t.mod n (λ_ x=>x.elim) (λg hg=>by rw[f g (by rw[hg]),hg])⟩
 .rw[heap_alloc_new W2 o,<-v];rfl
 .rw[<-a];simp
 rw[<-a];simp only;rw[AI (nC ((j g hg).2)),AQ hg]
def LU{fs:List (Da×Value)}(h:w.ownsRow 0 65 10 v fs.length (FM fs))(hr:∀x∈fs,RR w x.2 x.1.rngs):IM w v fs:=by
 obtain⟨a,cap,rfl,h1,h2,h3⟩:=zk h;refine⟨a,cap,rfl,h1,h2,λi fr hi=>⟨?_,hr fr (AV hi)⟩⟩;have hlt:=(AN.1 hi).1;obtain⟨g,rfl⟩:=h3 I;refine⟨g,0,rfl,λj x hx=>?_⟩;have:=h.cells (g:=g) rfl _ _ (VD fs i fr hi j x hx);rw[zZ]at this;rw[A6]at this
 rwa [A6]
def U5{c d s1 s2 n1 n2:Nat}{e f:Value}{x1 x2:nJ}(h1:w.ownsRow 0 c s1 e n1 x1)(h2:w.ownsRow 0 d s2 f n2 x2)(he:c≠d)(hg:e.ownBlock=some g):f.ownBlock≠some g:=λa=>by
 rcases h1.2 with⟨rfl,_⟩|⟨g1,c1,u1,rfl,_,a1,_⟩
 .simp[Value.ownBlock]at hg
 rcases h2.2 with⟨rfl,_⟩|⟨g2,c2,u2,rfl,_,b,_⟩
 .simp[Value.ownBlock]at a
 simp[Value.ownBlock]at hg a;subst hg;subst a;rw[a1]at b;simp at b;exact he b.2
structure Oj(tag:nH)(i b db:Nat)(W0:World)(c:CS)(d:Dd)(told:zC)(outs:List nG)(tag':nH)(V:CV)(bv fv:Value)(vs:nJ)(ov tv:Value)(W:World):Prop where
 h:GK tag i b W0 c told outs tag' V vs ov tv W
 obj:W.heap[db]?=some (.cells #[bv,fv,[d.room],d.wants,d.full] 180 (0,0))
 fr:Gt tag' (i,5) W fv d.fs
 fv:∃a cap,fv=.slice a d.fs.length cap
 db:tag' db=(i,90)
def Fu.sealed{l:List (Da×Value)}{w:Value}{F:World}(h:Fu tag i b db W0 c d told outs tag' V bv fv l vs ov tv W)(nd:∀g r,90<=r->tag g≠(i,r))
  (L:Dz W bv d.b new v' W1) (ho:F.ownsRow 0 60 1 w (vs.length+1) (vs++[v'])) (hg:W1.grownBy F ov.ownBlock) (hn:EA W1 ov w) :
  ∃tag3,Oj tag i b db W0 c d told (outs++[d.b++new]) tag3 V bv fv (vs++[v']) w tv F:=by
 have hk:=h.s.ok;have P:=h.s.p;have f:=h.s.d;have m1:=(DW.refl (λg=>bv.ownBlock=some g) W).grown L.grown (λg hg=>.inl hg);have G:=(DW.refl (λg=>ov.ownBlock=some g) W1).grown hg (λg hg=>.inl hg);have D:DW (λg=>bv.ownBlock=some g\/ov.ownBlock=some g) W F:=(m1.mono (λg x=>.inl (.inl x))).trans (G.mono (λg x=>.inl (.inr x)));have hs0:=h.s.m.size;have hs1:=m1.size;have hs2:=G.size;have z:∀r,((0:Nat),(0:Nat))≠(i,r):=λr x=>by simp at x;omega
 obtain⟨tag3,A⟩:∃tag3:Nat->Nat×Nat,(λg=>if tag' g=(i,91)then(0,0)else if tag' g=(i,92)then(i,5)else tag' g)=tag3:=⟨_,rfl⟩;have Q:∀g,tag' g=(i,91)->tag3 g=(0,0):=λg hg=>by rw[<-A];simp only;rw[AQ hg]
 have k2:∀g,tag' g=(i,92)->tag3 g=(i,5):=λg hg=>by rw[<-A];simp only;rw[AI (by rw[hg];simp),AQ hg]
 have k3:∀g,tag' g≠(i,91)->tag' g≠(i,92)->tag3 g=tag' g:=λg h1 h2=>by rw[<-A];simp only;rw[AI h1,AI h2]
 have k4:∀g r,r≠91->r≠92->tag' g=(i,r)->tag3 g=(i,r):=λg r h1 h2 hg=>by rw[k3 g (by rw[hg];simpa using h1) (by rw[hg];simpa using h2),hg]
 have H:∀g,tag' g=(0,0)->tag3 g=(0,0):=λg hg=>by rw[k3 g (by rw[hg];exact z _) (by rw[hg];exact z _),hg]
 have j:∀g r,90<=r->tag' g=(i,r)->W0.heap.size<=g:=λg r J hg=>by
  by_cases q:g<W0.heap.size
  .rw[h.s.e.old g q]at hg;exact absurd hg (nd g r J)
  omega
 have E:∀g,v'.ownBlock=some g->(bv.ownBlock=some g/\tag' g=(i,91))\/W.heap.size<=g:=λg hg=>by
  rcases L.at_ g hg with x|x
  .exact .inl ⟨x,f.tbv g x⟩
  exact .inr x
 have n:∀g,ov.ownBlock=some g->g<W.heap.size/\tag' g=(0,0):=λg hg=>⟨zK h.o.own g hg,(h.o.tov g hg).2⟩
 have B:∀(k:Nat) (u:Value),vs[k]?=some u->(∃lb,OB W u lb)/\∀g,u.ownBlock=some g->g<W.heap.size/\tag' g=(0,0):=λk u C=>by
  have M:k<outs.length:=by rw[<-h.o.len];exact(AN.1 C).1
  obtain⟨a,b⟩:=h.o.each k u outs[k] C (AK M);exact⟨⟨_,a⟩,λg hg=>⟨zK a g hg,(b g hg).2⟩⟩
 have v:∀g,tag' g=(0,0)->g<W.heap.size->v'.ownBlock≠some g:=λg h1 h2 x=>by
  rcases E g x with y|y
  .rw[y.2]at h1;exact z _ h1.symm
  omega
 have N:=h.s.c.modR hk P (m1.mono (λg hg=>.inl ⟨91,mu,f.tbv g hg⟩)) (λ_ _=>rfl);have O:=N.mod G (λg hg=>by rw[(n g hg).2];simp;omega) (λ_ _=>rfl);have K:∀{g r:Nat},tag' g=(i,r)->r≠91->¬(bv.ownBlock=some g\/ov.ownBlock=some g):=λhg J x=>by
  rcases x with x|x
  .have:=f.tbv _ x;rw[hg]at this;simp at this;exact J this
  have:=(n _ x).2;rw[hg]at this;exact z _ this.symm
 refine⟨tag3,⟨⟨O.retag (λg r J hg=>k4 g r I I hg),⟨λg hg=>?_,λg hg=>?_,λg hg=>H g (hk g I)⟩,h.s.m.then D (λg hg=>.inr ?_),?_,?_,P⟩,D.obj (K f.tb mu) f.obj,?_,?_,k4 _ 90 mu mu f.tb⟩⟩
 .rw[k3 g (λx=>nC (j g 91 (by decide) x)) (λx=>nC (j g 92 (by decide) x)),h.s.e.old g hg]
 .by_cases R:tag' g=(i,91)
  .exact .inr (Q g R)
  by_cases S:tag' g=(i,92)
  .exact .inl (by rw[k2 g S])
  rw[k3 g R S];exact h.s.e.new g hg
 .rcases hg with x|x
  .exact j g 91 mu (f.tbv g x)
  exact(h.o.tov g x).1
 .have o1:=h.o.mod m1 (λg hg x=>by rw[f.tbv g hg]at x;exact z _ x.symm) (λ_ _ x=>x);refine o1.push G I ho hn L.own (λg hg=>?_) (λg hg x=>?_) (λk u C g hg=>v g ((B k u C).2 g hg).2 ((B k u C).2 g hg).1) (λg _ hg=>H g hg) (λg hg=>H g (hk g I)) (λk u C g hg=>?_)
  .rcases E g hg with y|y
   .exact⟨j g 91 mu y.2,Q g y.2⟩
   exact⟨I,H g (hk g y)⟩
  .exact v g (n g x).2 (n g x).1 hg
  obtain⟨⟨lb,hb⟩,_⟩:=B k u C;exact U5 hb h.o.own mu hg
 .exact h.t.mod D (λg hg x=>K x mu hg) (λg hg=>k4 g 5 mu mu hg)
 .refine⟨l,f.lf,LU (D.owns f.own (λg hg=>K (f.tfv g hg) mu)) (λx hx=>(f.rr x hx).1.mod D (Hq λg hg=>K ((f.rr x hx).2 g hg) mu)),λg hg=>k2 g (f.tfv g (TW f.own hg)),λx hx g hg=>k4 g 5 mu mu ((f.rr x hx).2 g hg)⟩
 obtain⟨a,cap,e,_⟩:=zk f.own;have hl:l.length=d.fs.length:=by rw[<-f.lf,BB]
 exact⟨a,cap,by rw[e,hl]⟩
def Oj.fly(h:Oj tag i b db W0 c d told outs tag' V bv fv vs ov tv W)(m0:DW DY W W1)
  (E:W2.ownsRow 0 173 3 v' (c.flight.length+1) (zy (c.flight.zip V.fts++[(⟨c.next,c.now,d.fs⟩,fv)]))) (hg:W1.grownBy W2 V.ft.ownBlock) (F:EA W1 V.ft v') :
  ∃tag4,GK tag i b W0 { c with flight:=c.flight++[⟨c.next,c.now,d.fs⟩] } told outs tag4 { V with ft:=v',fts:=V.fts++[fv] } vs ov tv (W2.setCell (b,236) v'):=by
 have j:=h.h;have hk:=j.e.z;have G:=j.p;have a:=j.c;have A:=(DW.refl (λg=>V.ft.ownBlock=some g) W1).grown hg (λg hg=>.inl hg);have s:DW (λg=>g=b\/V.ft.ownBlock=some g) W (W2.setCell (U b 236) v'):=((m0.mono (λ_ x=>x.elim)).trans (A.mono (λg x=>.inl (.inr x)))).setCell (p:=U b 236) (.inl (.inl rfl)) _;have hs0:=m0.size;have hs2:=A.size;have B:(W2.setCell (b,236) v').heap.size=W2.heap.size:=mv;have u:∀g,(g=b\/V.ft.ownBlock=some g)->∃r,(r=1\/r=4)/\tag' g=(i,r):=λg hg=>by
  rcases hg with hg|hg
  .exact⟨1,.inl rfl,by rw[hg,a.tb]⟩
  exact⟨4,.inr rfl,a.tft g hg⟩
 have f:∀{g r:Nat},tag' g=(i,r)->g<W.heap.size:=λhg=>Ei hk hg G
 have v:∀g,(tag' g).1=i->zQ tag' W W2 (i,4) g=tag' g:=λg hg=>zD (f (r:=(tag' g).2) (by rw[<-hg]))
 have C:=A.obj (λx=>by
  have:=a.tft b x;rw[a.tb]at this;simp at this) (m0.obj (λx=>x) a.obj)
 have D:∀g,v'.ownBlock=some g->g≠b:=λg hg x=>by
  subst x;rcases F g hg with y|y
  .have:=a.tft g y;rw[a.tb]at this;simp at this
  have:=f a.tb;omega
 have z:∀g,tag' g=(0,0)->¬(g=b\/V.ft.ownBlock=some g):=λg hg x=>by
  obtain⟨r,_,e⟩:=u g x;rw[hg]at e;simp at e;omega
 have w:Dn i tag' (zQ tag' W W2 (i,4)) W (W2.setCell (b,236) v'):=by
  refine⟨λg hg=>zD hg,λg hg=>?_,λg hg=>?_⟩
  .by_cases q:g<W2.heap.size
   .exact .inl (by rw[Gs hg q])
   exact .inr (by simp only[zQ,(I:¬g<W.heap.size),q,AI,As])
  rw[B]at hg;simp only[zQ,(I:¬g<W.heap.size),(I:¬g<W2.heap.size),AI,As]
 have n:(c.flight++[(⟨c.next,c.now,d.fs⟩:Dc)]).zip (V.fts++[fv])=c.flight.zip V.fts++[(⟨c.next,c.now,d.fs⟩,fv)]:=by
  rw[List.zip_append a.fl.symm];rfl
 refine⟨_,?_,j.e.trans w j.m.size,Ew j.e j.m (s.mono (λg hg=>.inl ?_)),j.o.mod s (λg hg x=>z g x hg) (λg hg x=>by rw[zD hg,x]),j.t.mod s (λg hg x=>?_) (λg hg=>by rw[zD (f hg),hg]),G⟩
 .refine a.build (R:=λr=>r=1\/r=4) s u v ?_ (.inl ⟨rfl,rfl,rfl,I,I⟩) (λk hk=>.inl ⟨rfl,rfl,I⟩) (λk hk=>.inl ⟨rfl,rfl,I⟩) (λk hk=>.inl ⟨rfl,rfl,I⟩) (λk hk=>.inl ⟨rfl,rfl,I⟩) (λk hk=>.inl ⟨rfl,rfl,I⟩) (.inr ⟨?_,?_,?_,?_⟩) (.inl ⟨rfl,rfl,I⟩) (.inl ⟨rfl,rfl,I⟩) (.inl ⟨rfl,rfl,I⟩)
  .rw[zc C,Aq];rw[show(236:Nat)=233+3 from rfl,G8 c { c with flight:=c.flight++[⟨c.next,c.now,d.fs⟩] } V { V with ft:=v',fts:=V.fts++[fv] } _ rfl rfl rfl rfl]
  .rw[n];have:=((DW.refl (λg=>g=b) W2).setCell (p:=U b 236) (.inl rfl) v').owns E (λg hg x=>D g hg x);rw[AG,Af];exact this
  .rw[AG,AG,a.fl];rfl
  .intro p l;have l:p∈(c.flight++[(⟨c.next,c.now,d.fs⟩:Dc)]).zip (V.fts++[fv]):=l;rw[n]at l;have H:∀g,(g=b\/V.ft.ownBlock=some g)->tag' g≠(i,5):=λg hg x=>by
    obtain⟨r,J,e⟩:=u g hg;rw[x]at e;simp at e;omega
   rcases Al.1 l with q|q
   .exact(a.fs p q).mod s H (λg hg=>by rw[zD (f hg),hg])
   simp at q;subst q;exact h.fr.mod s H (λg hg=>by rw[zD (f hg),hg])
  intro g hg;rcases F g hg with y|y
  .rw[zD (f (a.tft g y)),a.tft g y]
  exact Gs I (zK E g hg)
 .obtain⟨r,J,e⟩:=u g hg;exact EW e I
 obtain⟨r,J,e⟩:=u g hg;rw[x]at e;simp at e;omega
def GK.next(h:GK tag i b W0 c told outs tag' V vs ov tv W):GK tag i b W0 { c with next:=c.next+1 } told outs tag' V vs ov tv (W.setCell (b,6) (.int .u64 ((c.next+1:Nat):Int))):=by
 have m:DW (λg=>g=b) W (W.setCell (U b 6) (.int .u64 ((c.next+1:Nat):Int))):=(DW.refl (λg=>g=b) W).setCell (p:=U b 6) (.inl rfl) _;have tb:=h.c.tb;have hp:=h.p;exact⟨h.c.store 6 _ (Kx c { c with next:=c.next+1 } V V (j:=6) _ mu rfl rfl rfl rfl) ⟨rfl,λ_ _=>⟨rfl,rfl,rfl⟩,λ_ _=>⟨rfl,rfl⟩,rfl,rfl,rfl,rfl⟩,⟨h.e.old,h.e.new,h.e.z.mod m⟩,
  Ew h.e h.m (m.mono (λq hq=>.inl (EW (r:=1) (by rw[show q=b from hq];exact tb) mu))),h.o.mod m (λg hg x=>by rw[show g=b from hg,tb]at x;simp at x) (λ_ _ x=>x),h.t.mod m (λg hg x=>by rw[show g=b from hg,tb]at x;simp at x) (λ_ x=>x),hp⟩
def IJ(l:zC):Prop:=∀i,i<l.length->Ia l i=true
def IJ.tell{l:zC}(h:IJ l):Sj l:=by
 intro n h1 h2;have hl:(l.take n).length=n:=by rw[AU];omega
 have hs:FE (l.take n)=true:=by
  unfold FE IZ;rw[hl];simp only[AZ,Ct,Bn,Ah];refine⟨λi hi=>?_,I⟩;have:=h i I;unfold Ia at this ⊢;rw[(NJ l n i hi).1,(NJ l n i hi).2];by_cases h0:i=0
  .subst h0;simpa using this
  rw[(NJ l n (i-1) I).1];exact this
 have:zX (ackF (l.take n))=(Ef (ackF (l.take n))&&Ek (ackF (l.take n))&&FE (l.take n)):=rfl;rw[this,hs];rfl
def IJ.drop{l:zC}(h:IJ l)(n:Nat):IJ (l.drop n):=by
 intro i hi;rw[Ac]at hi;have:=h (n+i) I;unfold Ia at this ⊢;rw[(Za l n i).1,(Za l n i).2];by_cases h0:i=0
 .subst h0;simp only[AZ]at this;have h1:=of_decide_eq_true this.1.1;have h2:=of_decide_eq_true this.1.2;rw[B7]at h1 h2;simp[h1,h2]
 rw[(Za l n (i-1)).1,(I:n+(i-1)=n+i-1)];have hz:¬n+i=0:=I;simpa [hz,h0]using this
def Dl.Ok.desc(h:s.Ok):IJ s.rs.reverse:=by
 have a:∀i,i<s.rs.length->DZ s.rs.reverse i=DZ s.rs (s.rs.length-1-i)/\DX s.rs.reverse i=DX s.rs (s.rs.length-1-i):=λi hi=>by
  simp[DZ,DX,Ak,List.getElem?_reverse hi]
 intro i hi;rw[List.length_reverse]at hi;have h1:=h.wf.1 (s.rs.length-1-i) I;have h2:=h.hi (s.rs.length-1-i) I;unfold Ia;rw[(a i hi).1,(a i hi).2];unfold zF at h2;by_cases h0:i=0
 .simp[h0]at h1 h2 ⊢;exact⟨h1.1,h2⟩
 rw[(a (i-1) I).1];have h3:=h.wf.2 (s.rs.length-1-i) (s.rs.length-1-(i-1)) I I;simp only[AZ,Bb,Ah];exact⟨⟨h1.1,h2⟩,.inr ⟨I,I⟩⟩
def Fs(c:CS)(l:zC):Nat:=(12-c.flight.length)+l.length
structure Gu(c:CS)(l:zC):Prop where
 ok:c.Ok
 mtu:64<=c.mtu
 desc:IJ l
 len:l.length<=1048576
 fl:c.flight.length<=12
 next:c.next+Fs c l<zF
def JG(h:c.Ok):c.pkDraft.Ok:=by
 have:=zx c.next;exact⟨by show(zH c.next).length<=_;omega,AM _,h.mtu⟩
theorem NN(hd:d.Ok)(l:zC):(zp d l).1.Ok/\(zp d l).1.room=d.room/\(l=[]->(zp d l)=(d,l))/\(l≠[]->(zp d l).2.length<l.length)/\(IJ l->IJ (zp d l).2)/\(zp d l).2.length<=l.length/\(zp d l).1.wants=d.wants:=by
 unfold zp;by_cases hl:l=[]
 .rw[AQ hl];exact⟨hd,rfl,λ_=>rfl,λh=>absurd hl h,id,AF _,rfl⟩
 rw[AI hl];have a:1<=l.length:=BM.2 hl;have hn:=Na d l l.length a;have c:(GL d l).2.length<l.length:=by
  show(l.drop _).length<_;rw[Ac];omega
 have e:(GL d l).1.Ok/\(GL d l).1.room=d.room/\(GL d l).1.wants=d.wants:=by
  show((d.add _).getD d).Ok/\((d.add _).getD d).room=d.room/\((d.add _).getD d).wants=d.wants;cases h:d.add (ackF (l.take (Ee d l l.length)))with
  | none=>exact⟨hd,rfl,rfl⟩
  | some d' =>
   obtain⟨h1,h2,h3,_,h5,h4⟩:=Dd.add_some h;have hb:=PZ (ackF (l.take (Ee d l l.length)));have hr:=hd.room;have hs:=hd.fs;have hl2:d'.b.length=d.b.length+(zA (ackF (l.take (Ee d l l.length)))).length:=by rw[h1,AG]
   exact⟨⟨by show d'.b.length<=_;omega,by show d'.fs.length<=d'.b.length;rw[h2,AG,Af];omega,by show d'.room<=_;omega⟩,h3,h5.trans (by simp[ackF])⟩
 exact⟨e.1,e.2.1,λh=>absurd h hl,λ_=>c,λh=>h.drop _,Nat.le_of_lt c,e.2.2⟩
def Gu.round{l:zC}(h:Gu c l):(zp c.pkDraft l).1.Ok/\(c.pkFill (zp c.pkDraft l).1).1.Ok/\(c.pkFill (zp c.pkDraft l).1).2.Ok/\(c.pkFill (zp c.pkDraft l).1).1.next=c.next/\(c.pkFill (zp c.pkDraft l).1).1.now=c.now/\(c.pkFill (zp c.pkDraft l).1).1.flight=c.flight /\
  ((c.pkFill (zp c.pkDraft l).1).2.fs≠[]->Gu ((c.pkFill (zp c.pkDraft l).1).1.pkDone (c.pkFill (zp c.pkDraft l).1).2) (zp c.pkDraft l).2/\Fs ((c.pkFill (zp c.pkDraft l).1).1.pkDone (c.pkFill (zp c.pkDraft l).1).2) (zp c.pkDraft l).2<Fs c l):=by
 obtain⟨t1,t2,j,t4,t5,t6,t7⟩:=NN (JG h.ok) l;have hf:(c.pkFill (zp c.pkDraft l).1).1.Ok/\(c.pkFill (zp c.pkDraft l).1).2.Ok/\((c.pkFill (zp c.pkDraft l).1).1.next=c.next/\(c.pkFill (zp c.pkDraft l).1).1.now=c.now/\(c.pkFill (zp c.pkDraft l).1).1.flight=c.flight/\(c.pkFill (zp c.pkDraft l).1).1.mtu=c.mtu) /\
   (l=[]->(c.pkFill (zp c.pkDraft l).1).2.fs≠[]->c.flight.length<12/\(c.pkFill (zp c.pkDraft l).1).2.wants=true)/\((c.pkFill (zp c.pkDraft l).1).2.wants=true->c.flight.length<12):=by
  unfold CS.pkFill;split
  .rename_i hlt;obtain⟨i1,i2,i3,d,i5,i6,x1,x2,x3,x4,x5,x6,x7⟩:=Qx 10 c (zp c.pkDraft l).1 (AF _) h.ok t1;refine⟨i1,i2,⟨x1,x2,x4,x5⟩,λf a=>⟨hlt,?_⟩,λ_=>hlt⟩;rcases d with d|d
   .exact d
   exact absurd (d.trans (by rw[j f];rfl)) a
  exact⟨h.ok,t1,⟨rfl,rfl,rfl,rfl⟩,λf a=>absurd (by rw[j f];rfl) a,λe=>by rw[show(c,(zp c.pkDraft l).1).2=(zp c.pkDraft l).1 from rfl,t7]at e;cases e⟩
 obtain⟨f1,f2,⟨f3,f4,b,f6⟩,f7,f8⟩:=hf;refine⟨t1,f1,f2,f3,f4,b,λa=>?_⟩;have g:Fs ((c.pkFill (zp c.pkDraft l).1).1.pkDone (c.pkFill (zp c.pkDraft l).1).2) (zp c.pkDraft l).2<Fs c l:=by
  unfold Fs CS.pkDone;simp only;by_cases hl:l=[]
  .obtain⟨g1,g2⟩:=f7 hl a;rw[AQ g2,b,AG,Af];omega
  have:=t4 hl;split
  .rw[b,AG,Af];omega
  rw[b];omega
 have hn:=h.next;have i:=h.fl;have hm:=h.mtu;refine⟨⟨⟨f1.mtu,f1.win,f1.tot,f1.grant,f1.credit,f1.ws,f1.rs,f1.waits⟩,by show 64<=(c.pkFill _).1.mtu;omega,t5 h.desc,nC h.len,?_,?_⟩,g⟩
 .unfold CS.pkDone;simp only;split
  .rename_i e;rw[b,AG,Af];have:=f8 e;omega
  rw[b];exact i
 show(c.pkFill _).1.next+1+_<zF;omega
def WS.give(x:WS)(n:Nat):WS :=
 {x with final:=if x.cut then x.final else max x.high n,keep:=if !x.cut||decide (n<x.keep)then n else x.keep,telling:=if !x.cut||decide (n<x.keep)then false else x.telling,cut:=true }
def CS.reset(c:CS)(k keep:Int):Nat×CS :=
 if c.stream k≠0 then(c.stream k,c)else(0,{ c with ws:=zf c.ws k.toNat ((c.ws k.toNat).give (min keep.toNat (c.ws k.toNat).b.length)) })
def Lc(id dl:Nat)(s:nG):Da:=⟨7,0,0,0,0,false,id,dl,s,[]⟩
def CS.datagram(c:CS)(id dl:Nat)(s:nG):Nat×CS :=
 if c.closed≠0 then(12,c)else
 if zF<id\/zF<dl\/(c.anyID=true/\id<=c.lastID)then(5,c)else
 if c.mtu<s.length+40 then(6,c)else
 if c.waits.length=16 then(3,c)else
 (0,{ c with anyID:=true,lastID:=id,waits:=if c.now<=dl then c.waits++[Lc id dl s]else c.waits })
def Ho:zC->Nat->Nat->Dl->Dl
 | [],_,_,t=>t
 | r::l,lo,hi,t =>
  Ho l lo hi (if hi<=r.2 then(if r.1<lo then t.add r.1 (min r.2 (lo-1))else t).add (max r.1 hi) r.2 else(if r.1<lo then t.add r.1 (min r.2 (lo-1))else t))
def Dl.without(s:Dl)(lo hi:Nat):Dl:=Ho s.rs lo hi ⟨[],0,s.most⟩
def Dl.adds(t:Dl)(l:zC):Dl:=l.foldl (λt r=>t.add r.1 r.2) t
def WS.again(x:WS)(f:Da):WS :=
 {x with sent:=(x.sent.without f.off (f.off+f.data.length)).adds x.came.rs.reverse,ending:=x.ending && !f.fin }
def CS.again(c:CS)(f:Da):CS :=
 if f.kind=4 then{ c with ws:=zf c.ws f.stream.toNat ((c.ws f.stream.toNat).again f) }
 else if f.kind=3 then{ c with ws:=zf c.ws f.stream.toNat { c.ws f.stream.toNat with telling:=(c.ws f.stream.toNat).telling && !(f.rel==(c.ws f.stream.toNat).keep) } }
 else if f.kind=5 then{ c with anew:=c.anew||f.lim==c.grant }
 else if f.kind=6 then{ c with rs:=zf c.rs f.stream.toNat { c.rs f.stream.toNat with anew:=(c.rs f.stream.toNat).anew||f.lim==(c.rs f.stream.toNat).grant } }
 else c
def CS.agains(c:CS)(fs:List Da):CS:=fs.foldl CS.again c
def CS.late(c:CS)(p:Dc):Bool:=decide (p.at_+6<=c.now)||decide (p.n+3<=c.largest)
def CS.lose(c:CS):CS:={ (c.flight.foldl (λc p=>if c.late p then c.agains p.fs else c) c)with flight:=c.flight.filter (λp => !c.late p) }
def CS.tick(c:CS):CS:=({ c with now:=c.now+1,waits:=c.waits.filter (λf => !decide (f.dl<c.now+1)) }:CS).lose
def WS.acked(x:WS)(f:Da):WS :=
 {x with came:=x.came.add f.off (f.off+f.data.length-1),sent:=x.sent.add f.off (f.off+f.data.length-1) }
def CS.ackF(c:CS)(f:Da):CS:=if f.kind=4/\f.data≠[]then{ c with ws:=zf c.ws f.stream.toNat ((c.ws f.stream.toNat).acked f) }else c
def D2(l:zC)(p:Dc):Bool:=l.any λr=>decide (r.1<=p.n)&&decide (p.n<=r.2)
def CS.ackP(c:CS)(l:zC)(p:Dc):CS:=if D2 l p then p.fs.foldl CS.ackF c else c
def CS.acked(c:CS)(l:zC):Nat×CS :=
 if c.next<=DX l 0 then(11,c)
 else(0,({ (c.flight.foldl (λc p=>c.ackP l p) { c with largest:=max c.largest (DX l 0) })with flight:=c.flight.filter (λp => !D2 l p) }:CS).lose)
def RS.resetAt(x:RS)(f:Da):RS:={ x with keep:=if !x.cut||decide (f.rel<x.keep)then f.rel else x.keep,cut:=true,ended:=true,fin:=f.off }
def CS.resetAt(c:CS)(f:Da):Nat×CS :=
 if ((c.rs f.stream.toNat).ended&&(c.rs f.stream.toNat).fin != f.off)||decide (f.off<(c.rs f.stream.toNat).high)then(10,c)
 else(0,{ c with rs:=zf c.rs f.stream.toNat ((c.rs f.stream.toNat).resetAt f) })
def Ie(b:nG)(i:Nat)(s:nG):nG:=b.take i++(s++b.drop (i+s.length))
def Ep(off:Nat)(data:nG)(e:Nat):Nat->Nat->nG->Dl->nG×Dl
 | 0,_,b,s=>(b,s)
 | n+1,lo,b,s =>
  if lo<e then
   if e<=(Dj s.rs lo e).1 then(b,s)
   else Ep off data e n (Dj s.rs lo e).2 (Ie b (Dj s.rs lo e).1 ((data.drop ((Dj s.rs lo e).1-off)).take ((Dj s.rs lo e).2-(Dj s.rs lo e).1))) (s.add (Dj s.rs lo e).1 ((Dj s.rs lo e).2-1))
  else(b,s)
def JT(b:nG)(n:Nat):nG:=b++List.replicate (n-b.length) 0
def Da.end_(f:Da):Nat:=f.off+f.data.length
def RS.dataB(x:RS)(f:Da):nG×Dl:=Ep f.off f.data f.end_ (f.data.length+1) f.off (JT x.b (max x.high f.end_)) x.came
def RS.data(x:RS)(f:Da):RS :=
 {x with high:=max x.high f.end_,ended:=x.ended||f.fin,fin:=if f.fin then f.end_ else x.fin,b:=(x.dataB f).1,came:=(x.dataB f).2 }
def Ft(rs:Nat->RS):Nat->Nat
 | 0=>0
 | k+1=>Ft rs k+(rs k).high
def RS.badEnd(x:RS)(f:Da):Bool:=(x.ended&&(decide (x.fin<f.end_)||(f.fin&&f.end_ != x.fin)))||(f.fin&&decide (f.end_<x.high))
def CS.data(c:CS)(f:Da):Nat×CS :=
 if (c.rs f.stream.toNat).badEnd f then(10,c)else
 if (c.rs f.stream.toNat).high<f.end_/\((c.rs f.stream.toNat).grant<f.end_\/c.grant<f.end_-(c.rs f.stream.toNat).high+Ft c.rs 8)then(9,c)else
 (0,{ c with rs:=zf c.rs f.stream.toNat ((c.rs f.stream.toNat).data f) })
def EG(m id:Nat):Bool:=decide (32<=m)&&decide (id<=m-32)
def CS.message(c:CS)(f:Da):CS :=
 if (c.seen.any λp=>p.1==f.id)||decide (f.dl<c.now)||(decide (0<c.seen.length)&&EG c.most f.id)then c else
 {c with most:=max c.most f.id,seen:=(c.seen++[(f.id,f.dl)]).filter (λp => !EG (max c.most f.id) p.1),came:=c.came++[(f.id,f.data)] }
def CS.take(c:CS)(f:Da):Nat×CS :=
 if f.kind=2 then c.acked f.rngs
 else if f.kind=3 then c.resetAt f
 else if f.kind=4 then c.data f
 else if f.kind=5 then(0,{ c with credit:=max c.credit f.lim })
 else if f.kind=6 then(0,{ c with ws:=zf c.ws f.stream.toNat { c.ws f.stream.toNat with credit:=max (c.ws f.stream.toNat).credit f.lim } })
 else if f.kind=7 then(0,c.message f)
 else if f.kind=8 then(13,c)
 else(0,c)
def CS.takes:List Da->CS->Nat×CS
 | [],c=>(0,c)
 | f::fs,c =>
  if (c.take f).1≠0 then((c.take f).1,{ (c.take f).2 with closed:=(c.take f).1,said:=(c.take f).1==13 })
  else CS.takes fs { (c.take f).2 with answer:=(c.take f).2.answer||f.kind != 2 }
def CS.receive(c:CS)(bs:nG):(Nat×Int)×CS :=
 if c.closed≠0 then((12,-1),c)else
 match dec bs with
 | .sum=>((7,-1),c)
 | .bad p=>((8,(p:Int)),{ c with closed:=8 })
 | .ok n fs=>if Hi c.got.rs c.got.fl n then((0,-1),c)else
  (((CS.takes fs { c with got:=c.got.add n n }).1,-1),(CS.takes fs { c with got:=c.got.add n n }).2)
def CS.datagramsOut(c:CS):List (Nat×nG)×CS:=(c.came,{ c with came:=[] })
def RS.readTo(x:RS)(most:Nat):Nat :=
 if x.cut then max x.read (min (min (Dj x.came.rs x.read x.high).1 (x.read+most)) x.keep)else min (Dj x.came.rs x.read x.high).1 (x.read+most)
def RS.stateAt(x:RS)(e:Nat):Nat:=if x.cut&&decide (x.keep<=e)then 2 else if !x.cut&&x.ended&&e==x.fin then 1 else 0
def CS.read(c:CS)(k most:Int):(nG×Nat×Nat)×CS :=
 if c.stream k≠0 then(([],0,c.stream k),c)else
 if (c.rs k.toNat).state≠0 then(([],(c.rs k.toNat).state,0),c)else
 ((((c.rs k.toNat).b.drop (c.rs k.toNat).read).take ((c.rs k.toNat).readTo most.toNat-(c.rs k.toNat).read),(c.rs k.toNat).stateAt ((c.rs k.toNat).readTo most.toNat),0),
  {c with rs:=zf c.rs k.toNat { c.rs k.toNat with read:=(c.rs k.toNat).readTo most.toNat,state:=(c.rs k.toNat).stateAt ((c.rs k.toNat).readTo most.toNat) } })
structure EN where
 wrote:nG
 fin:Bool
 cut:Bool
 keep:Nat
 read:Nat
 state:Nat
structure SN where
 id:Nat
 dl:Nat
 data:nG
 came:Bool
structure NS where
 mtu:Nat
 window:Nat
 total:Nat
 now:Nat
 c:Nat->CS
 e:Nat->Nat->EN
 g:Nat->List SN
 next:Nat->Nat
 count:Nat->Nat
 bag:List (Nat×nG)
structure Do where
 kind:Int
 side:Int
 a:Int
 b:Int
 s:nG
def EN.zero:EN:=⟨[],false,false,0,0,0⟩
end
section
open Go.RowKit Go.Proofs.Tryz
def NS.new(mtu window total:Nat):NS :=
 {mtu:=mtu,window:=window,total:=total,now:=0,c:=λ_=>CS.new mtu window total,e:=λ_ _=>EN.zero,g:=λ_=>[],next:=λ_=>0,count:=λ_=>0,bag:=[] }
def NS.build(mtu window total:Int):NS:=NS.new (64+Db mtu 337) (16+Db window 300) (16+Db total 600)
def NS.setC(n:NS)(i:Nat)(c:CS):NS:={ n with c:=zf n.c i c }
def NS.setE(n:NS)(i k:Nat)(e:EN):NS:={ n with e:=zf n.e i (zf (n.e i) k e) }
def NS.send(n:NS)(i k:Nat)(s:nG):Bool×NS :=
 if (n.e i k).fin||(n.e i k).cut then(((n.c i).send k s).1==4,n.setC i ((n.c i).send k s).2)
 else if 2048<(n.e i k).wrote.length+s.length then(((n.c i).send k s).1==3,n.setC i ((n.c i).send k s).2)
 else(((n.c i).send k s).1==0,(n.setC i ((n.c i).send k s).2).setE i k { n.e i k with wrote:=(n.e i k).wrote++s })
def NS.finish(n:NS)(i k:Nat):Bool×NS :=
 if (n.e i k).fin||(n.e i k).cut then(((n.c i).finish k).1==4,n.setC i ((n.c i).finish k).2)
 else(((n.c i).finish k).1==0,(n.setC i ((n.c i).finish k).2).setE i k { n.e i k with fin:=true })
def NS.resetK(n:NS)(i k keep:Nat):Bool×NS :=
 (((n.c i).reset k keep).1==0,(n.setC i ((n.c i).reset k keep).2).setE i k { n.e i k with keep:=if !(n.e i k).cut||decide (keep<(n.e i k).keep)then keep else(n.e i k).keep,cut:=true })
def NS.reset(n:NS)(i k:Nat)(b:Int):Bool×NS:=n.resetK i k (Db b ((n.e i k).wrote.length+1))
def NS.datagram(n:NS)(i:Nat)(s:Do):Bool×NS :=
 if n.mtu<s.s.length+40 then(((n.c i).datagram (n.next i) n.now s.s).1==6,n.setC i ((n.c i).datagram (n.next i) n.now s.s).2)
 else if ((n.c i).datagram (n.next i) (n.now+Db s.a 9) s.s).1=3 then(decide (16<=(n.g i).length),n.setC i ((n.c i).datagram (n.next i) (n.now+Db s.a 9) s.s).2)
 else if ((n.c i).datagram (n.next i) (n.now+Db s.a 9) s.s).1≠0 then(false,n.setC i ((n.c i).datagram (n.next i) (n.now+Db s.a 9) s.s).2)
 else(true,{ n.setC i ((n.c i).datagram (n.next i) (n.now+Db s.a 9) s.s).2 with g:=zf n.g i (n.g i++[⟨n.next i,n.now+Db s.a 9,s.s,false⟩]),next:=zf n.next i (n.next i+1+Db s.b 3) })
def NS.tick(n:NS):NS:={ n with now:=n.now+1,c:=zf (zf n.c 0 (n.c 0).tick) 1 (n.c 1).tick }
def FY(now:Nat)(f:Da):Bool:=f.kind==7&&decide (f.dl<now)
def NS.flushL(i:Nat):List nG->NS->Bool×NS
 | [],n=>(true,n)
 | b::l,n =>
  match dec b with
  | .ok num fs =>
   if n.mtu<b.length\/num≠n.count i\/fs=[]then(false,n)
   else if fs.any (FY n.now)then(false,{ n with count:=zf n.count i (n.count i+1) })
   else NS.flushL i l { n with count:=zf n.count i (n.count i+1),bag:=n.bag++[(1-i,b)] }
  | _=>(false,n)
def NS.flush(n:NS)(i:Nat):Bool×NS:=NS.flushL i (n.c i).packets.1 (n.setC i (n.c i).packets.2)
def EP(now id:Nat)(data:nG):List SN->Bool->Bool×List SN
 | [],r=>(r,[])
 | g::l,r =>
  if g.id=id then((EP now id data l (g.data==data && !g.came&&decide (now<=g.dl))).1,{ g with came:=true }::(EP now id data l (g.data==data && !g.came&&decide (now<=g.dl))).2)
  else((EP now id data l r).1,g::(EP now id data l r).2)
def FX(now:Nat):List (Nat×nG)->List SN->Bool×List SN
 | [],G=>(true,G)
 | m::l,G=>if (EP now m.1 m.2 G false).1 then FX now l (EP now m.1 m.2 G false).2 else(false,(EP now m.1 m.2 G false).2)
def NS.came(n:NS)(i:Nat):Bool×NS :=
 ((FX n.now (n.c i).datagramsOut.1 (n.g (1-i))).1,{ n.setC i (n.c i).datagramsOut.2 with g:=zf n.g (1-i) (FX n.now (n.c i).datagramsOut.1 (n.g (1-i))).2 })
def NS.drop(n:NS)(k:Nat):NS:={ n with bag:=n.bag.take k++n.bag.drop (k+1) }
def NS.recv(n:NS)(i:Nat)(b:nG):Nat×Bool×NS :=
 (((n.c i).receive b).1.1,(n.setC i ((n.c i).receive b).2).came i)
def IA(b:nG)(k:Nat)(x:UInt8):nG:=b.take k++([b.getD k 0 ^^^ x]++b.drop (k+1))
def IY(s:nG):UInt8:=if s.getD 0 0≠0 then s.getD 0 0 else 1
def NS.carryK(n:NS)(s:Do)(k:Nat)(f:Nat×nG):Bool×NS :=
 if s.kind=7 then(((if Db s.b 2=0 then n.drop k else n).recv f.1 f.2).1==0&&((if Db s.b 2=0 then n.drop k else n).recv f.1 f.2).2.1,((if Db s.b 2=0 then n.drop k else n).recv f.1 f.2).2.2)
 else if s.kind=8 then(true,n.drop k)
 else if s.kind=9 then((n.recv f.1 (IA f.2 (Db s.b f.2.length) (IY s.s))).1==7&&(n.recv f.1 (IA f.2 (Db s.b f.2.length) (IY s.s))).2.1,(n.recv f.1 (IA f.2 (Db s.b f.2.length) (IY s.s))).2.2)
 else(true,n)
def NS.carry(n:NS)(s:Do):Bool×NS :=
 if n.bag=[]then(true,n)else n.carryK s (Db s.a n.bag.length) (n.bag.getD (Db s.a n.bag.length) (0,[]))
def EN.wrong(o:EN)(most:Nat)(r:nG×Nat×Nat):Bool :=
 r.2.2 != 0||decide (most<r.1.length)||decide (o.wrote.length<o.read+r.1.length)||(o.wrote.drop o.read).take r.1.length != r.1||(o.state != 0&&(r.1 != []||r.2.1 != o.state))
def EN.more(o:EN)(r:nG×Nat×Nat):EN:={ o with read:=o.read+r.1.length,state:=r.2.1 }
def EN.fits(o:EN):Bool :=
 if o.state=0 then true else if o.state=1 then o.fin&&o.read==o.wrote.length else if o.state=2 then o.cut&&decide (o.keep<=o.read)else false
def NS.read(n:NS)(i k most:Nat):Bool×NS :=
 if (n.e (1-i) k).wrong most ((n.c i).read k most).1 then(false,n.setC i ((n.c i).read k most).2)
 else(((n.e (1-i) k).more ((n.c i).read k most).1).fits,(n.setC i ((n.c i).read k most).2).setE (1-i) k ((n.e (1-i) k).more ((n.c i).read k most).1))
def NS.step(n:NS)(s:Do):Bool×NS :=
 if s.kind=1 then n.send (Db s.side 2) (Db s.a 8) s.s
 else if s.kind=2 then n.finish (Db s.side 2) (Db s.a 8)
 else if s.kind=3 then n.reset (Db s.side 2) (Db s.a 8) s.b
 else if s.kind=4 then n.datagram (Db s.side 2) s
 else if s.kind=5 then n.tick.carry s
 else if s.kind=6 then n.flush (Db s.side 2)
 else if s.kind=10 then n.read (Db s.side 2) (Db s.b 8) (Db s.a 200)
 else n.carry s
def NS.recvs:List (Nat×nG)->NS->Bool->Bool×NS
 | [],n,ok=>(ok,n)
 | f::l,n,ok=>NS.recvs l (n.recv f.1 f.2).2.2 (ok&&(n.recv f.1 f.2).2.1&&(n.recv f.1 f.2).1==0)
def NS.reads:List (Nat×Nat)->NS->Bool->Bool×NS
 | [],n,ok=>(ok,n)
 | p::l,n,ok=>NS.reads l (n.read p.1 p.2 4096).2 (ok&&(n.read p.1 p.2 4096).1)
def Gj:List (Nat×Nat):=(List.range 16).map λj=>(j / 8,j % 8)
def NS.fairC(n:NS)(ok:Bool):Bool×NS:=NS.reads Gj (NS.recvs n.bag { n with bag:=[] } ok).2 (NS.recvs n.bag { n with bag:=[] } ok).1
def NS.fairB(n:NS)(ok:Bool):Bool×NS:=(n.flush 1).2.fairC (ok&&(n.flush 1).1)
def NS.fairA(n:NS)(ok:Bool):Bool×NS:=(n.flush 0).2.fairB (ok&&(n.flush 0).1)
def Kg:Do:=⟨5,0,0,0,[]⟩
def NS.fair1(n:NS):Bool×NS:=(n.step Kg).2.fairA (n.step Kg).1
def NS.fairs:Nat->NS->Bool×NS
 | 0,n=>(true,n)
 | t+1,n=>if n.fair1.1 then NS.fairs t n.fair1.2 else(false,n.fair1.2)
def NS.fair(n:NS)(t:Nat):Bool×NS:=NS.fairs t { n with bag:=[] }
def I4 : Do := ⟨1, 0, 3, 0, "some bytes of a stream".toUTF8.data.toList⟩
def JN:Do:=⟨2,0,3,0,[]⟩
def Mz:NS:=((NS.build 0 100 100).step I4).2
def Km:NS:=(Mz.step JN).2
def Si:Bool :=
 ((NS.build 0 100 100).step I4).1&&(Mz.step JN).1&&(Km.fair 4).1&&((Km.fair 4).2.e 0 3).read==22&&((Km.fair 4).2.e 0 3).state==1
def NS.plays(without:List Int):List Do->NS->Option NS
 | [],n=>some n
 | s::l,n=>if without.contains s.kind then NS.plays without l n else if (n.step s).1 then NS.plays without l (n.step s).2 else none
def Ii(w:World)(b:Nat)(v:Value)(s:Dl):Prop:=w.heap[b]?=some (.cells #[v,s.fl,[s.most]] 116 (0,0))/\w.ownsRow 0 214 2 v s.rs.length (zq s.rs)
variable{b:Nat}{s:Dl}{v:Value}{w:World}
def Ii.set(h:Ii w b v s)(hl:s.rs.length<=1099511627776):El w b 0 v s.rs s.fl s.most :=
 ⟨za h.1 rfl,za h.1 rfl,za h.1 rfl,h.2,hl,λj=>zg h.1⟩
variable{S:Nat->Prop}{w':World}
def Ii.mod(h:Ii w b v s)(m:DW S w w')(h1:¬S b)(h2:∀g,v.ownBlock=some g->¬S g):Ii w' b v s:=⟨m.obj h1 h.1,m.owns h.2 h2⟩
def YQ(s:Dl)(b lo hi:Nat)(v:Value)(w:World)(h:Ii w b v s)(ok:s.Ok)(a:lo<=zF)(d:hi<=zF):Calls prog 88 #[(b,0),lo,hi] w λe w'=>e=.returned (.tuple #[])/\∃v',Ii w' b v' (s.add lo hi)/\DW (λk=>k=b\/v.ownBlock=some k) w w'/\EA w v v':=by
 have hm:=ok.most;have hrl:=ok.rl;have f:v.ownBlock≠some b:=λe=>by
  rcases h.2.2 with⟨rfl,_⟩|⟨g,c,cur,rfl,_,hg,_⟩
  .simp[Value.ownBlock]at e
  simp[Value.ownBlock]at e;subst e;rw[h.1]at hg;simp at hg
 have i:=ok.fl;unfold zF at a d i;refine(Ku s b 0 lo hi v w (h.set I) ok.wf I I I f hm.1 I).mono ?_;rintro e w' ⟨v',rfl,h1,h2,h3,h4⟩;refine⟨rfl,v',⟨?_,h1⟩,h3,h4⟩;rw[h2,zc (zc h.1)];simp only[Aq,List.set_cons_zero,CT];have:(s.add lo hi).most=s.most:=by
  unfold Dl.add;split
  .rfl
  split<;>rfl
 rw[this]
def Sh(w:World)(t:Dl)(e:Ending)(w':World):Prop :=
 ∃v,e=.returned (.agg #[v,.int .u64 t.fl,.int .i64 t.most])/\w'.ownsRow 0 214 2 v t.rs.length (zq t.rs)/\(∀g,v.ownBlock=some g->w.heap.size<=g)/\DW DY w w'
theorem Ru:∀(l:zC) (lo hi:Nat) (t:Dl),(∀r∈l,r.2<=zF)->t.Ok->(Ho l lo hi t).Ok
 | [],_,_,_,_,h=>h
 | r::l,lo,hi,t,hl,h=>by
  have a:=hl r AO;have b:min r.2 (lo-1)<=zF:=AJ (Bu _ _) a;unfold Ho;refine Ru l lo hi _ (λr a=>hl r (AW _ a)) ?_;split
  .split
   .exact(h.add _ b).add _ a
   exact h.add _ a
  split
  .exact h.add _ b
  exact h
def It(most:Nat)(h:1<=most/\most<=1099511627776):(⟨[],0,most⟩:Dl).Ok :=
 ⟨⟨λi hi=>absurd hi (A5 i),λi j _ a=>absurd a (A5 j)⟩,λj a=>absurd a (A5 j),AM _,h,AM _⟩
def kZ(tmps:Array Value)(w:World)(a:Nat)(x y z:Value)(h2:tmps.getD 6 undef=.pointer a)(c0:w.cell? a=some x)(c1:w.cell? (a,1)=some y)(c2:w.cell? (a,2)=some z):(results f140 tmps).run prog w=.ok (.agg #[x,y,z]) w:=by
 have b:tmps[6]?.getD undef=.pointer a:=by rw[<-h2];simp
 simp[results,results140,go_sem,b,c0,c1,c2]
def IV(w:World)(rb tb b p q:Nat)(t:Dl)(a:World):Prop :=
 ∃v,Ii a tb v t/\t.Ok/\DW DY w a/\(∀g,v.ownBlock=some g->rb+2<=g/\g≠b)/\a.heap[rb]?=some (.cells #[.slice none 0 0,.int .u64 0,.int .i64 0] 116 (0,0))/\a.heap[b]?=some (.cells #[p,q] 214 (0,0))/\w.heap.size=rb/\tb=rb+1/\rb+2<=b
variable{hi lo p q rb:Nat}
def IV.calls{tb d:Nat}{t:Dl}{b:World}(h:IV w rb tb d p q t b)(c:lo<=zF)(a:hi<=zF):Calls prog 88 #[(tb,0),lo,hi] b λe w'=>e=.returned (.tuple #[])/\IV w rb tb d p q (t.add lo hi) w':=by
 obtain⟨v,h1,h2,h3,h4,h5,f,h7,h8,h9⟩:=h;refine(YQ t tb lo hi v b h1 h2 c a).mono ?_;rintro e w' ⟨rfl,v',k1,k2,k3⟩;have hx:=(AH.1 f).1;refine⟨rfl,v',k1,h2.add lo a,h3.then k2 (λg hg=>.inr ?_),λg hg=>?_,k2.obj (λx=>?_) h5,k2.obj (λx=>?_) f,h7,h8,h9⟩
 .rcases hg with hg|hg
  .omega
  have:=h4 g hg;omega
 .rcases k3 g hg with y|y
  .exact h4 g y
  omega
 .rcases x with x|x
  .omega
  have:=h4 _ x;omega
 rcases x with x|x
 .omega
 exact(h4 _ x).2 rfl
def IV.two{tb a:Nat}{t:Dl}{b:World}(h:IV w rb tb a p q t b):b.cell? a=some (.int .u64 p)/\b.cell? (a,1)=some (.int .u64 q):=by
 obtain⟨v,h1,h2,h3,h4,h5,c,h7,h8,h9⟩:=h;exact⟨za c rfl,za c rfl⟩
def kY(s:Dl)(b o lo hi:Nat)(v:Value)(w:World)(h:El w b o v s.rs s.fl s.most)(ok:s.Ok)(ad:lo<=zF)(ae:hi<=zF):Calls prog 140 #[(b,o),lo,hi] w (Sh w (s.without lo hi)):=by
 obtain⟨a,cap,rfl,q1,q2,q3⟩:=zk h.own;have c0:=h.cl;have c2:=h.cm;obtain⟨N,hN⟩:=nm s.rs.length;obtain⟨R,hR⟩:=nm (s.without lo hi);rw[hR];have G:=zb h.own;have HA:AA (∀k,k<N->∃g,a=some ⟨g,0,none⟩):=zb (λk hk=>q3 I);have f:AA (Ho s.rs lo hi ⟨[],0,s.most⟩=R):=zb hR;have W:=zb ok;have hNb:N<=1099511627776:=by rw[<-hN];exact h.len
 have hS:=It s.most ok.most;have HS:=zb hS;obtain⟨M,hM⟩:=nm s.most;rw[hM]at c2 HS f;rw[hN]at c0 G;have HN:=zb hN;have HM:=zb hM;unfold maxLen at q2;unfold zF at ad ae;clear h ok hR hS q3 hN hM;go_enter func140,ntmps140;go_upto_region 1 with fail;obtain⟨W1,i⟩:=nm (w.alloc (.cells #[.slice none 0 0,.int .u64 0,.int .i64 0] 116));have m1:=AB i;have s1:=AC i;have r1:=AD i;rw[i];have af:=m1.cell (a:=⟨b,_,none⟩) id c2;have X:=m1.cell (a:=⟨b,_,none⟩) id c0;clear c0 c2 i;go_upto_region 2 with fail;obtain⟨W2,j⟩:=nm (W1.alloc (.cells #[.slice none 0 0,.int .u64 0,[M]] 116));have m2:=AB j;have s2:W2.heap.size=w.heap.size+2:=by rw[<-j];simp;omega
 have B:Ii W2 W1.heap.size (.slice none 0 0) ⟨[],0,M⟩:=by rw[<-j];exact⟨heap_alloc_new W1 _,World.ownsRow_nil _ 0 _ 2⟩
 have r2:=m2.obj (λx=>x) r1;rw[j];have c0:=m2.cell (a:=⟨b,_,none⟩) id X;have M2:=zb (m1.trans m2);obtain⟨tb,Y⟩:=nm (w.heap.size+1);rw[s1]at B;rw[Y]at B ⊢;have l:tb=w.heap.size+1:=I;obtain⟨rb,H⟩:=nm w.heap.size;rw[H]at r2 l s2 ⊢;have J:=zb H;clear af X j m1 m2 r1 s1 Y H;go_wp2_with fail;have T2:=zb B;have R2:=zb r2;have C0:=zb c0;have Z:=zb (And.intro l s2);clear c0 B r2 l s2
 go_loopw [20] (λiv wr=>∃(k:Nat) (v:Value) (t:Dl),k<=N/\iv=.int .i64 k/\AA (Ii wr tb v t/\t.Ok/\Ho (s.rs.drop k) lo hi t=R)/\AA (DW DY w wr/\rb+2<=wr.heap.size/\(∀g,v.ownBlock=some g->rb+2<=g)/\wr.heap[rb]?=some (.cells #[.slice none 0 0,.int .u64 0,.int .i64 0] 116 (0,0)))) (λiv _=>N-(intOf iv).toNat)
 case atStart=>exact⟨0,.slice none 0 0,⟨[],0,M⟩,AM _,rfl,zb ⟨T2.z,HS.z,f.z⟩,zb ⟨M2.z,by rw[Z.z.2];omega,λg hg=>by simp[Value.ownBlock]at hg,R2.z⟩⟩
 case round =>
  clear T2 R2 C0 f;obtain⟨k,v,t,hk,rfl,m,c⟩:=hrel;by_cases aa:k<N
  .obtain⟨g,rfl⟩:=HA.z k aa;have r:k<s.rs.length:=by rw[HN.z];exact aa
   obtain⟨x1,x2⟩:=Ir (rs:=s.rs) (n:=N) (cap:=cap) (g:=g) (by rw[HN.z];exact G.z) k r;have x1:=c.z.1.cell (a:=⟨g,_,none⟩) id x1;have x2:=c.z.1.cell (a:=⟨g,_,none⟩) id x2;have u:=W.z.hi k r;have ab:=W.z.wf.1 k r;have Q:AA (Ho (s.rs.drop (k+1)) lo hi (if hi<=DX s.rs k then(if DZ s.rs k<lo then t.add (DZ s.rs k) (min (DX s.rs k) (lo-1))else t).add (max (DZ s.rs k) hi) (DX s.rs k)else(if DZ s.rs k<lo then t.add (DZ s.rs k) (min (DX s.rs k) (lo-1))else t))=R):=by
    have h1:=m.z.2.2;rw[TN r]at h1;exact h1
   obtain⟨p,d⟩:=nm (DZ s.rs k);obtain⟨q,hq⟩:=nm (DX s.rs k);rw[d]at x1 Q ab;rw[hq]at x2 Q u ab;unfold zF at u;clear d hq r;go_upto_region 5 with fail;obtain⟨W4,C⟩:=nm (wr.alloc (.cells #[p,q] 214));obtain⟨S,D⟩:=nm wr.heap.size;have J4:AA (IV w rb tb S p q t W4):=by
    have m4:=AB C;refine zb ⟨v,m.z.1.mod m4 (λx=>x) (λ_ _ x=>x),m.z.2.1,c.z.1.trans m4,λg hg=>⟨c.z.2.2.1 g hg,λe=>?_⟩,m4.obj (λx=>x) c.z.2.2.2,?_,J.z,Z.z.1,?_⟩
    .have:=zK m.z.1.2 g hg;omega
    .rw[<-C,<-D];exact heap_alloc_new wr _
    rw[<-D];exact c.z.2.1
   rw[C,D];obtain⟨y0,y1⟩:=J4.z.two;obtain⟨t1,K⟩:=nm ((if p<lo then t.add p (min q (lo-1))else t));rw[K]at Q;have E:=zb K;obtain⟨B,L⟩:=nm ((if hi<=q then t1.add (max p hi) q else t1));rw[L]at Q;have F:=zb L;clear m c C D K L x1 x2;go_upto_if 27 with fail
   go_cut [] (λwx=>AA (IV w rb tb S p q t1 wx))
   case first =>
    by_cases d:p<lo
    .have d1:(p:Int)<lo:=I;have y:t.add p (min q (lo-1))=t1:=by
      have:=E.z;rw[AQ d]at this;exact this
     have kq:q<=lo-1->Calls prog 88 #[(tb,0),p,q] W4 λe w'=>e=.returned (.tuple #[])/\IV w rb tb S p q t1 w':=λh=>by
      have k:=J4.z.calls (lo:=p) (hi:=q) (by unfold zF;omega) u;rw[<-y,BZ h];exact k
     have kl:lo-1<=q->Calls prog 88 #[(tb,0),p,.int .u64 ((lo:Int)-1)] W4 λe w'=>e=.returned (.tuple #[])/\IV w rb tb S p q t1 w':=λh=>by
      have k:=J4.z.calls (lo:=p) (hi:=lo-1) (by unfold zF;omega) (by unfold zF;omega);rw[<-y,Nat.min_eq_right h];rw[(I:((lo-1:Nat):Int)=(lo:Int)-1)]at k;exact k
     have KQ:=zb kq;have KL:=zb kl;have yw:=wu ((lo:Int)-1) I;clear d y kq kl E;go_wp2_with (go_at_call 88;first|(have z:=KQ.z I;with_reducible refine z.mono ?_;clear z;rintro e w5 ⟨rfl,O⟩;have P:=zb O)|(have z:=KL.z I;with_reducible refine z.mono ?_;clear z;rintro e w5 ⟨rfl,O⟩;have P:=zb O));all_goals go_meet
     all_goals exact P
    have d1:¬(p:Int)<lo:=I;have y:t=t1:=by
     have:=E.z;rw[AI d]at this;exact this
    subst y;clear d E;go_wp2_with fail;go_meet;exact J4
   case rest =>
   have P:=hcut;clear J4 y0 y1;obtain⟨y0,y1⟩:=P.z.two;clear hcut;by_cases d:hi<=q
   .have d1:(hi:Int)<=q:=I;have y:t1.add (max p hi) q=B:=by
     have:=F.z;rw[AQ d]at this;exact this
    have kq:p<=hi->Calls prog 88 #[(tb,0),hi,q] wc λe w'=>e=.returned (.tuple #[])/\IV w rb tb S p q B w':=λh=>by
     have k:=P.z.calls (lo:=hi) (hi:=q) (by unfold zF;omega) u;rw[<-y,Nat.max_eq_right h];exact k
    have kl:hi<=p->Calls prog 88 #[(tb,0),p,q] wc λe w'=>e=.returned (.tuple #[])/\IV w rb tb S p q B w':=λh=>by
     have k:=P.z.calls (lo:=p) (hi:=q) (by unfold zF;omega) u;rw[<-y,Nat.max_eq_left h];exact k
    have KQ:=zb kq;have KL:=zb kl;clear d y kq kl F;go_wp2_with (go_at_call 88;first|(have z:=KQ.z I;with_reducible refine z.mono ?_;clear z;rintro e w5 ⟨rfl,O⟩;have J6:=zb O)|(have z:=KL.z I;with_reducible refine z.mono ?_;clear z;rintro e w5 ⟨rfl,O⟩;have J6:=zb O));all_goals
     go_roundw
     case rel =>
      obtain⟨v6,h1,h2,h3,h4,h5,h6,h7,h8,h9⟩:=J6.z;have:=(AH.1 h6).1;exact⟨k+1,v6,B,I,by go_num,zb ⟨h1,h2,Q.z⟩,zb ⟨h3,I,λg hg=>(h4 g hg).1,h5⟩⟩
     simp[intOf];omega
   have d1:¬(hi:Int)<=q:=I;have y:t1=B:=by
    have:=F.z;rw[AI d]at this;exact this
   subst y;have J6:=P;clear d F;go_wp2_with fail;go_roundw
   case rel =>
    obtain⟨v6,h1,h2,h3,h4,h5,h6,h7,h8,h9⟩:=J6.z;have:=(AH.1 h6).1;exact⟨k+1,v6,t1,I,by go_num,zb ⟨h1,h2,Q.z⟩,zb ⟨h3,I,λg hg=>(h4 g hg).1,h5⟩⟩
   simp[intOf];omega
  have ah:s.rs.length<=k:=by rw[HN.z];omega
  have ai:t=R:=by
   have h1:=m.z.2.2;rw[CC ah]at h1;exact h1
  subst ai;obtain⟨g0,g1,g2⟩:wr.cell? tb=some v/\wr.cell? (U tb 1)=some (.int .u64 t.fl)/\wr.cell? (U tb 2)=some (.int .i64 t.most):=⟨za m.z.1.1 rfl,za m.z.1.1 rfl,za m.z.1.1 rfl⟩;obtain⟨f0,f1,f2⟩:wr.cell? rb=some (.slice none 0 0)/\wr.cell? (U rb 1)=some (.int .u64 0)/\wr.cell? (U rb 2)=some (.int .i64 0):=⟨za c.z.2.2.2 rfl,za c.z.2.2.2 rfl,za c.z.2.2.2 rfl⟩;have fz:∀p,wr.frozen? ⟨rb,p,none⟩=false:=λp=>zg c.z.2.2.2
  obtain⟨T,V,ac,_⟩:=zk m.z.1.2;have aj:AA (Sh w t (.returned (.agg #[.slice T t.rs.length V,.int .u64 t.fl,.int .i64 t.most])) (((wr.setCell rb (.slice T t.rs.length V)).setCell (rb,1) (.int .u64 t.fl)).setCell (rb,2) (.int .i64 t.most))):=by
   have m3:DW (λg=>g=rb) wr (((wr.setCell rb (.slice T t.rs.length V)).setCell (U rb 1) (.int .u64 t.fl)).setCell (U rb 2) (.int .i64 t.most)):=(((DW.refl (λg=>g=rb) wr).setCell (p:=rb) (.inl rfl) _).setCell (p:=U rb 1) (.inl rfl) _).setCell (p:=U rb 2) (.inl rfl) _;refine zb ⟨_,rfl,?_,λg hg=>?_,c.z.1.then m3 (λg hg=>.inr (by rw[J.z,show g=rb from hg];exact AF _))⟩
   .have ho:=m3.owns m.z.1.2 (λg hg x=>by
     have:=c.z.2.2.1 g hg;have x:=x;omega)
    rw[ac]at ho;exact ho
   rw[<-ac]at hg;have:=c.z.2.2.1 g hg;have:=J.z;omega
  have A:AA ((((wr.setCell rb (.slice T t.rs.length V)).setCell (rb,1) (.int .u64 t.fl)).setCell (rb,2) (.int .i64 t.most)).heap[rb]?=some (.cells #[.slice T t.rs.length V,t.fl,[t.most]] 116 (0,0))):=by
   refine zb ?_;rw[zc (zc (zc c.z.2.2.2))];rfl
  go_wp2_with fail
  (try simp only[Exit.inBlock,Exit.then])
  refine bodyPost_ret (kZ _ _ rb (.slice T t.rs.length V) (.int .u64 t.fl) (.int .i64 t.most) rfl (za A.z rfl) (za A.z rfl) (za A.z rfl)) rfl aj.z
variable{V:CV}{W:World}{c:CS}{i k:Nat}{tag:nH}{y:WS}
def zi.storeW2(h:zi tag i b { c with ws:=zf c.ws k y } V W)(hk:k<8)(j:Nat)(hj:j<15)(v:Value)(x:WS)(hx:Fx x (V.wb k) (V.ws k) (V.wc k)=(Fx y (V.wb k) (V.ws k) (V.wc k)).set j v)(h1:x.b=y.b)(h2:x.sent.rs=y.sent.rs)(h3:x.came.rs=y.came.rs):zi tag i b { c with ws:=zf c.ws k x } V (W.setCell (b,9+15*k+j) v):=by
 have:=h.storeW hk j hj v x (by simp only[ze];exact hx) (by simp only[ze];exact h1) (by simp only[ze];exact h2) (by simp only[ze];exact h3);simp only[Kp]at this;exact this
def zi.storeR2{y:RS}(h:zi tag i b { c with rs:=zf c.rs k y } V W)(hk:k<8)(j:Nat)(hj:j<13)(v:Value)(x:RS)(hx:Gp x (V.rb k) (V.rc k)=(Gp y (V.rb k) (V.rc k)).set j v)(h1:x.b=y.b)(h3:x.came.rs=y.came.rs):zi tag i b { c with rs:=zf c.rs k x } V (W.setCell (b,129+13*k+j) v):=by
 have:=h.storeR hk j hj v x (by simp only[ze];exact hx) (by simp only[ze];exact h1) (by simp only[ze];exact h3);simp only[Kp]at this;exact this
end
end Go.Proofs.YtddfdpbaiedcjaaGreatDoor
