/- A part of Given's proof. Conditions: none. Part 4 of 15. -/
import Derived.Stop.Asserts
import Derived.RowKitTokens
import Derived.Test.YtddfdpbaiedcjaaGreatDoorGiv3
set_option maxRecDepth 100000
set_option maxHeartbeats 16000000
set_option linter.all false
namespace Go.Proofs.YtddfdpbaiedcjaaGreatDoor
section
open Go.RowKit Go.Proofs.Tryz
def IC(a fb:Nat):Nat->Prop:=λk=>k=a\/k=fb
def Fb(w:rq)(v:rt)(rs:zE):Prop:=w.ownsRow 0 214 2 v rs.length (zr rs)/\∀i,i<rs.length->DU rs i<18446744073709551616/\DP rs i<18446744073709551616
def Fb.nil(w:rq):Fb w ru []:=⟨World.ownsRow_nil w 0 _ 2,λi a=>absurd a (A6 i)⟩
variable{S:Nat->Prop}{rs:zE}{v:rt}{w w':rq}
def Fb.mod(h:Fb w v rs)(m:DO S w w')(a:∀g,v.ownBlock=some g->¬S g):Fb w' v rs:=⟨m.owns h.1 a,h.2⟩
def Fb.rr(h:Fb w v rs):RR w v rs:=by
 obtain⟨a,c,rfl,e,f,l⟩:=zk h.1;refine⟨a,c,rfl,e,f,λi d=>?_⟩;obtain⟨g,rfl⟩:=l I;have:=Il h.1 i d;exact⟨g,0,rfl,rB this.1,rB this.2,h.2 i d⟩
def IY(w:rq)(v:rt):Prop:=∀g o n c,v=.slice (some ⟨g,o,none⟩) n c->w.heap.size<=g
def f0(k:Int)(b:Bool):DV:={ kind:=k,stream:=0,off:=0,rel:=0,mF:=0,fin:=b,id:=0,dl:=0,data:=[],lF:=[] }
def J8(w:rq)(a:Nat)(v:rt)(fb:Nat)(r:Option (DV×Nat))(e:Ending)(w':rq):Prop :=
 (∃f c p,r=some (f,p)/\e=.returned (.tuple #[])/\EH w' a v p/\zl w' fb f c/\Fb w' c f.lF/\IY w c/\DO (IC a fb) w w')\/(r=none/\e=EA/\DO (IC a fb) w w')
variable{rb:Nat}
def Ei{fb:Nat}(m:DO (ES rb) w w'):DO (IC rb fb) w w':=m.mono (λ_ h=>.inl (.inl h))
def IY.nil(w:rq):IY w (.slice none 0 0):=λ_ _ _ _ h=>by cases h
def ot(c fb a:Nat)(v:rt)(b:Bool)(w:rq)(h:EH w c v a)(d:zl w fb (f0 1 b) (.slice none 0 0)):rT 171 #[(c,0),(fb,0)] w (J8 w c v fb (some (f0 1 b,a))):=by
 go_enter func171,ntmps171;go_wp2_with fail;exact bodyPost_end (results_none rfl _ _ _) rfl (.inl ⟨_,_,_,rfl,rfl,h,d,Fb.nil w,IY.nil w,DO.refl _ _⟩)
variable{b i:Nat}{f:DV}{rv:rt}
def zl.set{f':DV}{rv':rt}(h:zl w b f rv)(a:(zj f rv).setIfInBounds i v=zj f' rv'):zl (w.setCell (b,i) v) b f' rv':=by
 unfold zl at h ⊢;rw[zc h,a]
variable{bs:rC}{p pos:Nat}
def IM{n:Nat}(h:Dt bs pos=some (n,p)):p<=bs.length:=(Ef h).2.1
theorem Rg{n:Nat}(h:Fe bs pos=some (n,p)):p<=bs.length:=by
 unfold Fe at h;cases hr:Dt bs pos with
 | none=>rw[hr]at h;cases h
 | some q =>
  rw[hr]at h;simp only[AX]at h;split at h
  .cases h;exact IM hr
  cases h
variable{l:rC}
theorem RI(h:F8 bs pos=some (l,p)):p<=bs.length:=by
 unfold F8 at h;cases hr:Dt bs pos with
 | none=>rw[hr]at h;cases h
 | some q =>
  rw[hr]at h;have:=IM hr;simp only[AX]at h;split at h
  .cases h;omega
  cases h
def G9(b:Bool)(bs:rC)(a:Nat):Option (DV×Nat) :=
 (Fe bs a).bind fun(x1,p1)=>(Dt bs p1).bind fun(x2,p2)=>(Dt bs p2).bind fun(x3,p3)=>some ({ f0 3 b with stream:=(x1:Int),off:=x2,rel:=x3 },p3)
theorem Nh(f fb d:Nat)(v:rt)(bs:rC)(b:Bool)(w:rq)(h:EH w f v d)(hb:BR w v bs)(hv:Dj (IC f fb) v)(hp:d<=bs.length)(hf:zl w fb (f0 3 b) (.slice none 0 0))(u:fb≠f):rT 177 #[(f,0),(fb,0)] w (J8 w f v fb (G9 b bs d)):=by
 have z:Dj (ES f) v:=λg o n c e a=>hv g o n c e<|.inl a
 have c:w=w:=rfl;have X:=zb<|DO.refl (ES f) w;have Y:=zb hb;have Hf:=zb hf;have A:=zb z;have B:=zb u;clear hb hv hf z u c;have c1:=Rl f d v bs w h (Y.z) A.z hp;cases hr1:Fe bs d with
 | none =>
  rw[hr1]at c1;have E:AA (G9 b bs d=none):=by
   show _=_;unfold G9;simp only[hr1,AX,BU]
  clear hr1;go_enter func177,ntmps177;go_wp2_with (go_at_call 178;refine c1.mono ?_;rintro e w' (⟨_,_,a,_⟩|⟨_,l,K⟩);cases a;unfold EA at l;subst l);exact⟨rfl,.inr ⟨E.z,rfl,Ei<|K⟩⟩
 | some q1 =>
  obtain⟨N,p1⟩:=q1;rw[hr1]at c1;have Z:=Rg hr1;have q:=zb hr1;clear hr1;go_enter func177,ntmps177;go_wp2_with fail;refine c1.mono ?_;rintro e w1 (⟨_,_,a,rfl,h1,m1⟩|⟨a,_⟩);rotate_left
  .cases a
  simp only[A5,Ax,BJ]at a;obtain⟨rfl,rfl⟩:=a;have s:=zb<|X.z.trans m1;clear c1 m1;have c2:=Gq f p1 v bs w1 h1 (Y.z.mod s.z A.z) A.z Z;cases hr2:Dt bs p1 with
  | none =>
   rw[hr2]at c2;have E:AA (G9 b bs d=none):=by
    show _=_;unfold G9;simp only[q.z,hr2,AX,BU]
   clear hr2;go_wp2_with (go_at_call 127;refine c2.mono ?_;rintro e w' (⟨_,_,a,_⟩|⟨_,l,K⟩);cases a;unfold EA at l;subst l);exact⟨rfl,.inr ⟨E.z,rfl,Ei<|s.z.trans K⟩⟩
  | some q2 =>
   obtain⟨T,p2⟩:=q2;rw[hr2]at c2;have aa:=IM hr2;have O:=zb hr2;clear hr2;go_wp2_with fail;refine c2.mono ?_;rintro e w2 (⟨_,_,a,rfl,h2,m2⟩|⟨a,_⟩);rotate_left
   .cases a
   simp only[A5,Ax,BJ]at a;obtain⟨rfl,rfl⟩:=a;have t:=zb<|s.z.trans m2;clear c2 m2;have c3:=Gq f p2 v bs w2 h2 (Y.z.mod t.z A.z) A.z aa;cases hr3:Dt bs p2 with
   | none =>
    rw[hr3]at c3;have E:AA (G9 b bs d=none):=by
     show _=_;unfold G9;simp only[q.z,O.z,hr3,AX,BU]
    clear hr3;go_wp2_with (go_at_call 127;refine c3.mono ?_;rintro e w' (⟨_,_,a,_⟩|⟨_,l,K⟩);cases a;unfold EA at l;subst l);exact⟨rfl,.inr ⟨E.z,rfl,Ei<|t.z.trans K⟩⟩
   | some q3 =>
    obtain⟨x3,p3⟩:=q3;rw[hr3]at c3;have c:=IM hr3;have ab:=zb hr3;clear hr3;go_wp2_with fail;refine c3.mono ?_;rintro e w3 (⟨_,_,a,rfl,h3,m3⟩|⟨a,_⟩);rotate_left
    .cases a
    simp only[A5,Ax,BJ]at a;obtain⟨rfl,rfl⟩:=a;have a:=zb<|t.z.trans m3;clear c3 m3;have d:=zb h3;have c:=Hf.z.mod a.z B.z;obtain⟨f,h,l,o,s,t,u,z,A,E⟩:=c.cells;have f:∀j,w3.frozen? ⟨fb,j,none⟩=false:=λj=>zg c
    have f:=zb c;clear c h3;go_wp2_with fail;refine bodyPost_end (results_none rfl _ _ _) rfl (.inl ⟨{ f0 3 b with stream:=(N:Int),off:=T,rel:=x3 },.slice none 0 0,p3,?_,rfl,?_,?_,Fb.nil _,IY.nil w,(((((((Ei a.z)).setCell (p:=U fb 1) (.inl<|.inr rfl) _)).setCell (p:=U fb 2) (.inl<|.inr rfl) _)).setCell (p:=U fb 3) (.inl<|.inr rfl) _)⟩)
    .unfold G9;simp only[q.z,O.z,ab.z,AX]
    .exact d.z.mod ((((DO.refl (λk=>k=fb) _).setCell (p:=U fb 1) rj _).setCell (p:=U fb 2) rj _).setCell (p:=U fb 3) rj _) (λe=>B.z e.symm)
    exact(((f.z).set (i:=1) (v:=.int .i64 N) (f':={ f0 3 b with stream:=(N:Int) }) (rv':=.slice none 0 0) rfl).set (i:=2) (v:=.int .u64 T) (f':={ f0 3 b with stream:=(N:Int),off:=T }) (rv':=.slice none 0 0) rfl).set (i:=3) (v:=.int .u64 x3) (f':={ f0 3 b with stream:=(N:Int),off:=T,rel:=x3 }) (rv':=.slice none 0 0) rfl
def GW(b:Bool)(bs:rC)(a:Nat):Option (DV×Nat) :=
 (Fe bs a).bind fun(x1,p1)=>(Dt bs p1).bind fun(x2,p2)=>(F8 bs p2).bind fun(x3,p3)=>some ({ f0 4 b with stream:=(x1:Int),off:=x2,data:=x3 },p3)
theorem Ng(f fb d:Nat)(v:rt)(bs:rC)(b:Bool)(w:rq)(h:EH w f v d)(hb:BR w v bs)(hv:Dj (IC f fb) v)(hp:d<=bs.length)(hf:zl w fb (f0 4 b) (.slice none 0 0))(u:fb≠f):rT 182 #[(f,0),(fb,0)] w (J8 w f v fb (GW b bs d)):=by
 have z:Dj (ES f) v:=λg o n c e a=>hv g o n c e<|.inl a
 have c:w=w:=rfl;have X:=zb<|DO.refl (ES f) w;have Y:=zb hb;have Hf:=zb hf;have A:=zb z;have B:=zb u;clear hb hv hf z u c;have c1:=Rl f d v bs w h (Y.z) A.z hp;cases hr1:Fe bs d with
 | none =>
  rw[hr1]at c1;have E:AA (GW b bs d=none):=by
   show _=_;unfold GW;simp only[hr1,AX,BU]
  clear hr1;go_enter func182,ntmps182;go_wp2_with (go_at_call 178;refine c1.mono ?_;rintro e w' (⟨_,_,a,_⟩|⟨_,l,K⟩);cases a;unfold EA at l;subst l);exact⟨rfl,.inr ⟨E.z,rfl,Ei<|K⟩⟩
 | some q1 =>
  obtain⟨N,p1⟩:=q1;rw[hr1]at c1;have Z:=Rg hr1;have q:=zb hr1;clear hr1;go_enter func182,ntmps182;go_wp2_with fail;refine c1.mono ?_;rintro e w1 (⟨_,_,a,rfl,h1,m1⟩|⟨a,_⟩);rotate_left
  .cases a
  simp only[A5,Ax,BJ]at a;obtain⟨rfl,rfl⟩:=a;have s:=zb<|X.z.trans m1;clear c1 m1;have c2:=Gq f p1 v bs w1 h1 (Y.z.mod s.z A.z) A.z Z;cases hr2:Dt bs p1 with
  | none =>
   rw[hr2]at c2;have E:AA (GW b bs d=none):=by
    show _=_;unfold GW;simp only[q.z,hr2,AX,BU]
   clear hr2;go_wp2_with (go_at_call 127;refine c2.mono ?_;rintro e w' (⟨_,_,a,_⟩|⟨_,l,K⟩);cases a;unfold EA at l;subst l);exact⟨rfl,.inr ⟨E.z,rfl,Ei<|s.z.trans K⟩⟩
  | some q2 =>
   obtain⟨T,p2⟩:=q2;rw[hr2]at c2;have aa:=IM hr2;have O:=zb hr2;clear hr2;go_wp2_with fail;refine c2.mono ?_;rintro e w2 (⟨_,_,a,rfl,h2,m2⟩|⟨a,_⟩);rotate_left
   .cases a
   simp only[A5,Ax,BJ]at a;obtain⟨rfl,rfl⟩:=a;have t:=zb<|s.z.trans m2;clear c2 m2;have c3:=Us f p2 v bs w2 h2 (Y.z.mod t.z A.z) A.z aa;cases hr3:F8 bs p2 with
   | none =>
    rw[hr3]at c3;have E:AA (GW b bs d=none):=by
     show _=_;unfold GW;simp only[q.z,O.z,hr3,AX,BU]
    clear hr3;go_wp2_with (go_at_call 183;refine c3.mono ?_;rintro e w' (⟨_,_,a,_⟩|⟨_,l,K⟩);cases a;unfold EA at l;subst l);exact⟨rfl,.inr ⟨E.z,rfl,Ei<|t.z.trans K⟩⟩
   | some q3 =>
    obtain⟨x3,p3⟩:=q3;rw[hr3]at c3;have c:=RI hr3;have ab:=zb hr3;clear hr3;go_wp2_with fail;refine c3.mono ?_;rintro e w3 (⟨_,_,a,rfl,h3,m3⟩|⟨a,_⟩);rotate_left
    .cases a
    simp only[A5,Ax,BJ]at a;obtain⟨rfl,rfl⟩:=a;have a:=zb<|t.z.trans m3;clear c3 m3;have d:=zb h3;have c:=Hf.z.mod a.z B.z;obtain⟨f,h,l,o,s,t,u,z,A,E⟩:=c.cells;have f:∀j,w3.frozen? ⟨fb,j,none⟩=false:=λj=>zg c
    have f:=zb c;clear c h3;go_wp2_with fail;refine bodyPost_end (results_none rfl _ _ _) rfl (.inl ⟨{ f0 4 b with stream:=(N:Int),off:=T,data:=x3 },.slice none 0 0,p3,?_,rfl,?_,?_,Fb.nil _,IY.nil w,(((((((Ei a.z)).setCell (p:=U fb 1) (.inl<|.inr rfl) _)).setCell (p:=U fb 2) (.inl<|.inr rfl) _)).setCell (p:=U fb 8) (.inl<|.inr rfl) _)⟩)
    .unfold GW;simp only[q.z,O.z,ab.z,AX]
    .exact d.z.mod ((((DO.refl (λk=>k=fb) _).setCell (p:=U fb 1) rj _).setCell (p:=U fb 2) rj _).setCell (p:=U fb 8) rj _) (λe=>B.z e.symm)
    exact(((f.z).set (i:=1) (v:=.int .i64 N) (f':={ f0 4 b with stream:=(N:Int) }) (rv':=.slice none 0 0) rfl).set (i:=2) (v:=.int .u64 T) (f':={ f0 4 b with stream:=(N:Int),off:=T }) (rv':=.slice none 0 0) rfl).set (i:=8) (v:=.string<|zu x3) (f':={ f0 4 b with stream:=(N:Int),off:=T,data:=x3 }) (rv':=.slice none 0 0) rfl
def GQ(b:Bool)(bs:rC)(a:Nat):Option (DV×Nat) :=
 (Fe bs a).bind fun(x1,p1)=>(Dt bs p1).bind fun(x2,p2)=>some ({ f0 6 b with stream:=(x1:Int),mF:=x2 },p2)
theorem Nf(f fb a:Nat)(v:rt)(bs:rC)(b:Bool)(w:rq)(h:EH w f v a)(hb:BR w v bs)(Y:Dj (IC f fb) v)(hp:a<=bs.length)(Z:zl w fb (f0 6 b) (.slice none 0 0))(q:fb≠f):rT 188 #[(f,0),(fb,0)] w (J8 w f v fb (GQ b bs a)):=by
 have s:Dj (ES f) v:=λg o n c e d=>Y g o n c e<|.inl d
 have c:w=w:=rfl;have B:=zb<|DO.refl (ES f) w;have Hb:=zb hb;have Hf:=zb Z;have E:=zb s;have t:=zb q;clear hb Y Z s q c;have c1:=Rl f a v bs w h (Hb.z) E.z hp;cases hr1:Fe bs a with
 | none =>
  rw[hr1]at c1;have K:AA (GQ b bs a=none):=by
   show _=_;unfold GQ;simp only[hr1,AX,BU]
  clear hr1;go_enter func188,ntmps188;go_wp2_with (go_at_call 178;refine c1.mono ?_;rintro e w' (⟨_,_,d,_⟩|⟨_,u,N⟩);cases d;unfold EA at u;subst u);exact⟨rfl,.inr ⟨K.z,rfl,Ei<|N⟩⟩
 | some q1 =>
  obtain⟨A,p1⟩:=q1;rw[hr1]at c1;have O:=Rg hr1;have z:=zb hr1;clear hr1;go_enter func188,ntmps188;go_wp2_with fail;refine c1.mono ?_;rintro e w1 (⟨_,_,d,rfl,h1,m1⟩|⟨d,_⟩);rotate_left
  .cases d
  simp only[A5,Ax,BJ]at d;obtain⟨rfl,rfl⟩:=d;have l:=zb<|B.z.trans m1;clear c1 m1;have c2:=Gq f p1 v bs w1 h1 (Hb.z.mod l.z E.z) E.z O;cases hr2:Dt bs p1 with
  | none =>
   rw[hr2]at c2;have K:AA (GQ b bs a=none):=by
    show _=_;unfold GQ;simp only[z.z,hr2,AX,BU]
   clear hr2;go_wp2_with (go_at_call 127;refine c2.mono ?_;rintro e w' (⟨_,_,d,_⟩|⟨_,u,N⟩);cases d;unfold EA at u;subst u);exact⟨rfl,.inr ⟨K.z,rfl,Ei<|l.z.trans N⟩⟩
  | some q2 =>
   obtain⟨T,p2⟩:=q2;rw[hr2]at c2;have a:=IM hr2;have X:=zb hr2;clear hr2;go_wp2_with fail;refine c2.mono ?_;rintro e w2 (⟨_,_,d,rfl,h2,m2⟩|⟨d,_⟩);rotate_left
   .cases d
   simp only[A5,Ax,BJ]at d;obtain⟨rfl,rfl⟩:=d;have a:=zb<|l.z.trans m2;clear c2 m2;have d:=zb h2;have c:=Hf.z.mod a.z t.z;obtain⟨f,h,l,o,q,s,u,B,E,K⟩:=c.cells;have f:∀j,w2.frozen? ⟨fb,j,none⟩=false:=λj=>zg c
   have f:=zb c;clear c h2;go_wp2_with fail;refine bodyPost_end (results_none rfl _ _ _) rfl (.inl ⟨{ f0 6 b with stream:=(A:Int),mF:=T },.slice none 0 0,p2,?_,rfl,?_,?_,Fb.nil _,IY.nil w,(((((Ei a.z)).setCell (p:=U fb 1) (.inl<|.inr rfl) _)).setCell (p:=U fb 4) (.inl<|.inr rfl) _)⟩)
   .unfold GQ;simp only[z.z,X.z,AX]
   .exact d.z.mod (((DO.refl (λk=>k=fb) _).setCell (p:=U fb 1) rj _).setCell (p:=U fb 4) rj _) (λe=>t.z e.symm)
   exact((f.z).set (i:=1) (v:=.int .i64 A) (f':={ f0 6 b with stream:=(A:Int) }) (rv':=.slice none 0 0) rfl).set (i:=4) (v:=.int .u64 T) (f':={ f0 6 b with stream:=(A:Int),mF:=T }) (rv':=.slice none 0 0) rfl
def G8(b:Bool)(bs:rC)(a:Nat):Option (DV×Nat) :=
 (Dt bs a).bind fun(x1,p1)=>(Dt bs p1).bind fun(x2,p2)=>(F8 bs p2).bind fun(x3,p3)=>some ({ f0 7 b with id:=x1,dl:=x2,data:=x3 },p3)
theorem Nd(f fb d:Nat)(v:rt)(bs:rC)(b:Bool)(w:rq)(h:EH w f v d)(hb:BR w v bs)(hv:Dj (IC f fb) v)(hp:d<=bs.length)(hf:zl w fb (f0 7 b) (.slice none 0 0))(u:fb≠f):rT 190 #[(f,0),(fb,0)] w (J8 w f v fb (G8 b bs d)):=by
 have z:Dj (ES f) v:=λg o n c e a=>hv g o n c e<|.inl a
 have c:w=w:=rfl;have X:=zb<|DO.refl (ES f) w;have Y:=zb hb;have Hf:=zb hf;have A:=zb z;have B:=zb u;clear hb hv hf z u c;have c1:=Gq f d v bs w h (Y.z) A.z hp;cases hr1:Dt bs d with
 | none =>
  rw[hr1]at c1;have E:AA (G8 b bs d=none):=by
   show _=_;unfold G8;simp only[hr1,AX,BU]
  clear hr1;go_enter func190,ntmps190;go_wp2_with (go_at_call 127;refine c1.mono ?_;rintro e w' (⟨_,_,a,_⟩|⟨_,l,K⟩);cases a;unfold EA at l;subst l);exact⟨rfl,.inr ⟨E.z,rfl,Ei<|K⟩⟩
 | some q1 =>
  obtain⟨N,p1⟩:=q1;rw[hr1]at c1;have Z:=IM hr1;have q:=zb hr1;clear hr1;go_enter func190,ntmps190;go_wp2_with fail;refine c1.mono ?_;rintro e w1 (⟨_,_,a,rfl,h1,m1⟩|⟨a,_⟩);rotate_left
  .cases a
  simp only[A5,Ax,BJ]at a;obtain⟨rfl,rfl⟩:=a;have s:=zb<|X.z.trans m1;clear c1 m1;have c2:=Gq f p1 v bs w1 h1 (Y.z.mod s.z A.z) A.z Z;cases hr2:Dt bs p1 with
  | none =>
   rw[hr2]at c2;have E:AA (G8 b bs d=none):=by
    show _=_;unfold G8;simp only[q.z,hr2,AX,BU]
   clear hr2;go_wp2_with (go_at_call 127;refine c2.mono ?_;rintro e w' (⟨_,_,a,_⟩|⟨_,l,K⟩);cases a;unfold EA at l;subst l);exact⟨rfl,.inr ⟨E.z,rfl,Ei<|s.z.trans K⟩⟩
  | some q2 =>
   obtain⟨T,p2⟩:=q2;rw[hr2]at c2;have aa:=IM hr2;have O:=zb hr2;clear hr2;go_wp2_with fail;refine c2.mono ?_;rintro e w2 (⟨_,_,a,rfl,h2,m2⟩|⟨a,_⟩);rotate_left
   .cases a
   simp only[A5,Ax,BJ]at a;obtain⟨rfl,rfl⟩:=a;have t:=zb<|s.z.trans m2;clear c2 m2;have c3:=Us f p2 v bs w2 h2 (Y.z.mod t.z A.z) A.z aa;cases hr3:F8 bs p2 with
   | none =>
    rw[hr3]at c3;have E:AA (G8 b bs d=none):=by
     show _=_;unfold G8;simp only[q.z,O.z,hr3,AX,BU]
    clear hr3;go_wp2_with (go_at_call 183;refine c3.mono ?_;rintro e w' (⟨_,_,a,_⟩|⟨_,l,K⟩);cases a;unfold EA at l;subst l);exact⟨rfl,.inr ⟨E.z,rfl,Ei<|t.z.trans K⟩⟩
   | some q3 =>
    obtain⟨x3,p3⟩:=q3;rw[hr3]at c3;have c:=RI hr3;have ab:=zb hr3;clear hr3;go_wp2_with fail;refine c3.mono ?_;rintro e w3 (⟨_,_,a,rfl,h3,m3⟩|⟨a,_⟩);rotate_left
    .cases a
    simp only[A5,Ax,BJ]at a;obtain⟨rfl,rfl⟩:=a;have a:=zb<|t.z.trans m3;clear c3 m3;have d:=zb h3;have c:=Hf.z.mod a.z B.z;obtain⟨f,h,l,o,s,t,u,z,A,E⟩:=c.cells;have f:∀j,w3.frozen? ⟨fb,j,none⟩=false:=λj=>zg c
    have f:=zb c;clear c h3;go_wp2_with fail;refine bodyPost_end (results_none rfl _ _ _) rfl (.inl ⟨{ f0 7 b with id:=N,dl:=T,data:=x3 },.slice none 0 0,p3,?_,rfl,?_,?_,Fb.nil _,IY.nil w,(((((((Ei a.z)).setCell (p:=U fb 6) (.inl<|.inr rfl) _)).setCell (p:=U fb 7) (.inl<|.inr rfl) _)).setCell (p:=U fb 8) (.inl<|.inr rfl) _)⟩)
    .unfold G8;simp only[q.z,O.z,ab.z,AX]
    .exact d.z.mod ((((DO.refl (λk=>k=fb) _).setCell (p:=U fb 6) rj _).setCell (p:=U fb 7) rj _).setCell (p:=U fb 8) rj _) (λe=>B.z e.symm)
    exact(((f.z).set (i:=6) (v:=.int .u64 N) (f':={ f0 7 b with id:=N }) (rv':=.slice none 0 0) rfl).set (i:=7) (v:=.int .u64 T) (f':={ f0 7 b with id:=N,dl:=T }) (rv':=.slice none 0 0) rfl).set (i:=8) (v:=.string<|zu x3) (f':={ f0 7 b with id:=N,dl:=T,data:=x3 }) (rv':=.slice none 0 0) rfl
def GK(k:Int)(b:Bool)(bs:rC)(a:Nat):Option (DV×Nat):=(Dt bs a).bind fun(x1,p1)=>some ({ f0 k b with mF:=x1 },p1)
theorem Ty(f fb c a:Nat)(k:Int)(v:rt)(bs:rC)(b:Bool)(w:rq)(h:EH w f v a)(hb:BR w v bs)(A:Dj (IC f fb) v)(N:a<=bs.length)(B:zl w fb (f0 k b) (.slice none 0 0))(l:fb≠f)
  (o:w c=some (.func (.func 186) #[] #[])) :
  rT 214 #[(f,0),(fb,0),(c,0)] w (J8 w f v fb<|GK k b bs a):=by
 have q:Dj (ES f) v:=λg o n c e d=>A g o n c e<|.inl d
 have c1:=Gq f a v bs w h hb q N;have O:=zb B;have s:=zb l;clear hb A B q l h;cases hr1:Dt bs a with
 | none =>
  rw[hr1]at c1;have T:AA (GK k b bs a=none):=by show _=_;unfold GK;rw[hr1];rfl
  clear hr1;go_enter func214,ntmps214;go_wp2_with (first|(go_at_call 186;refine(Q6 _ _).mono ?_;rintro e w' ⟨rfl,rfl⟩)|(go_at_call 127;refine c1.mono ?_;rintro e w' (⟨_,_,d,_⟩|⟨_,E,X⟩);cases d;unfold EA at E;subst E));exact⟨rfl,.inr ⟨T.z,rfl,Ei X⟩⟩
 | some q1 =>
  obtain⟨t,p1⟩:=q1;rw[hr1]at c1;have u:=zb hr1;clear hr1;go_enter func214,ntmps214;go_wp2_with (go_at_call 186;refine(Q6 _ _).mono ?_;rintro e w' ⟨rfl,rfl⟩);refine c1.mono ?_;rintro e Y (⟨_,_,d,rfl,K,z⟩|⟨d,_⟩);rotate_left
  .cases d
  simp only[A5,Ax,BJ]at d;obtain⟨rfl,rfl⟩:=d;have c:=zb z;have d:=zb K;have a:=O.z.mod z s.z;obtain⟨f,h,l,o,q,A,B,E,N,O⟩:=a.cells;have f:∀j,Y.frozen? ⟨fb,j,none⟩=false:=λj=>zg a
  have f:=zb a;clear a K c1 z;go_wp2_with fail;refine bodyPost_end (results_none rfl _ _ _) rfl (.inl ⟨{ f0 k b with mF:=t },.slice none 0 0,p1,?_,rfl,?_,?_,Fb.nil _,IY.nil w,((Ei c.z).setCell (p:=U fb 4) (.inl<|.inr rfl) _)⟩)
  .unfold GK;simp only[u.z,AX]
  .exact d.z.mod ((DO.refl (λk=>k=fb) _).setCell (p:=U fb 4) rj _) (λe=>s.z e.symm)
  exact(f.z).set (i:=4) (v:=.int .u64 t) (f':={ f0 k b with mF:=t }) (rv':=.slice none 0 0) rfl
def Ie(bs:rC):Nat->Nat->Nat->Nat->Nat->zE->Option (zE×Nat)
 | 0,_,_,_,_,_=>none
 | fuel+1,hi,n,size,pos,acc =>
  if hi<size then none
  else if n=0 then some (acc++[(hi-size,hi)],pos)
  else(Dt bs pos).bind λa=>(Dt bs a.2).bind λc =>
   if hi-size<2\/hi-size-2<a.1 then none else Ie bs fuel (hi-size-2-a.1) (n-1) c.1 c.2 (acc++[(hi-size,hi)])
def FH(b:Bool)(bs:rC)(a:Nat):Option (DV×Nat) :=
 (Dt bs a).bind λa=>(Dt bs a.2).bind λc=>(Dt bs c.2).bind λd =>
  (Ie bs (bs.length+1) a.1 c.1 d.1 d.2 []).bind λr=>some ({ f0 2 b with lF:=r.1 },r.2)
def g8:(prog.info? 214).map (λi=>(i.zero,i.size,i.bytes))=some (some (.agg #[.int .u64 0,.int .u64 0]),2,16):=kw
def Tx(w:rq)(v:rt)(rs:zE)(lo hi:Nat)(h:w.ownsRow 0 214 2 v rs.length (zr rs))(a:rs.length<=1099511627776):∃c w',(∀a,(Builtin.append_ #[63,63] a #[v,.slice w 1 1]).run prog (w.alloc (.cells #[lo,hi] 214))=.ok c w') /\
   w'.ownsRow 0 214 2 c (rs++[(lo,hi)]).length (zr<|rs++[(lo,hi)])/\w.grownBy w' v.ownBlock/\D4 w v c:=by
 obtain⟨i,e,p,f,l⟩:=info_parts g8;have a:∀(j:Nat) u,(zr [(lo,hi)])[j]?=some u->(w.alloc<|.cells #[lo,hi] 214) ((⟨w.heap.size,0,none⟩:Addr).add j)=some u:=by
  intro j u q;rw[zX];refine za (heap_alloc_new w _) ?_;rw[Aw,<-Array.getElem?_toList];exact q
 obtain⟨c,w',s,t,d,z,q⟩:=Kz (P:=prog) (w.alloc<|.cells #[lo,hi] 214) 63 214 i (.agg #[.int .u64 0,.int .u64 0]) 2 16 underlying63 e p f l rfl lc v rs.length (zr rs) (World.ownsRow.alloc h _)
  ⟨w.heap.size,0,none⟩ 1 1 (zr [(lo,hi)]) rfl a (by intro u o;simp[zr]at o;rcases o with rfl|rfl<;>rfl) lw I
 refine⟨c,w',s,?_,?_,?_⟩
 .rw[AG,Jt];exact t
 .exact⟨d.os,d.tape,d.output,AK lm d.size,λk a c=>(d.block k ls c).trans<|Below.heap_alloc w _ k a⟩
 intro k a;rcases z k a with x|x
 .exact .inl x
 exact .inr<|by simp at x;omega
end
section
open Go.RowKit Go.Proofs.Tryz Go.Shelf
attribute [local go_sem] Oper.semAt_some
variable{P:Program}{Q:Exit->Act->rq->Prop}{ops:Array Oper}{w w1:rq}
def kX{F:Fence}{n:Nat}{rest:List Oper}{o:Oper}{a:Act}(c:o.guard=none)(s x:Operand)(t u:TypeId)
  (e:o.op=.call { callee:=.builtin .append,args:=#[s,x],argTypes:=#[t,u] }) (l p v':rt) (q:a.eval s=l) (v:a.eval x=p)
  (DY:∀s,(Builtin.append_ #[t,u] s #[l,p]).run P w=.ok v' w1) (h:wpListIn F n P ops Q rest (a.put o.dst v') w1):wpListIn F n P ops Q (o::rest) a w:=by
 refine wpListIn_plain c λK z=>?_
 have d:=DY o.type;unfold Oper.wpIn;refine⟨by simp[Oper.about,e,resolve,Target.leads,Sem.run_pure],?_⟩;rw[Oper.semAt_plain F _ _ (by rw[e];intro c f;cases f)];simp[execOp,e,resolve,invoke,builtin,q,v,d,Result.andThen];exact z _ _ h
variable{S:Nat->Prop}{w':rq}
def DO.putObj(h:DO S w w'){l:Nat}(c:S l\/w.heap.size<=l)(o:Obj):DO S w (w'.putObj l o) :=
 ⟨h.os,h.tape,h.output,rB h.size,λi d a=>(World.putObj_heap_other (λe=>by
  subst e;rcases c with x|x
  .exact a x
  omega)).trans (h.block i d a)⟩
def WD{F:Fence}{n:Nat}{g:Operand}{d:Array Tmp}{assign body:Code}{a:Act}(e:F.round=none)(o:1<=n){gf:Nat}{lb:Array rt}(p:a.eval g=.func (.func gf) #[] lb)
  (f:F.fn gf) (q:∀args w,(callFunc gf args).run P w=.ok (.enter gf args) w)
  (h:∀fn,F.fn fn->CallsIn F (n-1) P gf (#[.func (.yield<|w.heap.size+1) #[] #[]]++lb) ((w.alloc<|.deferred<|some []).alloc<|.loop { state:=.ready,pending:=none,fn:=fn,tmps:=a.tmps,params:=d,assign:=assign,body:=body,defers:=w.heap.size })
   (rangePost F n P (w.heap.size+1) Q { a with defers:=[{ target:=.collected w.heap.size,args:=#[] }]++a.defers })) :
  (Code.rangeFunc g d assign body).wpIn F n P Q a w:=by
 refine wpIn_rangeFunc λfn l=>⟨_,_,_,{ target:=.fn (.func gf) lb,args:=#[.func (.yield<|w.heap.size+1) #[] #[]] },(w.alloc<|.deferred<|some []).alloc<|.loop { state:=.ready,pending:=none,fn:=fn,tmps:=a.tmps,params:=d,assign:=assign,body:=body,defers:=w.heap.size },gf,_,_,by rw[e];exact run_enterLoop_outer _ _ _ _ _,?_,?_,?_,λ_=>o,h fn l⟩
 .simp only[resolve,p];simp[go_sem]
 .intro a c;simp[Target.leads]at c;subst c;exact f
 simp[invoke,go_sem,q]
variable{base e sz:Nat}{v:rt}{xs:rF}
def Xz{n:Nat}(h:w.ownsRow base e sz v n xs):∀g,v.ownBlock=some g->g<w.heap.size:=by
 intro g a;rcases h.2 with⟨rfl,rfl⟩|⟨e,c,d,rfl,_,f,h,l,_⟩
 .cases a
 simp[Value.ownBlock]at a;subst a;exact(AI.1 f).1
def Vd(rs:zE)(k:Nat)(a:k<=rs.length):(FG rs k).map (·.2)=rs.reverse.take k:=by
 apply List.ext_getElem
 .simp[FG,a]
 intro i a c;have c:i<rs.length:=by simp[FG]at a;omega
 simp[FG,DU,DP,Am,List.getElem_reverse,(I:rs.length-1-i<rs.length)]
variable{X:rq}{rs:zE}
def ef{l:zE}(h:X.ownsRow 0 214 2 v l.length (zr l))(a:∀i,i<rs.length->DU rs i<18446744073709551616/\DP rs i<18446744073709551616)(c:∀x∈l,x∈rs):RR X v l:=by
 refine Fb.rr ⟨h,λi d=>?_⟩;have e:(DU l i,DP l i)∈l:=by
  have:l[i]?=some (DU l i,DP l i):=by simp[DU,DP,Am,AJ d]
  exact AW this
 obtain⟨j,d⟩:=Ct<|c _ e;have c:=(AO.1 d).1;have:=a j c;have a:DU rs j=DU l i:=by unfold DU at *;simp[Am,d]
 have a:DP rs j=DP l i:=by unfold DP at *;simp[Am,d]
 omega
end
section
open Go.RowKit Go.Proofs.Tryz Go.Shelf
attribute [local go_sem] Oper.semAt_some
structure Ml(w:rq)(rec:Loop)(pre:zE)(v:rt)(X:rq):Prop where
 mod:DO DQ w X
 bx:Boxed X w.heap.size 63 v
 own:X.ownsRow 0 214 2 v pre.length (zr pre)
 new:∀g,v.ownBlock=some g->w.heap.size<=g
 df:X.heap[w.heap.size+1]?=some (.deferred<|some [])
 rc:X.heap[w.heap.size+2]?=some (.loop rec)
variable{w:rq}
def Ml.nt{l:Loop}:OwnFrom (w.heap.size+3) (λpre X=>∃v,Ml w l pre v X):=by
 rintro pre A B row ⟨v,h⟩ f l;refine⟨v,?_⟩;have c:∀k,k<w.heap.size+3->some k≠row:=λk o e=>pp<|(l k e.symm).1
 have q:=rp.grown f<|λk o=>.inl o;refine⟨h.mod.then q<|λi o=>.inr<|pp<|(l i o).1,h.bx.kept f<|c _ I,q.owns h.own<|λg a q=>?_,h.new,?_,?_⟩
 .obtain⟨_,o,s,p⟩:=l g q;rcases h.own.2 with⟨e,_⟩|⟨q,l,o,e,_,d,_⟩
  .rw[e]at a;cases a
  rw[e]at a;simp[Value.ownBlock]at a;subst a;rw[s]at d;cases d;cases p
 .exact(f.block _ (AI.1 h.df).1<|c _ I).trans h.df
 exact(f.block _ (AI.1 h.rc).1<|c _ I).trans h.rc
def Qh(rs:zE)(w:rq)(e:Ending)(W':rq):Prop :=
 ∃v,e=.returned v/\W'.ownsRow 0 214 2 v rs.length (zr rs.reverse)/\(∀g,v.ownBlock=some g->w.heap.size<=g)/\DO DQ w W'
def ee(F:Fence)(n:Nat)(ae:∀f,F.fn f)(ak:F.round=none)(hn:7<=n)(rs:zE)(fl aw b sB:Nat)(v:rt)(w:rq)(h:Eh w b 0 v rs fl aw)(ax:∀i,i<rs.length->DU rs i<18446744073709551616/\DP rs i<18446744073709551616)(ay:w sB=some (.pointer b)):CallsIn F n prog 195 #[.slice none 0 0,.func (.func 193) #[] #[.pointer sB]] w (Qh rs w):=by
 obtain⟨a,aP,rfl,f,o2,o3⟩:=zk h.own;have f:=zm h.cl;have f:=zm ay;have az:∀g o,a=some ⟨g,o,none⟩->g<w.heap.size:=λg o e=>Xz h.own g<|by rw[e];rfl
 have aQ:=Fb.rr ⟨h.own,ax⟩;have aR:=h.cl;have f:=h.len;clear h;have f:1<=n:=I;refine callsIn_of_wp_marks func195 rfl (ae _) ?_ ak;simp only[ntmps195,An,AS,Ae,Nat.reduceAdd,Nat.reduceSub,BC,BB,BK,BE,Aq,BS];gi_wp2;refine WD ak f (gf:=193) (lb:=#[.pointer sB]) rfl (ae _) (enters_of func193 kw rfl) ?_;intro fn f;generalize hrec:Loop.mk .ready none fn _ _ _ _ _=rec;have f:(w.alloc<|.cells #[ru] 63).heap.size=w.heap.size+1:=lm;rw[f]at hrec ⊢;have h:w.heap.size+1+1=w.heap.size+2:=rfl;obtain⟨W1,q⟩:=nm<|((w.alloc<|.cells #[ru] 63).alloc<|.deferred<|some []).alloc<|.loop rec;have m1:DO DQ w W1:=by rw[<-q];exact((rp.alloc _).alloc _).alloc _
 have aS:W1.heap.size=w.heap.size+3:=by rw[<-q];simp
 have bs:=m1.cell (a:=sB) id ay;have h:Boxed W1 w.heap.size 63 (.slice none 0 0):=by
  rw[<-q];exact((Boxed.new w _ _).alloc _).alloc _
 have aT:W1.heap[w.heap.size+1]?=some (.deferred<|some []):=by
  rw[<-q];have:=World.alloc_heap_new (w.alloc<|.cells #[ru] 63)<|.deferred<|some [];rw[f]at this;exact(Below.heap_alloc _ _ _ lm).trans this
 have aU:W1.heap[w.heap.size+2]?=some (.loop rec):=by
  rw[<-q];have:=World.alloc_heap_new ((w.alloc<|.cells #[ru] 63).alloc<|.deferred<|some [])<|.loop rec;rw[World.size_alloc,f]at this;exact this
 rw[q];have aV:Ml w rec [] (.slice none 0 0) W1:=⟨m1,h,World.ownsRow_nil _ 0 _ 2,(λg d=>by cases d),aT,aU⟩;clear q;have f:=A8 Loop.assign hrec.symm;dsimp only at f;have h:=A8 Loop.body hrec.symm;dsimp only at h;have q:=A8 Loop.tmps hrec.symm;dsimp only at q;have aA:rec.params=#[7]:=by rw[<-hrec]
 have aB:rec.state=.ready:=by rw[<-hrec]
 have aC:rec.pending=none:=by rw[<-hrec]
 have aD:=zb aC;have aW:=zb f;have aX:=zb h;have aY:=zb q;have aE:=zb aA;have al:=zb aB;clear hrec f h q aA aB aC;refine(cw F (n-1) ae ak I (w.heap.size+2) sB b w.heap.size aP a rs
  (λpre X=>∃v,Ml w rec pre v X)
  (λ_ _=>False) W1 ?hY ?hJ ?hJx bs (m1.cell (a:=b) id aR) (aQ.mod m1<|Dj.no _) I I (λg o e=>pp<|az g o e) ⟨_,aV⟩).mono ?post
 case hJ=>rw[aS];exact Ml.nt
 case hJx=>intro _ _ _ _ x;exact x.elim
 case hY =>
  rintro m pre x X ⟨v,K⟩ f;have f:pre.length<=1099511627776:=I;have HX:=zb K;have f:=(AI.1 K.rc).1;refine⟨_,_,_,_,run_yield K.rc<|by rw[aE.z];rfl,roundIn_of_wpIn (ae _) ?_⟩;rw[aW.z,aX.z,aY.z,aE.z];unfold L8;clear K;gi_wp2;have aF:(X.alloc<|.cells #[x.1,x.2] 214).heap[w.heap.size+2]?=some (.loop rec):=(Below.heap_alloc _ _ _ f).trans HX.z.rc;refine⟨_,run_beginRound aF al.z,?_⟩;obtain⟨u,s⟩:∃u,(X.alloc<|.cells #[x.1,x.2] 214).putObj (w.heap.size+2) (.loop { rec with state:=.busy })=u:=⟨_,rfl⟩;have m2:DO (λk=>k=w.heap.size\/k=w.heap.size+2\/v.ownBlock=some k) X u:=by
   rw[<-s];exact((DO.refl (λk=>k=w.heap.size\/k=w.heap.size+2\/v.ownBlock=some k) _).alloc _).putObj (.inl<|.inr rj) _
  have O:u.heap[w.heap.size+2]?=some (.loop { rec with state:=.busy }):=by
   rw[<-s];exact World.putObj_heap_same ls
  have am:u.heap[X.heap.size]?=some (.cells #[x.1,x.2] 214 (0,0)):=by
   rw[<-s];exact(World.putObj_heap_other I).trans (heap_alloc_new X _)
  have an:∀k,k<X.heap.size->k≠w.heap.size+2->u.heap[k]?=X.heap[k]?:=λk l hn=>by
   rw[<-s];exact(World.putObj_heap_other hn).trans (Below.heap_alloc _ _ _ l)
  have aG:DO (λk=>k=w.heap.size+2) X u:=by
   rw[<-s];exact((DO.refl (λk=>k=w.heap.size+2) X).alloc _).putObj rj _
  rw[s];have af:Boxed u w.heap.size 63 v:=(an _ I I).trans HX.z.bx;have ag:=(an _ I I).trans HX.z.df;have N:=aG.owns HX.z.own (λg d e=>by
   have e:=e;subst e;rcases HX.z.own.2 with⟨e,_⟩|⟨g',cp,T,e,_,c,_⟩
   .rw[e]at d;cases d
   rw[e]at d;simp[Value.ownBlock]at d;rw[d,HX.z.rc]at c;cases c)
  have ao:=HX.z.new;have Y:∀k,v.ownBlock=some k->Ja w.heap.size (w.heap.size+2) a X k:=λk l=>by
   refine .inr<|.inr ⟨λg o e=>pu (az g o e)<|ao k l,?_⟩;rcases HX.z.own.2 with⟨e,_⟩|⟨g',cp,T,e,_,c,_⟩
   .rw[e]at l;cases l
   rw[e]at l;simp[Value.ownBlock]at l;subst l;exact⟨_,_,c⟩
  have f:=m2.size;obtain⟨va,vc,rfl,_⟩:=zk N;obtain⟨v3,W3,ap,Z,aa,aH⟩:=Tx u (.slice va pre.length vc) pre x.1 x.2 N I;have ah:∀k,k=w.heap.size\/k=w.heap.size+1\/k=w.heap.size+2->some k≠(Value.slice va pre.length vc).ownBlock:=λk l e=>by
   rcases N.2 with⟨A,_⟩|⟨g',cp,T,A,_,c,_⟩
   .rw[A]at e;cases e
   rw[A]at e;simp[Value.ownBlock]at e;subst e;rcases l with rfl|rfl|rfl
   .rw[show u.heap[w.heap.size]?=_ from af]at c;simp at c
   .rw[ag]at c;cases c
   rw[O]at c;cases c
  have ab:=af.kept aa<|ah _ rj;have aq:=(aa.block _ (AI.1 ag).1<|ah _<|.inr rj).trans ag;have ar:=(aa.block _ (AI.1 O).1<|ah _<|.inr<|.inr rfl).trans O;have m3:=m2.grown aa<|λk l=>.inl<|.inr<|.inr l;have m4:=m3.setCell (p:=w.heap.size) (.inl rj) v3;have ac:=ab.set v3;have ad:DO (λk=>k=w.heap.size) W3 (W3.setCell w.heap.size v3):=(DO.refl (λk=>k=w.heap.size) W3).setCell (p:=w.heap.size) rj _;have ai:=(ad.block _ (AI.1 ar).1 I).trans ar;have aj:=(ad.block _ (AI.1 aq).1 I).trans aq;have z:(W3.setCell w.heap.size v3).ownsRow 0 214 2 v3 (pre++[x]).length (zr<|pre++[x]):=ad.owns Z (λg d e=>by
   have e:=e;subst e;rcases Z.2 with⟨A,_⟩|⟨g',cp,T,A,_,c,_⟩
   .rw[A]at d;cases d
   rw[A]at d;simp[Value.ownBlock]at d;rw[d,show W3.heap[w.heap.size]?=_ from ab]at c;simp at c)
  have B:∀g,v3.ownBlock=some g->w.heap.size<=g:=λg d=>by
   rcases aH g d with q|q
   .exact ao g q
   omega
  obtain⟨vb,vd,rfl,_⟩:=zk z;have E:(pre++[x]).length=pre.length+1:=lm;rw[E]at ap;have f:=ab.cell;have f:=ab.frozen;have f:=ac.cell;have h:=af.cell;have h:u X=some (.int .u64 x.1):=za am rfl;have h:u (X,1)=some (.int .u64 x.2):=za am rfl;rw[E]at m4 ac ad ai aj z B f;obtain⟨h,p⟩:=nm<|W3.setCell w.heap.size<|.slice vb (pre.length+1) vd;rw[p]at m4 ac ai aj z f;have f:AA (DO (Ja w.heap.size (w.heap.size+2) a X) X h):=m4.mono (λk l=>.inl (by
   rcases l with l|l|l
   .exact .inl l
   .exact .inr (.inl l)
   exact Y k l))
  have au:AA (DO DQ w h):=HX.z.mod.then m4 (λk l=>.inr (by
   rcases l with l|l|l
   .omega
   .omega
   exact ao k l))
  have p:=HX.z.mod.size;have aI:=zb ac;have av:=zb ai;have aZ:=zb aj;have aJ:=zb z;have aK:=zb B;clear m4 ac ad ai aj z B Z aa aH ah Y an aG m2 m3 O ag ar aq af ab N s am aF
  gi_wp2_with (gi_at_builtin;refine kX rfl _ _ _ _ rfl _ _ _ rfl rfl ap ?_;clear ap)
  refine⟨_,_,run_endRound none av.z,f.z.putObj (.inl<|.inr rj) _,rfl,.slice vb (pre.length+1) vd,?_⟩;have aL:=(AI.1 av.z).1;have mp:=λo=>(DO.refl (λk=>k=w.heap.size+2) h).putObj rj o
  have a0:∀g,(Value.slice vb (pre.length+1) vd).ownBlock=some g->¬g=w.heap.size+2:=λg d e=>by
   subst e;rcases aJ.z.2 with⟨e,_⟩|⟨g',cp,T,e,_,c,_⟩
   .rw[e]at d;cases d
   rw[e]at d;simp[Value.ownBlock]at d;rw[d,av.z]at c;cases c
  refine⟨au.z.putObj (.inr I) _,(World.putObj_heap_other I).trans aI.z,by rw[E];exact(mp _).owns aJ.z a0,aK.z,(World.putObj_heap_other I).trans aZ.z,?_⟩;rw[World.putObj_heap_same aL];have aM:=aD.z;have aN:=al.z;cases rec;simp only at aM aN;subst aM;subst aN;rfl
 case post =>
  rintro e X ⟨⟨f,rfl⟩,⟨v,K⟩|⟨k,l,hx⟩⟩
  .have f:=run_endLoop (P:=prog) K.rc (by rw[al.z];simp);rw[aD.z]at f;refine⟨none,_,f,?_⟩;clear f;obtain⟨u,s⟩:∃u,X.putObj (w.heap.size+2) (.loop { rec with state:=.exhausted,pending:=none })=u:=⟨_,rfl⟩;have hm:DO (λk=>k=w.heap.size+2) X u:=by rw[<-s];exact(DO.refl (λk=>k=w.heap.size+2) _).putObj rj _
   have hb:=hm.cell (a:=w.heap.size) lm K.bx.cell;have hd:=hm.obj lm K.df;have ho:=hm.owns K.own (λg d e=>by
    have e:=e;subst e;rcases K.own.2 with⟨A,_⟩|⟨g',cp,T,A,_,c,_⟩
    .rw[A]at d;cases d
    rw[A]at d;simp[Value.ownBlock]at d;rw[d,K.rc]at c;cases c)
   have a:=zb s;have au:=zb<|K.mod.then hm<|λi a=>.inr I;have HO:=zb ho;have f:=zb K.new;rw[s];clear hm K ho s;gi_wp2;refine⟨lm,.inl ⟨_,_,rfl,run_takeDeferred hd,?_⟩⟩;have a:(FG rs rs.length).map (·.2)=rs.reverse:=by rw[Vd rs rs.length ro,Ab lm]
   have O:rs.reverse.length=rs.length:=lm;rw[a]at HO;refine⟨_,results_tmp (t:=4) rfl _ _ _,v,rfl,?_,f.z,au.z.putObj (.inr I) _⟩;have aO:=((DO.refl (λk=>k=w.heap.size+1) u).putObj rj<|.deferred none).owns HO.z (λg d e=>by
    have e:=e;subst e;rcases HO.z.2 with⟨A,_⟩|⟨g',cp,T,A,_,c,_⟩
    .rw[A]at d;cases d
    rw[A]at d;simp[Value.ownBlock]at d;rw[d,hd]at c;cases c)
   rw[O]at aO;exact aO
  exact hx.elim
def g6(F:Fence)(n:Nat)(c:∀f,F.fn f)(d:F.round=none)(u:8<=n)(rs:zE)(fl a b l:Nat)(v:rt)(w:rq)(h:Eh w b 0 v rs fl a)(e:∀i,i<rs.length->DU rs i<18446744073709551616/\DP rs i<18446744073709551616)(o:w l=some (.pointer b)):CallsIn F n prog 143 #[.func (.func 193) #[] #[.pointer l]] w (Qh rs w):=by
 have k:=ee F (n-1) c d I rs fl a b l v w h e o;have K:=zb k;have a:1<=n:=I;clear h k;refine callsIn_of_wp func143 rfl (c _) ?_ d;simp only[ntmps143,An,AS,Ae,Nat.reduceAdd,Nat.reduceSub,BC,BB,BK,BE,Aq,BS]
 gi_wp2_with (gi_at_call 195;refine K.z.mono ?_;rintro e w' ⟨q,rfl,s,p,t⟩)
 go_ret;exact⟨q,rfl,s,p,t⟩
def iu(rs:zE)(fl a b d:Nat)(v:rt)(w:rq)(h:Eh w b 0 v rs fl a)(c:∀i,i<rs.length->DU rs i<18446744073709551616/\DP rs i<18446744073709551616)(e:w d=some (.pointer b)):rT 143 #[.func (.func 193) #[] #[.pointer d]] w (Qh rs w) :=
 (callsIn_wide (n:=8)).1 (g6 Fence.wide 8 (λ_=>trivial) rfl ro rs fl a b d v w h c e)
def ec(b:Nat)(w:rq):rT 141 #[(b,0)] w λe w'=>e=.returned (.func (.func 193) #[] #[.pointer w])/\w'=w.alloc (.cells #[(b,0)] 114) :=
 (callsIn_wide (n:=8)).1 (X1 Fence.wide 8 trivial rfl b w)
end
section
open Go.RowKit Go.Proofs.Tryz
def JV(w:rq)(a:Nat):Nat:=match w (a,1)with
 | some (.int _ n)=>n.toNat
 | _=>0
variable{pos rb:Nat}{v:rt}{w:rq}
def Oz(h:EH w rb v pos):JV w rb=pos:=by
 unfold JV;rw[h.c1];simp
def Pn(w wr:rq)(f fb:Nat)(v:rt)(b:Bool)(bs:rC)(hi n d:Nat)(R:Option (zE×Nat)):Prop :=
 ∃fuel c a e,EH wr f v c/\zl wr fb { f0 2 b with lF:=a } e/\wr.ownsRow 0 214 2 e a.length (zr a)/\(∀g,e.ownBlock=some g->w.heap.size<=g) /\
  (∀i,i<a.length->DU a i<18446744073709551616/\DP a i<18446744073709551616)/\c<=bs.length/\bs.length-c<fuel/\a.length<=c/\DO (IC f fb) w wr /\
  hi<4611686018427387904/\n<4611686018427387904/\d<4611686018427387904/\Ie bs fuel hi n d c a=R
variable{hi lo:Nat}
def ik{a:zE}(h:∀i,i<a.length->DU a i<18446744073709551616/\DP a i<18446744073709551616)(e:lo<18446744073709551616)(f:hi<18446744073709551616):∀i,i<(a++[(lo,hi)]).length->DU (a++[(lo,hi)]) i<18446744073709551616/\DP (a++[(lo,hi)]) i<18446744073709551616:=by
 intro i d;by_cases c:i<a.length
 .have:=h i c;unfold DU DP at this ⊢;rw[Am,Al c,<-List.getD_eq_getElem?_getD];exact this
 have:i=a.length:=by simp at d;omega
 subst this;simp[DU,DP,e,f]
variable{e g m o sz:Nat}{xs:rF}
def eW{n c:Nat}(h:w.ownsRow 0 e sz v n xs)(a:v=.slice (g,o) m c):v.ownBlock=some g:=by
 rcases h.2 with⟨rfl,_⟩|⟨e,c,d,rfl,_⟩
 .cases a
 cases a;rfl
variable{b:Nat}{f:DV}{rv:rt}
def WI{n:Nat}(h:w.ownsRow 0 214 2 v n xs)(a:zl w b f rv):¬v.ownBlock=some b:=by
 intro hb;rcases h.2 with⟨rfl,_⟩|⟨g,c,d,rfl,_,e,_⟩
 .cases hb
 simp[Value.ownBlock]at hb;subst hb;unfold zl at a;rw[e]at a;simp at a
variable{v':rt}
def WP{n:Nat}(h:w.ownsRow 0 214 2 v n xs)(a:EH w b v' pos):¬v.ownBlock=some b:=by
 intro hb;rcases h.2 with⟨rfl,_⟩|⟨g,c,d,rfl,_,e,_⟩
 .cases hb
 simp[Value.ownBlock]at hb;subst hb;unfold EH at a;rw[e]at a;simp at a
theorem ij(B fb d:Nat)(v:rt)(bs:rC)(b:Bool)(w:rq)(h:EH w B v d)(hb:BR w v bs)(hv:Dj (IC B fb) v)(hp:d<=bs.length)(c:bs.length<=1099511627776)(hf:zl w fb (f0 2 b) (.slice none 0 0))(ay:fb≠B):rT 174 #[(B,0),(fb,0)] w (J8 w B v fb (FH b bs d)):=by
 have az:Dj (ES B) v:=λg o n c e a=>hv g o n c e<|.inl a
 have aM:=zb<|DO.refl (ES B) w;have Hb:=zb hb;have Hf:=zb hf;have Hv:=zb az;have aA:=zb hv;have an:=zb ay;clear hb hv hf az ay;have c1:=Gq B d v bs w h (Hb.z) Hv.z hp;cases hr1:Dt bs d with
 | none =>
  rw[hr1]at c1;have K:AA (FH b bs d=none):=by
   show _=_;unfold FH;simp only[hr1,AX,BU]
  clear hr1;go_enter func174,ntmps174;go_wp2_with (go_at_call 127;refine c1.mono ?_;rintro e w' (⟨_,_,a,_⟩|⟨_,t,Y⟩);cases a;unfold EA at t;subst t);exact⟨rfl,.inr ⟨K.z,rfl,Ei<|Y⟩⟩
 | some q1 =>
  obtain⟨x1,p1⟩:=q1;rw[hr1]at c1;have aN:=IM hr1;have aB:=(Ef hr1).2.2;have f:=zb hr1;clear hr1;go_enter func174,ntmps174;go_wp2_with fail;refine c1.mono ?_;rintro e w1 (⟨_,_,a,rfl,h1,m1⟩|⟨a,_⟩);rotate_left
  .cases a
  simp only[A5,Ax,BJ]at a;obtain⟨rfl,rfl⟩:=a;have ao:=zb<|aM.z.trans m1;clear c1 m1;have c2:=Gq B p1 v bs w1 h1 (Hb.z.mod ao.z Hv.z) Hv.z aN;cases hr2:Dt bs p1 with
  | none =>
   rw[hr2]at c2;have K:AA (FH b bs d=none):=by
    show _=_;unfold FH;simp only[f.z,hr2,AX,BU]
   clear hr2;go_wp2_with (go_at_call 127;refine c2.mono ?_;rintro e w' (⟨_,_,a,_⟩|⟨_,t,Y⟩);cases a;unfold EA at t;subst t);exact⟨rfl,.inr ⟨K.z,rfl,Ei<|ao.z.trans Y⟩⟩
  | some q2 =>
   obtain⟨x2,p2⟩:=q2;rw[hr2]at c2;have aO:=IM hr2;have aC:=(Ef hr2).2.2;have aD:=zb hr2;clear hr2;go_wp2_with fail;refine c2.mono ?_;rintro e w2 (⟨_,_,a,rfl,h2,m2⟩|⟨a,_⟩);rotate_left
   .cases a
   simp only[A5,Ax,BJ]at a;obtain⟨rfl,rfl⟩:=a;have ap:=zb<|ao.z.trans m2;clear c2 m2;have c3:=Gq B p2 v bs w2 h2 (Hb.z.mod ap.z Hv.z) Hv.z aO;cases hr3:Dt bs p2 with
   | none =>
    rw[hr3]at c3;have K:AA (FH b bs d=none):=by
     show _=_;unfold FH;simp only[f.z,aD.z,hr3,AX,BU]
    clear hr3;go_wp2_with (go_at_call 127;refine c3.mono ?_;rintro e w' (⟨_,_,a,_⟩|⟨_,t,Y⟩);cases a;unfold EA at t;subst t);exact⟨rfl,.inr ⟨K.z,rfl,Ei<|ap.z.trans Y⟩⟩
   | some q3 =>
    obtain⟨x3,p3⟩:=q3;rw[hr3]at c3;have aP:=IM hr3;have aE:=(Ef hr3).2.2;have aQ:=zb hr3;clear hr3;go_wp2_with fail;refine c3.mono ?_;rintro e w3 (⟨_,_,a,rfl,h3,m3⟩|⟨a,_⟩);rotate_left
    .cases a
    simp only[A5,Ax,BJ]at a;obtain⟨rfl,rfl⟩:=a;have aF:=zb<|ap.z.trans m3;clear c3 m3;obtain⟨R,hR⟩:=nm<|Ie bs (bs.length+1) x1 x2 x3 p3 [];have hA:Pn w w3 B fb v b bs x1 x2 x3 R:=⟨bs.length+1,p3,[],.slice none 0 0,h3,Hf.z.mod aF.z an.z,World.ownsRow_nil w3 0 _ 2,(λg hg=>by cases hg),(λi s=>absurd s<|A6 i),aP,I,AN _,Ei aF.z,aB,aC,aE,hR⟩;have c:=zb hA;have Z:AA (FH b bs d=R.bind λr=>some ({ f0 2 b with lF:=r.1 },r.2)):=by
     show _=_;unfold FH;simp only[f.z,aD.z,aQ.z,AX,hR]
    clear hA hR h3 h2 h1 h aB aC aE;go_wp2_with fail
    go_loopw [4,5,6,7,8] (λs n A _ _ wr=>∃hi' n' size':Nat,s=.int .u64 hi'/\n=.int .u64 n'/\A=.int .u64 size'/\Pn w wr B fb v b bs hi' n' size' R) (λ_ _ _ _ _ wr=>bs.length-JV wr B)
    case atStart=>exact⟨x1,x2,x3,rfl,rfl,rfl,c.z⟩
    case round =>
     obtain⟨s,n,A,rfl,rfl,rfl,fuel,q,l,rv,ab,O,u,ac,aq,hq,c,f,Y,h,b2,b3,hR⟩:=hrel;obtain⟨fuel,rfl⟩:∃f,fuel=f+1:=⟨fuel-1,I⟩;unfold Ie at hR;have aR:=zb ab;have c:=zb O;have c:=zb u;have aj:=zb ac;have aS:=zb aq;have Hm:=zb Y;by_cases d1:s<A
     .rw[AM d1]at hR;have K:AA (FH b bs d=none):=by show _=_;rw[Z.z,<-hR];rfl
      clear hR ab O u ac aq Y;go_wp2_with (go_at_call 128;refine(Jh _ _).mono ?_;rintro e w' ⟨t,rfl⟩;unfold EA at t;subst t);exact⟨rfl,.inr ⟨K.z,rfl,Hm.z⟩⟩
     rw[AH d1]at hR;have c:IntKind.u64.wrap ((s:Int)-A)=((s-A:Nat):Int):=by rw[IntKind.wrap_u64];omega
     obtain⟨z,ar⟩:=nm<|s-A;rw[ar]at c hR;have c:z<=s:=I;obtain⟨c,f,h,A,k4,k5,k6,k7,k8,k9⟩:=O.cells;have c:∀j,wr.frozen? ⟨fb,j,none⟩=false:=λj=>zg O
     obtain⟨c,W2,hr2,ad,aG,aH⟩:=Tx wr rv l z s u I;obtain⟨ra,rc,rfl,_⟩:=zk u;have aI:=zb hR;have c:=WI u O;have f:=WP u ab;have mg:=rp.grown aG<|λk h=>.inl h;have X:=O.mod mg c;have ak:=ab.mod mg f;have c:=X.cells.2.2.2.2.2.2.2.2.2;have c:∀j,W2.frozen? ⟨fb,j,none⟩=false:=λj=>zg X
     obtain⟨a2,c2,rfl,_⟩:=zk ad;have c:=zb ad;have A:=zb X;have aJ:=zb ak;have aT:=zb mg;have aK:=zb aH;have f:=zb ar;clear hR ab O u ac aq Y ad aG aH mg X ak ar;obtain⟨u,au⟩:=nm<|W2.setCell (U fb 9)<|.slice a2 (l.length+1) c2;have f:(l++[(z,s)]).length=l.length+1:=lm;have h:DO (λk=>k=fb) W2 u:=by rw[<-au];exact(DO.refl (λk=>k=fb) W2).setCell (p:=U fb 9) rj _
     have ae:=zb<|aJ.z.mod h<|λe=>an.z e.symm;have al:AA (zl u fb { f0 2 b with lF:=l++[(z,s)] }<|.slice a2 (l.length+1) c2):=by
      show zl _ _ _ _;rw[<-au];exact A.z.set rfl
     have E:AA (u.ownsRow 0 214 2 (.slice a2 (l.length+1) c2) (l++[(z,s)]).length<|zr<|l++[(z,s)]):=by
      show World.ownsRow _ _ _ _ _ _ _;have:=h.owns c.z (λg hg e=>WI c.z A.z (by rw[hg,e]));rw[f]at this ⊢;exact this
     have ah:AA (DO (IC B fb) w u):=(Hm.z.then aT.z<|λi s=>.inr<|aj.z i s).then h<|λi s=>.inl<|.inr s;have af:AA (∀g,(Value.slice a2 (l.length+1) c2).ownBlock=some g->w.heap.size<=g):=by
      intro g hg;have c:D4 wr (Value.slice ra l.length rc) (.slice a2 (l.length+1) c2):=by rw[<-f];exact aK.z
      rcases c g hg with h1|h1
      .exact aj.z g h1
      have:=Hm.z.size;omega
     have am:=zb<|ik aS.z (I:z<18446744073709551616) (I:s<18446744073709551616);have c:=Hb.z.mod ah.z aA.z;have aa:=Gq B q v bs u ae.z c Hv.z hq;clear h f c;by_cases hn:n=0
     .have K:AA (FH b bs d=some ({ f0 2 b with lF:=l++[(z,s)] },q)):=by
       show _=_;have:=aI.z;rw[AM hn]at this;rw[Z.z,<-this];rfl
      have aU:((n:Int)==0)=true:=by simp[hn]
      clear hn aa;go_wp2_with (at_builtin;refine zo rfl _ _ _ _ rfl _ _ _ rfl rfl hr2 ?_);refine bodyPost_ret (results_none rfl _ _ _) rfl (.inl ⟨_,_,q,K.z,rfl,ae.z,al.z,?_,?_,ah.z⟩)
      .exact⟨E.z,am.z⟩
      intro g o n' c e;cases e;exact af.z g<|eW E.z rfl
     have aU:((n:Int)==0)=false:=by rw[AR];omega
     have c:IntKind.u64.wrap ((n:Int)-1)=((n-1:Nat):Int):=by rw[IntKind.wrap_u64];omega
     have N:=aI.z;rw[AH hn]at N;have N:=zb N;cases hg1:Dt bs q with
     | none =>
      rw[hg1]at aa;have K:AA (FH b bs d=none):=by
       show _=_;have:=N.z;rw[hg1]at this;rw[Z.z,<-this];rfl
      clear hg1 hn;go_wp2_with (first|(at_builtin;refine zo rfl _ _ _ _ rfl _ _ _ rfl rfl hr2 ?_)|(go_at_call 127;refine aa.mono ?_;rintro e w' (⟨_,_,a,_⟩|⟨_,t,Y⟩);cases a;unfold EA at t;subst t));exact⟨rfl,.inr ⟨K.z,rfl,ah.z.then (Ei Y)<|λi s=>.inl s⟩⟩
     | some q1 =>
      obtain⟨T,p4⟩:=q1;obtain⟨c,u2,f⟩:=Ef hg1;rw[hg1]at aa;have ai:=zb hg1;clear hg1 hn;go_wp2_with (at_builtin;refine zo rfl _ _ _ _ rfl _ _ _ rfl rfl hr2 ?_);refine aa.mono ?_;rintro e w4 (⟨_,_,a,rfl,h4,m4⟩|⟨a,_⟩);rotate_left
      .cases a
      simp only[A5,Ax,BJ]at a;obtain⟨rfl,rfl⟩:=a;have av:=zb<|ah.z.then (Ei (fb:=fb) m4)<|λi s=>.inl s;have ag:=Gq B p4 v bs w4 h4 (Hb.z.mod av.z aA.z) Hv.z u2;have aV:=zb m4;clear aa m4 h4 au;cases hg2:Dt bs p4 with
      | none =>
       rw[hg2]at ag;have K:AA (FH b bs d=none):=by
        show _=_;have:=N.z;rw[ai.z,AX,hg2]at this;rw[Z.z,<-this];rfl
       clear hg2;go_wp2_with (go_at_call 127;refine ag.mono ?_;rintro e w' (⟨_,_,a,_⟩|⟨_,t,Y⟩);cases a;unfold EA at t;subst t);exact⟨rfl,.inr ⟨K.z,rfl,av.z.then (Ei Y)<|λi s=>.inl s⟩⟩
      | some q2 =>
       obtain⟨size',p5⟩:=q2;obtain⟨c,u5,u6⟩:=Ef hg2;rw[hg2]at ag;have aw:=zb hg2;clear hg2;go_wp2_with fail;refine ag.mono ?_;rintro e w5 (⟨_,_,a,rfl,h5,m5⟩|⟨a,_⟩);rotate_left
       .cases a
       simp only[A5,Ax,BJ]at a;obtain⟨rfl,rfl⟩:=a;have ax:=zb<|av.z.then (Ei (fb:=fb) m5)<|λi s=>.inl s;have aL:=zb<|aV.z.trans m5;have H5:=zb h5;clear ag m5 h5;by_cases d2:z<2
       .have K:AA (FH b bs d=none):=by
         show _=_;have:=N.z;rw[ai.z,AX,aw.z,AX,AM (.inl d2)]at this;rw[Z.z,<-this];rfl
        have e2:decide ((z:Int)<2)=true:=ls;go_wp2_with (go_at_call 128;refine(Jh _ _).mono ?_;rintro e w' ⟨t,rfl⟩;unfold EA at t;subst t);exact⟨rfl,.inr ⟨K.z,rfl,ax.z⟩⟩
       have e2:decide ((z:Int)<2)=false:=ls;have a:IntKind.u64.wrap ((z:Int)-2)=((z-2:Nat):Int):=by rw[IntKind.wrap_u64];omega
       have a:=zb d2;by_cases d3:z-2<T
       .have K:AA (FH b bs d=none):=by
         show _=_;have:=N.z;rw[ai.z,AX,aw.z,AX,AM (.inr d3)]at this;rw[Z.z,<-this];rfl
        have e3:decide (z-2<T)=true:=rB d3;clear d2;go_wp2_with (go_at_call 128;refine(Jh _ _).mono ?_;rintro e w' ⟨t,rfl⟩;unfold EA at t;subst t);exact⟨rfl,.inr ⟨K.z,rfl,ax.z⟩⟩
       have e3:decide (z-2<T)=false:=rB d3;have a:IntKind.u64.wrap (((z-2:Nat):Int)-T)=((z-2-T:Nat):Int):=by rw[IntKind.wrap_u64];omega
       have a:AA (Pn w w5 B fb v b bs (z-2-T) (n-1) size' R):=by
        refine⟨fuel,p5,l++[(z,s)],.slice a2 (l.length+1) c2,H5.z,al.z.mod aL.z an.z,aL.z.owns E.z<|λg hg e=>WP E.z ae.z<|by rw[hg,e],af.z,am.z,u5,I,ls,ax.z,I,I,u6,?_⟩;have:=N.z;rw[ai.z,AX,aw.z,AX,AH I]at this;exact this
       have c:AA (JV w5 B=p5/\JV wr B=q):=⟨Oz H5.z,Oz aR.z⟩;clear d2;go_wp2_with fail;go_roundw
       case rel=>exact⟨z-2-T,n-1,size',by rfl,by rfl,rfl,a.z⟩
       case measure =>
        rw[c.z.1,c.z.2];omega
def zM(k:Int)(b:Bool)(bs:rC)(a:Nat):Option (DV×Nat) :=
 if k=1 then some (f0 1 b,a)
 else if k=2 then FH b bs a
 else if k=3 then G9 b bs a
 else if k=4 then GW b bs a
 else if k=5 then GK 5 b bs a
 else if k=6 then GQ b bs a
 else if k=7 then G8 b bs a
 else GK 8 b bs a
def I4(k:Int)(b:Bool)(bs:rC)(v:rt)(w:rq)(e:Ending)(w':rq):Prop :=
 ∃c d F a G,e=.returned (.pointer<|some ⟨c,0,none⟩)/\Ig w' c d (.func (.func F) #[] a) (.func (.func G) #[] #[])/\Eo F/\Eo G/\DO DQ w w'/\w.heap.size<=c /\
  (∀d e c,EH w' d v c->BR w' v bs->Dj (IC d e) v->c<=bs.length->bs.length<=1099511627776->zl w' e (f0 k b) (.slice none 0 0)->e≠d->rT F (#[.pointer (some ⟨d,0,none⟩),.pointer (some ⟨e,0,none⟩)]++a) w' (J8 w' d v e<|zM k b bs c)) /\
  (∀Y a f c,zl Y a f c->RR Y c f.lF->f.kind=k->f.lF.length<=1099511627776->f.data.length<=35184372088832->Ec f=true->rT G #[.pointer (some ⟨a,0,none⟩)] Y (Ix Y<|zR f))
def Tu:Eo 214:=Fv func214 kw rfl
def cK:Eo 188:=Fv func188 kw rfl
def dL:Eo 190:=Fv func190 kw rfl
def dK:Eo 171:=Fv func171 kw rfl
def dJ:Eo 177:=Fv func177 kw rfl
def dI:Eo 182:=Fv func182 kw rfl
def dH:Eo 174:=Fv func174 kw rfl
def dG(b:Bool)(bs:rC)(v:rt)(w:rq):rT 131 #[.int .i64 1] w (I4 1 b bs v w):=by
 refine(Nq w).mono ?_;rintro e w' ⟨a,rfl,c,d,hb⟩;refine⟨a,_,171,#[],172,rfl,c,dK,Ik,d,hb,λd e a h hb l o p c f=>by rw[show zM 1 b bs a=some (f0 1 b,a)by simp[zM]];exact ot d e a v b w' h c,λY d f e c c a h hd l=>?_⟩;rw[show zR f=(true)by simp[zR,a]];exact Io _ Y
def dF(b:Bool)(bs:rC)(v:rt)(w:rq):rT 131 #[.int .i64 2] w (I4 2 b bs v w):=by
 refine(Np w).mono ?_;rintro e w' ⟨a,rfl,c,d,hb⟩;refine⟨a,_,174,#[],175,rfl,c,dH,T3,d,hb,λe f a h hb l o p c d=>by rw[show zM 2 b bs a=FH b bs a by simp[zM]];exact ij e f a v bs b w' h hb l o p c d,λY a f d c e h l hd o=>?_⟩;rw[show zR f=(E4 f.lF)by simp[zR,h]];exact Vt a f d Y c e l
def dD(b:Bool)(bs:rC)(v:rt)(w:rq):rT 131 #[.int .i64 3] w (I4 3 b bs v w):=by
 refine(No w).mono ?_;rintro e w' ⟨a,rfl,c,d,hb⟩;refine⟨a,_,177,#[],179,rfl,c,dJ,T5,d,hb,λe f a h hb l o p c d=>by rw[show zM 3 b bs a=G9 b bs a by simp[zM]];exact Nh e f a v bs b w' h hb l o c d,λY a f d c h e l hd o=>?_⟩;rw[show zR f=(decide<|f.rel<=f.off)by simp[zR,e]];exact SH a f d Y c
def dC(b:Bool)(bs:rC)(v:rt)(w:rq):rT 131 #[.int .i64 4] w (I4 4 b bs v w):=by
 refine(Nn w).mono ?_;rintro e w' ⟨a,rfl,c,d,hb⟩;refine⟨a,_,182,#[],184,rfl,c,dI,T4,d,hb,λe f a h hb l o p c d=>by rw[show zM 4 b bs a=GW b bs a by simp[zM]];exact Ng e f a v bs b w' h hb l o c d,λY a f d c l e o hd h=>?_⟩;rw[show zR f=(decide<|f.data.length+f.off<=4611686018427387903)by simp[zR,e]];exact SG a f d Y c (Rh h).1 I
def dB(b:Bool)(bs:rC)(v:rt)(w:rq):rT 131 #[.int .i64 5] w (I4 5 b bs v w):=by
 refine(Nm w).mono ?_;rintro e w' ⟨a,l,f,rfl,d,c,h,hb,_,_⟩;refine⟨a,_,_,_,172,rfl,d,Tu,Ik,h,hb,λl o a h hb p q s e d=>by rw[show zM 5 b bs a=GK 5 b bs a by simp[zM]];exact Ty l o f a 5 v bs b w' h hb p q e d c.2,λY c f d e e a h hd l=>?_⟩;rw[show zR f=(true)by simp[zR,a]];exact Io _ Y
def YS(b:Bool)(bs:rC)(v:rt)(w:rq):rT 131 #[.int .i64 6] w (I4 6 b bs v w):=by
 refine(Nl w).mono ?_;rintro e w' ⟨a,rfl,c,d,hb⟩;refine⟨a,_,188,#[],172,rfl,c,cK,Ik,d,hb,λe f a h hb l o p d c=>by rw[show zM 6 b bs a=GQ b bs a by simp[zM]];exact Nf e f a v bs b w' h hb l o d c,λY c f e d d a h hd l=>?_⟩;rw[show zR f=(true)by simp[zR,a]];exact Io _ Y
def YR(b:Bool)(bs:rC)(v:rt)(w:rq):rT 131 #[.int .i64 7] w (I4 7 b bs v w):=by
 refine(Nk w).mono ?_;rintro e w' ⟨a,rfl,c,d,hb⟩;refine⟨a,_,190,#[],172,rfl,c,dL,Ik,d,hb,λe f a h hb l o p d c=>by rw[show zM 7 b bs a=G8 b bs a by simp[zM]];exact Nd e f a v bs b w' h hb l o d c,λY c f e d d a h hd l=>?_⟩;rw[show zR f=(true)by simp[zR,a]];exact Io _ Y
def YQ(b:Bool)(bs:rC)(v:rt)(w:rq):rT 131 #[.int .i64 8] w (I4 8 b bs v w):=by
 refine(Nj w).mono ?_;rintro e w' ⟨a,l,f,rfl,d,c,h,hb,_,_⟩;refine⟨a,_,_,_,172,rfl,d,Tu,Ik,h,hb,λl o a h hb p q s e d=>by rw[show zM 8 b bs a=GK 8 b bs a by simp[zM]];exact Ty l o f a 8 v bs b w' h hb p q e d c.2,λY c f d e e a h hd l=>?_⟩;rw[show zR f=(true)by simp[zR,a]];exact Io _ Y
def gw(t:UInt8)(k:Int)(a:FP t=some k)(b:Bool)(bs:rC)(v:rt)(w:rq):rT 131 #[[k]] w (I4 k b bs v w):=by
 have c:k=1\/k=2\/k=3\/k=4\/k=5\/k=6\/k=7\/k=8:=by
  unfold FP at a;repeat' split at a
  all_goals simp at a
  all_goals omega
 rcases c with rfl|rfl|rfl|rfl|rfl|rfl|rfl|rfl
 .exact dG b bs v w
 .exact dF b bs v w
 .exact dD b bs v w
 .exact dC b bs v w
 .exact dB b bs v w
 .exact YS b bs v w
 .exact YR b bs v w
 exact YQ b bs v w
def FE(a:List (DV×rt)):List rt:=a.flatMap λx=>(zj x.1 x.2).toList
def kB(a b:List (DV×rt)):FE (a++b)=FE a++FE b:=by simp[FE]
theorem kA(a:List (DV×rt)):(FE a).length=a.length*10:=by
 induction a with
 | nil=>rfl
 | cons x a ih =>
  have:FE (x::a)=(zj x.1 x.2).toList++FE a:=rfl;rw[this,AG,ih];simp[zj];omega
theorem Ur(a:List (DV×rt)):∀i x,a[i]?=some x->∀j u,(zj x.1 x.2)[j]?=some u->(FE a)[i*10+j]?=some u:=by
 induction a with
 | nil=>intro i x h;simp at h
 | cons y a ih =>
  intro i x h j u c;have d:((zj y.1 y.2).toList).length=10:=rfl;have e:FE (y::a)=(zj y.1 y.2).toList++FE a:=rfl;cases i with
  | zero =>
   simp only[List.getElem?_cons_zero,Ax]at h;subst h;have a:j<10:=(AI.1 c).1;rw[e,CP,Aw,Al I,Bk];exact c
  | succ i =>
   simp only[DE]at h;rw[e,(I:(i+1)*10+j=10+(i*10+j)),Aa I,d,Cg];exact ih i x h j u c
def GY(w:rq)(v:rt)(a:List (DV×rt)):Prop:=w.ownsRow 0 65 10 v a.length (FE a)/\∀x∈a,Fb w x.2 x.1.lF
def GY.qA{c:List (DV×rt)}(h:GY w v c):IF w v c:=by
 obtain⟨a,d,rfl,l,o,p⟩:=zk h.1;refine⟨a,d,rfl,l,o,λi f e=>⟨?_,(h.2 f<|AW e).rr⟩⟩;have a:=(AO.1 e).1;obtain⟨g,rfl⟩:=p I;refine⟨g,0,rfl,λj x a=>?_⟩;have:=h.1.cells (g:=g) rfl _ _ (Ur c i f e j x a);rw[zX]at this;rw[Aw]at this
 rwa [Aw]
def gu:(prog.info? 65).map (λi=>(i.zero,i.size,i.bytes))=some (some (.agg #[.int .i64 0,.int .i64 0,.int .u64 0,.int .u64 0,.int .u64 0,.bool false,.int .u64 0,.int .u64 0,.string ⟨#[]⟩,.slice none 0 0]),10,104):=kw
def ig(f:DV)(a:rE)(n c:Nat):∀u∈(zj f (.slice a n c)).toList,u.oneCell'=true:=by
 intro u d;simp[zj]at d;rcases d with rfl|rfl|rfl|rfl|rfl|rfl|rfl|rfl|rfl|rfl<;>rfl
def Tt(w:rq)(v:rt)(d:List (DV×rt))(f:DV)(a:rE)(n c:Nat)(h:w.ownsRow 0 65 10 v d.length (FE d))(e:d.length<=1099511627776):∃l w',(∀e,(Builtin.append_ #[54,54] e #[v,.slice w 1 1]).run prog (w.alloc (.cells (zj f (.slice a n c)) 65))=.ok l w') /\
   w'.ownsRow 0 65 10 l (d.length+1) (FE<|d++[(f,.slice a n c)])/\w.grownBy w' v.ownBlock/\D4 w v l:=by
 obtain⟨i,p,z,q,s⟩:=info_parts gu;have t:FE [(f,.slice a n c)]=(zj f<|.slice a n c).toList:=by simp[FE]
 have e:∀(j:Nat) u,(FE [(f,.slice a n c)])[j]?=some u->(w.alloc<|.cells (zj f<|.slice a n c) 65) ((⟨w.heap.size,0,none⟩:Addr).add j)=some u:=by
  intro j u o;rw[zX];refine za (heap_alloc_new w _) ?_;rw[Aw,<-Array.getElem?_toList,<-t];exact o
 obtain⟨l,w',u,A,o,B,E⟩:=Kz (P:=prog) (w.alloc<|.cells (zj f<|.slice a n c) 65) 54 65 i _ 10 104 underlying54 p z q s rfl lc v d.length (FE d) (World.ownsRow.alloc h _)
  ⟨w.heap.size,0,none⟩ 1 1 (FE [(f,.slice a n c)]) (by rw[kA];rfl) e (by rw[t];exact ig f a n c) lw I
 refine⟨l,w',u,?_,?_,?_⟩
 .rw[kB];exact A
 .exact⟨o.os,o.tape,o.output,AK lm o.size,λk a c=>(o.block k ls c).trans<|Below.heap_alloc w _ k a⟩
 intro k a;rcases B k a with x|x
 .exact .inl x
 exact .inr<|by simp at x;omega
def OH(G:rq->Prop):Exit->Act->rq->Prop:=λc a w'=>(c=.normal\/c=.ret)/\a.defers=[]/\G w'
def gq(a b c:rt)(w:rq):CallsD prog 126 #[a,b,c] .returning w λe h w'=>e=.returned (.tuple #[])/\h=.returning/\w'=w:=by
 refine callsD_of_wpS func126 rfl λd cs f=>?_
 apply wpS_seq;apply wpS_region;simp[wpOpsS,go_sem,recoverD,f,ntmps126,Exit.thenS];rw[(kw:#[a,b,c]++((Array.replicate 19 undef).setIfInBounds 3 Value.nilIface).setIfInBounds 0 Value.nilIface=(#[a,b,c,.nilIface,undef,undef,.nilIface,undef,undef,undef,undef,undef,undef,undef,undef,undef,undef,undef,undef,undef,undef,undef]:Array rt))];refine wpS_of_wp<|wp_mono (Q:=OH<|λw'=>w'=w) ?_ ?_
 .go_wp2_with fail;exact⟨by first|exact .inl rfl|exact .inr rfl,rfl,rfl⟩
 rintro e a w' ⟨l,hd,rfl⟩;have o:({ d with mode:=.returning }:Frame)=d:=by
  cases d;simp at f;simp[f]
 rcases l with rfl|rfl;all_goals exact⟨hd,_,by rw[o],_,results_none rfl _ _ _,rfl,rfl,rfl⟩
def SE(w:rq)(c eb at_:Nat)(w':rq):Prop :=
 w'.heap[c]?=some (.cells #[.int .u64 0,.slice none 0 0] 56 (0,0)) /\
 (∃a,w'.heap[eb]?=some (.cells #[.iface 162 (.pointer<|some ⟨a,0,none⟩)] 98 (0,0))/\w'.heap[a]?=some (.cells #[.int .i64 8,[at_]] 167 (0,0))/\w.heap.size<=a) /\
 DO (λk=>k=c\/k=eb) w w'
def ie(d a eb at_:Nat)(s l t:rt)(c:List PanicEntry)(w:rq)(u:w d=some (.int .i64 at_))(h:w.heap[a]?=some (.cells #[s,l] 56 (0,0)))(f:w.heap[eb]?=some (.cells #[t] 98 (0,0)))(q:a≠eb):CallsD prog 126 #[.pointer d,.pointer a,.pointer eb] (.panicking ({ v:=.iface 230 (.agg #[]),recovered:=false }::c)) w λe z w' =>
   e=.returned (.tuple #[])/\z=.panicking ({ v:=.iface 230<|.agg #[],recovered:=true }::c)/\SE w a eb at_ w':=by
 refine callsD_of_wpS func126 rfl λz cs c=>?_
 have z:=zb h;have A:=zb f;have B:=zm<|za (o:=0) h rfl;have B:=zm<|za (o:=0) f rfl;have B:=zm u;have p0:w a=some s:=za (o:=0) h rfl;have p1:w (a,1)=some l:=za (o:=1) h rfl;have l:w eb=some t:=za (o:=0) f rfl;have l:∀w,(Instr.typeAssert (.iface 230<|.agg #[]) 20 230 true).run prog w=.ok (.tuple #[.agg #[],true]) w:=λ_=>kw
 have l:∀j,w.frozen? ⟨a,j,none⟩=false:=λj=>zg h
 have l:∀j,w.frozen? ⟨eb,j,none⟩=false:=λj=>zg f
 apply wpS_seq;apply wpS_region;simp[wpOpsS,go_sem,recoverD,c,ntmps126,Exit.thenS];rw[(kw:#[Value.pointer d,Value.pointer a,Value.pointer eb]++((Array.replicate 19 undef).setIfInBounds 3<|Value.iface 230<|.agg #[]).setIfInBounds 0 (Value.iface 230<|.agg #[])=(#[.pointer d,.pointer a,.pointer eb,.iface 230<|.agg #[],undef,undef,.iface 230<|.agg #[],undef,undef,undef,undef,undef,undef,undef,undef,undef,undef,undef,undef,undef,undef,undef]:Array rt))];refine wpS_of_wp<|wp_mono (Q:=OH<|SE w a eb at_) ?_ ?_
 .clear h f c;go_wp2_with fail;refine⟨.inl rfl,rfl,?_⟩;obtain⟨W,c⟩:=nm<|((w.setCell a<|.int .u64 0).setCell (U a 1)<|.slice none 0 0).setCell eb<|.iface 162<|.pointer<|U (w.heap.size+1) 0;rw[c];have d:DO (λk=>k=a\/k=eb) w W:=by
   rw[<-c];exact(((DO.refl (λk=>k=a\/k=eb) w).setCell (p:=a) (.inl rj) _).setCell (p:=U a 1) (.inl rj) _).setCell (p:=eb) (.inl<|.inr rfl) _
  have h:=zc (i:=1) (v:=.slice none 0 0)<|zc (i:=0) (v:=.int .u64 0) z.z;have l:W.heap[a]?=some (.cells #[.int .u64 0,.slice none 0 0] 56 (0,0)):=by
   rw[<-c];exact(((DO.refl (λk=>k=eb) _).setCell (p:=eb) rj _).obj q h).trans lm
  have h:W.heap[eb]?=some (.cells #[.iface 162 (.pointer (w.heap.size+1,0))] 98 (0,0)):=by
   rw[<-c];have o:=(((DO.refl (λk=>k=a) w).setCell (p:=a) rj<|.int .u64 0).setCell (p:=U a 1) rj ru).obj (λe=>q e.symm) A.z;exact(zc (i:=0) o).trans lm
  have o:W.heap.size=w.heap.size:=by rw[<-c];simp[World.setCell]
  have a:DO DQ W ((W.alloc<|.cells #[] 230).alloc<|.cells #[.int .i64 8,[at_]] 167):=(rp.alloc _).alloc _;refine⟨a.obj rk l,⟨w.heap.size+1,a.obj rk h,?_,I⟩,d.then a rm⟩;have:(W.alloc<|.cells #[] 230).heap.size=w.heap.size+1:=by simp[o]
  rw[<-this];exact heap_alloc_new _ _
 rintro e a w' ⟨f,hd,E⟩;rcases f with rfl|rfl;all_goals exact⟨hd,_,rfl,_,results_none rfl _ _ _,rfl,rfl,E⟩
def Dg(bs:rC)(i:Nat):Nat:=(bs.getD i 0).toNat
def IB(bs:rC)(n:Nat):Nat:=Dg bs n*16777216+Dg bs (n+1)*65536+Dg bs (n+2)*256+Dg bs (n+3)
inductive GE where
 | sum:GE
 | bad (at_:Nat):GE
 | ok (num:Nat) (fs:List DV):GE
def Gm(bs:rC)(a:Nat):Option (DV×Nat) :=
 match bs[a]? with
 | none=>none
 | some t=>(FP t).bind λk=>(zM k (decide<|t=9) bs<|a+1).bind λr=>if Dx r.1=true then some r else none
def Id(bs:rC):Nat->Nat->Nat->List DV->GE
 | 0,_,pos,_=>.bad pos
 | fuel+1,num,pos,acc =>
  if pos<bs.length then
   match Gm bs pos with
   | none=>.bad pos
   | some r=>Id bs fuel num r.2<|acc++[r.1]
  else .ok num acc
def Fg(bs:rC):GE :=
 match Dt bs 0 with
 | none=>.bad 0
 | some q=>if q.2=bs.length then .bad 0 else Id bs (bs.length+1) q.1 q.2 []
def dec(bs:rC):GE :=
 if bs.length<4 then .sum
 else if IB bs (bs.length-4)=Dy (bs.take<|bs.length-4)then Fg (bs.take<|bs.length-4)else .sum
theorem Uq(bs:rC):∀fuel e n c a d r,a<=bs.length->Ie bs fuel e n c a d=some r->a<=r.2/\r.2<=bs.length/\r.1.length<=d.length+(r.2-a)+1
 | 0,_,_,_,_,_,_,_,h=>by cases h
 | fuel+1,e,n,c,a,d,r,hp,h=>by
  unfold Ie at h;split at h
  .cases h
  split at h
  .cases h;simp;exact hp
  cases h1:Dt bs a with
  | none=>rw[h1]at h;cases h
  | some q1 =>
   obtain⟨g,p1⟩:=q1;obtain⟨a,c,_⟩:=Ef h1;rw[h1]at h;simp only[AX]at h;cases h2:Dt bs p1 with
   | none=>rw[h2]at h;cases h
   | some q2 =>
    obtain⟨s,p2⟩:=q2;obtain⟨a,f,_⟩:=Ef h2;rw[h2]at h;simp only[AX]at h;split at h
    .cases h
    obtain⟨c1,c2,c3⟩:=Uq bs fuel _ _ _ _ _ _ f h;simp only[AG,AS,Ae]at c3;exact⟨I,c2,I⟩
variable{bs l:rC}{p:Nat}
theorem Uo(h:F8 bs pos=some (l,p)):pos<=p/\p<=bs.length/\l.length<=bs.length:=by
 have a:=RI h;unfold F8 at h;cases hr:Dt bs pos with
 | none=>rw[hr]at h;cases h
 | some q =>
  obtain⟨n,p1⟩:=q;rw[hr]at h;obtain⟨c,d,_⟩:=Ef hr;simp only[AX]at h;split at h
  .cases h;refine⟨I,a,?_⟩;simp;omega
  cases h
theorem Rj{n:Nat}(h:Fe bs pos=some (n,p)):pos<=p/\p<=bs.length:=by
 unfold Fe at h;cases hr:Dt bs pos with
 | none=>rw[hr]at h;cases h
 | some q =>
  rw[hr]at h;have:=Ef hr;simp only[AX]at h;split at h
  .cases h;exact⟨I,this.2.1⟩
  cases h
def SA(bs:rC)(a:Nat)(k:Int)(f:DV)(p:Nat):Prop:=f.kind=k/\a<=p/\p<=bs.length/\f.data.length<=bs.length/\f.lF.length<=bs.length+1
def WC{t:UInt8}{k:Int}{b:Bool}(q:FP t=some k)(u:pos<=bs.length)(h:zM k b bs pos=some (f,p)):SA bs pos k f p:=by
 have s:k=1\/k=2\/k=3\/k=4\/k=5\/k=6\/k=7\/k=8:=by
  unfold FP at q;repeat' split at q
  all_goals simp at q
  all_goals omega
 rcases s with rfl|rfl|rfl|rfl|rfl|rfl|rfl|rfl
 .rw[show zM 1 b bs pos=some (f0 1 b,pos)by simp[zM]]at h;cases h;exact⟨rfl,AF _,u,AN _,AN _⟩
 .rw[show zM 2 b bs pos=FH b bs pos by simp[zM],FH,Ar]at h;obtain⟨⟨e,p1⟩,a,h⟩:=h;rw[Ar]at h;obtain⟨⟨o,p2⟩,c,h⟩:=h;rw[Ar]at h;obtain⟨⟨l,p3⟩,d,h⟩:=h;rw[Ar]at h;obtain⟨r,v,h⟩:=h;cases h;have:=Ef a;have:=Ef c;have:=Ef d;simp only at *;obtain⟨c1,c2,c3⟩:=Uq bs _ _ _ _ _ _ _ (Ef d).2.1 v;refine⟨rfl,I,c2,AN _,?_⟩;show r.1.length<=_;simp only[Ae]at c3;omega
 .rw[show zM 3 b bs pos=G9 b bs pos by simp[zM],G9,Ar]at h;obtain⟨⟨e,p1⟩,a,h⟩:=h;rw[Ar]at h;obtain⟨⟨o,p2⟩,c,h⟩:=h;rw[Ar]at h;obtain⟨⟨l,p3⟩,d,h⟩:=h;cases h;have:=Rj a;have:=Ef c;have:=Ef d;simp only at *;exact⟨rfl,I,I,AN _,AN _⟩
 .rw[show zM 4 b bs pos=GW b bs pos by simp[zM],GW,Ar]at h;obtain⟨⟨e,p1⟩,a,h⟩:=h;rw[Ar]at h;obtain⟨⟨o,p2⟩,c,h⟩:=h;rw[Ar]at h;obtain⟨⟨l,p3⟩,d,h⟩:=h;cases h;have:=Rj a;have:=Ef c;have:=Uo d;simp only at *;exact⟨rfl,I,I,by show l.length<=_;omega,AN _⟩
 .rw[show zM 5 b bs pos=GK 5 b bs pos by simp[zM],GK,Ar]at h;obtain⟨⟨e,p1⟩,a,h⟩:=h;cases h;have:=Ef a;simp only at *;exact⟨rfl,I,I,AN _,AN _⟩
 .rw[show zM 6 b bs pos=GQ b bs pos by simp[zM],GQ,Ar]at h;obtain⟨⟨e,p1⟩,a,h⟩:=h;rw[Ar]at h;obtain⟨⟨o,p2⟩,c,h⟩:=h;cases h;have:=Rj a;have:=Ef c;simp only at *;exact⟨rfl,I,I,AN _,AN _⟩
 .rw[show zM 7 b bs pos=G8 b bs pos by simp[zM],G8,Ar]at h;obtain⟨⟨e,p1⟩,a,h⟩:=h;rw[Ar]at h;obtain⟨⟨o,p2⟩,c,h⟩:=h;rw[Ar]at h;obtain⟨⟨l,p3⟩,d,h⟩:=h;cases h;have:=Ef a;have:=Ef c;have:=Uo d;simp only at *;exact⟨rfl,I,I,by show l.length<=_;omega,AN _⟩
 rw[show zM 8 b bs pos=GK 8 b bs pos by simp[zM],GK,Ar]at h;obtain⟨⟨e,p1⟩,a,h⟩:=h;cases h;have:=Ef a;simp only at *;exact⟨rfl,I,I,AN _,AN _⟩
def Hp(w:rq)(c a:Nat)(d:rt):Prop:=w.heap[c]?=some (.cells #[a,d] 56 (0,0))
def Iv(w:rq)(eb:Nat)(v:rt):Prop:=w.heap[eb]?=some (.cells #[v] 98 (0,0))
def Es(w:rq)(r:GE)(e:Ending)(w':rq):Prop :=
 DO DQ w w'/\match r with
 | .sum=>e=.returned (.tuple #[.agg #[.int .u64 0,.slice none 0 0],.iface 57 (.int .i64 7)])
 | .bad at_=>∃a,e=.returned (.tuple #[.agg #[.int .u64 0,.slice none 0 0],.iface 162 (.pointer<|some ⟨a,0,none⟩)])/\w'.heap[a]?=some (.cells #[.int .i64 8,[at_]] 167 (0,0))/\w.heap.size<=a
 | .ok num fs=>∃c a,e=.returned (.tuple #[.agg #[.int .u64 num,c],.nilIface])/\GY w' c a/\a.map (·.1)=fs/\(∀g,c.ownBlock=some g->w.heap.size<=g)/\∀x∈a,∀g,x.2.ownBlock=some g->w.heap.size<=g
def PY(a:Array rt)(w:rq)(c eb:Nat)(n d e:rt)(f:a.getD 2 undef=.pointer c)(h:a.getD 3 undef=.pointer eb)
  (c0:w c=some n) (c1:w (c,1)=some d) (c2:w eb=some e) :
  (results f74 a).run prog w=.ok (.tuple #[.agg #[n,d],e]) w:=by
 have d:a[2]?.getD undef=.pointer c:=by rw[<-f];simp
 have c:a[3]?.getD undef=.pointer eb:=by rw[<-h];simp
 simp[results,results74,go_sem,d,c,c0,c1,c2]
def eV(v:rt)(bs:rC)(w:rq)(hb:BR w v bs)(a:bs.length<4):rT 74 #[v] w (Es w .sum):=by
 obtain⟨a,c,rfl,f,d,e⟩:=hb;unfold maxLen at d;have a:IntKind.i64.wrap ((bs.length:Int)-4)=(bs.length:Int)-4:=IntWalk.i64_in _ I;have d:(bs.length:Int)-4<0:=I;clear e
 go_enter_defers func74,ntmps74
 go_wp2_with fail;refine⟨_,PY _ _ _ _ _ _ _ rfl rfl lm lm lm,(rp.alloc _).alloc _,rfl⟩
def RG(a b:Nat)(c:a<4294967296)(hb:b<4294967296):bits .or .u32 (a:Int) (b:Int)=((a ||| b:Nat):Int):=by
 have c:a ||| b<2 ^ 32:=Nat.or_lt_two_pow I I;have c:(BitVec.ofInt 32 (a:Int)).toNat=a:=by
  rw[Bs,B4];exact CA I
 have d:(BitVec.ofInt 32 (b:Int)).toNat=b:=by
  rw[Bs,B4];exact CA I
 show IntKind.u32.wrap ((BitVec.ofInt 32 (a:Int) ||| BitVec.ofInt 32 (b:Int)).toNat:Int)=_;rw[BitVec.toNat_or,c,d,JE];omega
def P6(a b i:Nat)(h:b<2 ^ i):a*2 ^ i ||| b=a*2 ^ i+b:=by
 have:=Nat.two_pow_add_eq_or_of_lt h a;rw[AL]at this;exact this.symm
def Jv(a c d f:Nat)(e:a<256)(h:c<256)(l:d<256)(o:f<256):bits .or .u32 ((a:Int)*16777216) ((c:Int)*65536)=(a:Int)*16777216+(c:Int)*65536 /\
  bits .or .u32 ((a:Int)*16777216+(c:Int)*65536) ((d:Int)*256)=(a:Int)*16777216+(c:Int)*65536+(d:Int)*256 /\
  bits .or .u32 ((a:Int)*16777216+(c:Int)*65536+(d:Int)*256) (f:Int)=(a:Int)*16777216+(c:Int)*65536+(d:Int)*256+(f:Int):=by
 refine⟨?_,?_,?_⟩
 .have:=RG (a*16777216) (c*65536) I I;rw[P6 a (c*65536) 24 I]at this;rw[(I:(a:Int)*16777216=((a*16777216:Nat):Int)),(I:(c:Int)*65536=((c*65536:Nat):Int)),this];omega
 .have:=RG (a*16777216+c*65536) (d*256) I I;have e:a*16777216+c*65536=(a*256+c)*2 ^ 16:=I;rw[e,P6 _ (d*256) 16 I,<-e]at this;rw[(I:(a:Int)*16777216+(c:Int)*65536=((a*16777216+c*65536:Nat):Int)),(I:(d:Int)*256=((d*256:Nat):Int)),this];omega
 have:=RG (a*16777216+c*65536+d*256) f I I;have e:a*16777216+c*65536+d*256=(a*65536+c*256+d)*2 ^ 8:=I;rw[e,P6 _ f 8 I,<-e]at this;rw[(I:(a:Int)*16777216+(c:Int)*65536+(d:Int)*256=((a*16777216+c*65536+d*256:Nat):Int)),this];omega
variable{a:rE}{cap:Nat}
def BR.pre{n:Nat}(h:BR w (.slice a bs.length cap) bs)(c:n<=bs.length):BR w (.slice a n cap) (bs.take n):=by
 obtain⟨l,c,d,o,e,f⟩:=h;cases d;have c:(bs.take n).length=n:=ls;refine⟨a,cap,by rw[c],I,e,λi c a=>?_⟩;have d:i<n:=by
  have:=(AO.1 a).1;omega
 rw[CD,AM d]at a;exact f i c a
variable{i:Nat}
def BR.byte{l:Nat}(h:BR w (.slice a l cap) bs)(hi:i<bs.length):∃g o,a=some ⟨g,o,none⟩/\w ⟨g,o+i,none⟩=some (.int .u8 (Dg bs i:Int)):=by
 obtain⟨e,a,c,f,l,d⟩:=h;cases c;have:=d i bs[i]<|AJ hi;unfold Dg;rw[Am,AJ hi];exact this
def Jr(bs:rC)(i:Nat):Dg bs i<256:=by
 unfold Dg;have:=(bs.getD i 0).toNat_lt;omega
def Wt(v:rt)(bs:rC)(n:Nat)(w:rq)(hb:BR w v bs)(t:Fw w)(d:bs.length=n+4)(f:IB bs n≠Dy (bs.take n)):rT 74 #[v] w (Es w .sum):=by
 obtain⟨a,h,rfl,l,q,Y⟩:=id hb;unfold maxLen at q;rw[d]at l hb ⊢;have c:BR w (.slice a bs.length h) bs:=by rw[d];exact hb
 obtain⟨g,o,rfl,u⟩:=c.byte (i:=n) I;obtain⟨_,_,e,Z⟩:=c.byte (i:=n+1) I;cases e;obtain⟨_,_,e,k2⟩:=c.byte (i:=n+2) I;cases e;obtain⟨_,_,e,k3⟩:=c.byte (i:=n+3) I;cases e;have a:=zm u;have a:=c.pre (n:=n) I;have d:=λw' (m:DO DQ w w')=>QM (.slice (g,o) n h) (bs.take n) w' (a.mod m<|Dj.no _)<|t.mod m rk
 have l:=MN<|bs.take n;obtain⟨s,h⟩:=nm<|Dy<|bs.take n;rw[h]at d f l;have z:=Jr bs n;have A:=Jr bs<|n+1;have B:=Jr bs<|n+2;have E:=Jr bs<|n+3;unfold IB at f;obtain⟨l,K⟩:=nm<|Dg bs n;obtain⟨o,N⟩:=nm<|Dg bs<|n+1;obtain⟨q,O⟩:=nm<|Dg bs<|n+2;obtain⟨T,X⟩:=nm<|Dg bs<|n+3;rw[K]at u z f;rw[N]at Z A f;rw[O]at k2 B f;rw[X]at k3 E f;obtain⟨u,Z,o3⟩:=Jv l o q T z A B E;have u:IntKind.i64.wrap (((n+4:Nat):Int)-4)=(n:Int):=by rw[(I:((n+4:Nat):Int)-4=n)];exact IntWalk.i64_in _ I
 have u:IntKind.i64.wrap ((n:Int)+1)=(n:Int)+1:=IntWalk.i64_in _ I;have u:IntKind.i64.wrap ((n:Int)+2)=(n:Int)+2:=IntWalk.i64_in _ I;have u:IntKind.i64.wrap ((n:Int)+3)=(n:Int)+3:=IntWalk.i64_in _ I;have u:((n:Int)+1).toNat=n+1:=I;have u:((n:Int)+2).toNat=n+2:=I;have u:((n:Int)+3).toNat=n+3:=I;have u:IntKind.u32.wrap ((l:Int)*16777216)=(l:Int)*16777216:=by rw[JE];omega
 have u:IntKind.u32.wrap ((o:Int)*65536)=(o:Int)*65536:=by rw[JE];omega
 have u:IntKind.u32.wrap ((q:Int)*256)=(q:Int)*256:=by rw[JE];omega
 have u:((l:Int)*16777216+(o:Int)*65536+(q:Int)*256+(T:Int) != (s:Int))=true:=by rw[Cd];omega
 clear Y hb c t a K N O X h f
 go_enter_defers func74,ntmps74
 go_wp2_with (go_at_call 125;refine(d _<|(rp.alloc _).alloc _).mono ?_;rintro e w' ⟨rfl,rfl⟩);go_quiet (fail);go_wp2_with fail;have f:DO DQ w (((w.alloc<|.cells #[.int .u64 0,.slice none 0 0] 56).alloc<|.cells #[.nilIface] 98).drewN nq):=((rp.alloc _).alloc _).drewN _;obtain⟨X,a⟩:=nm<|((w.alloc<|.cells #[.int .u64 0,.slice none 0 0] 56).alloc<|.cells #[.nilIface] 98).drewN nq;have d:X.heap[w.heap.size]?=some (.cells #[.int .u64 0,.slice none 0 0] 56 (0,0)):=by
  rw[<-a];exact(((DO.refl DQ _).alloc<|.cells #[.nilIface] 98).drewN nq).obj rk (heap_alloc_new w _)
 have h:X.heap[w.heap.size+1]?=some (.cells #[.nilIface] 98 (0,0)):=by
  rw[<-a];have e:(w.alloc<|.cells #[.int .u64 0,.slice none 0 0] 56).heap.size=w.heap.size+1:=lm;rw[<-e];exact((DO.refl DQ _).drewN nq).obj rk (heap_alloc_new _ _)
 rw[a]at f ⊢;have c:=zc (i:=1) (v:=.slice none 0 0)<|zc (i:=0) (v:=.int .u64 0) d;have a:DO (λk=>k=w.heap.size) X ((X.setCell w.heap.size<|.int .u64 0).setCell (U w 1)<|.slice none 0 0):=((DO.refl (λk=>k=w.heap.size) X).setCell (p:=w.heap.size) rj _).setCell (p:=U w.heap.size 1) rj _;have d:=zc (i:=0) (v:=.iface 57<|.int .i64 7) (a.obj (by show ¬w.heap.size+1=w.heap.size;omega) h);have e:∀u,DO (λk=>k=w.heap.size+1) ((X.setCell w.heap.size<|.int .u64 0).setCell (U w 1)<|.slice none 0 0) (((X.setCell w.heap.size<|.int .u64 0).setCell (U w 1)<|.slice none 0 0).setCell (U (w.heap.size+1) 0) u):=λu=>(DO.refl (λk=>k=w.heap.size+1) _).setCell (p:=U (w.heap.size+1) 0) rj u
 have a:=(e<|.iface 57<|.int .i64 7).obj (by show ¬w.heap.size=w.heap.size+1;omega) c;refine⟨_,PY _ _ _ _ _ _ _ rfl rfl (za a rfl) (za a rfl) (za d rfl),((f.setCell (p:=w.heap.size) (.inr ro) _).setCell (p:=U w.heap.size 1) (.inr ro) _).setCell (p:=U (w.heap.size+1) 0) (.inr<|Bv _) _,rfl⟩
def gp(r:GE)(w W:rq)(tmps:Array rt)(a eb c at_:Nat)(e o p:rt)(s:tmps.getD 2 undef=.pointer a)(t:tmps.getD 3 undef=.pointer eb)(q:DO DQ w W)
  (u:W.heap[a]?=some (.cells #[e,o] 56 (0,0))) (z:W.heap[eb]?=some (.cells #[p] 98 (0,0))) (A:W c=some (.int .i64 at_)) (d:a≠eb) (h:w.heap.size<=a) (l:w.heap.size<=eb) (B:r=.bad at_) :
  bodyPostD prog f74 (Es w r) (Exit.panic [{ v:=.iface 230<|.agg #[],recovered:=false }]) { tmps:=tmps,defers:=[{ target:=.fn (.func 126) #[.pointer c,.pointer a,.pointer eb],args:=#[] }] } W:=by
 subst B;refine leaves_cons (f:=126) (args:=#[.pointer c,.pointer a,.pointer eb]) lm (by simp[go_sem]) ?_;refine(ie c a eb at_ e o p [] W A u z d).mono ?_;rintro e a w'' ⟨rfl,rfl,c1,⟨E,c2,c3,c4⟩,K⟩;show Leaves prog f74 tmps (Es w<|.bad at_) [] .returning w'';refine⟨_,PY _ _ _ _ _ _ _ s t (za c1 rfl) (za c1 rfl)<|za c2 rfl,?_,E,rfl,c3,?_⟩
 .refine q.then K ?_;rintro i (rfl|rfl)
  .exact .inr h
  exact .inr l
 exact AK q.size c4
def Ws(r:GE)(w W:rq)(tmps:Array rt)(e eb h:Nat)(a b c:rt)(l:rt)(d:List (DV×rt))(s:tmps.getD 2 undef=.pointer e)(t:tmps.getD 3 undef=.pointer eb)(u:DO DQ w W)
  (q:Hp W e h l) (v:Iv W eb .nilIface) (z:GY W l d) (o:∀g,l.ownBlock=some g->w.heap.size<=g) (p:∀x∈d,∀g,x.2.ownBlock=some g->w.heap.size<=g) (A:r=.ok h (d.map (·.1))) :
  bodyPostD prog f74 (Es w r) Exit.ret { tmps:=tmps,defers:=[{ target:=.fn (.func 126) #[a,b,c],args:=#[] }] } W:=by
 subst A;refine leaves_cons (f:=126) (args:=#[a,b,c]) lm (by simp[go_sem]) ?_;refine(gq a b c W).mono ?_;rintro e a w'' ⟨rfl,rfl,rfl⟩;show Leaves prog f74 tmps (Es w<|.ok h<|d.map (·.1)) [] .returning w'';exact⟨_,PY _ _ _ _ _ _ _ s t (za q rfl) (za q rfl)<|za v rfl,u,l,d,rfl,z,rfl,o,p⟩
variable{base:Nat}
def QK{n:Nat}(h:w.ownsRow base e sz v n xs):∀g,v.ownBlock=some g->g<w.heap.size:=by
 intro g a;rcases h.2 with⟨rfl,rfl⟩|⟨e,c,d,rfl,_,f,h,l,_⟩
 .cases a
 simp[Value.ownBlock]at a;subst a;exact(AI.1 f).1
variable{T:Nat}{cs:Array rt}{fz:Nat×Nat}
def Im{n:Nat}(h:w.ownsRow base e sz v n xs)(a:w.heap[b]?=some (.cells cs T fz))(c:T≠e):¬v.ownBlock=some b:=by
 intro hb;rcases h.2 with⟨rfl,_⟩|⟨g,d,e,rfl,_,f,_⟩
 .cases hb
 simp[Value.ownBlock]at hb;subst hb;rw[f]at a;simp at a;exact c a.2.1.symm
def Un{o p l c n n':Nat}{d:rF}(h:w.ownsRow o e sz v n xs)(q:w.ownsRow p l c v' n' d)(f:l≠e)(s:v.ownBlock=some g)(a:v'.ownBlock=some g):False:=by
 rcases q.2 with⟨rfl,_⟩|⟨e,c,d,rfl,_,t,_⟩
 .cases a
 simp[Value.ownBlock]at a;subst a;exact Im h t f s
variable{W:rq}
def eU{n:Nat}(h:w.ownsRow base e sz v n xs)(c:IY W v):∀g,v.ownBlock=some g->W.heap.size<=g:=by
 intro g a;rcases h.2 with⟨rfl,_⟩|⟨f,d,e,rfl,_⟩
 .cases a
 simp[Value.ownBlock]at a;subst a;exact c _ _ _ _ rfl
def JN(w:rq)(a at_:Nat):Prop:=w.heap[a]?=some (.cells #[[at_]] 3 (0,0))
def Pm(w wr:rq)(v:rt)(bs:rC)(d:Nat)(R:GE):Prop :=
 ∃fuel a e c at_,EH wr (w.heap.size+1+1) v a/\Hp wr w.heap.size d e/\Iv wr (w.heap.size+1) .nilIface/\JN wr (w.heap.size+1+1+1) at_/\GY wr e c/\(∀g,e.ownBlock=some g->w.heap.size<=g)/\(∀x∈c,∀g,x.2.ownBlock=some g->w.heap.size<=g) /\
  a<=bs.length/\bs.length-a<fuel/\c.length<=a/\DO DQ w wr/\Id bs fuel d a (c.map (·.1))=R
def RA(w:rq):Nat->Prop:=λk=>k=w.heap.size+1+1\/k=w.heap.size+1+1+1
variable{S:Nat->Prop}{w':rq}
def GY.mod{a:List (DV×rt)}(h:GY w v a)(m:DO S w w')(l:∀i,S i->w.heap.size<=i\/∃cs T fz,w.heap[i]?=some (.cells cs T fz)/\T≠65/\T≠214):GY w' v a:=by
 refine⟨m.owns h.1<|λg a c=>?_,λx c=>(h.2 x c).mod m<|λg a e=>?_⟩
 .rcases l g c with d|⟨cs,T,fz,d,f,_⟩
  .have:=QK h.1 g a;omega
  exact Im h.1 d f a
 rcases l g e with d|⟨cs,T,fz,d,_,f⟩
 .have:=QK (h.2 x c).1 g a;omega
 exact Im (h.2 x c).1 d f a
structure OJ(w W:rq)(v:rt):Prop where
 rd:EH W (w.heap.size+1+1) v 0
 pk:Hp W w.heap.size 0 ru
 er:Iv W (w.heap.size+1) .nilIface
 at_:JN W (w.heap.size+1+1+1) 0
 mod:DO DQ w W
def Nw(w:rq)(a:Nat)(v:rt):OJ w (((((w.alloc (.cells #[.int .u64 0,.slice none 0 0] 56)).alloc (.cells #[.nilIface] 98)).drewN a).alloc (.cells #[v,.int .i64 0] 229)).alloc (.cells #[.int .i64 0] 3)) v:=by
 have c:(w.alloc<|.cells #[.int .u64 0,.slice none 0 0] 56).heap.size=w.heap.size+1:=lm;have d:(((w.alloc<|.cells #[.int .u64 0,.slice none 0 0] 56).alloc<|.cells #[.nilIface] 98).drewN a).heap.size=w.heap.size+1+1:=lm;have e:((((w.alloc<|.cells #[.int .u64 0,.slice none 0 0] 56).alloc<|.cells #[.nilIface] 98).drewN a).alloc<|.cells #[v,.int .i64 0] 229).heap.size=w.heap.size+1+1+1:=lm;refine⟨?_,?_,?_,?_,(((rp.alloc _).alloc _).drewN _).alloc _ |>.alloc _⟩
 .unfold EH;rw[<-d];exact((DO.refl DQ _).alloc _).obj rk (heap_alloc_new _ _)
 .exact(((((DO.refl DQ _).alloc _).drewN a).alloc _).alloc _).obj rk (heap_alloc_new w _)
 .unfold Iv;rw[<-c];exact((((DO.refl DQ _).drewN a).alloc _).alloc _).obj rk (heap_alloc_new _ _)
 unfold JN;rw[<-e];exact heap_alloc_new _ _
theorem YP(v:rt)(bs:rC)(n:Nat)(w:rq)(hb:BR w v bs)(ht:Fw w)(hn:bs.length=n+4)(hs:IB bs n=Dy (bs.take n))(s:n<1099511627776):rT 74 #[v] w (Es w (Fg (bs.take n))):=by
 obtain⟨a,z,rfl,K,h2,h3⟩:=id hb;unfold maxLen at h2;rw[hn]at K hb ⊢;have c:BR w (.slice a bs.length z) bs:=by rw[hn];exact hb
 obtain⟨g,o,rfl,k0⟩:=c.byte (i:=n) I;obtain⟨_,_,e,k1⟩:=c.byte (i:=n+1) I;cases e;obtain⟨_,_,e,k2⟩:=c.byte (i:=n+2) I;cases e;obtain⟨_,_,e,k3⟩:=c.byte (i:=n+3) I;cases e;have bl:=zm k0;have a:=c.pre (n:=n) I;have af:=λw' (m:DO DQ w w')=>QM (.slice (g,o) n z) (bs.take n) w' (a.mod m<|Dj.no _)<|ht.mod m rk
 have bm:=MN<|bs.take n;obtain⟨s,aS⟩:=nm<|Dy<|bs.take n;rw[aS]at af hs bm;have b0:=Jr bs n;have b1:=Jr bs<|n+1;have b2:=Jr bs<|n+2;have b3:=Jr bs<|n+3;unfold IB at hs;obtain⟨x0,e0⟩:=nm<|Dg bs n;obtain⟨x1,e1⟩:=nm<|Dg bs<|n+1;obtain⟨x2,e2⟩:=nm<|Dg bs<|n+2;obtain⟨x3,e3⟩:=nm<|Dg bs<|n+3;rw[e0]at k0 b0 hs;rw[e1]at k1 b1 hs;rw[e2]at k2 b2 hs;rw[e3]at k3 b3 hs;obtain⟨o1,o2,o3⟩:=Jv x0 x1 x2 x3 b0 b1 b2 b3;have z1:IntKind.i64.wrap (((n+4:Nat):Int)-4)=(n:Int):=by rw[(I:((n+4:Nat):Int)-4=n)];exact IntWalk.i64_in _ I
 have z2:IntKind.i64.wrap ((n:Int)+1)=(n:Int)+1:=IntWalk.i64_in _ I;have z3:IntKind.i64.wrap ((n:Int)+2)=(n:Int)+2:=IntWalk.i64_in _ I;have z4:IntKind.i64.wrap ((n:Int)+3)=(n:Int)+3:=IntWalk.i64_in _ I;have t2:((n:Int)+1).toNat=n+1:=I;have t3:((n:Int)+2).toNat=n+2:=I;have t4:((n:Int)+3).toNat=n+3:=I;have y0:IntKind.u32.wrap ((x0:Int)*16777216)=(x0:Int)*16777216:=by rw[JE];omega
 have y1:IntKind.u32.wrap ((x1:Int)*65536)=(x1:Int)*65536:=by rw[JE];omega
 have y2:IntKind.u32.wrap ((x2:Int)*256)=(x2:Int)*256:=by rw[JE];omega
 have hq:((x0:Int)*16777216+(x1:Int)*65536+(x2:Int)*256+(x3:Int) != (s:Int))=false:=by rw[bne_eq_false_iff_eq];omega
 have Z:=zb a;clear h3 hb c ht a e0 e1 e2 e3 aS hs;have aT:(bs.take n).length=n:=ls;obtain⟨bd,a⟩:=nm<|bs.take n;rw[a]at Z aT ⊢;clear a hn;subst aT
 go_enter_defers func74,ntmps74
 go_wp2_with (go_at_call 125;refine(af _<|(rp.alloc _).alloc _).mono ?_;rintro e w' ⟨rfl,rfl⟩);go_quiet (fail);have hD:=Nw w nq<|.slice (g,o) bd.length z;obtain⟨W,a⟩:=nm<|((((w.alloc<|.cells #[.int .u64 0,.slice none 0 0] 56).alloc<|.cells #[.nilIface] 98).drewN nq).alloc<|.cells #[.slice (g,o) bd.length z,.int .i64 0] 229).alloc<|.cells #[.int .i64 0] 3;rw[a]at hD;have HW:=zb a;clear a;have HD:=zb hD;have a:=bl;have ag:∀b,w.heap.size<=b->Dj (ES b) (.slice (g,o) bd.length z):=λb c g' o' n' c' e l=>by
  cases e;have:g=b:=l;omega
 have aU:=zb ag;have ah:=Gq (w.heap.size+1+1) 0 (.slice (g,o) bd.length z) bd W hD.rd (Z.z.mod hD.mod<|Dj.no _) (ag _ I)<|AN _;clear hD ag af k0 k1 k2 k3 o1 o2 o3 t2 t3 t4 y0 y1 y2 b0 b1 b2 b3;go_wp2_with fail;rw[HW.z];have hk:∀tmps r W' at_ q fv,tmps.getD 2 undef=.pointer w->tmps.getD 3 undef=.pointer (w.heap.size+1,0)->DO DQ w W'->Hp W' w.heap.size q fv->Iv W' (w.heap.size+1) .nilIface->JN W' (w.heap.size+1+1+1) at_->r=.bad at_ ->
   bodyPostD prog f74 (Es w r) (Exit.panic [{ v:=.iface 230<|.agg #[],recovered:=false }]) { tmps:=tmps,defers:=[{ target:=.fn (.func 126) #[.pointer (U (w.heap.size+1+1+1) 0),.pointer w,.pointer (U (w.heap.size+1) 0)],args:=#[] }] } W' :=
  λtmps r W' at_ q fv e2 e3 hm a E c s=>gp r w W' tmps _ _ _ at_ _ fv _ e2 e3 hm a E (za c rfl) I ro I s
 have Hk:=zb hk;clear hk HW;cases hr0:Dt bd 0 with
 | none =>
  rw[hr0]at ah;have HR:AA (Fg bd=.bad 0):=by show _=_;unfold Fg;rw[hr0]
  clear hr0;refine ah.mono ?_;rintro e w1 (⟨_,_,l,_⟩|⟨_,E,hm⟩)
  .cases l
  unfold EA at E;subst E;have ar:=hm;exact Hk.z _ _ w1 0 0 _ rfl rfl (HD.z.mod.then ar<|λi d=>.inr<|by cases d;omega) (ar.obj (by show ¬w.heap.size=w.heap.size+1+1;omega) HD.z.pk) (ar.obj (by show ¬w.heap.size+1=w.heap.size+1+1;omega) HD.z.er) (ar.obj (by show ¬w.heap.size+1+1+1=w.heap.size+1+1;omega) HD.z.at_) HR.z
 | some q0 =>
  obtain⟨q,p0⟩:=q0;rw[hr0]at ah;obtain⟨a,u2,c⟩:=Ef hr0;have aD:=zb hr0;clear hr0;refine ah.mono ?_;rintro e w1 (⟨_,_,l,rfl,aV,m1⟩|⟨l,_⟩);rotate_left
  .cases l
  simp only[A5,Ax,BJ]at l;obtain⟨rfl,rfl⟩:=l;have A:Hp w1 w.heap.size 0 (.slice none 0 0):=m1.obj (by show ¬w.heap.size=w.heap.size+1+1;omega) HD.z.pk;have bn:w1 w=some (.int .u64 0):=za A rfl;have a:w1.frozen? ⟨w.heap.size,0,none⟩=false:=zg A;obtain⟨X,a⟩:=nm<|w1.setCell w.heap.size<|.int .u64 q;have mX:DO (λk=>k=w.heap.size) w1 X:=by rw[<-a];exact(DO.refl (λk=>k=w.heap.size) w1).setCell (p:=w.heap.size) rj _
  have pX:Hp X w.heap.size q (.slice none 0 0):=by
   unfold Hp;rw[<-a,zc A];simp
  have rX:=aV.mod mX (by show ¬w.heap.size+1+1=w.heap.size;omega);have eX:Iv X (w.heap.size+1) .nilIface:=mX.obj (by show ¬w.heap.size+1=w.heap.size;omega) (m1.obj (by show ¬w.heap.size+1=w.heap.size+1+1;omega) HD.z.er);have aX:JN X (w.heap.size+1+1+1) 0:=mX.obj (by show ¬w.heap.size+1+1+1=w.heap.size;omega) (m1.obj (by show ¬w.heap.size+1+1+1=w.heap.size+1+1;omega) HD.z.at_);have aW:=(HD.z.mod.then m1<|λi d=>.inr<|by cases d;omega).then mX (λi d=>.inr (by cases d;omega));have bo:=rX.c1;have aE:=zb pX;have aY:=zb rX;have aF:=zb eX;have aG:=zb aX;have aH:=zb aW;clear A mX pX rX eX aX aW aV m1 ah;by_cases h:p0=bd.length
  .have HR:AA (Fg bd=.bad 0):=by show _=_;unfold Fg;rw[aD.z];simp only[AM h]
   have e1:(p0==bd.length)=true:=by simp[h]
   have bp:((p0:Int)==(bd.length:Int))=true:=by simp[h]
   clear h;go_wp2_with (go_at_call 128;refine(Jh _ _).mono ?_;rintro e w' ⟨E,rfl⟩;unfold EA at E;subst E);exact Hk.z _ _ X 0 q _ rfl rfl aH.z aE.z aF.z aG.z HR.z
  have e1:(p0==bd.length)=false:=rB h;have bp:((p0:Int)==(bd.length:Int))=false:=by rw[AR];omega
  obtain⟨R,hR⟩:=nm<|Id bd (bd.length+1) q p0 [];have HR:AA (Fg bd=R):=by show _=_;unfold Fg;rw[aD.z];simp only[AH h];exact hR
  have aZ:=HR;have HA:AA (Pm w X (.slice (g,o) bd.length z) bd q R):=⟨bd.length+1,p0,.slice none 0 0,[],0,aY.z,aE.z,aF.z,aG.z,⟨World.ownsRow_nil X 0 _ 10,λx l=>by cases l⟩,(λg hg=>by cases hg),(λx l=>by cases l),u2,I,AN _,aH.z,hR⟩;clear hR HR aD h aE aY aF aG aH;go_wp2_with fail
  go_loopw [8,9,10,11,12] (λ_ _ _ _ _ wr=>Pm w wr (.slice (g,o) bd.length z) bd q R) (λ_ _ _ _ _ wr=>bd.length-JV wr (w.heap.size+1+1))
  case atStart=>exact HA.z
  case round =>
   obtain⟨fuel,u,fv,t,at_,ai,A,aj,N,au,aI,aJ,a,c,h,hm,hR⟩:=hrel;obtain⟨fuel,rfl⟩:∃f,fuel=f+1:=⟨fuel-1,I⟩;unfold Id at hR;have bo:=ai.c1;have av:=zb ai;have aw:=zb A;have ak:=zb aj;have a0:=zb N;have ac:=zb au;have a3:=zb aI;have a4:=zb aJ;have Hm:=zb hm;have a:=hm.size;have a:=(AI.1 N).1;by_cases al:u<bd.length
   .rw[AM al]at hR;have HR:=zb hR;have a:wr (w.heap.size+1+1+1,0)=some (.int .i64 at_):=za N rfl;have a:wr.frozen? ⟨w.heap.size+1+1+1,0,none⟩=false:=zg N;obtain⟨W1,a⟩:=nm<|wr.setCell (U (w.heap.size+1+1+1) 0)<|.int .i64 u;have m1:DO (RA w) wr W1:=by rw[<-a];exact(DO.refl (RA w) wr).setCell (p:=U (w.heap.size+1+1+1) 0) (.inl<|.inr rfl) _
    have a5:DO (ES<|w.heap.size+1+1+1) wr W1:=by rw[<-a];exact(DO.refl (ES<|w.heap.size+1+1+1) wr).setCell (p:=U (w.heap.size+1+1+1) 0) rj _
    have a1:JN W1 (w.heap.size+1+1+1) u:=by
     unfold JN;rw[<-a,zc N];simp
    have r1:=ai.mod a5 (by show ¬w.heap.size+1+1=w.heap.size+1+1+1;omega);have a6:=hm.then m1 (λi d=>.inr (by rcases d with rfl|rfl<;>omega));have aK:=Od (w.heap.size+1+1) 1 u 1 rfl (.slice (g,o) bd.length z) bd W1 r1 (Z.z.mod a6<|Dj.no _) (aU.z _ I) I;obtain⟨tb,aL⟩:∃c,bd[u]?=some c:=⟨bd[u],AJ al⟩;have a7:(bd.drop u).take 1=[tb]:=by
     rw[List.take_one,List.head?_drop,aL];rfl
    rw[a7]at aK;have ax:=zb aL;have M1:=zb m1;have A1:=zb a1;have a:=m1.size;have a:=r1.c1;have am:Gm bd u=none->∀tmps W',tmps.getD 2 undef=.pointer w->tmps.getD 3 undef=.pointer (w.heap.size+1,0)->DO (RA w) wr W'->DO (ES<|w.heap.size+1+1) W1 W' ->
      bodyPostD prog f74 (Es w<|Fg bd) (Exit.panic [{ v:=.iface 230<|.agg #[],recovered:=false }]) { tmps:=tmps,defers:=[{ target:=.fn (.func 126) #[.pointer (U (w.heap.size+1+1+1) 0),.pointer w,.pointer (U (w.heap.size+1) 0)],args:=#[] }] } W':=by
     intro B tmps W' e2 e3 mA mB;refine Hk.z tmps (Fg bd) W' u q fv e2 e3 (Hm.z.then mA<|λi d=>.inr<|by rcases d with rfl|rfl<;>omega) (mA.obj (λl=>by rcases l with l|l<;>omega) aw.z) (mA.obj (λl=>by rcases l with l|l<;>omega) ak.z) (mB.obj (λl=>by have:w.heap.size+1+1+1=w.heap.size+1+1:=l;omega) A1.z) ?_;have:=HR.z;rw[B]at this;rw[aZ.z];exact this.symm
    have O:=zb am;clear hR ai A aj N au aI aJ hm m1 a5 a1 r1 a6 aL a7 am;go_wp2_with fail;refine aK.mono ?_;rintro e w2 ⟨a,rfl,bq,a8,m2⟩;obtain⟨a,c2,rfl,_,_,a9⟩:=bq;obtain⟨a,o2,rfl,ct⟩:=a9 0 tb rfl;simp only[B5]at ct;have M2:AA (DO (RA w) wr w2):=M1.z.then m2<|λi d=>.inl<|.inl d;have N2:=zb m2;have H2:=zb a8;have a:=m2.size;clear a9 aK a8 m2;cases hkd:FP tb with
    | none =>
     have B:AA (Gm bd u=none):=by
      show _=_;unfold Gm;rw[ax.z];simp only[hkd,BU]
     have ay:=λw=>gX tb w hkd
     clear hkd;go_wp2_with (first|(go_at_call 130;refine(ay _).mono ?_;rintro e w' ⟨rfl,rfl⟩)|(go_at_call 128;refine(Jh _ _).mono ?_;rintro e w' ⟨E,rfl⟩;unfold EA at E;subst E));show bodyPostD prog f74 (Es w<|Fg bd) (Exit.panic _) _ _;exact O.z B.z _ w2 (by rfl) (by rfl) M2.z N2.z
    | some k =>
     have ay:=λw=>gW tb k w hkd
     have az:=zb hkd;have ba:((tb.toNat:Int)==9)=decide (tb=9):=by
      rw[Cw,Ce,Ah];constructor
      .intro h;exact Cu.1<|by show _=9;omega
      rintro rfl;rfl
     obtain⟨s,a⟩:=nm<|decide<|tb=9;rw[a]at ba;have aM:=zb a;obtain⟨h,c⟩:=nm<|w2.alloc<|.cells #[[k],.int .i64 0,.int .u64 0,.int .u64 0,.int .u64 0,s,.int .u64 0,.int .u64 0,.string ⟨#[]⟩,.slice none 0 0] 65;have X:=AB c;have f3:zl h w2.heap.size (f0 k s) (.slice none 0 0):=by rw[<-c];exact heap_alloc_new w2 _
     have aB:=gw tb k hkd s bd (.slice (g,o) bd.length z) h;have M3:=zb X;have F3:=zb f3;have s:=AC c;have bt:=zb c;clear hkd a X f3 c;go_wp2_with (go_at_call 130;refine(ay _).mono ?_;rintro e w' ⟨rfl,rfl⟩);rw[bt.z];refine aB.mono ?_;rintro e w4 ⟨cb,wv,F,a,G,rfl,aN,gF,gG,m4,c,an,aa⟩;have a:=M3.z.size;have bu:=aN.2.1;have N4:AA (DO (ES<|w.heap.size+1+1) W1 w4):=(N2.z.then M3.z rm).then m4 rm;have M4:AA (DO (RA w) wr w4):=(M2.z.then M3.z rm).then m4 rm;have F4:=F3.z.mod m4 rk;have R4:=(H2.z.mod M3.z rk).mod m4 rk;have bb:=Hm.z.then M4.z (λi d=>.inr (by rcases d with rfl|rfl<;>omega));have aC:=an (w.heap.size+1+1) w2.heap.size (u+1) R4 (Z.z.mod bb<|Dj.no _) (λg' o' n' c' e l=>by cases e;rcases l with l|l<;>omega) I I F4 I;have bv:=zb aN;have bw:=zb aa;have bx:=zb gG;have bz:∀args w,(callFunc F args).run prog w=.ok (.enter F args) w:=gF;have a:=m4.size;clear aB aN m4 an aa gF gG F4 R4 bb ay ba;go_wp2_with fail;refine aC.mono ?_;rintro e w5 (⟨f,rv,p,T,rfl,h5,aA,aO,ao,m5⟩|⟨T,E,m5⟩)
     .have M5:AA (DO (RA w) wr w5):=M4.z.then m5 (λi d=>by
       rcases d with d|d
       .exact .inl (.inl d)
       exact .inr I)
      have N5:AA (DO (ES<|w.heap.size+1+1) W1 w5):=N4.z.then m5 (λi d=>by
       rcases d with d|d
       .exact .inl d
       have:=N2.z.size;exact .inr I)
      obtain⟨c,a,d3,h,s⟩:=WC az.z I T;have a:=bv.z.mod m5 (by rintro(d|d)<;>omega);have ad:=Ut w2.heap.size cb f rv wv _ G (zR f) w5 aA a bx.z<|λw' m hq=>bw.z w' w2.heap.size f rv (aA.mod m rk) (aO.rr.mod m<|Dj.no _) c I I hq;rw[show(Ec f&&Eg f&&zR f)=Dx f from rfl]at ad;have bA:=zb aA;have bB:=zb aO;have bC:=zb ao;have H5:=zb h5;have h:=m5.size;clear aC a aA aO ao h5 m5 bz bu c;cases hsf:Dx f with
      | false =>
       rw[hsf]at ad;have B:AA (Gm bd u=none):=by
        show _=_;unfold Gm;rw[ax.z];simp only[az.z,AX,aM.z,T,hsf];rfl
       clear T hsf;go_wp2_with (first|(go_at_call 132;refine ad.mono ?_;rintro e w6 ⟨rfl,m6⟩;have M6:=zb m6;clear m6)|(go_at_call 128;refine(Jh _ _).mono ?_;rintro e w' ⟨E,rfl⟩;unfold EA at E;subst E));show bodyPostD prog f74 (Es w<|Fg bd) (Exit.panic _) _ _;exact O.z B.z _ w6 (by rfl) (by rfl) (M5.z.then M6.z rm)<|N5.z.then M6.z rm
      | true =>
       rw[hsf]at ad;have B:AA (Gm bd u=some (f,p)):=by
        show _=_;unfold Gm;rw[ax.z];simp only[az.z,AX,aM.z,T,hsf];rfl
       clear T hsf;go_wp2_with fail;refine ad.mono ?_;rintro e w6 ⟨rfl,m6⟩;have M6:AA (DO (RA w) wr w6):=M5.z.then m6 rm;have bc:AA (DO DQ w5 w6):=m6;have N6:AA (DO (ES<|w.heap.size+1+1) W1 w6):=N5.z.then m6 rm;have f6:=bA.z.mod m6 rk;have o6:=bB.z.mod m6<|λ_ _ x=>x;have p6:Hp w6 w.heap.size q fv:=M6.z.obj (λl=>by rcases l with l|l<;>omega) aw.z;have ap:=ac.z.mod M6.z (λi d=>.inr (by
        rcases d with rfl|rfl
        .exact⟨_,_,_,av.z,lc,lc⟩
        exact⟨_,_,_,a0.z,lc,lc⟩))
       obtain⟨ra,rc,rfl,_⟩:=zk o6.1;obtain⟨k0,k1,k2,k3,a,c,e,h,s,X⟩:=f6.cells;obtain⟨v7,W7,be,aq,bf,bg⟩:=Tt w6 fv t f ra f.lF.length rc ap.1 I;obtain⟨Y,fc,rfl,_⟩:=zk ap.1;have a:w6 (w,1)=some (.slice Y t.length fc):=za p6 rfl;obtain⟨W8,bh⟩:=nm<|W7.setCell (U w 1) v7;have m7:=rp.grown bf<|λk hk=>.inl hk;have p7:Hp W7 w.heap.size q (.slice Y t.length fc):=m7.obj (λl=>Im ap.1 p6 lc l) p6;have a:W7 (w,1)=some (.slice Y t.length fc):=za p7 rfl;have a:W7.frozen? ⟨w.heap.size,1,none⟩=false:=zg p7;obtain⟨va,vc,rfl,_⟩:=zk aq;have aP:=zb o6;have aQ:=zb p7;have ab:=zb ap;have ae:=zb m7;have a:=zb aq;have bi:=zb bg;have c:=zb f6;clear ad m6 f6 o6 p6 ap p7 m7 aq bg bf;unfold zj at be;go_wp2_with (at_builtin;refine zo rfl _ _ _ _ rfl _ _ _ rfl rfl be ?_);have m8:DO (λk=>k=w.heap.size) W7 W8:=by rw[<-bh];exact(DO.refl (λk=>k=w.heap.size) W7).setCell (p:=U w.heap.size 1) rj _
       have aR:Pm w W8 (.slice (g,o) bd.length z) bd q R:=by
        have bj:=λi d=>a3.z i d
        have q1:¬(Value.slice Y t.length fc).ownBlock=some (w.heap.size+1+1):=λl=>Im ac.z.1 av.z lc l
        have h:¬(Value.slice Y t.length fc).ownBlock=some (w.heap.size+1):=λl=>Im ac.z.1 ak.z lc l
        have o:¬(Value.slice Y t.length fc).ownBlock=some (w.heap.size+1+1+1):=λl=>Im ac.z.1 a0.z lc l
        have c:Iv w6 (w.heap.size+1) .nilIface:=M6.z.obj (λl=>by rcases l with l|l<;>omega) ak.z;have e:JN w6 (w.heap.size+1+1+1) u:=N6.z.obj (λl=>by have:w.heap.size+1+1+1=w.heap.size+1+1:=l;omega) A1.z;have GQ:=H5.z.mod (DO.refl DQ w5) rk |>.mod (S:=DQ) bc.z rk;refine⟨fuel,p,.slice va (t.length+1) vc,t++[(f,.slice ra f.lF.length rc)],u,?_,?_,?_,?_,⟨?_,?_⟩,?_,?_,d3,I,?_,?_,?_⟩
        .exact(GQ.mod ae.z q1).mod m8 (by show ¬w.heap.size+1+1=w.heap.size;omega)
        .unfold Hp;rw[<-bh,zc aQ.z];simp
        .exact m8.obj (by show ¬w.heap.size+1=w.heap.size;omega) (ae.z.obj h c)
        .exact m8.obj (by show ¬w.heap.size+1+1+1=w.heap.size;omega) (ae.z.obj o e)
        .have:=m8.owns a.z (λi d l=>Im a.z aQ.z lc (by rw[d,l]));simpa using this
        .intro x l;have bk:Fb w6 x.2 x.1.lF/\∀i,x.2.ownBlock=some i->¬(Value.slice Y t.length fc).ownBlock=some i:=by
          rcases Ak.1 l with K|K
          .refine⟨ab.z.2 x K,λi d hj=>?_⟩;exact Un ab.z.1 (ab.z.2 x K).1 lc hj d
          simp only[Af]at K;subst K;exact⟨aP.z,λi d hj=>Un ab.z.1 aP.z.1 lc hj d⟩
         have a:=bk.1.mod ae.z bk.2;exact a.mod m8<|λi d hj=>Im a.1 aQ.z lc<|by rw[d];exact A8 some hj
        .intro i d;rcases bi.z i d with K|K
         .exact bj i K
         have:=M6.z.size;omega
        .intro x l i d;rcases Ak.1 l with K|K
         .exact a4.z x K i d
         simp only[Af]at K;subst K;have:=eU aP.z.1 bC.z i d;omega
        .simp only[AG,AS,Ae];omega
        .exact((Hm.z.then M6.z<|λi d=>.inr<|by rcases d with rfl|rfl<;>omega).then ae.z<|λi d=>.inr<|bj i d).then m8 (λi d=>.inr<|by cases d;omega)
        have:=HR.z;rw[B.z]at this;simpa using this
       have e:AA (JV W8 (w.heap.size+1+1)=p/\JV wr (w.heap.size+1+1)=u):=by
        obtain⟨_,c,_,_,_,a,_,_,_,_,_,_,_,_,_,_,_⟩:=id aR;refine⟨?_,Oz av.z⟩;have GQ:=H5.z.mod (S:=DQ) bc.z rk;have q1:¬(Value.slice Y t.length fc).ownBlock=some (w.heap.size+1+1):=λl=>Im ac.z.1 av.z lc l
        exact Oz<|(GQ.mod ae.z q1).mod m8<|by show ¬w.heap.size+1+1=w.heap.size;omega
       have a:=zb aR;have c:=zb al;clear aR m8 al;go_roundw
       case rel=>exact a.z
       case measure =>
        have:=c.z;rw[e.z.1,e.z.2];omega
     have N5:AA (DO (ES<|w.heap.size+1+1) W1 w5):=N4.z.then m5 (λi d=>by
      rcases d with d|d
      .exact .inl d
      have:=N2.z.size;exact .inr I)
     have M5:AA (DO (RA w) wr w5):=M4.z.then m5 (λi d=>by
      rcases d with d|d
      .exact .inl (.inl d)
      exact .inr I)
     have B:AA (Gm bd u=none):=by
      show _=_;unfold Gm;rw[ax.z];simp only[az.z,AX,aM.z,T,BU]
     unfold EA at E;subst E;show bodyPostD prog f74 (Es w<|Fg bd) (Exit.panic _) _ _;exact O.z B.z _ w5 (by rfl) (by rfl) M5.z N5.z
   rw[AH al]at hR;have HR:AA (Fg bd=.ok q (t.map (·.1))):=by show _=_;rw[aZ.z];exact hR.symm
   have bn:wr w=some (.int .u64 q):=za A rfl;have a:wr (w.heap.size+1,0)=some .nilIface:=za aj rfl;obtain⟨Y,fc,rfl,_⟩:=zk au.1;have a:wr (w,1)=some (.slice Y t.length fc):=za A rfl;have a:∀j,wr.frozen? ⟨w.heap.size,j,none⟩=false:=λj=>zg A
   have a:∀j,wr.frozen? ⟨w.heap.size+1,j,none⟩=false:=λj=>zg aj
   clear hR ai A aj N au aI aJ hm;go_wp2_with fail;obtain⟨Z,a⟩:=nm<|((wr.setCell w.heap.size<|.int .u64 q).setCell (U w 1)<|.slice Y t.length fc).setCell (U (w.heap.size+1) 0) .nilIface;rw[a];have mZ:DO (λk=>k=w.heap.size\/k=w.heap.size+1) wr Z:=by
    rw[<-a];exact(((DO.refl (λk=>k=w.heap.size\/k=w.heap.size+1) wr).setCell (p:=w.heap.size) (.inl rj) _).setCell (p:=U w.heap.size 1) (.inl rj) _).setCell (p:=U (w.heap.size+1) 0) (.inl<|.inr rfl) _
   have o1:=zc (i:=1) (v:=.slice Y t.length fc)<|zc (i:=0) (v:=.int .u64 q) aw.z;have pZ:Hp Z w.heap.size q (.slice Y t.length fc):=by
    unfold Hp;rw[<-a];exact(((DO.refl (λk=>k=w.heap.size+1) _).setCell (p:=U (w.heap.size+1) 0) rj _).obj (by show ¬w.heap.size=w.heap.size+1;omega) o1).trans lm
   have eZ:Iv Z (w.heap.size+1) .nilIface:=by
    unfold Iv;rw[<-a];have e1:=(((DO.refl (λk=>k=w.heap.size) wr).setCell (p:=w.heap.size) rj<|.int .u64 q).setCell (p:=U w.heap.size 1) rj<|.slice Y t.length fc).obj (by show ¬w.heap.size+1=w.heap.size;omega) ak.z;exact(zc (i:=0) e1).trans lm
   refine Ws (Fg bd) w Z _ w.heap.size (w.heap.size+1) q _ _ _ (.slice Y t.length fc) t (by rfl) (by rfl) (Hm.z.then mZ<|λi d=>.inr<|by rcases d with rfl|rfl<;>omega) pZ eZ ?_ a3.z a4.z HR.z;exact ac.z.mod mZ (λi d=>.inr (by
    rcases d with rfl|rfl
    .exact⟨_,_,_,aw.z,lc,lc⟩
    exact⟨_,_,_,ak.z,lc,lc⟩))
def PX(v:rt)(bs:rC)(w:rq)(hb:BR w v bs)(c:Fw w)(a:bs.length<1099511627776):rT 74 #[v] w (Es w (dec bs)):=by
 unfold dec;by_cases a:bs.length<4
 .rw[AM a];exact eV v bs w hb a
 rw[AH a];obtain⟨n,d⟩:∃n,bs.length=n+4:=⟨bs.length-4,I⟩;rw[(I:bs.length-4=n)];by_cases a:IB bs n=Dy (bs.take n)
 .rw[AM a];exact YP v bs n w hb c d a I
 rw[AH a];exact Wt v bs n w hb c d a
end
section
open Go.RowKit Go.Proofs.Tryz Go.Extern.Stop Go.Stop Go.Extern
def VI(t:Addr)(w:rq):(ReflectliteValue.unpack (.iface 164 (.pointer (some t)))).run prog w
 =.ok (.agg #[.pointer (some ⟨2,164,none⟩),.pointer w,.int .u64 150]) (w.alloc<|.cells #[.pointer (some t)] 164):=kw
def TB (a : Addr) (w : rq) : (ReflectliteValue.methodAny (ReflectliteValue.valueError "reflectlite.Value.Type" 0) (λt _ _ _ => ReflectliteType.toType t) #[.agg #[.pointer (some ⟨2, 164, none⟩), .pointer (some a), .int .u64 150]]).run prog w
 =.ok (.iface 286 (.agg #[.pointer (some ⟨2,164,none⟩)])) w:=kw
def TA(w:rq):((ReflectliteType.abiMethod λt=>(λa:Nat=>Value.int IntKind.u8 (a:Int)) <$> Rtype.kind t) #[.pointer (some ⟨2,164,none⟩)]).run prog w=.ok (.int .u8 22) w:=kw
def Ts(w:rq):((ReflectliteType.abiMethod λt=>(λa:Nat=>Value.int IntKind.u8 (a:Int)) <$> Rtype.kind t) #[.pointer (some ⟨2,162,none⟩)]).run prog w=.ok (.int .u8 22) w:=kw
def Tr(a:Addr)(w:rq):(ReflectliteValue.parts (.agg #[.pointer (some ⟨2,164,none⟩),.pointer (some a),.int .u64 150])).run prog w=.ok (some (164,a,150)) w:=kw
def S7(w:rq):(ReflectliteType.method ReflectliteType.elem #[.agg #[.pointer (some ⟨2,164,none⟩)]]).run prog w=.ok (.iface 286 (.agg #[.pointer (some ⟨2,162,none⟩)])) w:=kw
def Sz (w : rq) : (ReflectliteType.relation "Implements" ReflectliteType.implements_ #[.agg #[.pointer (some ⟨2, 162, none⟩)], .iface 286 (.agg #[.pointer (some ⟨2, 98, none⟩)])]).run prog w=.ok (.bool true) w := kw
def eT(w:rq):(Rtype.elem? 164).run prog w=.ok (some 162) w:=kw
def go(t:Addr)(w:rq):(ReflectliteValue.unpack (.iface 168 (.pointer (some t)))).run prog w
 =.ok (.agg #[.pointer (some ⟨2,168,none⟩),.pointer w,.int .u64 150]) (w.alloc<|.cells #[.pointer (some t)] 168):=kw
def Wr (a : Addr) (w : rq) : (ReflectliteValue.methodAny (ReflectliteValue.valueError "reflectlite.Value.Type" 0) (λt _ _ _ => ReflectliteType.toType t) #[.agg #[.pointer (some ⟨2, 168, none⟩), .pointer (some a), .int .u64 150]]).run prog w
 =.ok (.iface 286 (.agg #[.pointer (some ⟨2,168,none⟩)])) w:=kw
def Wq(w:rq):((ReflectliteType.abiMethod λt=>(λa:Nat=>Value.int IntKind.u8 (a:Int)) <$> Rtype.kind t) #[.pointer (some ⟨2,168,none⟩)]).run prog w=.ok (.int .u8 22) w:=kw
def YO(w:rq):((ReflectliteType.abiMethod λt=>(λa:Nat=>Value.int IntKind.u8 (a:Int)) <$> Rtype.kind t) #[.pointer (some ⟨2,57,none⟩)]).run prog w=.ok (.int .u8 2) w:=kw
def Tq(a:Addr)(w:rq):(ReflectliteValue.parts (.agg #[.pointer (some ⟨2,168,none⟩),.pointer (some a),.int .u64 150])).run prog w=.ok (some (168,a,150)) w:=kw
def Wp(w:rq):(ReflectliteType.method ReflectliteType.elem #[.agg #[.pointer (some ⟨2,168,none⟩)]]).run prog w=.ok (.iface 286 (.agg #[.pointer (some ⟨2,57,none⟩)])) w:=kw
def Wo (w : rq) : (ReflectliteType.relation "Implements" ReflectliteType.implements_ #[.agg #[.pointer (some ⟨2, 57, none⟩)], .iface 286 (.agg #[.pointer (some ⟨2, 98, none⟩)])]).run prog w=.ok (.bool true) w := kw
def eS(w:rq):(Rtype.elem? 168).run prog w=.ok (some 57) w:=kw
def P5 (h : rt) (w : rq) : (Go.method 451 286 (.agg #[h]) "Kind").run prog w=.ok (234, h) w := kw
def P4 (h : rt) (w : rq) : (Go.method 451 286 (.agg #[h]) "Elem").run prog w=.ok (252, .agg #[h]) w := kw
def P3 (h : rt) (w : rq) : (Go.method 451 286 (.agg #[h]) "Implements").run prog w=.ok (253, .agg #[h]) w := kw
def Pl (h : rt) (w : rq) : (Go.method 451 286 (.agg #[h]) "AssignableTo").run prog w=.ok (250, .agg #[h]) w := kw
def Jx (h : rt) (w : rq) : (Go.method 451 286 (.agg #[h]) "Comparable").run prog w=.ok (251, .agg #[h]) w := kw
def YN(v:rt)(w:rq):(ReflectliteType.typeOf #[.iface 162 v]).run prog w=.ok (.iface 286 (.agg #[.pointer (some ⟨2,162,none⟩)])) w:=kw
def Oy(v:rt)(w:rq):(ReflectliteType.typeOf #[.iface 57 v]).run prog w=.ok (.iface 286 (.agg #[.pointer (some ⟨2,57,none⟩)])) w:=kw
def Li (w : rq) : (ReflectliteType.relation "AssignableTo" ReflectliteType.assignableTo #[.agg #[.pointer (some ⟨2, 162, none⟩)], .iface 286 (.agg #[.pointer (some ⟨2, 162, none⟩)])]).run prog w=.ok (.bool true) w := kw
def Lj (w : rq) : (ReflectliteType.relation "AssignableTo" ReflectliteType.assignableTo #[.agg #[.pointer (some ⟨2, 57, none⟩)], .iface 286 (.agg #[.pointer (some ⟨2, 162, none⟩)])]).run prog w=.ok (.bool false) w := kw
def Lk (w : rq) : (ReflectliteType.relation "AssignableTo" ReflectliteType.assignableTo #[.agg #[.pointer (some ⟨2, 57, none⟩)], .iface 286 (.agg #[.pointer (some ⟨2, 57, none⟩)])]).run prog w=.ok (.bool true) w := kw
def eR(e:Addr)(w:rq):(ReflectliteValue.unpack (.iface 162 (.pointer (some e)))).run prog w
 =.ok (.agg #[.pointer (some ⟨2,162,none⟩),.pointer w,.int .u64 150]) (w.alloc<|.cells #[.pointer (some e)] 162):=kw
def eQ(n:Int)(w:rq):(ReflectliteValue.unpack (.iface 57 (.int .i64 n))).run prog w
 =.ok (.agg #[.pointer (some ⟨2,57,none⟩),.pointer w,.int .u64 130]) (w.alloc<|.cells #[[n]] 57):=kw
def Pg(z:Sem rt)(f:TypeId->Addr->Nat->Nat->Sem rt)(v:rt):ReflectliteValue.method z f #[v]=(do match <-ReflectliteValue.parts v with|none=>z|some (t,a,fl)=>f t a fl (fl % 32)):=rfl
theorem WR(v x:rt):ReflectliteValue.set #[v,x]=(do
  let (some (dst,a,fl),some (src,b,_)):=(<-ReflectliteValue.parts v,<-ReflectliteValue.parts x)
   | unsupported (.noEntry "extern/(internal/reflectlite.Value).Set.zeroValue")
  if fl / ReflectliteValue.flagAddr % 2 == 0 then unsupported (.noEntry "extern/(internal/reflectlite.Value).Set.unaddressable")
  let val <-loadVar src b
  if <-Rtype.directlyAssignable dst src then storeVar dst a val
  else if <-Rtype.implements dst src then
   if (<-Rtype.kind src)==20 then
    match val with
    | .nilIface => unsupported (.noEntry "extern/reflectlite: a nil value of one interface type handed on as a value of another")
    | _=>storeVar dst a val
   else storeVar dst a (.iface src val)
  else panicString ("reflectlite.Set: value of type " ++ (<- Rtype.spelt src) ++ " is not assignable to type " ++ (<- Rtype.spelt dst))
  pure (.tuple #[])):=rfl
def Tp(a p:Addr)(W:rq)(c:W a=some (.pointer (some p))):(ReflectliteValue.method (ReflectliteValue.valueError "reflectlite.Value.IsNil" 0) ReflectliteValue.isNil #[.agg #[.pointer (some ⟨2, 164, none⟩), .pointer (some a), .int .u64 150]]).run prog W=.ok (.bool false) W := by
 rw[Pg];simp only[Sem.run_bind,Tr,Result.andThen];simp[ReflectliteValue.isNil,loadVar,isAgg,underlying,underlying164,c,Result.andThen]
def NZ(p:Addr)(w:rq):(ReflectliteValue.mk 162 p ReflectliteValue.flagAddr).run prog w=.ok (.agg #[.pointer (some ⟨2,162,none⟩),.pointer (some p),.int .u64 406]) w:=kw
def YM(a p:Addr)(W:rq)(c:W a=some (.pointer (some p))):(ReflectliteValue.method (ReflectliteValue.valueError "reflectlite.Value.Elem" 0) ReflectliteValue.elem #[.agg #[.pointer (some ⟨2, 164, none⟩), .pointer (some a), .int .u64 150]]).run prog W
  =.ok (.agg #[.pointer (some ⟨2,162,none⟩),.pointer (some p),.int .u64 406]) W:=by
 rw[Pg];simp only[Sem.run_bind,Tr,Result.andThen];simp[ReflectliteValue.elem,loadVar,isAgg,underlying,underlying164,c,Result.andThen,eT,NZ]
def eP(a:Addr)(w:rq):(ReflectliteValue.parts (.agg #[.pointer (some ⟨2,162,none⟩),.pointer (some a),.int .u64 406])).run prog w=.ok (some (162,a,406)) w:=kw
def eO(a:Addr)(w:rq):(ReflectliteValue.parts (.agg #[.pointer (some ⟨2,162,none⟩),.pointer (some a),.int .u64 150])).run prog w=.ok (some (162,a,150)) w:=kw
def eN(w:rq):(Rtype.directlyAssignable 162 162).run prog w=.ok true w:=kw
def LB(a b:Addr)(e:Addr)(c:rt)(W:rq)(hb:W b=some (.pointer (some e)))(d:W a=some c)(f:W.frozen? a=false):(ReflectliteValue.set #[.agg #[.pointer (some ⟨2,162,none⟩),.pointer (some a),.int .u64 406],.agg #[.pointer (some ⟨2,162,none⟩),.pointer (some b),.int .u64 150]]).run prog W
  =.ok (.tuple #[]) (W.setCell a<|.pointer<|some e):=by
 rw[WR];simp only[Sem.run_bind,eP,eO,Result.andThen];simp[ReflectliteValue.flagAddr,loadVar,isAgg,underlying,underlying162,hb,Result.andThen,eN,storeVar,Value.cells,storeCells,Addr.add];rw[run_store prog W a _ _ (by rfl)];simp[d,f]
def YL(a p:Addr)(W:rq)(c:W a=some (.pointer (some p))):(ReflectliteValue.method (ReflectliteValue.valueError "reflectlite.Value.IsNil" 0) ReflectliteValue.isNil #[.agg #[.pointer (some ⟨2, 168, none⟩), .pointer (some a), .int .u64 150]]).run prog W=.ok (.bool false) W := by
 rw[Pg];simp only[Sem.run_bind,Tq,Result.andThen];simp[ReflectliteValue.isNil,loadVar,isAgg,underlying,underlying168,c,Result.andThen]
def Na(p:Addr)(w:rq):(ReflectliteValue.mk 57 p ReflectliteValue.flagAddr).run prog w=.ok (.agg #[.pointer (some ⟨2,57,none⟩),.pointer (some p),.int .u64 386]) w:=kw
def YK(a p:Addr)(W:rq)(c:W a=some (.pointer (some p))):(ReflectliteValue.method (ReflectliteValue.valueError "reflectlite.Value.Elem" 0) ReflectliteValue.elem #[.agg #[.pointer (some ⟨2, 168, none⟩), .pointer (some a), .int .u64 150]]).run prog W
  =.ok (.agg #[.pointer (some ⟨2,57,none⟩),.pointer (some p),.int .u64 386]) W:=by
 rw[Pg];simp only[Sem.run_bind,Tq,Result.andThen];simp[ReflectliteValue.elem,loadVar,isAgg,underlying,underlying168,c,Result.andThen,eS,Na]
def eM(a:Addr)(w:rq):(ReflectliteValue.parts (.agg #[.pointer (some ⟨2,57,none⟩),.pointer (some a),.int .u64 386])).run prog w=.ok (some (57,a,386)) w:=kw
def eL(a:Addr)(w:rq):(ReflectliteValue.parts (.agg #[.pointer (some ⟨2,57,none⟩),.pointer (some a),.int .u64 130])).run prog w=.ok (some (57,a,130)) w:=kw
def eK(w:rq):(Rtype.directlyAssignable 57 57).run prog w=.ok true w:=kw
def LC(a b:Addr)(e:Int)(c:rt)(W:rq)(hb:W b=some (.int .i64 e))(d:W a=some c)(f:W.frozen? a=false):(ReflectliteValue.set #[.agg #[.pointer (some ⟨2,57,none⟩),.pointer (some a),.int .u64 386],.agg #[.pointer (some ⟨2,57,none⟩),.pointer (some b),.int .u64 130]]).run prog W
  =.ok (.tuple #[]) (W.setCell a<|.int .i64 e):=by
 rw[WR];simp only[Sem.run_bind,eM,eL,Result.andThen];simp[ReflectliteValue.flagAddr,loadVar,isAgg,underlying,underlying57,hb,Result.andThen,eK,storeVar,Value.cells,storeCells,Addr.add];rw[run_store prog W a _ _ (by rfl)];simp[d,f]
def E7(w:rq):Prop:=w ⟨0,0,none⟩=some (.iface 286 (.agg #[.pointer (some ⟨2,98,none⟩)]))
def rG:=@run_callFunc_extern prog 133 _ (λd=>ReflectliteValue.unpack (d.getD 0 (.tuple #[]))) func133 kw kw kw kw
def rH:=@run_callFunc_extern prog 134 _ (ReflectliteValue.methodAny (ReflectliteValue.valueError "reflectlite.Value.Type" 0) (λt _ _ _ => ReflectliteType.toType t)) func134 kw kw kw kw
def rI:=@run_callFunc_extern prog 135 _ (ReflectliteValue.method (ReflectliteValue.valueError "reflectlite.Value.IsNil" 0) ReflectliteValue.isNil) func135 kw kw kw kw
def rJ:=@run_callFunc_extern prog 234 _ (ReflectliteType.abiMethod λt=>do pure (.int .u8 (<-Rtype.kind t))) func234 kw kw kw kw
def rK:=@run_callFunc_extern prog 252 _ (ReflectliteType.method ReflectliteType.elem) func252 kw kw kw kw
def rL:=@run_callFunc_extern prog 253 _ (ReflectliteType.relation "Implements" ReflectliteType.implements_) func253 kw kw kw kw
def rM:=@run_callFunc_extern prog 137 _ ReflectliteType.typeOf func137 kw kw kw kw
def rN:=@run_callFunc_extern prog 250 _ (ReflectliteType.relation "AssignableTo" ReflectliteType.assignableTo) func250 kw kw kw kw
def rO:=@run_callFunc_extern prog 191 _ (ReflectliteValue.method (ReflectliteValue.valueError "reflectlite.Value.Elem" 0) ReflectliteValue.elem) func191 kw kw kw kw
def rP:=@run_callFunc_extern prog 192 _ ReflectliteValue.set func192 kw kw kw kw
def N8(e:Addr)(t:Addr)(a:rt)(w:rq)(f:E7 w)(c:w t=some a)(l:w.frozen? t=false):rT 75 #[.iface 162 (.pointer (some e)),.iface 164 (.pointer (some t))] w λd w'=>d=.returned (.bool true)/\w'=((((w.alloc (.cells #[.pointer (some t)] 164)).alloc (.cells #[.pointer (some ⟨2,164,none⟩),(w.heap.size,0),.int .u64 150] 247)).alloc (.cells #[.pointer (some ⟨2,164,none⟩),(w.heap.size,0),.int .u64 150] 247)).alloc (.cells #[.pointer (some e)] 162)).setCell t (.pointer (some e)):=by
 unfold E7 at f;have d:=rG;have d:=rH;have d:=rI;have d:=rJ;have d:=rK;have d:=rL;have d:=rM;have d:=rN;have d:=rO;have d:=rP;have d:=YN;have d:=Pl;have d:=Li;have d:=eR;have d:=VI;have d:=TB;have d:=P5;have d:=P4;have d:=P3;have d:=TA;have d:=Ts;have d:=S7;have d:=Sz;have d:=Tp ⟨w.heap.size,0,none⟩ t ((w.alloc<|.cells #[.pointer (some t)] 164).alloc<|.cells #[.pointer (some ⟨2,164,none⟩),(w.heap.size,0),.int .u64 150] 247) lm;have d:0<w.heap.size:=by
  rcases C3 w.heap.size with o|h
  .simp[World.cell?,o]at f
  .exact h
 have o:((w.alloc<|.cells #[.pointer (some t)] 164).alloc<|.cells #[.pointer (some ⟨2,164,none⟩),(w.heap.size,0),.int .u64 150] 247) ⟨0,0,none⟩=some (.iface 286<|.agg #[.pointer (some ⟨2,98,none⟩)]):=by
  rw[World.cell?_alloc_lt _ _ ⟨0,0,none⟩ lm,World.cell?_alloc_lt _ _ ⟨0,0,none⟩ d];exact f
 have d:t.block<w.heap.size:=by
  rcases Nat.lt_or_ge t.block w.heap.size with h|h
  .exact h
  .simp[World.cell?,CR h]at c
 have f:=YM ⟨w.heap.size,0,none⟩ t (((w.alloc<|.cells #[.pointer (some t)] 164).alloc<|.cells #[.pointer (some ⟨2,164,none⟩),(w.heap.size,0),.int .u64 150] 247).alloc<|.cells #[.pointer (some ⟨2,164,none⟩),(w.heap.size,0),.int .u64 150] 247) (by rw[World.cell?_alloc_lt _ _ ⟨w.heap.size,0,none⟩ ls];simp);have st:=LB t ⟨w.heap.size+1+1+1,0,none⟩ e a ((((w.alloc<|.cells #[.pointer (some t)] 164).alloc<|.cells #[.pointer (some ⟨2,164,none⟩),(w.heap.size,0),.int .u64 150] 247).alloc<|.cells #[.pointer (some ⟨2,164,none⟩),(w.heap.size,0),.int .u64 150] 247).alloc<|.cells #[.pointer (some e)] 162)
  (by rw[World.cell?_alloc_at _ _ _ _ lm];rfl)
  (by rw[World.cell?_alloc_lt _ _ t ls,World.cell?_alloc_lt _ _ t ls,World.cell?_alloc_lt _ _ t ls,World.cell?_alloc_lt _ _ t d];exact c)
  (by rw[World.frozen?_alloc_old _ _ t ls,World.frozen?_alloc_old _ _ t ls,World.frozen?_alloc_old _ _ t ls,World.frozen?_alloc_old _ _ t (Nat.ne_of_lt d)];exact l)
 go_enter func75,ntmps75;go_wp2;refine wp_loop_rounds 1 ?_;rw[rounds_succ];go_wp2;go_ret;exact rZ
def OA(e:Int)(t:Addr)(a:rt)(w:rq)(f:E7 w)(c:w t=some a)(l:w.frozen? t=false):rT 75 #[.iface 57 (.int .i64 e),.iface 168 (.pointer (some t))] w λd w'=>d=.returned (.bool true)/\w'=((((w.alloc (.cells #[.pointer (some t)] 168)).alloc (.cells #[.pointer (some ⟨2,168,none⟩),(w.heap.size,0),.int .u64 150] 247)).alloc (.cells #[.pointer (some ⟨2,168,none⟩),(w.heap.size,0),.int .u64 150] 247)).alloc (.cells #[[e]] 57)).setCell t (.int .i64 e):=by
 unfold E7 at f;have d:=rG;have d:=rH;have d:=rI;have d:=rJ;have d:=rK;have d:=rL;have d:=rM;have d:=rN;have d:=rO;have d:=rP;have d:=Oy;have d:=Pl;have d:=Lk;have d:=eQ;have d:=go;have d:=Wr;have d:=P5;have d:=P4;have d:=P3;have d:=Wq;have d:=YO;have d:=Wp;have d:=Wo;have d:=YL ⟨w.heap.size,0,none⟩ t ((w.alloc<|.cells #[.pointer (some t)] 168).alloc<|.cells #[.pointer (some ⟨2,168,none⟩),(w.heap.size,0),.int .u64 150] 247) lm;have d:0<w.heap.size:=by
  rcases C3 w.heap.size with o|h
  .simp[World.cell?,o]at f
  .exact h
 have o:((w.alloc<|.cells #[.pointer (some t)] 168).alloc<|.cells #[.pointer (some ⟨2,168,none⟩),(w.heap.size,0),.int .u64 150] 247) ⟨0,0,none⟩=some (.iface 286<|.agg #[.pointer (some ⟨2,98,none⟩)]):=by
  rw[World.cell?_alloc_lt _ _ ⟨0,0,none⟩ lm,World.cell?_alloc_lt _ _ ⟨0,0,none⟩ d];exact f
 have d:t.block<w.heap.size:=by
  rcases Nat.lt_or_ge t.block w.heap.size with h|h
  .exact h
  .simp[World.cell?,CR h]at c
 have f:=YK ⟨w.heap.size,0,none⟩ t (((w.alloc<|.cells #[.pointer (some t)] 168).alloc<|.cells #[.pointer (some ⟨2,168,none⟩),(w.heap.size,0),.int .u64 150] 247).alloc<|.cells #[.pointer (some ⟨2,168,none⟩),(w.heap.size,0),.int .u64 150] 247) (by rw[World.cell?_alloc_lt _ _ ⟨w.heap.size,0,none⟩ ls];simp);have st:=LC t ⟨w.heap.size+1+1+1,0,none⟩ e a ((((w.alloc<|.cells #[.pointer (some t)] 168).alloc<|.cells #[.pointer (some ⟨2,168,none⟩),(w.heap.size,0),.int .u64 150] 247).alloc<|.cells #[.pointer (some ⟨2,168,none⟩),(w.heap.size,0),.int .u64 150] 247).alloc<|.cells #[[e]] 57)
  (by rw[World.cell?_alloc_at _ _ _ _ lm];rfl)
  (by rw[World.cell?_alloc_lt _ _ t ls,World.cell?_alloc_lt _ _ t ls,World.cell?_alloc_lt _ _ t ls,World.cell?_alloc_lt _ _ t d];exact c)
  (by rw[World.frozen?_alloc_old _ _ t ls,World.frozen?_alloc_old _ _ t ls,World.frozen?_alloc_old _ _ t ls,World.frozen?_alloc_old _ _ t (Nat.ne_of_lt d)];exact l)
 go_enter func75,ntmps75;go_wp2;refine wp_loop_rounds 1 ?_;rw[rounds_succ];go_wp2;go_ret;exact rZ
def Wm(n:Int)(w:rq):(Instr.typeAssert (.iface 57 (.int .i64 n)) 98 290 true).run prog w=.ok (.tuple #[.nilIface,false]) w:=run_typeAssert_lacksB underlying290 kw kw _ _ w
def Wl(n:Int)(w:rq):(Instr.typeAssert (.iface 57 (.int .i64 n)) 98 293 true).run prog w=.ok (.tuple #[.nilIface,false]) w:=run_typeAssert_lacksB underlying293 kw kw _ _ w
def Wk(n:Int)(w:rq):(Instr.typeAssert (.iface 57 (.int .i64 n)) 98 294 true).run prog w=.ok (.tuple #[.nilIface,false]) w:=run_typeAssert_lacksB underlying294 kw kw _ _ w
def Wj(p:Addr)(w:rq):(Instr.typeAssert (.iface 162 (.pointer (some p))) 98 297 true).run prog w=.ok (.tuple #[.nilIface,false]) w:=run_typeAssert_lacksB underlying297 kw kw _ _ w
def Wi(p:Addr)(w:rq):(Instr.typeAssert (.iface 162 (.pointer (some p))) 98 293 true).run prog w=.ok (.tuple #[.iface 162 (.pointer (some p)),true]) w:=run_typeAssert_hasB underlying293 kw _ _ w
def YJ (p : Addr) (w : rq) : (Go.method 451 162 (.pointer (some p)) "Unwrap").run prog w=.ok (240, .pointer (some p)) w := kw
def Nv(p:Addr)(n:Int)(w:rq):(binOp .eql 98 (.iface 162 (.pointer (some p))) (.iface 57 (.int .i64 n))).run prog w=.ok (.bool false) w:=run_eql_iface_types _ _ _ _ underlying98 lc w
def Jz(n:Int)(w:rq):(binOp .eql 98 (.iface 57 (.int .i64 n)) (.iface 57 (.int .i64 n))).run prog w=.ok (.bool true) w:=by
 have a:(prog.info? 57).map (·.comparable)=some true:=kw;obtain⟨i,c,e⟩:=B8.1 a;have h:∀d,(Op.equalIn (d+2) 98 (.iface 57<|.int .i64 n)<|.iface 57<|.int .i64 n).run prog w=.ok true w:=λd=>by simp[Op.equalIn,run_underlying underlying98,run_underlying underlying57,typeInfo,c,e]
 simp only[binOp];simp[Op.equal,Op.maxDepth,h 9998]
def SD (w : rq) : (ReflectliteType.method (λt => do Rtype.noPackHeld "Comparable" t; (λa => Value.bool a.comparable) <$> typeInfo t) #[.agg #[.pointer (some ⟨2, 57, none⟩)]]).run prog w=.ok (.bool true) w := kw
def N9(n:Int)(t:Addr)(a:rt)(w:rq)(c:E7 w)(d:w t=some a):rT 75 #[.iface 57 (.int .i64 n),.iface 164 (.pointer (some t))] w λa w'=>a=.returned (.bool false)/\w'=(((w.alloc (.cells #[.pointer (some t)] 164)).alloc (.cells #[.pointer (some ⟨2,164,none⟩),(w.heap.size,0),.int .u64 150] 247)).alloc (.cells #[.pointer (some ⟨2,164,none⟩),(w.heap.size,0),.int .u64 150] 247)):=by
 unfold E7 at c;have a:=rG;have a:=rH;have a:=rI;have a:=rJ;have a:=rK;have a:=rL;have a:=rM;have a:=rN;have a:=rO;have a:=rP;have a:=Oy;have a:=Pl;have a:=Lj;have a:=VI;have a:=TB;have a:=P5;have a:=P4;have a:=P3;have a:=TA;have a:=Ts;have a:=S7;have a:=Sz;have a:=Wm;have a:=Wl;have a:=Wk;have a:=Tp ⟨w.heap.size,0,none⟩ t ((w.alloc<|.cells #[.pointer (some t)] 164).alloc<|.cells #[.pointer (some ⟨2,164,none⟩),(w.heap.size,0),.int .u64 150] 247) lm;have a:0<w.heap.size:=by
  rcases C3 w.heap.size with d|h
  .simp[World.cell?,d]at c
  .exact h
 have d:((w.alloc<|.cells #[.pointer (some t)] 164).alloc<|.cells #[.pointer (some ⟨2,164,none⟩),(w.heap.size,0),.int .u64 150] 247) ⟨0,0,none⟩=some (.iface 286<|.agg #[.pointer (some ⟨2,98,none⟩)]):=by
  rw[World.cell?_alloc_lt _ _ ⟨0,0,none⟩ lm,World.cell?_alloc_lt _ _ ⟨0,0,none⟩ a];exact c
 go_enter func75,ntmps75;go_wp2;refine wp_loop_rounds 1 ?_;rw[rounds_succ];go_wp2;go_ret;exact rZ
def rQ:=@run_callFunc_extern prog 251 _ (ReflectliteType.method (λt => do Rtype.noPackHeld "Comparable" t; pure (.bool (<- typeInfo t).comparable))) func251 kw kw kw kw
def Ns(n:Int)(w:rq):rT 76 #[.iface 57 (.int .i64 n),.iface 57 (.int .i64 n)] w λa w'=>a=.returned (.bool true)/\w=w':=by
 have a:=rM;have a:=rQ;have a:=Oy;have a:=Jx;have a:=SD;have a:=Jz;go_enter func76,ntmps76;go_wp2;refine wp_loop_rounds 1 ?_;rw[rounds_succ];go_wp2;go_ret;exact rZ
def Nr(p:Nat)(n:Int)(w:rq)(c:w p=some (.int .i64 n)):rT 76 #[.iface 162 (.pointer p),.iface 57 (.int .i64 n)] w λa w'=>a=.returned (.bool true)/\w=w':=by
 have a:=rM;have a:=rQ;have a:=Oy;have a:=Jx;have a:=SD;have a:=Jz;have a:=Nv;have a:=Wj;have a:=Wi;have a:=YJ;go_enter func76,ntmps76;go_wp2;refine wp_loop_rounds 2 ?_;rw[rounds_succ];go_wp2;rw[rounds_succ];go_wp2;go_ret;exact rZ
end
section
open Go.RowKit Go.Proofs.Tryz
def JU(b:Nat):Nat->Prop:=λk=>k=b
def Ny(e:Addr)(c:Nat)(d:rt)(w:rq)(l:E7 w)(f:w c=some d)(o:w.frozen? ⟨c,0,none⟩=false):rT 75 #[.iface 162 (.pointer (some e)),.iface 164 (.pointer c)] w λh w'=>h=.returned (.bool true)/\DO (JU c) w w'/\w' c=some (.pointer (some e)):=by
 refine(N8 e ⟨c,0,none⟩ d w l f o).mono ?_;rintro h w' ⟨rfl,rfl⟩;have d:=zm f;refine⟨rfl,(((((DO.refl (JU c) w).alloc _).alloc _).alloc _).alloc _).setCell (p:=c) rj _,World.cell?_setCell_same _ _ _<|(((((DO.refl DQ w).alloc _).alloc _).alloc _).alloc _).cell (a:=c) id f⟩
def N1(n:Int)(c:Nat)(d:rt)(w:rq)(h:E7 w)(e:w c=some d)(l:w.frozen? ⟨c,0,none⟩=false):rT 75 #[.iface 57 (.int .i64 n),.iface 168 (.pointer c)] w λf w'=>f=.returned (.bool true)/\DO (JU c) w w'/\w' c=some (.int .i64 n):=by
 refine(OA n ⟨c,0,none⟩ d w h e l).mono ?_;rintro f w' ⟨rfl,rfl⟩;refine⟨rfl,(((((DO.refl (JU c) w).alloc _).alloc _).alloc _).alloc _).setCell (p:=c) rj _,World.cell?_setCell_same _ _ _<|(((((DO.refl DQ w).alloc _).alloc _).alloc _).alloc _).cell (a:=c) id e⟩
def Nz(n:Int)(c:Nat)(a:rt)(w:rq)(e:E7 w)(f:w c=some a):rT 75 #[.iface 57 (.int .i64 n),.iface 164 (.pointer c)] w λd w'=>d=.returned (.bool false)/\DO DQ w w':=by
 refine(N9 n ⟨c,0,none⟩ a w e f).mono ?_;rintro d w' ⟨rfl,rfl⟩;exact⟨rfl,(((DO.refl DQ w).alloc _).alloc _).alloc _⟩
variable{S:Nat->Prop}{w w':rq}
def E7.mod(h:E7 w)(m:DO S w w')(c:¬S 0):E7 w':=m.cell (a:=⟨0,0,none⟩) c h
def MI(w:rq)(n at_:Int)(e:Ending)(w':rq):Prop:=e=.returned (.tuple #[[n],[at_]])/\DO DQ w w'
def Qo(w:rq):rT 43 #[.nilIface] w (MI w 0 (-1)):=by
 go_enter func43,ntmps43;go_wp2_with fail;go_ret2;exact⟨rfl,(rp.alloc _).alloc _⟩
def YI(n:Int)(w:rq):(binOp .eql 98 (.iface 57 (.int .i64 n)) .nilIface).run prog w=.ok (.bool false) w:=kw
def YH(p:Addr)(w:rq):(binOp .eql 98 (.iface 162 (.pointer (some p))) .nilIface).run prog w=.ok (.bool false) w:=kw
structure Ln(w W:rq):Prop where
 o0:W.heap[w.heap.size]?=some (.cells #[.pointer none] 162 (0,0))
 o1:W.heap[w.heap.size+1]?=some (.cells #[.int .i64 0] 57 (0,0))
 m:DO DQ w W
def VH(w:rq):Ln w ((w.alloc (.cells #[.pointer none] 162)).alloc (.cells #[.int .i64 0] 57)):=by
 have a:(w.alloc<|.cells #[.pointer none] 162).heap.size=w.heap.size+1:=lm;refine⟨((DO.refl DQ _).alloc _).obj rk<|heap_alloc_new w _,?_,((DO.refl DQ w).alloc _).alloc _⟩;rw[<-a];exact heap_alloc_new _ _
def P9(n:Int)(w:rq)(f:E7 w):rT 43 #[.iface 57 (.int .i64 n)] w (MI w n (-1)):=by
 have a:=YI n;have a:=VH w;obtain⟨W,d⟩:=nm<|(w.alloc<|.cells #[.pointer none] 162).alloc<|.cells #[.int .i64 0] 57;rw[d]at a;have o:W.heap.size=w.heap.size+1+1:=by rw[<-d];simp
 have h:=zm f;have h:=f.mod a.m rk;have p:=Nz n w.heap.size _ W h<|za a.o0 rfl;have l:=zb a;have t:=zb h;have u:=zb d;have E:=zb o;clear a h d o f;go_enter func43,ntmps43;go_wp2_with fail;rw[u.z];refine p.mono ?_;rintro e v ⟨rfl,c⟩;have q:=N1 n (w.heap.size+1) _ v (t.z.mod c rk) (za (c.obj rk l.z.o1) rfl)<|zg<|c.obj rk l.z.o1;clear p;have z:=zb c;clear c;go_wp2_with fail;refine q.mono ?_;rintro e A ⟨rfl,s,c2⟩;have a:=Ns n A;have B:=zb s;clear s q;go_wp2_with fail;refine a.mono ?_;rintro e a ⟨rfl,rfl⟩;go_wp2_with fail;go_ret2;exact⟨rfl,(l.z.m.trans z.z).then B.z<|λk a=>by unfold JU at a;omega⟩
def Sg(p:Nat)(n at_:Int)(w:rq)(h:E7 w)(l:w p=some (.int .i64 n))(d:w (p,1)=some (.int .i64 at_)):rT 43 #[.iface 162 (.pointer p)] w (MI w n at_):=by
 have c:=YH ⟨p,0,none⟩;have c:=VH w;obtain⟨W,o⟩:=nm<|(w.alloc<|.cells #[.pointer none] 162).alloc<|.cells #[.int .i64 0] 57;rw[o]at c;have q:=zm l;have q:=zm h;have q:=h.mod c.m rk;have s:=Ny ⟨p,0,none⟩ w.heap.size _ W q (za c.o0 rfl)<|zg c.o0;have p0:=c.m.cell (a:=p) id l;have p1:=c.m.cell (a:=U p 1) id d;have u:=zb c;have v:=zb o;clear c q o h;go_enter func43,ntmps43;go_wp2_with fail;rw[v.z];refine s.mono ?_;rintro e z ⟨rfl,f,c1⟩;have c:¬JU w.heap.size p:=by unfold JU;omega
 have h:=f.cell (a:=p) c p0;have o:=f.cell (a:=U p 1) c p1;have t:=Nr p n z h;have A:=zb f;clear f s p0 p1 l d;go_wp2_with fail;refine t.mono ?_;rintro e a ⟨rfl,rfl⟩;clear t;go_wp2_with fail;go_quiet (fail);go_wp2_with fail;go_ret2;exact⟨rfl,(u.z.m.then A.z<|λk a=>by unfold JU at a;omega).drewN _⟩
def To(w:rq)(n:Int)(e:Ending)(w':rq):Prop:=e=.returned (.int .i64 n)/\DO DQ w w'
def Um(v:rt)(n at_:Int)(w:rq)(h:rT 43 #[v] w (MI w n at_)):rT 53 #[v] w (To w n):=by
 go_enter func53,ntmps53;go_wp2_with fail;refine h.mono ?_;rintro e c ⟨rfl,a⟩;go_wp2_with fail;go_ret;exact⟨rfl,a⟩
def EJ(n:Nat):rt:=if n=0 then .nilIface else .iface 57 (.int .i64 n)
def fF:EJ 0=.nilIface:=rfl
def JD{n:Nat}(h:n≠0):EJ n=.iface 57 (.int .i64 n):=by simp[EJ,h]
def Kw(n:Nat)(w:rq)(a:E7 w):rT 53 #[EJ n] w (To w (n:Int)):=by
 by_cases h:n=0
 .subst h;exact Um _ _ _ w<|Qo w
 rw[JD h];exact Um _ _ _ w<|P9 (n:Int) w a
def Dk(tag:rD)(i b:Nat)(W:rq)(c':CS)(W':rq):Prop :=
 ∃ky a,zi ky i b c' a W'/\Di i tag ky W W'/\DO (λg=>(tag g).1=i) W W'
def EI(tag:rD)(i b:Nat)(W:rq)(r:rt)(c':CS)(e:Ending)(W':rq):Prop:=e=.returned r/\Dk tag i b W c' W'
structure JC(c c':CS):Prop where
 lQ:c'.lQ=c.lQ
 ws:∀k,k<8->(c' k).b=(c k).b/\(c' k).lJ.rs=(c k).lJ.rs/\(c' k).lC.rs=(c k).lC.rs
 rs:∀k,k<8->(c'.rs k).b=(c.rs k).b/\(c'.rs k).lC.rs=(c.rs k).lC.rs
 kx:c'.kx=c.kx
 waits:c'.waits=c.waits
 seen:c'.seen=c.seen
 lC:c'.lC=c.lC
def JC.refl(c:CS):JC c c:=⟨rfl,λ_ _=>⟨rfl,rfl,rfl⟩,λ_ _=>⟨rfl,rfl⟩,rfl,rfl,rfl,rfl⟩
variable{V:CV}{W W':rq}{b i:Nat}{c c':CS}{tag:rD}
def zi.re(h:zi tag i b c V W)(m:DO (λg=>g=b) W W')(d:W'.heap[b]?=some (.cells (zx c' V).toArray 127 (0,0)))(s:JC c c'):zi tag i b c' V W':=by
 have q:∀{g:Nat} {r:Nat},tag g=(i,r)->r≠1->¬g=b:=λc a x=>by
  rw[x,h.tb]at c;simp at c;exact a c.symm
 have e:∀(a k:Nat),1<a->a+k≠1:=λa k a=>I
 obtain⟨a,f,o,l,t,u,v⟩:=s;exact
  {obj:=d
   tb:=h.tb
   lQ:=by rw[a];exact h.lQ.mod m (q h.tg lc)<|λg c=>q (h.oN g c) lc
   tg:=h.tg
   oN:=h.oN
   wb:=λk a=>by rw[(f k a).1];exact m.owns (h.wb k a)<|λg c=>q (h.oC k a g c)<|e _ _ lc
   ws:=λk a=>by rw[(f k a).2.1];exact m.owns (h.ws k a)<|λg c=>q (h.ng k a g c)<|e _ _ lc
   wc:=λk a=>by rw[(f k a).2.2];exact m.owns (h.wc k a)<|λg c=>q (h.oB k a g c)<|e _ _ lc
   rb:=λk a=>by rw[(o k a).1];exact m.owns (h.rb k a)<|λg c=>q (h.oM k a g c)<|e _ _ lc
   rc:=λk a=>by rw[(o k a).2];exact m.owns (h.rc k a)<|λg c=>q (h.oK k a g c)<|e _ _ lc
   oC:=h.oC
   ng:=h.ng
   oB:=h.oB
   oM:=h.oM
   oK:=h.oK
   ft:=by rw[l];exact m.owns h.ft<|λg c=>q (h.nj g c) lc
   fl:=by rw[l];exact h.fl
   fs:=λp a=>by rw[l]at a;exact(h.fs p a).mod m (λg c x=>q x lc c) (λg c=>c)
   nj:=h.nj
   wt:=by rw[t];exact h.wt.mod m<|λg c=>q (h.ni g c) lc
   ni:=h.ni
   sn:=by rw[u];exact h.sn.mod m<|q h.oJ lc
   oJ:=h.oJ
   cm:=by rw[v];exact m.owns h.cm<|λg c=>q (h.oE g c) lc
   oE:=h.oE }
def zi.store(h:zi tag i b c V W)(j:Nat)(v:rt)(a:(zx c V).set j v=zx c' V)(s:JC c c'):zi tag i b c' V (W.setCell (b,j) v) :=
 h.re ((DO.refl (λg=>g=b) _).setCell (p:=(b,j)) rj _) (by rw[zc h.obj,Ao,a]) s
def zi.left(h:zi tag i b c V W')(a:Dm tag W)(m:DO (λg=>(tag g).1=i) W W'):Dk tag i b W c W':=⟨tag,V,h,Di.same a m,m⟩
def zi.o5(h:zi tag i b c V W)(m:DO (λg=>g=b) W W'):DO (λg=>(tag g).1=i) W W':=m.mono (λg a=>.inl (by rw[a,h.tb]))
variable{k:Nat}
def zi.nL(h:zi tag i b c V W)(d:k<8)(j:Nat)(e:j<15)(v:rt)(x:WS)(f:Ft x (V.wb k) (V k) (V.wc k)=(Ft (c k) (V.wb k) (V k) (V.wc k)).set j v)(l:x.b=(c k).b)(o:x.lJ.rs=(c k).lJ.rs)(p:x.lC.rs=(c k).lC.rs):zi tag i b { c with ws:=ze c.ws k x } V (W.setCell (b,9+15*k+j) v):=by
 refine h.store _ _ (Hl _ _ _ _ _ d e (λq _=>?_) rfl rfl rfl) ⟨rfl,λq c=>?_,λ_ _=>⟨rfl,rfl⟩,rfl,rfl,rfl,rfl⟩
 .by_cases a:q=k
  .subst a;simp only[zf,A9];exact f
  simp only[zd _ _ a,AH a]
 by_cases a:q=k
 .subst a;simp only[zf];exact⟨l,o,p⟩
 simp[zd _ _ a]
def zi.mq(h:zi tag i b c V W)(d:k<8)(j:Nat)(e:j<13)(v:rt)(x:RS)(f:Gi x (V.rb k) (V.rc k)=(Gi (c.rs k) (V.rb k) (V.rc k)).set j v)(l:x.b=(c.rs k).b)(o:x.lC.rs=(c.rs k).lC.rs):zi tag i b { c with rs:=ze c.rs k x } V (W.setCell (b,129+13*k+j) v):=by
 refine h.store _ _ (Kx _ _ _ _ _ d e (λq _=>?_) rfl rfl rfl) ⟨rfl,λ_ _=>⟨rfl,rfl,rfl⟩,λq c=>?_,rfl,rfl,rfl,rfl⟩
 .by_cases a:q=k
  .subst a;simp only[zf,A9];exact f
  simp only[zd _ _ a,AH a]
 by_cases a:q=k
 .subst a;simp only[zf];exact⟨l,o⟩
 simp[zd _ _ a]
def CS.stream(c:CS)(k:Int):Nat:=if c.closed≠0 then 12 else if k<0\/8<=k then 2 else 0
def PW(h:zi tag i b c V W)(k:Int):rT 90 #[(b,0),[k]] W λe W'=>e=.returned (EJ (c.stream k))/\W=W':=by
 have c4:=h.hd (j:=4) rfl;unfold CS.stream EJ;clear h;by_cases a:c.closed=0
 .rw[a]at c4;by_cases d:k<0
  .simp only[a,d,true_or,ne_eq,CI,BZ,A9];clear a;go_enter func90,ntmps90;go_wp2_with fail;go_ret;exact rZ
  by_cases e:8<=k
  .simp only[a,e,or_true,ne_eq,CI,BZ,A9];clear a;go_enter func90,ntmps90;go_wp2_with fail;go_ret;exact rZ
  simp only[a,d,e,or_self,ne_eq,CI,BZ,A9];clear a;go_enter func90,ntmps90;go_wp2_with fail;go_ret;exact rZ
 have hb:((c.closed:Int)==0)=false:=AR.2 I;simp only[a,ne_eq,Av,A9];clear a;go_enter func90,ntmps90;go_wp2_with fail;go_ret;exact rZ
def CS.err(c:CS):Nat:=c.closed
def CS.finish(c:CS)(k:Int):Nat×CS :=
 if c.stream k≠0 then(c.stream k,c)else if (c k.toNat).finished||(c k.toNat).cut then(4,c)else(0,{ c with ws:=ze c.ws k.toNat { c.ws k.toNat with finished:=true } })
def ic(h:zi tag i b c V W)(s:Dm tag W)(k:Int):rT 70 #[(b,0),[k]] W (EI tag i b W (EJ (c.finish k).1) (c.finish k).2):=by
 have e:=PW h k;have t:=zb<|h.left s rp;unfold CS.finish;by_cases d:c.stream k=0
 .obtain⟨a,f,l⟩:0<=k/\k<8/\c.closed=0:=by
   unfold CS.stream at d;split at d
   .cases d
   split at d
   .cases d
   rename_i a b;simp at a;omega
  obtain⟨q,rfl⟩:∃q:Nat,k=(q:Int):=⟨k.toNat,I⟩;have o:q<8:=I;rw[d]at e;simp only[d,Ad,ne_eq,CI,BZ];obtain⟨v,a⟩:=nm<|(c q).finished;obtain⟨z,f⟩:=nm<|(c q).cut;have u:W (b,9+q*15+8)=some (.bool v):=by rw[<-a,AL];exact h.w (j:=8) o rfl
  have u:W (b,9+q*15+10)=some (.bool z):=by rw[<-f,AL];exact h.w (j:=10) o rfl
  have u:=h.fz<|9+q*15+8;have u:=h.nL o 8 lc (.bool true) { c.ws q with finished:=true } rfl rfl rfl rfl;rw[AL]at u;have H:=zb<|u.left s<|h.o5<|(DO.refl (λg=>g=b) _).setCell (p:=(b,9+q*15+8)) rj _;obtain⟨c1,o⟩:∃c1:CS,{ c with ws:=ze c.ws q { c.ws q with finished:=true } }=c1:=⟨_,rfl⟩;rw[o]at H ⊢;rw[a,f];clear h u s a f d l o;cases v
  .cases z
   .go_enter func70,ntmps70;go_wp2_with (go_at_call 90;refine e.mono ?_;rintro _ _ ⟨rfl,rfl⟩;unfold EJ;simp only[A9]);go_ret;exact⟨rfl,H.z⟩
   go_enter func70,ntmps70;go_wp2_with (go_at_call 90;refine e.mono ?_;rintro _ _ ⟨rfl,rfl⟩;unfold EJ;simp only[A9]);go_ret;exact⟨rfl,t.z⟩
  go_enter func70,ntmps70;go_wp2_with (go_at_call 90;refine e.mono ?_;rintro _ _ ⟨rfl,rfl⟩;unfold EJ;simp only[A9]);go_ret;exact⟨rfl,t.z⟩
 obtain⟨n,l⟩:=nm<|c.stream k;rw[l]at e d;simp only[l,d,ne_eq,Av,A9];rw[JD d]at e ⊢;clear h s l d;go_enter func70,ntmps70;go_wp2_with (go_at_call 90;refine e.mono ?_;rintro _ _ ⟨rfl,rfl⟩);go_ret;exact⟨rfl,t.z⟩
end
end Go.Proofs.YtddfdpbaiedcjaaGreatDoor
