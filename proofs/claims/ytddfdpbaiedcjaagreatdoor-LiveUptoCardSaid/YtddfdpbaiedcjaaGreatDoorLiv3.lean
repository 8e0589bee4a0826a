/- A part of Live's proof. Conditions: none. Part 3 of 15. -/
import Derived.Test.YtddfdpbaiedcjaaGreatDoorLiv2
import Derived.Stop.Asserts
import Derived.RowKitTokens
set_option maxRecDepth 100000
set_option maxHeartbeats 16000000
set_option linter.all false
namespace Go.Proofs.YtddfdpbaiedcjaaGreatDoor
section
open Go.RowKit Go.Proofs.Tryz
theorem iu(l:nG):∀s:ByteArray,(l.map λc=>((c.toNat:Nat):Int)).foldl (λr n=>r.push (UInt8.ofNat n.toNat)) s=⟨s.data++l.toArray⟩:=by
 induction l with
 | nil=>intro s;simp
 | cons c l ih =>
  intro s;simp only[Bq,List.foldl_cons,Ae,UInt8.ofNat_toNat];rw[ih];simp[ByteArray.push]
variable{l:nG}{v:Value}{w:World}
theorem Ju(h:BR w v l):(convert 60 9 v).run prog w=.ok (.string (zu l)) w:=by
 obtain⟨a,cap,rfl,h1,h2,h3⟩:=h;rw[run_convert_bytes_string w _ _ _ a l.length cap underlying60 underlying5 underlying9];cases a with
 | none =>
  have hl:l=[]:=by
   cases l with
   | nil=>rfl
   | cons c l =>
    obtain⟨g,o,e,_⟩:=h3 0 c rfl;cases e
  subst hl;rfl
 | some a =>
  have b:∀j u,(zU l)[j]?=some u->w.cell? (a.add j)=some u:=by
   intro j u d;simp only[zU,Bc,CB]at d;obtain⟨c,hc,rfl⟩:=d;obtain⟨g,o,e,hh⟩:=h3 j c hc;cases e;rw[zZ];exact hh
  have Ms:(loadCells a l.length).run prog w=.ok ((l.map λc=>((c.toNat:Nat):Int)).map (Value.int .u8)).toArray w:=by
   have:=run_loadCells_list (P:=prog) (w:=w) a (zU l) b;rw[JH]at this;rw[this];simp[zU]
  rw[run_bytesToString w a l.length cap _ Ms,iu];simp[zu]
def Fk(bs:nG)(pos:Nat):Option (Nat×Nat):=(Dy bs pos).bind λq=>if q.1<8 then some q else none
def GE(bs:nG)(pos:Nat):Option (nG×Nat):=(Dy bs pos).bind λq=>if q.1<=bs.length-q.2 then some ((bs.drop q.2).take q.1,q.2+q.1)else none
variable{bs:nG}{p pos:Nat}
theorem zY{n:Nat}(h:Dy bs pos=some (n,p)):pos<p/\p<=bs.length/\n<4611686018427387904:=by
 unfold Dy at h;cases hc:bs[pos]? with
 | none=>rw[hc]at h;cases h
 | some c =>
  rw[hc]at h;simp only at h;split at h
  .rename_i hfit;simp only[Au,BJ]at h;obtain⟨rfl,rfl⟩:=h;have hz1:1<=EK c:=Nat.one_le_two_pow;have hcl:=c.toNat_lt;have hq:c.toNat / 64=0\/c.toNat / 64=1\/c.toNat / 64=2\/c.toNat / 64=3:=I;have hz8:EK c<=8:=by
    unfold EK;rcases hq with e|e|e|e<;>rw[e]<;>decide
   refine⟨I,hfit,?_⟩;have h1:=Tt c ((bs.drop (pos+1)).take (EK c-1));have h2:((bs.drop (pos+1)).take (EK c-1)).length<=7:=by rw[AU];omega
   have h5:64*256 ^ ((bs.drop (pos+1)).take (EK c-1)).length<=64*256 ^ 7:=C2 _ (Nat.pow_le_pow_right I h2);have h6:64*256 ^ 7=4611686018427387904:=mu;omega
  cases h
theorem Rz(rb pos:Nat)(v:Value)(bs:nG)(w:World)(h:EO w rb v pos)(hb:BR w v bs)(i:Dp (EU rb) v)(hp:pos<=bs.length):Calls prog 178 #[(rb,0)] w (SU w rb v ((Fk bs pos).map λq=>(.int .i64 q.1,q.2))):=by
 have hc:=Gr rb pos v bs w h hb i hp;clear h hb i;cases hr:Dy bs pos with
 | none =>
  rw[hr]at hc;have c:AA (Fk bs pos=none):=by show _=_;rw[Fk,hr];rfl
  clear hr;go_enter func178,ntmps178;go_wp2_with (go_at_call 127;refine hc.mono ?_;rintro e j (⟨_,_,hx,_⟩|⟨_,d,b⟩);cases hx;unfold EH at d;subst d);exact⟨rfl,.inr ⟨by rw[c.z];rfl,rfl,b⟩⟩
 | some q =>
  obtain⟨n,p⟩:=q;obtain⟨q1,q2,q3⟩:=zY hr;rw[hr]at hc;by_cases k:n<8
  .have c:AA (Fk bs pos=some (n,p)):=by show _=_;rw[Fk,hr];simp[k]
   have f:¬(8:Int)<=n:=I;have e1:IntKind.i64.wrap (n:Int)=n:=IntWalk.i64_in _ I;clear hr;go_enter func178,ntmps178;go_wp2_with fail;refine hc.mono ?_;rintro e j (⟨_,_,hx,rfl,a,b⟩|⟨hx,_⟩)
   .simp only[Az,Au,BJ]at hx;obtain⟨rfl,rfl⟩:=hx;have HA:=zb a;have g:=zb b;clear a b;go_wp2_with fail;go_ret;exact .inl ⟨_,_,by rw[c.z];rfl,rfl,HA.z,g.z⟩
   cases hx
  have c:AA (Fk bs pos=none):=by show _=_;rw[Fk,hr];simp[k]
  have f:(8:Int)<=n:=I;clear hr;go_enter func178,ntmps178;go_wp2_with fail;refine hc.mono ?_;rintro e j (⟨_,_,hx,rfl,a,b⟩|⟨hx,_⟩)
  .simp only[Az,Au,BJ]at hx;obtain⟨rfl,rfl⟩:=hx;have g:=zb b;clear a b;go_wp2_with (go_at_call 128;refine(Jg _ _).mono ?_;rintro e w' ⟨d,rfl⟩;unfold EH at d;subst d);exact⟨rfl,.inr ⟨by rw[c.z];rfl,rfl,g.z⟩⟩
  cases hx
theorem VE(rb pos:Nat)(v:Value)(bs:nG)(w:World)(h:EO w rb v pos)(hb:BR w v bs)(j:Dp (EU rb) v)(hp:pos<=bs.length):Calls prog 183 #[(rb,0)] w (SU w rb v ((GE bs pos).map λq=>(.string (zu q.1),q.2))):=by
 have hc:=Gr rb pos v bs w h hb j hp;have u:=zb hb;clear h hb;cases hr:Dy bs pos with
 | none =>
  rw[hr]at hc;have f:AA (GE bs pos=none):=by show _=_;rw[GE,hr];rfl
  clear hr j;go_enter func183,ntmps183;go_wp2_with (go_at_call 127;refine hc.mono ?_;rintro e k (⟨_,_,hx,_⟩|⟨_,g,b⟩);cases hx;unfold EH at g;subst g);exact⟨rfl,.inr ⟨by rw[f.z];rfl,rfl,b⟩⟩
 | some q =>
  obtain⟨n,p⟩:=q;obtain⟨q1,q2,q3⟩:=zY hr;rw[hr]at hc;have x:=zb hr;have m:=zb j;clear hr j;by_cases c:n<=bs.length-p
  .have f:AA (GE bs pos=some ((bs.drop p).take n,p+n)):=by show _=_;rw[GE,x.z];simp[c]
   go_enter func183,ntmps183;go_wp2_with fail;refine hc.mono ?_;rintro e k (⟨_,_,hx,rfl,a,b⟩|⟨hx,_⟩)
   .simp only[Az,Au,BJ]at hx;obtain⟨rfl,rfl⟩:=hx;have l:=Ou rb n p (n:Int) rfl v bs k a (u.z.mod b m.z) m.z I;have o:=zb b;clear a b;go_wp2_with fail;refine l.mono ?_;rintro e w2 ⟨sv,rfl,i,h2,y⟩;have r:=Ju i;have H2:=zb h2;have s:=zb y;obtain⟨a2,z,rfl,_⟩:=i;obtain⟨l2,d⟩:=nm ((bs.drop p).take n);rw[d]at r f;rw[d];clear h2 y l d;go_wp2_with fail;go_ret;exact .inl ⟨_,_,by rw[f.z];rfl,rfl,H2.z,o.z.trans s.z⟩
   cases hx
  have f:AA (GE bs pos=none):=by show _=_;rw[GE,x.z];simp[c]
  go_enter func183,ntmps183;go_wp2_with fail;refine hc.mono ?_;rintro e k (⟨_,_,hx,rfl,a,b⟩|⟨hx,_⟩)
  .simp only[Az,Au,BJ]at hx;obtain⟨rfl,rfl⟩:=hx;have l:=Qb rb n p (n:Int) rfl v bs k a (u.z.mod b m.z) I I;have o:=zb b;clear a b;go_wp2_with (go_at_call 129;refine l.mono ?_;rintro e w' ⟨g,t⟩;unfold EH at g;subst g);exact⟨rfl,.inr ⟨by rw[f.z];rfl,rfl,o.z.trans t⟩⟩
  cases hx
def FZ(t:UInt8):Option Int :=
 if t=1 then some 1 else if t=2 then some 2 else if t=8\/t=9 then some 4 else if t=16 then some 5 else if t=17 then some 6 else if t=28 then some 8 else if t=36 then some 3 else if t=48 then some 7 else none
def iW(t:UInt8)(w:World)(h:FZ t=none):Calls prog 130 #[.int .u8 (t.toNat:Int)] w λe w'=>e=.returned (.tuple #[.int .i64 0,false])/\w=w':=by
 have a:∀c:UInt8,c ∈ [1,2,8,9,16,17,28,36,48]->((t.toNat:Int)==(c.toNat:Int))=false:=by
  intro c hc;rw[AS];intro he;have:t=c:=Cx.1 I;subst this;simp only[Av,Cf,or_false]at hc;rcases hc with rfl|rfl|rfl|rfl|rfl|rfl|rfl|rfl|rfl<;>simp[FZ]at h
 have h1:((t.toNat:Int)==1)=false:=a 1 mv;have h2:((t.toNat:Int)==2)=false:=a 2 mv;have h3:((t.toNat:Int)==8)=false:=a 8 mv;have h4:((t.toNat:Int)==9)=false:=a 9 mv;have h5:((t.toNat:Int)==16)=false:=a 16 mv;have h6:((t.toNat:Int)==17)=false:=a 17 mv;have h7:((t.toNat:Int)==28)=false:=a 28 mv;have h8:((t.toNat:Int)==36)=false:=a 36 mv;have h9:((t.toNat:Int)==48)=false:=a 48 mv;clear a h;go_enter func130,ntmps130;go_wp2_with fail;go_ret2;exact⟨rfl,rfl⟩
def iV(t:UInt8)(k:Int)(w:World)(h:FZ t=some k):Calls prog 130 #[.int .u8 (t.toNat:Int)] w λe w'=>e=.returned (.tuple #[[k],true])/\w=w':=by
 have hc:t∈([1,2,8,9,16,17,28,36,48]:nG):=by
  refine Decidable.byContradiction λhc=>?_
  simp only[Av,Cf,or_false,not_or]at hc;obtain⟨a1,a2,a3,a4,a5,a6,a7,a8,a9⟩:=hc;simp[FZ, *]at h
 simp only[Av,Cf,or_false]at hc;rcases hc with rfl|rfl|rfl|rfl|rfl|rfl|rfl|rfl|rfl;all_goals
  simp[FZ]at h;subst h;simp only[UInt8.reduceToNat];go_enter func130,ntmps130;go_wp2_with fail;go_ret2;exact⟨rfl,rfl⟩
def IG(rb fb:Nat):Nat->Prop:=λk=>k=rb\/k=fb
def Fh(w:World)(v:Value)(rs:zC):Prop:=w.ownsRow 0 214 2 v rs.length (zq rs)/\∀i,i<rs.length->DZ rs i<18446744073709551616/\DX rs i<18446744073709551616
def Fh.nil(w:World):Fh w (.slice none 0 0) []:=⟨World.ownsRow_nil w 0 _ 2,λi hi=>absurd hi (A5 i)⟩
variable{S:Nat->Prop}{rs:zC}{w':World}
def Fh.mod(h:Fh w v rs)(m:DW S w w')(hs:∀g,v.ownBlock=some g->¬S g):Fh w' v rs:=⟨m.owns h.1 hs,h.2⟩
def Fh.rr(h:Fh w v rs):RR w v rs:=by
 obtain⟨a,cap,rfl,h1,h2,h3⟩:=zk h.1;refine⟨a,cap,rfl,h1,h2,λi hi=>?_⟩;obtain⟨g,rfl⟩:=h3 I;have:=Ir h.1 i hi;exact⟨g,0,rfl,nF this.1,nF this.2,h.2 i hi⟩
def Ig(w:World)(v:Value):Prop:=∀g o n c,v=.slice (some ⟨g,o,none⟩) n c->w.heap.size<=g
def f0(k:Int)(b:Bool):Da:={ kind:=k,stream:=0,off:=0,rel:=0,lim:=0,fin:=b,id:=0,dl:=0,data:=[],rngs:=[] }
def KK(w:World)(rb:Nat)(v:Value)(fb:Nat)(r:Option (Da×Nat))(e:Ending)(w':World):Prop :=
 (∃f rv p,r=some (f,p)/\e=.returned (.tuple #[])/\EO w' rb v p/\zj w' fb f rv/\Fh w' rv f.rngs/\Ig w rv/\DW (IG rb fb) w w')\/(r=none/\e=EH/\DW (IG rb fb) w w')
variable{rb:Nat}
def Em{fb:Nat}(m:DW (EU rb) w w'):DW (IG rb fb) w w':=m.mono (λ_ h=>.inl (.inl h))
def Ig.nil(w:World):Ig w (.slice none 0 0):=λ_ _ _ _ h=>by cases h
def read1(rb fb pos:Nat)(v:Value)(b:Bool)(w:World)(h:EO w rb v pos)(hf:zj w fb (f0 1 b) (.slice none 0 0)):Calls prog 171 #[(rb,0),(fb,0)] w (KK w rb v fb (some (f0 1 b,pos))):=by
 go_enter func171,ntmps171;go_wp2_with fail;exact bodyPost_end (results_none rfl _ _ _) rfl (.inl ⟨_,_,_,rfl,rfl,h,hf,Fh.nil w,Ig.nil w,DW.refl _ _⟩)
variable{b i:Nat}{f:Da}{rv:Value}
def zj.set{f':Da}{rv':Value}(h:zj w b f rv)(he:(zl f rv).setIfInBounds i v=zl f' rv'):zj (w.setCell (b,i) v) b f' rv':=by
 unfold zj at h ⊢;rw[zc h,he]
def IT{n:Nat}(h:Dy bs pos=some (n,p)):p<=bs.length:=(zY h).2.1
theorem Rq{n:Nat}(h:Fk bs pos=some (n,p)):p<=bs.length:=by
 unfold Fk at h;cases hr:Dy bs pos with
 | none=>rw[hr]at h;cases h
 | some q =>
  rw[hr]at h;simp only[AX]at h;split at h
  .cases h;exact IT hr
  cases h
theorem Rf(h:GE bs pos=some (l,p)):p<=bs.length:=by
 unfold GE at h;cases hr:Dy bs pos with
 | none=>rw[hr]at h;cases h
 | some q =>
  rw[hr]at h;have:=IT hr;simp only[AX]at h;split at h
  .cases h;omega
  cases h
def Hd(b:Bool)(bs:nG)(pos:Nat):Option (Da×Nat) :=
 (Fk bs pos).bind fun(x1,p1)=>(Dy bs p1).bind fun(x2,p2)=>(Dy bs p2).bind fun(x3,p3)=>some ({ f0 3 b with stream:=(x1:Int),off:=x2,rel:=x3 },p3)
theorem Ns(rb fb pos:Nat)(v:Value)(bs:nG)(b:Bool)(w:World)(h:EO w rb v pos)(hb:BR w v bs)(J:Dp (IG rb fb) v)(hp:pos<=bs.length)(hf:zj w fb (f0 3 b) (.slice none 0 0))(m:fb≠rb):Calls prog 177 #[(rb,0),(fb,0)] w (KK w rb v fb (Hd b bs pos)):=by
 have q:Dp (EU rb) v:=λg o n c e hx=>J g o n c e (.inl hx)
 have W0:w=w:=rfl;have C:=zb (DW.refl (EU rb) w);have D:=zb hb;have Hf:=zb hf;have r:=zb q;have s:=zb m;clear hb J hf q m W0;have c1:=Rz rb pos v bs w h (D.z) r.z hp;cases hr1:Fk bs pos with
 | none =>
  rw[hr1]at c1;have t:AA (Hd b bs pos=none):=by
   show _=_;unfold Hd;simp only[hr1,AX,BV]
  clear hr1;go_enter func177,ntmps177;go_wp2_with (go_at_call 178;refine c1.mono ?_;rintro e w' (⟨_,_,hx,_⟩|⟨_,a,u⟩);cases hx;unfold EH at a;subst a);exact⟨rfl,.inr ⟨t.z,rfl,Em (u)⟩⟩
 | some q1 =>
  obtain⟨x,p1⟩:=q1;rw[hr1]at c1;have E:=Rq hr1;have d:=zb hr1;clear hr1;go_enter func177,ntmps177;go_wp2_with fail;refine c1.mono ?_;rintro e w1 (⟨_,_,hx,rfl,h1,m1⟩|⟨hx,_⟩);rotate_left
  .cases hx
  simp only[Az,Au,BJ]at hx;obtain⟨rfl,rfl⟩:=hx;have f:=zb (C.z.trans m1);clear c1 m1;have c2:=Gr rb p1 v bs w1 h1 (D.z.mod f.z r.z) r.z E;cases hr2:Dy bs p1 with
  | none =>
   rw[hr2]at c2;have t:AA (Hd b bs pos=none):=by
    show _=_;unfold Hd;simp only[d.z,hr2,AX,BV]
   clear hr2;go_wp2_with (go_at_call 127;refine c2.mono ?_;rintro e w' (⟨_,_,hx,_⟩|⟨_,a,u⟩);cases hx;unfold EH at a;subst a);exact⟨rfl,.inr ⟨t.z,rfl,Em (f.z.trans u)⟩⟩
  | some q2 =>
   obtain⟨A,p2⟩:=q2;rw[hr2]at c2;have F:=IT hr2;have y:=zb hr2;clear hr2;go_wp2_with fail;refine c2.mono ?_;rintro e w2 (⟨_,_,hx,rfl,h2,K⟩|⟨hx,_⟩);rotate_left
   .cases hx
   simp only[Az,Au,BJ]at hx;obtain⟨rfl,rfl⟩:=hx;have l:=zb (f.z.trans K);clear c2 K;have c3:=Gr rb p2 v bs w2 h2 (D.z.mod l.z r.z) r.z F;cases hr3:Dy bs p2 with
   | none =>
    rw[hr3]at c3;have t:AA (Hd b bs pos=none):=by
     show _=_;unfold Hd;simp only[d.z,y.z,hr3,AX,BV]
    clear hr3;go_wp2_with (go_at_call 127;refine c3.mono ?_;rintro e w' (⟨_,_,hx,_⟩|⟨_,a,u⟩);cases hx;unfold EH at a;subst a);exact⟨rfl,.inr ⟨t.z,rfl,Em (l.z.trans u)⟩⟩
   | some q3 =>
    obtain⟨G,p3⟩:=q3;rw[hr3]at c3;have hp3:=IT hr3;have H:=zb hr3;clear hr3;go_wp2_with fail;refine c3.mono ?_;rintro e w3 (⟨_,_,hx,rfl,h3,L⟩|⟨hx,_⟩);rotate_left
    .cases hx
    simp only[Az,Au,BJ]at hx;obtain⟨rfl,rfl⟩:=hx;have z:=zb (l.z.trans L);clear c3 L;have HH:=zb h3;have B:=Hf.z.mod z.z s.z;obtain⟨k0,k1,k2,k3,k4,k5,k6,k7,k8,k9⟩:=B.cells;have hfz:∀j,w3.frozen? ⟨fb,j,none⟩=false:=λj=>zg B
    have HF:=zb B;clear B h3;go_wp2_with fail;refine bodyPost_end (results_none rfl _ _ _) rfl (.inl ⟨{ f0 3 b with stream:=(x:Int),off:=A,rel:=G },.slice none 0 0,p3,?_,rfl,?_,?_,Fh.nil _,Ig.nil w,(((((((Em z.z)).setCell (p:=U fb 1) (.inl (.inr rfl)) _)).setCell (p:=U fb 2) (.inl (.inr rfl)) _)).setCell (p:=U fb 3) (.inl (.inr rfl)) _)⟩)
    .unfold Hd;simp only[d.z,y.z,H.z,AX]
    .exact HH.z.mod ((((DW.refl (λk=>k=fb) _).setCell (p:=U fb 1) (.inl rfl) _).setCell (p:=U fb 2) (.inl rfl) _).setCell (p:=U fb 3) (.inl rfl) _) (λe=>s.z e.symm)
    exact(((HF.z).set (i:=1) (v:=.int .i64 x) (f':={ f0 3 b with stream:=(x:Int) }) (rv':=.slice none 0 0) rfl).set (i:=2) (v:=.int .u64 A) (f':={ f0 3 b with stream:=(x:Int),off:=A }) (rv':=.slice none 0 0) rfl).set (i:=3) (v:=.int .u64 G) (f':={ f0 3 b with stream:=(x:Int),off:=A,rel:=G }) (rv':=.slice none 0 0) rfl
def GY(b:Bool)(bs:nG)(pos:Nat):Option (Da×Nat) :=
 (Fk bs pos).bind fun(x1,p1)=>(Dy bs p1).bind fun(x2,p2)=>(GE bs p2).bind fun(x3,p3)=>some ({ f0 4 b with stream:=(x1:Int),off:=x2,data:=x3 },p3)
theorem Nr(rb fb pos:Nat)(v:Value)(bs:nG)(b:Bool)(w:World)(h:EO w rb v pos)(hb:BR w v bs)(J:Dp (IG rb fb) v)(hp:pos<=bs.length)(hf:zj w fb (f0 4 b) (.slice none 0 0))(m:fb≠rb):Calls prog 182 #[(rb,0),(fb,0)] w (KK w rb v fb (GY b bs pos)):=by
 have q:Dp (EU rb) v:=λg o n c e hx=>J g o n c e (.inl hx)
 have W0:w=w:=rfl;have C:=zb (DW.refl (EU rb) w);have D:=zb hb;have Hf:=zb hf;have r:=zb q;have s:=zb m;clear hb J hf q m W0;have c1:=Rz rb pos v bs w h (D.z) r.z hp;cases hr1:Fk bs pos with
 | none =>
  rw[hr1]at c1;have t:AA (GY b bs pos=none):=by
   show _=_;unfold GY;simp only[hr1,AX,BV]
  clear hr1;go_enter func182,ntmps182;go_wp2_with (go_at_call 178;refine c1.mono ?_;rintro e w' (⟨_,_,hx,_⟩|⟨_,a,u⟩);cases hx;unfold EH at a;subst a);exact⟨rfl,.inr ⟨t.z,rfl,Em (u)⟩⟩
 | some q1 =>
  obtain⟨x,p1⟩:=q1;rw[hr1]at c1;have E:=Rq hr1;have d:=zb hr1;clear hr1;go_enter func182,ntmps182;go_wp2_with fail;refine c1.mono ?_;rintro e w1 (⟨_,_,hx,rfl,h1,m1⟩|⟨hx,_⟩);rotate_left
  .cases hx
  simp only[Az,Au,BJ]at hx;obtain⟨rfl,rfl⟩:=hx;have f:=zb (C.z.trans m1);clear c1 m1;have c2:=Gr rb p1 v bs w1 h1 (D.z.mod f.z r.z) r.z E;cases hr2:Dy bs p1 with
  | none =>
   rw[hr2]at c2;have t:AA (GY b bs pos=none):=by
    show _=_;unfold GY;simp only[d.z,hr2,AX,BV]
   clear hr2;go_wp2_with (go_at_call 127;refine c2.mono ?_;rintro e w' (⟨_,_,hx,_⟩|⟨_,a,u⟩);cases hx;unfold EH at a;subst a);exact⟨rfl,.inr ⟨t.z,rfl,Em (f.z.trans u)⟩⟩
  | some q2 =>
   obtain⟨A,p2⟩:=q2;rw[hr2]at c2;have F:=IT hr2;have y:=zb hr2;clear hr2;go_wp2_with fail;refine c2.mono ?_;rintro e w2 (⟨_,_,hx,rfl,h2,K⟩|⟨hx,_⟩);rotate_left
   .cases hx
   simp only[Az,Au,BJ]at hx;obtain⟨rfl,rfl⟩:=hx;have l:=zb (f.z.trans K);clear c2 K;have c3:=VE rb p2 v bs w2 h2 (D.z.mod l.z r.z) r.z F;cases hr3:GE bs p2 with
   | none =>
    rw[hr3]at c3;have t:AA (GY b bs pos=none):=by
     show _=_;unfold GY;simp only[d.z,y.z,hr3,AX,BV]
    clear hr3;go_wp2_with (go_at_call 183;refine c3.mono ?_;rintro e w' (⟨_,_,hx,_⟩|⟨_,a,u⟩);cases hx;unfold EH at a;subst a);exact⟨rfl,.inr ⟨t.z,rfl,Em (l.z.trans u)⟩⟩
   | some q3 =>
    obtain⟨G,p3⟩:=q3;rw[hr3]at c3;have hp3:=Rf hr3;have H:=zb hr3;clear hr3;go_wp2_with fail;refine c3.mono ?_;rintro e w3 (⟨_,_,hx,rfl,h3,L⟩|⟨hx,_⟩);rotate_left
    .cases hx
    simp only[Az,Au,BJ]at hx;obtain⟨rfl,rfl⟩:=hx;have z:=zb (l.z.trans L);clear c3 L;have HH:=zb h3;have B:=Hf.z.mod z.z s.z;obtain⟨k0,k1,k2,k3,k4,k5,k6,k7,k8,k9⟩:=B.cells;have hfz:∀j,w3.frozen? ⟨fb,j,none⟩=false:=λj=>zg B
    have HF:=zb B;clear B h3;go_wp2_with fail;refine bodyPost_end (results_none rfl _ _ _) rfl (.inl ⟨{ f0 4 b with stream:=(x:Int),off:=A,data:=G },.slice none 0 0,p3,?_,rfl,?_,?_,Fh.nil _,Ig.nil w,(((((((Em z.z)).setCell (p:=U fb 1) (.inl (.inr rfl)) _)).setCell (p:=U fb 2) (.inl (.inr rfl)) _)).setCell (p:=U fb 8) (.inl (.inr rfl)) _)⟩)
    .unfold GY;simp only[d.z,y.z,H.z,AX]
    .exact HH.z.mod ((((DW.refl (λk=>k=fb) _).setCell (p:=U fb 1) (.inl rfl) _).setCell (p:=U fb 2) (.inl rfl) _).setCell (p:=U fb 8) (.inl rfl) _) (λe=>s.z e.symm)
    exact(((HF.z).set (i:=1) (v:=.int .i64 x) (f':={ f0 4 b with stream:=(x:Int) }) (rv':=.slice none 0 0) rfl).set (i:=2) (v:=.int .u64 A) (f':={ f0 4 b with stream:=(x:Int),off:=A }) (rv':=.slice none 0 0) rfl).set (i:=8) (v:=.string (zu G)) (f':={ f0 4 b with stream:=(x:Int),off:=A,data:=G }) (rv':=.slice none 0 0) rfl
def GX(b:Bool)(bs:nG)(pos:Nat):Option (Da×Nat) :=
 (Fk bs pos).bind fun(x1,p1)=>(Dy bs p1).bind fun(x2,p2)=>some ({ f0 6 b with stream:=(x1:Int),lim:=x2 },p2)
theorem Nq(rb fb pos:Nat)(v:Value)(bs:nG)(b:Bool)(w:World)(h:EO w rb v pos)(hb:BR w v bs)(D:Dp (IG rb fb) v)(hp:pos<=bs.length)(hf:zj w fb (f0 6 b) (.slice none 0 0))(d:fb≠rb):Calls prog 188 #[(rb,0),(fb,0)] w (KK w rb v fb (GX b bs pos)):=by
 have f:Dp (EU rb) v:=λg o n c e hx=>D g o n c e (.inl hx)
 have W0:w=w:=rfl;have u:=zb (DW.refl (EU rb) w);have E:=zb hb;have Hf:=zb hf;have x:=zb f;have l:=zb d;clear hb D hf f d W0;have c1:=Rz rb pos v bs w h (E.z) x.z hp;cases hr1:Fk bs pos with
 | none =>
  rw[hr1]at c1;have y:AA (GX b bs pos=none):=by
   show _=_;unfold GX;simp only[hr1,AX,BV]
  clear hr1;go_enter func188,ntmps188;go_wp2_with (go_at_call 178;refine c1.mono ?_;rintro e w' (⟨_,_,hx,_⟩|⟨_,m,z⟩);cases hx;unfold EH at m;subst m);exact⟨rfl,.inr ⟨y.z,rfl,Em (z)⟩⟩
 | some q1 =>
  obtain⟨s,p1⟩:=q1;rw[hr1]at c1;have A:=Rq hr1;have q:=zb hr1;clear hr1;go_enter func188,ntmps188;go_wp2_with fail;refine c1.mono ?_;rintro e w1 (⟨_,_,hx,rfl,h1,m1⟩|⟨hx,_⟩);rotate_left
  .cases hx
  simp only[Az,Au,BJ]at hx;obtain⟨rfl,rfl⟩:=hx;have a:=zb (u.z.trans m1);clear c1 m1;have c2:=Gr rb p1 v bs w1 h1 (E.z.mod a.z x.z) x.z A;cases hr2:Dy bs p1 with
  | none =>
   rw[hr2]at c2;have y:AA (GX b bs pos=none):=by
    show _=_;unfold GX;simp only[q.z,hr2,AX,BV]
   clear hr2;go_wp2_with (go_at_call 127;refine c2.mono ?_;rintro e w' (⟨_,_,hx,_⟩|⟨_,m,z⟩);cases hx;unfold EH at m;subst m);exact⟨rfl,.inr ⟨y.z,rfl,Em (a.z.trans z)⟩⟩
  | some q2 =>
   obtain⟨B,p2⟩:=q2;rw[hr2]at c2;have hp2:=IT hr2;have C:=zb hr2;clear hr2;go_wp2_with fail;refine c2.mono ?_;rintro e w2 (⟨_,_,hx,rfl,h2,F⟩|⟨hx,_⟩);rotate_left
   .cases hx
   simp only[Az,Au,BJ]at hx;obtain⟨rfl,rfl⟩:=hx;have r:=zb (a.z.trans F);clear c2 F;have HH:=zb h2;have t:=Hf.z.mod r.z l.z;obtain⟨k0,k1,k2,k3,k4,k5,k6,k7,k8,k9⟩:=t.cells;have hfz:∀j,w2.frozen? ⟨fb,j,none⟩=false:=λj=>zg t
   have HF:=zb t;clear t h2;go_wp2_with fail;refine bodyPost_end (results_none rfl _ _ _) rfl (.inl ⟨{ f0 6 b with stream:=(s:Int),lim:=B },.slice none 0 0,p2,?_,rfl,?_,?_,Fh.nil _,Ig.nil w,(((((Em r.z)).setCell (p:=U fb 1) (.inl (.inr rfl)) _)).setCell (p:=U fb 4) (.inl (.inr rfl)) _)⟩)
   .unfold GX;simp only[q.z,C.z,AX]
   .exact HH.z.mod (((DW.refl (λk=>k=fb) _).setCell (p:=U fb 1) (.inl rfl) _).setCell (p:=U fb 4) (.inl rfl) _) (λe=>l.z e.symm)
   exact((HF.z).set (i:=1) (v:=.int .i64 s) (f':={ f0 6 b with stream:=(s:Int) }) (rv':=.slice none 0 0) rfl).set (i:=4) (v:=.int .u64 B) (f':={ f0 6 b with stream:=(s:Int),lim:=B }) (rv':=.slice none 0 0) rfl
def G9(b:Bool)(bs:nG)(pos:Nat):Option (Da×Nat) :=
 (Dy bs pos).bind fun(x1,p1)=>(Dy bs p1).bind fun(x2,p2)=>(GE bs p2).bind fun(x3,p3)=>some ({ f0 7 b with id:=x1,dl:=x2,data:=x3 },p3)
theorem Np(rb fb pos:Nat)(v:Value)(bs:nG)(b:Bool)(w:World)(h:EO w rb v pos)(hb:BR w v bs)(J:Dp (IG rb fb) v)(hp:pos<=bs.length)(hf:zj w fb (f0 7 b) (.slice none 0 0))(m:fb≠rb):Calls prog 190 #[(rb,0),(fb,0)] w (KK w rb v fb (G9 b bs pos)):=by
 have q:Dp (EU rb) v:=λg o n c e hx=>J g o n c e (.inl hx)
 have W0:w=w:=rfl;have C:=zb (DW.refl (EU rb) w);have D:=zb hb;have Hf:=zb hf;have r:=zb q;have s:=zb m;clear hb J hf q m W0;have c1:=Gr rb pos v bs w h (D.z) r.z hp;cases hr1:Dy bs pos with
 | none =>
  rw[hr1]at c1;have t:AA (G9 b bs pos=none):=by
   show _=_;unfold G9;simp only[hr1,AX,BV]
  clear hr1;go_enter func190,ntmps190;go_wp2_with (go_at_call 127;refine c1.mono ?_;rintro e w' (⟨_,_,hx,_⟩|⟨_,a,u⟩);cases hx;unfold EH at a;subst a);exact⟨rfl,.inr ⟨t.z,rfl,Em (u)⟩⟩
 | some q1 =>
  obtain⟨x,p1⟩:=q1;rw[hr1]at c1;have E:=IT hr1;have d:=zb hr1;clear hr1;go_enter func190,ntmps190;go_wp2_with fail;refine c1.mono ?_;rintro e w1 (⟨_,_,hx,rfl,h1,m1⟩|⟨hx,_⟩);rotate_left
  .cases hx
  simp only[Az,Au,BJ]at hx;obtain⟨rfl,rfl⟩:=hx;have f:=zb (C.z.trans m1);clear c1 m1;have c2:=Gr rb p1 v bs w1 h1 (D.z.mod f.z r.z) r.z E;cases hr2:Dy bs p1 with
  | none =>
   rw[hr2]at c2;have t:AA (G9 b bs pos=none):=by
    show _=_;unfold G9;simp only[d.z,hr2,AX,BV]
   clear hr2;go_wp2_with (go_at_call 127;refine c2.mono ?_;rintro e w' (⟨_,_,hx,_⟩|⟨_,a,u⟩);cases hx;unfold EH at a;subst a);exact⟨rfl,.inr ⟨t.z,rfl,Em (f.z.trans u)⟩⟩
  | some q2 =>
   obtain⟨A,p2⟩:=q2;rw[hr2]at c2;have F:=IT hr2;have y:=zb hr2;clear hr2;go_wp2_with fail;refine c2.mono ?_;rintro e w2 (⟨_,_,hx,rfl,h2,K⟩|⟨hx,_⟩);rotate_left
   .cases hx
   simp only[Az,Au,BJ]at hx;obtain⟨rfl,rfl⟩:=hx;have l:=zb (f.z.trans K);clear c2 K;have c3:=VE rb p2 v bs w2 h2 (D.z.mod l.z r.z) r.z F;cases hr3:GE bs p2 with
   | none =>
    rw[hr3]at c3;have t:AA (G9 b bs pos=none):=by
     show _=_;unfold G9;simp only[d.z,y.z,hr3,AX,BV]
    clear hr3;go_wp2_with (go_at_call 183;refine c3.mono ?_;rintro e w' (⟨_,_,hx,_⟩|⟨_,a,u⟩);cases hx;unfold EH at a;subst a);exact⟨rfl,.inr ⟨t.z,rfl,Em (l.z.trans u)⟩⟩
   | some q3 =>
    obtain⟨G,p3⟩:=q3;rw[hr3]at c3;have hp3:=Rf hr3;have H:=zb hr3;clear hr3;go_wp2_with fail;refine c3.mono ?_;rintro e w3 (⟨_,_,hx,rfl,h3,L⟩|⟨hx,_⟩);rotate_left
    .cases hx
    simp only[Az,Au,BJ]at hx;obtain⟨rfl,rfl⟩:=hx;have z:=zb (l.z.trans L);clear c3 L;have HH:=zb h3;have B:=Hf.z.mod z.z s.z;obtain⟨k0,k1,k2,k3,k4,k5,k6,k7,k8,k9⟩:=B.cells;have hfz:∀j,w3.frozen? ⟨fb,j,none⟩=false:=λj=>zg B
    have HF:=zb B;clear B h3;go_wp2_with fail;refine bodyPost_end (results_none rfl _ _ _) rfl (.inl ⟨{ f0 7 b with id:=x,dl:=A,data:=G },.slice none 0 0,p3,?_,rfl,?_,?_,Fh.nil _,Ig.nil w,(((((((Em z.z)).setCell (p:=U fb 6) (.inl (.inr rfl)) _)).setCell (p:=U fb 7) (.inl (.inr rfl)) _)).setCell (p:=U fb 8) (.inl (.inr rfl)) _)⟩)
    .unfold G9;simp only[d.z,y.z,H.z,AX]
    .exact HH.z.mod ((((DW.refl (λk=>k=fb) _).setCell (p:=U fb 6) (.inl rfl) _).setCell (p:=U fb 7) (.inl rfl) _).setCell (p:=U fb 8) (.inl rfl) _) (λe=>s.z e.symm)
    exact(((HF.z).set (i:=6) (v:=.int .u64 x) (f':={ f0 7 b with id:=x }) (rv':=.slice none 0 0) rfl).set (i:=7) (v:=.int .u64 A) (f':={ f0 7 b with id:=x,dl:=A }) (rv':=.slice none 0 0) rfl).set (i:=8) (v:=.string (zu G)) (f':={ f0 7 b with id:=x,dl:=A,data:=G }) (rv':=.slice none 0 0) rfl
def GP(k:Int)(b:Bool)(bs:nG)(pos:Nat):Option (Da×Nat):=(Dy bs pos).bind fun(x1,p1)=>some ({ f0 k b with lim:=x1 },p1)
theorem Ts(rb fb s pos:Nat)(k:Int)(v:Value)(bs:nG)(b:Bool)(w:World)(h:EO w rb v pos)(hb:BR w v bs)(t:Dp (IG rb fb) v)(hp:pos<=bs.length)(hf:zj w fb (f0 k b) (.slice none 0 0))(a:fb≠rb)
  (hab:w.cell? s=some (.func (.func 186) #[] #[])) :
  Calls prog 214 #[(rb,0),(fb,0),(s,0)] w (KK w rb v fb (GP k b bs pos)):=by
 have d:Dp (EU rb) v:=λg o n c e hx=>t g o n c e (.inl hx)
 have c1:=Gr rb pos v bs w h hb d hp;have Hf:=zb hf;have f:=zb a;clear hb t hf d a h;cases hr1:Dy bs pos with
 | none =>
  rw[hr1]at c1;have HR:AA (GP k b bs pos=none):=by show _=_;unfold GP;rw[hr1];rfl
  clear hr1;go_enter func214,ntmps214;go_wp2_with (first|(go_at_call 186;refine(RM _ _).mono ?_;rintro e w' ⟨rfl,rfl⟩)|(go_at_call 127;refine c1.mono ?_;rintro e w' (⟨_,_,hx,_⟩|⟨_,u,hm⟩);cases hx;unfold EH at u;subst u));exact⟨rfl,.inr ⟨HR.z,rfl,Em hm⟩⟩
 | some q1 =>
  obtain⟨m,p1⟩:=q1;rw[hr1]at c1;have q:=zb hr1;clear hr1;go_enter func214,ntmps214;go_wp2_with (go_at_call 186;refine(RM _ _).mono ?_;rintro e w' ⟨rfl,rfl⟩);refine c1.mono ?_;rintro e w1 (⟨_,_,hx,rfl,h1,m1⟩|⟨hx,_⟩);rotate_left
  .cases hx
  simp only[Az,Au,BJ]at hx;obtain⟨rfl,rfl⟩:=hx;have r:=zb m1;have HH:=zb h1;have l:=Hf.z.mod m1 f.z;obtain⟨k0,k1,k2,k3,k4,k5,k6,k7,k8,k9⟩:=l.cells;have hfz:∀j,w1.frozen? ⟨fb,j,none⟩=false:=λj=>zg l
  have HF:=zb l;clear l h1 c1 m1;go_wp2_with fail;refine bodyPost_end (results_none rfl _ _ _) rfl (.inl ⟨{ f0 k b with lim:=m },.slice none 0 0,p1,?_,rfl,?_,?_,Fh.nil _,Ig.nil w,((Em r.z).setCell (p:=U fb 4) (.inl (.inr rfl)) _)⟩)
  .unfold GP;simp only[q.z,AX]
  .exact HH.z.mod ((DW.refl (λk=>k=fb) _).setCell (p:=U fb 4) (.inl rfl) _) (λe=>f.z e.symm)
  exact(HF.z).set (i:=4) (v:=.int .u64 m) (f':={ f0 k b with lim:=m }) (rv':=.slice none 0 0) rfl
def Ik(bs:nG):Nat->Nat->Nat->Nat->Nat->zC->Option (zC×Nat)
 | 0,_,_,_,_,_=>none
 | fuel+1,hi,n,size,pos,acc =>
  if hi<size then none
  else if n=0 then some (acc++[(hi-size,hi)],pos)
  else(Dy bs pos).bind λa=>(Dy bs a.2).bind λb =>
   if hi-size<2\/hi-size-2<a.1 then none else Ik bs fuel (hi-size-2-a.1) (n-1) b.1 b.2 (acc++[(hi-size,hi)])
def FP(b:Bool)(bs:nG)(pos:Nat):Option (Da×Nat) :=
 (Dy bs pos).bind λa=>(Dy bs a.2).bind λc=>(Dy bs c.2).bind λd =>
  (Ik bs (bs.length+1) a.1 c.1 d.1 d.2 []).bind λr=>some ({ f0 2 b with rngs:=r.1 },r.2)
def ir:(prog.info? 214).map (λi=>(i.zero,i.size,i.bytes))=some (some (.agg #[.int .u64 0,.int .u64 0]),2,16):=mr
def Tr(w:World)(v:Value)(rs:zC)(lo hi:Nat)(h:w.ownsRow 0 214 2 v rs.length (zq rs))(hl:rs.length<=1099511627776):∃v' w',(∀ty,(Builtin.append_ #[63,63] ty #[v,.slice w.heap.size 1 1]).run prog (w.alloc (.cells #[lo,hi] 214))=.ok v' w') /\
   w'.ownsRow 0 214 2 v' (rs++[(lo,hi)]).length (zq (rs++[(lo,hi)]))/\w.grownBy w' v.ownBlock/\EA w v v':=by
 obtain⟨i,b,hz,c,d⟩:=info_parts ir;have a:∀(j:Nat) u,(zq [(lo,hi)])[j]?=some u->(w.alloc (.cells #[lo,hi] 214)).cell? ((⟨w.heap.size,0,none⟩:Addr).add j)=some u:=by
  intro j u hj;rw[zZ];refine za (heap_alloc_new w _) ?_;rw[A6,<-Array.getElem?_toList];exact hj
 obtain⟨v',w',h1,h2,h3,h4,h5⟩:=K3 (P:=prog) (w.alloc (.cells #[lo,hi] 214)) 63 214 i (.agg #[.int .u64 0,.int .u64 0]) 2 16 underlying63 b hz c d rfl mu v rs.length (zq rs) (World.ownsRow.alloc h _)
  ⟨w.heap.size,0,none⟩ 1 1 (zq [(lo,hi)]) rfl a (by intro u e;simp[zq]at e;rcases e with rfl|rfl<;>rfl) mz I
 refine⟨v',w',h1,?_,?_,?_⟩
 .rw[AG,Jw];exact h2
 .exact⟨h3.os,h3.tape,h3.output,AJ mv h3.size,λk hk hn=>(h3.block k my hn).trans (Below.heap_alloc w _ k hk)⟩
 intro k hk;rcases h4 k hk with x|x
 .exact .inl x
 exact .inr (by simp at x;omega)
end
section
open Go.RowKit Go.Proofs.Tryz Go.Shelf
attribute [local go_sem] Oper.semAt_some
variable{P:Program}{Q:Exit->Act->World->Prop}{ops:Array Oper}{w w1:World}
def mf{F:Fence}{n:Nat}{rest:List Oper}{o:Oper}{a:Act}(d:o.guard=none)(s x:Operand)(t u:TypeId)
  (e:o.op=.call { callee:=.builtin .append,args:=#[s,x],argTypes:=#[t,u] }) (g i v':Value) (hs:a.eval s=g) (hx:a.eval x=i)
  (De:∀ty,(Builtin.append_ #[t,u] ty #[g,i]).run P w=.ok v' w1) (h:wpListIn F n P ops Q rest (a.put o.dst v') w1):wpListIn F n P ops Q (o::rest) a w:=by
 refine wpListIn_plain d λK hK=>?_
 have b:=De o.type;unfold Oper.wpIn;refine⟨by simp[Oper.about,e,resolve,Target.leads,Sem.run_pure],?_⟩;rw[Oper.semAt_plain F _ _ (by rw[e];intro c f;cases f)];simp[execOp,e,resolve,invoke,builtin,hs,hx,b,Result.andThen];exact hK _ _ h
variable{S:Nat->Prop}{w':World}
def DW.putObj(h:DW S w w'){l:Nat}(hl:S l\/w.heap.size<=l)(o:Obj):DW S w (w'.putObj l o) :=
 ⟨h.os,h.tape,h.output,nF h.size,λi hi a=>(World.putObj_heap_other (λe=>by
  subst e;rcases hl with x|x
  .exact a x
  omega)).trans (h.block i hi a)⟩
def WP{F:Fence}{n:Nat}{g:Operand}{c:Array Tmp}{assign body:Code}{a:Act}(d:F.round=none)(h1:1<=n){gf:Nat}{lb:Array Value}(hg:a.eval g=.func (.func gf) #[] lb)
  (e:F.fn gf) (eg:∀args w,(callFunc gf args).run P w=.ok (.enter gf args) w)
  (h:∀fn,F.fn fn->CallsIn F (n-1) P gf (#[.func (.yield (w.heap.size+1)) #[] #[]]++lb) ((w.alloc (.deferred (some []))).alloc (.loop { state:=.ready,pending:=none,fn:=fn,tmps:=a.tmps,params:=c,assign:=assign,body:=body,defers:=w.heap.size }))
   (rangePost F n P (w.heap.size+1) Q { a with defers:=[{ target:=.collected w.heap.size,args:=#[] }]++a.defers })) :
  (Code.rangeFunc g c assign body).wpIn F n P Q a w:=by
 refine wpIn_rangeFunc λfn f=>⟨_,_,_,{ target:=.fn (.func gf) lb,args:=#[.func (.yield (w.heap.size+1)) #[] #[]] },(w.alloc (.deferred (some []))).alloc (.loop { state:=.ready,pending:=none,fn:=fn,tmps:=a.tmps,params:=c,assign:=assign,body:=body,defers:=w.heap.size }),gf,_,_,by rw[d];exact run_enterLoop_outer _ _ _ _ _,?_,?_,?_,λ_=>h1,h fn f⟩
 .simp only[resolve,hg];simp[go_sem]
 .intro f' b;simp[Target.leads]at b;subst b;exact e
 simp[invoke,go_sem,eg]
variable{base e sz:Nat}{v:Value}{xs:nJ}
def Xv{n:Nat}(h:w.ownsRow base e sz v n xs):∀g,v.ownBlock=some g->g<w.heap.size:=by
 intro g hg;rcases h.2 with⟨rfl,rfl⟩|⟨g',cap,cur,rfl,_,h0,h1,h2,_⟩
 .cases hg
 simp[Value.ownBlock]at hg;subst hg;exact(AH.1 h0).1
def Vt(rs:zC)(k:Nat)(hk:k<=rs.length):(FO rs k).map (·.2)=rs.reverse.take k:=by
 apply List.ext_getElem
 .simp[FO,hk]
 intro i h1 h2;have hi:i<rs.length:=by simp[FO]at h1;omega
 simp[FO,DZ,DX,Ak,List.getElem_reverse,(I:rs.length-1-i<rs.length)]
variable{X:World}{rs:zC}
def iU{l:zC}(h:X.ownsRow 0 214 2 v l.length (zq l))(a:∀i,i<rs.length->DZ rs i<18446744073709551616/\DX rs i<18446744073709551616)(b:∀x∈l,x∈rs):RR X v l:=by
 refine Fh.rr ⟨h,λi hi=>?_⟩;have hx:(DZ l i,DX l i)∈l:=by
  have:l[i]?=some (DZ l i,DX l i):=by simp[DZ,DX,Ak,AK hi]
  exact AV this
 obtain⟨j,c⟩:=Cw (b _ hx);have d:=(AN.1 c).1;have:=a j d;have e1:DZ rs j=DZ l i:=by unfold DZ at *;simp[Ak,c]
 have e2:DX rs j=DX l i:=by unfold DX at *;simp[Ak,c]
 omega
end
section
open Go.RowKit Go.Proofs.Tryz Go.Shelf
attribute [local go_sem] Oper.semAt_some
structure Mt(w:World)(rec:Loop)(pre:zC)(v:Value)(X:World):Prop where
 mod:DW DY w X
 bx:Boxed X w.heap.size 63 v
 own:X.ownsRow 0 214 2 v pre.length (zq pre)
 new:∀g,v.ownBlock=some g->w.heap.size<=g
 df:X.heap[w.heap.size+1]?=some (.deferred (some []))
 rc:X.heap[w.heap.size+2]?=some (.loop rec)
variable{w:World}
def Mt.own_from{d:Loop}:OwnFrom (w.heap.size+3) (λpre X=>∃v,Mt w d pre v X):=by
 rintro pre A B row ⟨v,h⟩ hg f;refine⟨v,?_⟩;have b:∀k,k<w.heap.size+3->some k≠row:=λk hk e=>nC ((f k e.symm).1)
 have l:=(DW.refl _ _).grown hg (λk hk=>.inl hk);refine⟨h.mod.then l (λi hi=>.inr (nC ((f i hi).1))),h.bx.kept hg (b _ I),l.owns h.own (λg a hx=>?_),h.new,?_,?_⟩
 .obtain⟨_,o,ho,j⟩:=f g hx;rcases h.own.2 with⟨e,_⟩|⟨g',cap,cur,e,_,c,_⟩
  .rw[e]at a;cases a
  rw[e]at a;simp[Value.ownBlock]at a;subst a;rw[ho]at c;cases c;cases j
 .exact(hg.block _ (AH.1 h.df).1 (b _ I)).trans h.df
 exact(hg.block _ (AH.1 h.rc).1 (b _ I)).trans h.rc
def Qp(rs:zC)(w:World)(e:Ending)(W':World):Prop :=
 ∃v,e=.returned v/\W'.ownsRow 0 214 2 v rs.length (zq rs.reverse)/\(∀g,v.ownBlock=some g->w.heap.size<=g)/\DW DY w W'
def iT(F:Fence)(n:Nat)(N:∀f,F.fn f)(W:F.round=none)(hn:7<=n)(rs:zC)(fl most b sB:Nat)(v:Value)(w:World)(h:El w b 0 v rs fl most)(am:∀i,i<rs.length->DZ rs i<18446744073709551616/\DX rs i<18446744073709551616)(an:w.cell? sB=some (.pointer b)):CallsIn F n prog 195 #[.slice none 0 0,.func (.func 193) #[] #[.pointer sB]] w (Qp rs w):=by
 obtain⟨a,cap,rfl,o1,o2,o3⟩:=zk h.own;have hbw:=zm h.cl;have hsw:=zm an;have ao:∀g o,a=some ⟨g,o,none⟩->g<w.heap.size:=λg o e=>Xv h.own g (by rw[e];rfl)
 have aG:=Fh.rr ⟨h.own,am⟩;have aH:=h.cl;have aV:=h.len;clear h;have h1:1<=n:=I;refine callsIn_of_wp_marks func195 rfl (N _) ?_ W;simp only[ntmps195,Am,AR,Ad,Nat.reduceAdd,Nat.reduceSub,BA,A9,BK,BE,An,BS];gi_wp2;refine WP W h1 (gf:=193) (lb:=#[.pointer sB]) rfl (N _) (enters_of func193 mr rfl) ?_;intro fn hf;generalize hrec:Loop.mk .ready none fn _ _ _ _ _=rec;have Y:(w.alloc (.cells #[.slice none 0 0] 63)).heap.size=w.heap.size+1:=mv;rw[Y]at hrec ⊢;have e12:w.heap.size+1+1=w.heap.size+2:=rfl;obtain⟨W1,r⟩:=nm (((w.alloc (.cells #[.slice none 0 0] 63)).alloc (.deferred (some []))).alloc (.loop rec));have m1:DW DY w W1:=by rw[<-r];exact(((DW.refl _ _).alloc _).alloc _).alloc _
 have aI:W1.heap.size=w.heap.size+3:=by rw[<-r];simp
 have bs:=m1.cell (a:=sB) id an;have bx:Boxed W1 w.heap.size 63 (.slice none 0 0):=by
  rw[<-r];exact((Boxed.new w _ _).alloc _).alloc _
 have aJ:W1.heap[w.heap.size+1]?=some (.deferred (some [])):=by
  rw[<-r];have:=World.alloc_heap_new (w.alloc (.cells #[.slice none 0 0] 63)) (.deferred (some []));rw[Y]at this;exact(Below.heap_alloc _ _ _ mv).trans this
 have aK:W1.heap[w.heap.size+2]?=some (.loop rec):=by
  rw[<-r];have:=World.alloc_heap_new ((w.alloc (.cells #[.slice none 0 0] 63)).alloc (.deferred (some []))) (.loop rec);rw[World.size_alloc,Y]at this;exact this
 rw[r];have aL:Mt w rec [] (.slice none 0 0) W1:=⟨m1,bx,World.ownsRow_nil _ 0 _ 2,(λg hg=>by cases hg),aJ,aK⟩;clear r;have Z:=A8 Loop.assign hrec.symm;dsimp only at Z;have aa:=A8 Loop.body hrec.symm;dsimp only at aa;have ab:=A8 Loop.tmps hrec.symm;dsimp only at ab;have ap:rec.params=#[7]:=by rw[<-hrec]
 have aq:rec.state=.ready:=by rw[<-hrec]
 have ar:rec.pending=none:=by rw[<-hrec]
 have au:=zb ar;have aM:=zb Z;have aN:=zb aa;have aO:=zb ab;have av:=zb ap;have ac:=zb aq;clear hrec Z aa ab ap aq ar;refine(dF F (n-1) N W I (w.heap.size+2) sB b w.heap.size cap a rs
  (λpre X=>∃v,Mt w rec pre v X)
  (λ_ _=>False) W1 ?hY ?hJ ?hJx bs (m1.cell (a:=b) id aH) (aG.mod m1 (Dp.no _)) I I (λg o e=>nC (ao g o e)) ⟨_,aL⟩).mono ?post
 case hJ=>rw[aI];exact Mt.own_from
 case hJx=>intro _ _ _ _ x;exact x.elim
 case hY =>
  rintro m pre x X ⟨v,z⟩ hlt;have hpl:pre.length<=1099511627776:=I;have M:=zb z;have aP:=(AH.1 z.rc).1;refine⟨_,_,_,_,run_yield z.rc (by rw[av.z];rfl),roundIn_of_wpIn (N _) ?_⟩;rw[aM.z,aN.z,aO.z,av.z];unfold ME;clear z;gi_wp2;have aw:(X.alloc (.cells #[x.1,x.2] 214)).heap[w.heap.size+2]?=some (.loop rec):=(Below.heap_alloc _ _ _ aP).trans M.z.rc;refine⟨_,run_beginRound aw ac.z,?_⟩;obtain⟨j,d⟩:∃j,(X.alloc (.cells #[x.1,x.2] 214)).putObj (w.heap.size+2) (.loop { rec with state:=.busy })=j:=⟨_,rfl⟩;have m2:DW (λk=>k=w.heap.size\/k=w.heap.size+2\/v.ownBlock=some k) X j:=by
   rw[<-d];exact((DW.refl (λk=>k=w.heap.size\/k=w.heap.size+2\/v.ownBlock=some k) _).alloc _).putObj (.inl (.inr (.inl rfl))) _
  have B:j.heap[w.heap.size+2]?=some (.loop { rec with state:=.busy }):=by
   rw[<-d];exact World.putObj_heap_same my
  have ad:j.heap[X.heap.size]?=some (.cells #[x.1,x.2] 214 (0,0)):=by
   rw[<-d];exact(World.putObj_heap_other I).trans (heap_alloc_new X _)
  have ae:∀k,k<X.heap.size->k≠w.heap.size+2->j.heap[k]?=X.heap[k]?:=λk hk hn=>by
   rw[<-d];exact(World.putObj_heap_other hn).trans (Below.heap_alloc _ _ _ hk)
  have ax:DW (λk=>k=w.heap.size+2) X j:=by
   rw[<-d];exact((DW.refl (λk=>k=w.heap.size+2) X).alloc _).putObj (.inl rfl) _
  rw[d];have O:Boxed j w.heap.size 63 v:=(ae _ I I).trans M.z.bx;have Q:=(ae _ I I).trans M.z.df;have A:=ax.owns M.z.own (λg hg e=>by
   have e:=e;subst e;rcases M.z.own.2 with⟨e,_⟩|⟨g',cp,C,e,_,c,_⟩
   .rw[e]at hg;cases hg
   rw[e]at hg;simp[Value.ownBlock]at hg;rw[hg,M.z.rc]at c;cases c)
  have af:=M.z.new;have D:∀k,v.ownBlock=some k->Ja w.heap.size (w.heap.size+2) a X k:=λk hk=>by
   refine .inr (.inr ⟨λg o e=>nD (ao g o e) (af k hk),?_⟩);rcases M.z.own.2 with⟨e,_⟩|⟨g',cp,C,e,_,c,_⟩
   .rw[e]at hk;cases hk
   rw[e]at hk;simp[Value.ownBlock]at hk;subst hk;exact⟨_,_,c⟩
  have hs2:=m2.size;obtain⟨va,vc,rfl,_⟩:=zk A;obtain⟨v3,W3,ah,E,G,ay⟩:=Tr j (.slice va pre.length vc) pre x.1 x.2 A I;have R:∀k,k=w.heap.size\/k=w.heap.size+1\/k=w.heap.size+2->some k≠(Value.slice va pre.length vc).ownBlock:=λk hk e=>by
   rcases A.2 with⟨s,_⟩|⟨g',cp,C,s,_,c,_⟩
   .rw[s]at e;cases e
   rw[s]at e;simp[Value.ownBlock]at e;subst e;rcases hk with rfl|rfl|rfl
   .rw[show j.heap[w.heap.size]?=_ from O]at c;simp at c
   .rw[Q]at c;cases c
   rw[B]at c;cases c
  have H:=O.kept G (R _ (.inl rfl));have ai:=(G.block _ (AH.1 Q).1 (R _ (.inr (.inl rfl)))).trans Q;have aj:=(G.block _ (AH.1 B).1 (R _ (.inr (.inr rfl)))).trans B;have m3:=m2.grown G (λk hk=>.inl (.inr (.inr hk)));have m4:=m3.setCell (p:=w.heap.size) (.inl (.inl rfl)) v3;have J:=H.set v3;have K:DW (λk=>k=w.heap.size) W3 (W3.setCell w.heap.size v3):=(DW.refl (λk=>k=w.heap.size) W3).setCell (p:=w.heap.size) (.inl rfl) _;have S:=(K.block _ (AH.1 aj).1 I).trans aj;have T:=(K.block _ (AH.1 ai).1 I).trans ai;have l:(W3.setCell w.heap.size v3).ownsRow 0 214 2 v3 (pre++[x]).length (zq (pre++[x])):=K.owns E (λg hg e=>by
   have e:=e;subst e;rcases E.2 with⟨s,_⟩|⟨g',cp,C,s,_,c,_⟩
   .rw[s]at hg;cases hg
   rw[s]at hg;simp[Value.ownBlock]at hg;rw[hg,show W3.heap[w.heap.size]?=_ from H]at c;simp at c)
  have u:∀g,v3.ownBlock=some g->w.heap.size<=g:=λg hg=>by
   rcases ay g hg with q|q
   .exact af g q
   omega
  obtain⟨vb,vd,rfl,_⟩:=zk l;have y:(pre++[x]).length=pre.length+1:=mv;rw[y]at ah;have bxc:=H.cell;have bxf:=H.frozen;have V:=J.cell;have aW:=O.cell;have r20:j.cell? X.heap.size=some (.int .u64 x.1):=za ad rfl;have r21:j.cell? (X.heap.size,1)=some (.int .u64 x.2):=za ad rfl;rw[y]at m4 J K S T l u V;obtain⟨X4,aQ⟩:=nm (W3.setCell w.heap.size (.slice vb (pre.length+1) vd));rw[aQ]at m4 J S T l V;have aR:AA (DW (Ja w.heap.size (w.heap.size+2) a X) X X4):=m4.mono (λk hk=>.inl (by
   rcases hk with hk|hk|hk
   .exact .inl hk
   .exact .inr (.inl hk)
   exact D k hk))
  have ak:AA (DW DY w X4):=M.z.mod.then m4 (λk hk=>.inr (by
   rcases hk with hk|hk|hk
   .omega
   .omega
   exact af k hk))
  have hwX:=M.z.mod.size;have az:=zb J;have al:=zb S;have aS:=zb T;have aA:=zb l;have aB:=zb u;clear m4 J K S T l u E G ay R D ae ax m2 m3 B Q aj ai O H A d ad aw
  gi_wp2_with (gi_at_builtin;refine mf rfl _ _ _ _ rfl _ _ _ rfl rfl ah ?_;clear ah)
  refine⟨_,_,run_endRound none al.z,aR.z.putObj (.inl (.inr (.inl rfl))) _,rfl,.slice vb (pre.length+1) vd,?_⟩;have aC:=(AH.1 al.z).1;have mp:=λo=>(DW.refl (λk=>k=w.heap.size+2) X4).putObj (.inl rfl) o
  have aT:∀g,(Value.slice vb (pre.length+1) vd).ownBlock=some g->¬g=w.heap.size+2:=λg hg e=>by
   subst e;rcases aA.z.2 with⟨e,_⟩|⟨g',cp,C,e,_,c,_⟩
   .rw[e]at hg;cases hg
   rw[e]at hg;simp[Value.ownBlock]at hg;rw[hg,al.z]at c;cases c
  refine⟨ak.z.putObj (.inr I) _,(World.putObj_heap_other I).trans az.z,by rw[y];exact(mp _).owns aA.z aT,aB.z,(World.putObj_heap_other I).trans aS.z,?_⟩;rw[World.putObj_heap_same aC];have aD:=au.z;have aE:=ac.z;cases rec;simp only at aD aE;subst aD;subst aE;rfl
 case post =>
  rintro e X ⟨⟨v0,rfl⟩,⟨v,z⟩|⟨k,hk,hx⟩⟩
  .have L:=run_endLoop (P:=prog) z.rc (by rw[ac.z];simp);rw[au.z]at L;refine⟨none,_,L,?_⟩;clear L;obtain⟨j,d⟩:∃j,X.putObj (w.heap.size+2) (.loop { rec with state:=.exhausted,pending:=none })=j:=⟨_,rfl⟩;have hm:DW (λk=>k=w.heap.size+2) X j:=by rw[<-d];exact(DW.refl (λk=>k=w.heap.size+2) _).putObj (.inl rfl) _
   have hb:=hm.cell (a:=w.heap.size) mv z.bx.cell;have hd:=hm.obj mv z.df;have ho:=hm.owns z.own (λg hg e=>by
    have e:=e;subst e;rcases z.own.2 with⟨s,_⟩|⟨g',cp,C,s,_,c,_⟩
    .rw[s]at hg;cases hg
    rw[s]at hg;simp[Value.ownBlock]at hg;rw[hg,z.rc]at c;cases c)
   have HX2:=zb d;have ak:=zb (z.mod.then hm (λi hi=>.inr I));have HO:=zb ho;have HN:=zb z.new;rw[d];clear hm z ho d;gi_wp2;refine⟨mv,.inl ⟨_,_,rfl,run_takeDeferred hd,?_⟩⟩;have aU:(FO rs rs.length).map (·.2)=rs.reverse:=by rw[Vt rs rs.length (AF _),Aa mv]
   have B:rs.reverse.length=rs.length:=mv;rw[aU]at HO;refine⟨_,results_tmp (t:=4) rfl _ _ _,v,rfl,?_,HN.z,ak.z.putObj (.inr I) _⟩;have aF:=((DW.refl (λk=>k=w.heap.size+1) j).putObj (.inl rfl) (.deferred none)).owns HO.z (λg hg e=>by
    have e:=e;subst e;rcases HO.z.2 with⟨s,_⟩|⟨g',cp,C,s,_,c,_⟩
    .rw[s]at hg;cases hg
    rw[s]at hg;simp[Value.ownBlock]at hg;rw[hg,hd]at c;cases c)
   rw[B]at aF;exact aF
  exact hx.elim
def iq(F:Fence)(n:Nat)(a:∀f,F.fn f)(c:F.round=none)(hn:8<=n)(rs:zC)(fl most b g:Nat)(v:Value)(w:World)(h:El w b 0 v rs fl most)(d:∀i,i<rs.length->DZ rs i<18446744073709551616/\DX rs i<18446744073709551616)(j:w.cell? g=some (.pointer b)):CallsIn F n prog 143 #[.func (.func 193) #[] #[.pointer g]] w (Qp rs w):=by
 have k:=iT F (n-1) a c I rs fl most b g v w h d j;have K:=zb k;have h1:1<=n:=I;clear h k;refine callsIn_of_wp func143 rfl (a _) ?_ c;simp only[ntmps143,Am,AR,Ad,Nat.reduceAdd,Nat.reduceSub,BA,A9,BK,BE,An,BS]
 gi_wp2_with (gi_at_call 195;refine K.z.mono ?_;rintro e w' ⟨v',rfl,ho,l,hm⟩)
 go_ret;exact⟨v',rfl,ho,l,hm⟩
def lN(rs:zC)(fl most b c:Nat)(v:Value)(w:World)(h:El w b 0 v rs fl most)(a:∀i,i<rs.length->DZ rs i<18446744073709551616/\DX rs i<18446744073709551616)(d:w.cell? c=some (.pointer b)):Calls prog 143 #[.func (.func 193) #[] #[.pointer c]] w (Qp rs w) :=
 (callsIn_wide (n:=8)).1 (iq Fence.wide 8 (λ_=>trivial) rfl (AF _) rs fl most b c v w h a d)
def iS(b:Nat)(w:World):Calls prog 141 #[(b,0)] w λe w'=>e=.returned (.func (.func 193) #[] #[.pointer w.heap.size])/\w'=w.alloc (.cells #[(b,0)] 114) :=
 (callsIn_wide (n:=8)).1 (Xx Fence.wide 8 trivial rfl b w)
end
section
open Go.RowKit Go.Proofs.Tryz
def JW(w:World)(rb:Nat):Nat:=match w.cell? (rb,1)with
 | some (.int _ n)=>n.toNat
 | _=>0
variable{pos rb:Nat}{v:Value}{w:World}
def O6(h:EO w rb v pos):JW w rb=pos:=by
 unfold JW;rw[h.c1];simp
def P2(w wr:World)(rb fb:Nat)(v:Value)(b:Bool)(bs:nG)(hi n size:Nat)(R:Option (zC×Nat)):Prop :=
 ∃fuel pos acc rv,EO wr rb v pos/\zj wr fb { f0 2 b with rngs:=acc } rv/\wr.ownsRow 0 214 2 rv acc.length (zq acc)/\(∀g,rv.ownBlock=some g->w.heap.size<=g) /\
  (∀i,i<acc.length->DZ acc i<18446744073709551616/\DX acc i<18446744073709551616)/\pos<=bs.length/\bs.length-pos<fuel/\acc.length<=pos/\DW (IG rb fb) w wr /\
  hi<4611686018427387904/\n<4611686018427387904/\size<4611686018427387904/\Ik bs fuel hi n size pos acc=R
variable{hi lo:Nat}
def j9{acc:zC}(h:∀i,i<acc.length->DZ acc i<18446744073709551616/\DX acc i<18446744073709551616)(h1:lo<18446744073709551616)(h2:hi<18446744073709551616):∀i,i<(acc++[(lo,hi)]).length->DZ (acc++[(lo,hi)]) i<18446744073709551616/\DX (acc++[(lo,hi)]) i<18446744073709551616:=by
 intro i b;by_cases a:i<acc.length
 .have:=h i a;unfold DZ DX at this ⊢;rw[Ak,Ao a,<-List.getD_eq_getElem?_getD];exact this
 have:i=acc.length:=by simp at b;omega
 subst this;simp[DZ,DX,h1,h2]
variable{e g m o sz:Nat}{xs:nJ}
def iQ{n c:Nat}(h:w.ownsRow 0 e sz v n xs)(a:v=.slice (g,o) m c):v.ownBlock=some g:=by
 rcases h.2 with⟨rfl,_⟩|⟨g',cap,cur,rfl,_⟩
 .cases a
 cases a;rfl
variable{b:Nat}{f:Da}{rv:Value}
def Wb{n:Nat}(h:w.ownsRow 0 214 2 v n xs)(hf:zj w b f rv):¬v.ownBlock=some b:=by
 intro hb;rcases h.2 with⟨rfl,_⟩|⟨g,cap,cur,rfl,_,hg,_⟩
 .cases hb
 simp[Value.ownBlock]at hb;subst hb;unfold zj at hf;rw[hg]at hf;simp at hf
variable{v':Value}
def Wm{n:Nat}(h:w.ownsRow 0 214 2 v n xs)(hf:EO w b v' pos):¬v.ownBlock=some b:=by
 intro hb;rcases h.2 with⟨rfl,_⟩|⟨g,cap,cur,rfl,_,hg,_⟩
 .cases hb
 simp[Value.ownBlock]at hb;subst hb;unfold EO at hf;rw[hg]at hf;simp at hf
theorem j8(rb fb pos:Nat)(v:Value)(bs:nG)(b:Bool)(w:World)(h:EO w rb v pos)(hb:BR w v bs)(hv:Dp (IG rb fb) v)(hp:pos<=bs.length)(hbl:bs.length<=1099511627776)(hf:zj w fb (f0 2 b) (.slice none 0 0))(aj:fb≠rb):Calls prog 174 #[(rb,0),(fb,0)] w (KK w rb v fb (FP b bs pos)):=by
 have ak:Dp (EU rb) v:=λg o n c e hx=>hv g o n c e (.inl hx)
 have aA:=zb (DW.refl (EU rb) w);have Hb:=zb hb;have Hf:=zb hf;have V:=zb ak;have al:=zb hv;have W:=zb aj;clear hb hv hf ak aj;have c1:=Gr rb pos v bs w h (Hb.z) V.z hp;cases hr1:Dy bs pos with
 | none =>
  rw[hr1]at c1;have m:AA (FP b bs pos=none):=by
   show _=_;unfold FP;simp only[hr1,AX,BV]
  clear hr1;go_enter func174,ntmps174;go_wp2_with (go_at_call 127;refine c1.mono ?_;rintro e w' (⟨_,_,hx,_⟩|⟨_,a,y⟩);cases hx;unfold EH at a;subst a);exact⟨rfl,.inr ⟨m.z,rfl,Em (y)⟩⟩
 | some q1 =>
  obtain⟨x1,p1⟩:=q1;rw[hr1]at c1;have aB:=IT hr1;have am:=(zY hr1).2.2;have X:=zb hr1;clear hr1;go_enter func174,ntmps174;go_wp2_with fail;refine c1.mono ?_;rintro e w1 (⟨_,_,hx,rfl,h1,m1⟩|⟨hx,_⟩);rotate_left
  .cases hx
  simp only[Az,Au,BJ]at hx;obtain⟨rfl,rfl⟩:=hx;have Y:=zb (aA.z.trans m1);clear c1 m1;have c2:=Gr rb p1 v bs w1 h1 (Hb.z.mod Y.z V.z) V.z aB;cases hr2:Dy bs p1 with
  | none =>
   rw[hr2]at c2;have m:AA (FP b bs pos=none):=by
    show _=_;unfold FP;simp only[X.z,hr2,AX,BV]
   clear hr2;go_wp2_with (go_at_call 127;refine c2.mono ?_;rintro e w' (⟨_,_,hx,_⟩|⟨_,a,y⟩);cases hx;unfold EH at a;subst a);exact⟨rfl,.inr ⟨m.z,rfl,Em (Y.z.trans y)⟩⟩
  | some q2 =>
   obtain⟨x2,p2⟩:=q2;rw[hr2]at c2;have aC:=IT hr2;have an:=(zY hr2).2.2;have ao:=zb hr2;clear hr2;go_wp2_with fail;refine c2.mono ?_;rintro e w2 (⟨_,_,hx,rfl,h2,m2⟩|⟨hx,_⟩);rotate_left
   .cases hx
   simp only[Az,Au,BJ]at hx;obtain⟨rfl,rfl⟩:=hx;have Z:=zb (Y.z.trans m2);clear c2 m2;have c3:=Gr rb p2 v bs w2 h2 (Hb.z.mod Z.z V.z) V.z aC;cases hr3:Dy bs p2 with
   | none =>
    rw[hr3]at c3;have m:AA (FP b bs pos=none):=by
     show _=_;unfold FP;simp only[X.z,ao.z,hr3,AX,BV]
    clear hr3;go_wp2_with (go_at_call 127;refine c3.mono ?_;rintro e w' (⟨_,_,hx,_⟩|⟨_,a,y⟩);cases hx;unfold EH at a;subst a);exact⟨rfl,.inr ⟨m.z,rfl,Em (Z.z.trans y)⟩⟩
   | some q3 =>
    obtain⟨x3,p3⟩:=q3;rw[hr3]at c3;have aD:=IT hr3;have ap:=(zY hr3).2.2;have aE:=zb hr3;clear hr3;go_wp2_with fail;refine c3.mono ?_;rintro e w3 (⟨_,_,hx,rfl,h3,m3⟩|⟨hx,_⟩);rotate_left
    .cases hx
    simp only[Az,Au,BJ]at hx;obtain⟨rfl,rfl⟩:=hx;have aq:=zb (Z.z.trans m3);clear c3 m3;obtain⟨R,B⟩:=nm (Ik bs (bs.length+1) x1 x2 x3 p3 []);have hA:P2 w w3 rb fb v b bs x1 x2 x3 R:=⟨bs.length+1,p3,[],.slice none 0 0,h3,Hf.z.mod aq.z W.z,World.ownsRow_nil w3 0 _ 2,(λg hg=>by cases hg),(λi hi=>absurd hi (A5 i)),aD,I,AM _,Em aq.z,am,an,ap,B⟩;have HA:=zb hA;have z:AA (FP b bs pos=R.bind λr=>some ({ f0 2 b with rngs:=r.1 },r.2)):=by
     show _=_;unfold FP;simp only[X.z,ao.z,aE.z,AX,B]
    clear hA B h3 h2 h1 h am an ap;go_wp2_with fail
    go_loopw [4,5,6,7,8] (λhi n size _ _ wr=>∃hi' n' size':Nat,hi=.int .u64 hi'/\n=.int .u64 n'/\size=.int .u64 size'/\P2 w wr rb fb v b bs hi' n' size' R) (λ_ _ _ _ _ wr=>bs.length-JW wr rb)
    case atStart=>exact⟨x1,x2,x3,rfl,rfl,rfl,HA.z⟩
    case round =>
     obtain⟨hi,n,size,rfl,rfl,rfl,fuel,q,acc,rv,C,t,d,D,aa,hq,hfu,hal,y,b1,b2,b3,B⟩:=hrel;obtain⟨fuel,rfl⟩:∃f,fuel=f+1:=⟨fuel-1,I⟩;unfold Ik at B;have aF:=zb C;have Hfr:=zb t;have aM:=zb d;have O:=zb D;have aG:=zb aa;have Hm:=zb y;by_cases d1:hi<size
     .rw[AQ d1]at B;have m:AA (FP b bs pos=none):=by show _=_;rw[z.z,<-B];rfl
      clear B C t d D aa y;go_wp2_with (go_at_call 128;refine(Jg _ _).mono ?_;rintro e w' ⟨a,rfl⟩;unfold EH at a;subst a);exact⟨rfl,.inr ⟨m.z,rfl,Hm.z⟩⟩
     rw[AI d1]at B;have z1:IntKind.u64.wrap ((hi:Int)-size)=((hi-size:Nat):Int):=by rw[IntKind.wrap_u64];omega
     obtain⟨lo,ab⟩:=nm (hi-size);rw[ab]at z1 B;have hlh:lo<=hi:=I;obtain⟨k0,k1,k2,k3,k4,k5,k6,k7,k8,k9⟩:=t.cells;have hfz:∀j,wr.frozen? ⟨fb,j,none⟩=false:=λj=>zg t
     obtain⟨v2,W2,hr2,E,ar,au⟩:=Tr wr rv acc lo hi d I;obtain⟨ra,rc,rfl,_⟩:=zk d;have av:=zb B;have ac:=Wb d t;have ad:=Wm d C;have mg:=(DW.refl _ _).grown ar (λk hk=>.inl hk);have x:=t.mod mg ac;have P:=C.mod mg ad;have c9':=x.cells.2.2.2.2.2.2.2.2.2;have aN:∀j,W2.frozen? ⟨fb,j,none⟩=false:=λj=>zg x
     obtain⟨a2,c2,rfl,_⟩:=zk E;have F:=zb E;have Q:=zb x;have aw:=zb P;have aH:=zb mg;have ax:=zb au;have Hlo:=zb ab;clear B C t d D aa y E ar au mg x P ab;obtain⟨W3,ae⟩:=nm (W2.setCell (U fb 9) (.slice a2 (acc.length+1) c2));have G:(acc++[(lo,hi)]).length=acc.length+1:=mv;have L:DW (λk=>k=fb) W2 W3:=by rw[<-ae];exact(DW.refl (λk=>k=fb) W2).setCell (p:=U fb 9) (.inl rfl) _
     have H:=zb (aw.z.mod L (λe=>W.z e.symm));have S:AA (zj W3 fb { f0 2 b with rngs:=acc++[(lo,hi)] } (.slice a2 (acc.length+1) c2)):=by
      show zj _ _ _ _;rw[<-ae];exact Q.z.set rfl
     have l:AA (W3.ownsRow 0 214 2 (.slice a2 (acc.length+1) c2) (acc++[(lo,hi)]).length (zq (acc++[(lo,hi)]))):=by
      show World.ownsRow _ _ _ _ _ _ _;have:=L.owns F.z (λg hg e=>Wb F.z Q.z (by rw[hg,e]));rw[G]at this ⊢;exact this
     have M:AA (DW (IG rb fb) w W3):=(Hm.z.then aH.z (λi hi=>.inr (O.z i hi))).then L (λi hi=>.inl (.inr hi));have J:AA (∀g,(Value.slice a2 (acc.length+1) c2).ownBlock=some g->w.heap.size<=g):=by
      intro g hg;have aI:EA wr (Value.slice ra acc.length rc) (.slice a2 (acc.length+1) c2):=by rw[<-G];exact ax.z
      rcases aI g hg with h1|h1
      .exact O.z g h1
      have:=Hm.z.size;omega
     have T:=zb (j9 aG.z (I:lo<18446744073709551616) (I:hi<18446744073709551616));have ay:=Hb.z.mod M.z al.z;have A:=Gr rb q v bs W3 H.z ay V.z hq;clear L G ay;by_cases hn:n=0
     .have m:AA (FP b bs pos=some ({ f0 2 b with rngs:=acc++[(lo,hi)] },q)):=by
       show _=_;have:=av.z;rw[AQ hn]at this;rw[z.z,<-this];rfl
      have aJ:((n:Int)==0)=true:=by simp[hn]
      clear hn A;go_wp2_with (at_builtin;refine zn rfl _ _ _ _ rfl _ _ _ rfl rfl hr2 ?_);refine bodyPost_ret (results_none rfl _ _ _) rfl (.inl ⟨_,_,q,m.z,rfl,H.z,S.z,?_,?_,M.z⟩)
      .exact⟨l.z,T.z⟩
      intro g o n' c' e;cases e;exact J.z g (iQ l.z rfl)
     have aJ:((n:Int)==0)=false:=by rw[AS];omega
     have z2:IntKind.u64.wrap ((n:Int)-1)=((n-1:Nat):Int):=by rw[IntKind.wrap_u64];omega
     have s:=av.z;rw[AI hn]at s;have s:=zb s;cases hg1:Dy bs q with
     | none =>
      rw[hg1]at A;have m:AA (FP b bs pos=none):=by
       show _=_;have:=s.z;rw[hg1]at this;rw[z.z,<-this];rfl
      clear hg1 hn;go_wp2_with (first|(at_builtin;refine zn rfl _ _ _ _ rfl _ _ _ rfl rfl hr2 ?_)|(go_at_call 127;refine A.mono ?_;rintro e w' (⟨_,_,hx,_⟩|⟨_,a,y⟩);cases hx;unfold EH at a;subst a));exact⟨rfl,.inr ⟨m.z,rfl,M.z.then (Em y) (λi hi=>.inl hi)⟩⟩
     | some q1 =>
      obtain⟨u,p4⟩:=q1;obtain⟨u1,u2,u3⟩:=zY hg1;rw[hg1]at A;have N:=zb hg1;clear hg1 hn;go_wp2_with (at_builtin;refine zn rfl _ _ _ _ rfl _ _ _ rfl rfl hr2 ?_);refine A.mono ?_;rintro e w4 (⟨_,_,hx,rfl,h4,m4⟩|⟨hx,_⟩);rotate_left
      .cases hx
      simp only[Az,Au,BJ]at hx;obtain⟨rfl,rfl⟩:=hx;have af:=zb (M.z.then (Em (fb:=fb) m4) (λi hi=>.inl hi));have K:=Gr rb p4 v bs w4 h4 (Hb.z.mod af.z al.z) V.z u2;have aK:=zb m4;clear A m4 h4 ae;cases hg2:Dy bs p4 with
      | none =>
       rw[hg2]at K;have m:AA (FP b bs pos=none):=by
        show _=_;have:=s.z;rw[N.z,AX,hg2]at this;rw[z.z,<-this];rfl
       clear hg2;go_wp2_with (go_at_call 127;refine K.mono ?_;rintro e w' (⟨_,_,hx,_⟩|⟨_,a,y⟩);cases hx;unfold EH at a;subst a);exact⟨rfl,.inr ⟨m.z,rfl,af.z.then (Em y) (λi hi=>.inl hi)⟩⟩
      | some q2 =>
       obtain⟨size',p5⟩:=q2;obtain⟨u4,u5,u6⟩:=zY hg2;rw[hg2]at K;have ah:=zb hg2;clear hg2;go_wp2_with fail;refine K.mono ?_;rintro e w5 (⟨_,_,hx,rfl,h5,m5⟩|⟨hx,_⟩);rotate_left
       .cases hx
       simp only[Az,Au,BJ]at hx;obtain⟨rfl,rfl⟩:=hx;have ai:=zb (af.z.then (Em (fb:=fb) m5) (λi hi=>.inl hi));have az:=zb (aK.z.trans m5);have H5:=zb h5;clear K m5 h5;by_cases d2:lo<2
       .have m:AA (FP b bs pos=none):=by
         show _=_;have:=s.z;rw[N.z,AX,ah.z,AX,AQ (.inl d2)]at this;rw[z.z,<-this];rfl
        have e2:decide ((lo:Int)<2)=true:=my;go_wp2_with (go_at_call 128;refine(Jg _ _).mono ?_;rintro e w' ⟨a,rfl⟩;unfold EH at a;subst a);exact⟨rfl,.inr ⟨m.z,rfl,ai.z⟩⟩
       have e2:decide ((lo:Int)<2)=false:=my;have z3:IntKind.u64.wrap ((lo:Int)-2)=((lo-2:Nat):Int):=by rw[IntKind.wrap_u64];omega
       have Hd2:=zb d2;by_cases d3:lo-2<u
       .have m:AA (FP b bs pos=none):=by
         show _=_;have:=s.z;rw[N.z,AX,ah.z,AX,AQ (.inr d3)]at this;rw[z.z,<-this];rfl
        have e3:decide (lo-2<u)=true:=nF d3;clear d2;go_wp2_with (go_at_call 128;refine(Jg _ _).mono ?_;rintro e w' ⟨a,rfl⟩;unfold EH at a;subst a);exact⟨rfl,.inr ⟨m.z,rfl,ai.z⟩⟩
       have e3:decide (lo-2<u)=false:=nF d3;have z4:IntKind.u64.wrap (((lo-2:Nat):Int)-u)=((lo-2-u:Nat):Int):=by rw[IntKind.wrap_u64];omega
       have aL:AA (P2 w w5 rb fb v b bs (lo-2-u) (n-1) size' R):=by
        refine⟨fuel,p5,acc++[(lo,hi)],.slice a2 (acc.length+1) c2,H5.z,S.z.mod az.z W.z,az.z.owns l.z (λg hg e=>Wm l.z H.z (by rw[hg,e])),J.z,T.z,u5,I,my,ai.z,I,I,u6,?_⟩;have:=s.z;rw[N.z,AX,ah.z,AX,AI I]at this;exact this
       have HP:AA (JW w5 rb=p5/\JW wr rb=q):=⟨O6 H5.z,O6 aF.z⟩;clear d2;go_wp2_with fail;go_roundw
       case rel=>exact⟨lo-2-u,n-1,size',by rfl,by rfl,rfl,aL.z⟩
       case measure =>
        rw[HP.z.1,HP.z.2];omega
def zL(k:Int)(b:Bool)(bs:nG)(pos:Nat):Option (Da×Nat) :=
 if k=1 then some (f0 1 b,pos)
 else if k=2 then FP b bs pos
 else if k=3 then Hd b bs pos
 else if k=4 then GY b bs pos
 else if k=5 then GP 5 b bs pos
 else if k=6 then GX b bs pos
 else if k=7 then G9 b bs pos
 else GP 8 b bs pos
def I8(k:Int)(b:Bool)(bs:nG)(v:Value)(w:World)(e:Ending)(w':World):Prop :=
 ∃cb wv F caps G,e=.returned (.pointer (some ⟨cb,0,none⟩))/\Im w' cb wv (.func (.func F) #[] caps) (.func (.func G) #[] #[])/\Es F/\Es G/\DW DY w w'/\w.heap.size<=cb /\
  (∀rb fb pos,EO w' rb v pos->BR w' v bs->Dp (IG rb fb) v->pos<=bs.length->bs.length<=1099511627776->zj w' fb (f0 k b) (.slice none 0 0)->fb≠rb->Calls prog F (#[.pointer (some ⟨rb,0,none⟩),.pointer (some ⟨fb,0,none⟩)]++caps) w' (KK w' rb v fb (zL k b bs pos))) /\
  (∀Y bf f rv,zj Y bf f rv->RR Y rv f.rngs->f.kind=k->f.rngs.length<=1099511627776->f.data.length<=35184372088832->Ef f=true->Calls prog G #[.pointer (some ⟨bf,0,none⟩)] Y (Iz Y (zO f)))
def To:Es 214:=F6 func214 mr rfl
def dh:Es 188:=F6 func188 mr rfl
def de:Es 190:=F6 func190 mr rfl
def da:Es 171:=F6 func171 mr rfl
def dZ:Es 177:=F6 func177 mr rfl
def dY:Es 182:=F6 func182 mr rfl
def dX:Es 174:=F6 func174 mr rfl
def dW(b:Bool)(bs:nG)(v:Value)(w:World):Calls prog 131 #[.int .i64 1] w (I8 1 b bs v w):=by
 refine(N9 w).mono ?_;rintro e w' ⟨cb,rfl,hc,hm,hb⟩;refine⟨cb,_,171,#[],172,rfl,hc,da,Io,hm,hb,λrb fb pos h hb hv hp hl hf hne=>by rw[show zL 1 b bs pos=some (f0 1 b,pos)by simp[zL]];exact read1 rb fb pos v b w' h hf,λY bf f rv hf hr hk hn hd hq=>?_⟩;rw[show zO f=(true)by simp[zO,hk]];exact Ip _ Y
def dV(b:Bool)(bs:nG)(v:Value)(w:World):Calls prog 131 #[.int .i64 2] w (I8 2 b bs v w):=by
 refine(N8 w).mono ?_;rintro e w' ⟨cb,rfl,hc,hm,hb⟩;refine⟨cb,_,174,#[],175,rfl,hc,dX,Tu,hm,hb,λrb fb pos h hb hv hp hl hf a=>by rw[show zL 2 b bs pos=FP b bs pos by simp[zL]];exact j8 rb fb pos v bs b w' h hb hv hp hl hf a,λY bf f rv hf hr hk hn hd hq=>?_⟩;rw[show zO f=(FE f.rngs)by simp[zO,hk]];exact Wf bf f rv Y hf hr hn
def dU(b:Bool)(bs:nG)(v:Value)(w:World):Calls prog 131 #[.int .i64 3] w (I8 3 b bs v w):=by
 refine(Nz w).mono ?_;rintro e w' ⟨cb,rfl,hc,hm,hb⟩;refine⟨cb,_,177,#[],179,rfl,hc,dZ,Tw,hm,hb,λrb fb pos h hb hv hp hl hf a=>by rw[show zL 3 b bs pos=Hd b bs pos by simp[zL]];exact Ns rb fb pos v bs b w' h hb hv hp hf a,λY bf f rv hf hr hk hn hd hq=>?_⟩;rw[show zO f=(decide (f.rel<=f.off))by simp[zO,hk]];exact Sq bf f rv Y hf
def dT(b:Bool)(bs:nG)(v:Value)(w:World):Calls prog 131 #[.int .i64 4] w (I8 4 b bs v w):=by
 refine(Ny w).mono ?_;rintro e w' ⟨cb,rfl,hc,hm,hb⟩;refine⟨cb,_,182,#[],184,rfl,hc,dY,Tv,hm,hb,λrb fb pos h hb hv hp hl hf a=>by rw[show zL 4 b bs pos=GY b bs pos by simp[zL]];exact Nr rb fb pos v bs b w' h hb hv hp hf a,λY bf f rv hf hr hk hn hd hq=>?_⟩;rw[show zO f=(decide (f.data.length+f.off<=4611686018427387903))by simp[zO,hk]];exact Sp bf f rv Y hf (Rr hq).1 I
def dS(b:Bool)(bs:nG)(v:Value)(w:World):Calls prog 131 #[.int .i64 5] w (I8 5 b bs v w):=by
 refine(Nx w).mono ?_;rintro e w' ⟨cb,tb,ab,rfl,hc,a,hm,hb,_,_⟩;refine⟨cb,_,_,_,172,rfl,hc,To,Io,hm,hb,λrb fb pos h hb hv hp hl hf c=>by rw[show zL 5 b bs pos=GP 5 b bs pos by simp[zL]];exact Ts rb fb ab pos 5 v bs b w' h hb hv hp hf c a.2,λY bf f rv hf hr hk hn hd hq=>?_⟩;rw[show zO f=(true)by simp[zO,hk]];exact Ip _ Y
def dR(b:Bool)(bs:nG)(v:Value)(w:World):Calls prog 131 #[.int .i64 6] w (I8 6 b bs v w):=by
 refine(Nw w).mono ?_;rintro e w' ⟨cb,rfl,hc,hm,hb⟩;refine⟨cb,_,188,#[],172,rfl,hc,dh,Io,hm,hb,λrb fb pos h hb hv hp hl hf a=>by rw[show zL 6 b bs pos=GX b bs pos by simp[zL]];exact Nq rb fb pos v bs b w' h hb hv hp hf a,λY bf f rv hf hr hk hn hd hq=>?_⟩;rw[show zO f=(true)by simp[zO,hk]];exact Ip _ Y
def dQ(b:Bool)(bs:nG)(v:Value)(w:World):Calls prog 131 #[.int .i64 7] w (I8 7 b bs v w):=by
 refine(Nv w).mono ?_;rintro e w' ⟨cb,rfl,hc,hm,hb⟩;refine⟨cb,_,190,#[],172,rfl,hc,de,Io,hm,hb,λrb fb pos h hb hv hp hl hf a=>by rw[show zL 7 b bs pos=G9 b bs pos by simp[zL]];exact Np rb fb pos v bs b w' h hb hv hp hf a,λY bf f rv hf hr hk hn hd hq=>?_⟩;rw[show zO f=(true)by simp[zO,hk]];exact Ip _ Y
def dP(b:Bool)(bs:nG)(v:Value)(w:World):Calls prog 131 #[.int .i64 8] w (I8 8 b bs v w):=by
 refine(Nu w).mono ?_;rintro e w' ⟨cb,tb,ab,rfl,hc,a,hm,hb,_,_⟩;refine⟨cb,_,_,_,172,rfl,hc,To,Io,hm,hb,λrb fb pos h hb hv hp hl hf c=>by rw[show zL 8 b bs pos=GP 8 b bs pos by simp[zL]];exact Ts rb fb ab pos 8 v bs b w' h hb hv hp hf c a.2,λY bf f rv hf hr hk hn hd hq=>?_⟩;rw[show zO f=(true)by simp[zO,hk]];exact Ip _ Y
def jZ(t:UInt8)(k:Int)(hk:FZ t=some k)(b:Bool)(bs:nG)(v:Value)(w:World):Calls prog 131 #[[k]] w (I8 k b bs v w):=by
 have a:k=1\/k=2\/k=3\/k=4\/k=5\/k=6\/k=7\/k=8:=by
  unfold FZ at hk;repeat' split at hk
  all_goals simp at hk
  all_goals omega
 rcases a with rfl|rfl|rfl|rfl|rfl|rfl|rfl|rfl
 .exact dW b bs v w
 .exact dV b bs v w
 .exact dU b bs v w
 .exact dT b bs v w
 .exact dS b bs v w
 .exact dR b bs v w
 .exact dQ b bs v w
 exact dP b bs v w
def FM(fs:List (Da×Value)):List Value:=fs.flatMap λx=>(zl x.1 x.2).toList
def ls(a b:List (Da×Value)):FM (a++b)=FM a++FM b:=by simp[FM]
theorem lq(fs:List (Da×Value)):(FM fs).length=fs.length*10:=by
 induction fs with
 | nil=>rfl
 | cons x fs ih =>
  have:FM (x::fs)=(zl x.1 x.2).toList++FM fs:=rfl;rw[this,AG,ih];simp[zl];omega
theorem VD(fs:List (Da×Value)):∀i x,fs[i]?=some x->∀j u,(zl x.1 x.2)[j]?=some u->(FM fs)[i*10+j]?=some u:=by
 induction fs with
 | nil=>intro i x h;simp at h
 | cons y fs ih =>
  intro i x h j u a;have hl:((zl y.1 y.2).toList).length=10:=rfl;have e:FM (y::fs)=(zl y.1 y.2).toList++FM fs:=rfl;cases i with
  | zero =>
   simp only[List.getElem?_cons_zero,Au]at h;subst h;have hj:j<10:=(AH.1 a).1;rw[e,Cd,A6,Ao I,Bl];exact a
  | succ i =>
   simp only[DG]at h;rw[e,(I:(i+1)*10+j=10+(i*10+j)),Ab I,hl,Ck];exact ih i x h j u a
def Gc(w:World)(v:Value)(fs:List (Da×Value)):Prop:=w.ownsRow 0 65 10 v fs.length (FM fs)/\∀x∈fs,Fh w x.2 x.1.rngs
def Gc.frs{fs:List (Da×Value)}(h:Gc w v fs):IM w v fs:=by
 obtain⟨a,cap,rfl,h1,h2,h3⟩:=zk h.1;refine⟨a,cap,rfl,h1,h2,λi fr hi=>⟨?_,(h.2 fr (AV hi)).rr⟩⟩;have hlt:=(AN.1 hi).1;obtain⟨g,rfl⟩:=h3 I;refine⟨g,0,rfl,λj x hx=>?_⟩;have:=h.1.cells (g:=g) rfl _ _ (VD fs i fr hi j x hx);rw[zZ]at this;rw[A6]at this
 rwa [A6]
def jY:(prog.info? 65).map (λi=>(i.zero,i.size,i.bytes))=some (some (.agg #[.int .i64 0,.int .i64 0,.int .u64 0,.int .u64 0,.int .u64 0,.bool false,.int .u64 0,.int .u64 0,.string ⟨#[]⟩,.slice none 0 0]),10,104):=mr
def j7(f:Da)(a:nI)(n c:Nat):∀u∈(zl f (.slice a n c)).toList,u.oneCell'=true:=by
 intro u b;simp[zl]at b;rcases b with rfl|rfl|rfl|rfl|rfl|rfl|rfl|rfl|rfl|rfl<;>rfl
def Tn(w:World)(v:Value)(fs:List (Da×Value))(f:Da)(a:nI)(n c:Nat)(h:w.ownsRow 0 65 10 v fs.length (FM fs))(hl:fs.length<=1099511627776):∃v' w',(∀ty,(Builtin.append_ #[54,54] ty #[v,.slice w.heap.size 1 1]).run prog (w.alloc (.cells (zl f (.slice a n c)) 65))=.ok v' w') /\
   w'.ownsRow 0 65 10 v' (fs.length+1) (FM (fs++[(f,.slice a n c)]))/\w.grownBy w' v.ownBlock/\EA w v v':=by
 obtain⟨i,d,hz,e,g⟩:=info_parts jY;have l:FM [(f,.slice a n c)]=(zl f (.slice a n c)).toList:=by simp[FM]
 have b:∀(j:Nat) u,(FM [(f,.slice a n c)])[j]?=some u->(w.alloc (.cells (zl f (.slice a n c)) 65)).cell? ((⟨w.heap.size,0,none⟩:Addr).add j)=some u:=by
  intro j u hj;rw[zZ];refine za (heap_alloc_new w _) ?_;rw[A6,<-Array.getElem?_toList,<-l];exact hj
 obtain⟨v',w',h1,h2,h3,h4,h5⟩:=K3 (P:=prog) (w.alloc (.cells (zl f (.slice a n c)) 65)) 54 65 i _ 10 104 underlying54 d hz e g rfl mu v fs.length (FM fs) (World.ownsRow.alloc h _)
  ⟨w.heap.size,0,none⟩ 1 1 (FM [(f,.slice a n c)]) (by rw[lq];rfl) b (by rw[l];exact j7 f a n c) mz I
 refine⟨v',w',h1,?_,?_,?_⟩
 .rw[ls];exact h2
 .exact⟨h3.os,h3.tape,h3.output,AJ mv h3.size,λk hk hn=>(h3.block k my hn).trans (Below.heap_alloc w _ k hk)⟩
 intro k hk;rcases h4 k hk with x|x
 .exact .inl x
 exact .inr (by simp at x;omega)
def OU(G:World->Prop):Exit->Act->World->Prop:=λb a w'=>(b=.normal\/b=.ret)/\a.defers=[]/\G w'
def jX(a b c:Value)(w:World):CallsD prog 126 #[a,b,c] .returning w λe u' w'=>e=.returned (.tuple #[])/\u'=.returning/\w'=w:=by
 refine callsD_of_wpS func126 rfl λd cs f=>?_
 apply wpS_seq;apply wpS_region;simp[wpOpsS,go_sem,recoverD,f,ntmps126,Exit.thenS];rw[(mr:#[a,b,c]++((Array.replicate 19 undef).setIfInBounds 3 Value.nilIface).setIfInBounds 0 Value.nilIface=(#[a,b,c,.nilIface,undef,undef,.nilIface,undef,undef,undef,undef,undef,undef,undef,undef,undef,undef,undef,undef,undef,undef,undef]:Array Value))];refine wpS_of_wp (wp_mono (Q:=OU (λw'=>w'=w)) ?_ ?_)
 .go_wp2_with fail;exact⟨by first|exact .inl rfl|exact .inr rfl,rfl,rfl⟩
 rintro e a w' ⟨he,hd,rfl⟩;have hc:({ d with mode:=.returning }:Frame)=d:=by
  cases d;simp at f;simp[f]
 rcases he with rfl|rfl;all_goals exact⟨hd,_,by rw[hc],_,results_none rfl _ _ _,rfl,rfl,rfl⟩
def Sn(w:World)(a eb at_:Nat)(w':World):Prop :=
 w'.heap[a]?=some (.cells #[.int .u64 0,.slice none 0 0] 56 (0,0)) /\
 (∃fa,w'.heap[eb]?=some (.cells #[.iface 162 (.pointer (some ⟨fa,0,none⟩))] 98 (0,0))/\w'.heap[fa]?=some (.cells #[.int .i64 8,[at_]] 167 (0,0))/\w.heap.size<=fa) /\
 DW (λk=>k=a\/k=eb) w w'
def j6(d b eb at_:Nat)(q h r:Value)(c:List PanicEntry)(w:World)(ha:w.cell? d=some (.int .i64 at_))(g:w.heap[b]?=some (.cells #[q,h] 56 (0,0)))(f:w.heap[eb]?=some (.cells #[r] 98 (0,0)))(l:b≠eb):CallsD prog 126 #[.pointer d,.pointer b,.pointer eb] (.panicking ({ v:=.iface 230 (.agg #[]),recovered:=false }::c)) w λe u' w' =>
   e=.returned (.tuple #[])/\u'=.panicking ({ v:=.iface 230 (.agg #[]),recovered:=true }::c)/\Sn w b eb at_ w':=by
 refine callsD_of_wpS func126 rfl λc₀ cs s=>?_
 have Hp:=zb g;have He:=zb f;have hpl:=zm (za (o:=0) g rfl);have hel:=zm (za (o:=0) f rfl);have hal:=zm ha;have p0:w.cell? b=some q:=za (o:=0) g rfl;have p1:w.cell? (b,1)=some h:=za (o:=1) g rfl;have q0:w.cell? eb=some r:=za (o:=0) f rfl;have hta:∀w,(Instr.typeAssert (.iface 230 (.agg #[])) 20 230 true).run prog w=.ok (.tuple #[.agg #[],true]) w:=λ_=>mr
 have pz:∀j,w.frozen? ⟨b,j,none⟩=false:=λj=>zg g
 have qz:∀j,w.frozen? ⟨eb,j,none⟩=false:=λj=>zg f
 apply wpS_seq;apply wpS_region;simp[wpOpsS,go_sem,recoverD,s,ntmps126,Exit.thenS];rw[(mr:#[Value.pointer d,Value.pointer b,Value.pointer eb]++((Array.replicate 19 undef).setIfInBounds 3 (Value.iface 230 (.agg #[]))).setIfInBounds 0 (Value.iface 230 (.agg #[]))=(#[.pointer d,.pointer b,.pointer eb,.iface 230 (.agg #[]),undef,undef,.iface 230 (.agg #[]),undef,undef,undef,undef,undef,undef,undef,undef,undef,undef,undef,undef,undef,undef,undef]:Array Value))];refine wpS_of_wp (wp_mono (Q:=OU (Sn w b eb at_)) ?_ ?_)
 .clear g f s;go_wp2_with fail;refine⟨.inl rfl,rfl,?_⟩;obtain⟨W,m⟩:=nm (((w.setCell b (.int .u64 0)).setCell (U b 1) (.slice none 0 0)).setCell eb (.iface 162 (.pointer (U (w.heap.size+1) 0))));rw[m];have mW:DW (λk=>k=b\/k=eb) w W:=by
   rw[<-m];exact(((DW.refl (λk=>k=b\/k=eb) w).setCell (p:=b) (.inl (.inl rfl)) _).setCell (p:=U b 1) (.inl (.inl rfl)) _).setCell (p:=eb) (.inl (.inr rfl)) _
  have o1:=zc (i:=1) (v:=.slice none 0 0) (zc (i:=0) (v:=.int .u64 0) Hp.z);have oP:W.heap[b]?=some (.cells #[.int .u64 0,.slice none 0 0] 56 (0,0)):=by
   rw[<-m];exact(((DW.refl (λk=>k=eb) _).setCell (p:=eb) (.inl rfl) _).obj l o1).trans mv
  have oE:W.heap[eb]?=some (.cells #[.iface 162 (.pointer (w.heap.size+1,0))] 98 (0,0)):=by
   rw[<-m];have e1:=(((DW.refl (λk=>k=b) w).setCell (p:=b) (.inl rfl) (.int .u64 0)).setCell (p:=U b 1) (.inl rfl) (.slice none 0 0)).obj (λe=>l e.symm) He.z;exact(zc (i:=0) e1).trans mv
  have hs:W.heap.size=w.heap.size:=by rw[<-m];simp[World.setCell]
  have n:DW DY W ((W.alloc (.cells #[] 230)).alloc (.cells #[.int .i64 8,[at_]] 167)):=((DW.refl _ _).alloc _).alloc _;refine⟨n.obj (λx=>x) oP,⟨w.heap.size+1,n.obj (λx=>x) oE,?_,I⟩,mW.then n (λ_ x=>x.elim)⟩;have:(W.alloc (.cells #[] 230)).heap.size=w.heap.size+1:=by simp[hs]
  rw[<-this];exact heap_alloc_new _ _
 rintro e a w' ⟨f,hd,hg⟩;rcases f with rfl|rfl;all_goals exact⟨hd,_,rfl,_,results_none rfl _ _ _,rfl,rfl,hg⟩
def Dm(bs:nG)(i:Nat):Nat:=(bs.getD i 0).toNat
def IF(bs:nG)(n:Nat):Nat:=Dm bs n*16777216+Dm bs (n+1)*65536+Dm bs (n+2)*256+Dm bs (n+3)
inductive GH where
 | sum:GH
 | bad (at_:Nat):GH
 | ok (num:Nat) (fs:List Da):GH
def Gl(bs:nG)(pos:Nat):Option (Da×Nat) :=
 match bs[pos]? with
 | none=>none
 | some t=>(FZ t).bind λk=>(zL k (decide (t=9)) bs (pos+1)).bind λr=>if zX r.1=true then some r else none
def Ij(bs:nG):Nat->Nat->Nat->List Da->GH
 | 0,_,pos,_=>.bad pos
 | fuel+1,num,pos,acc =>
  if pos<bs.length then
   match Gl bs pos with
   | none=>.bad pos
   | some r=>Ij bs fuel num r.2 (acc++[r.1])
  else .ok num acc
def Fn(bs:nG):GH :=
 match Dy bs 0 with
 | none=>.bad 0
 | some q=>if q.2=bs.length then .bad 0 else Ij bs (bs.length+1) q.1 q.2 []
def dec(bs:nG):GH :=
 if bs.length<4 then .sum
 else if IF bs (bs.length-4)=D3 (bs.take (bs.length-4))then Fn (bs.take (bs.length-4))else .sum
theorem VC(bs:nG):∀fuel hi n size pos acc r,pos<=bs.length->Ik bs fuel hi n size pos acc=some r->pos<=r.2/\r.2<=bs.length/\r.1.length<=acc.length+(r.2-pos)+1
 | 0,_,_,_,_,_,_,_,h=>by cases h
 | fuel+1,hi,n,size,pos,acc,r,hp,h=>by
  unfold Ik at h;split at h
  .cases h
  split at h
  .cases h;simp;exact hp
  cases h1:Dy bs pos with
  | none=>rw[h1]at h;cases h
  | some q1 =>
   obtain⟨g,p1⟩:=q1;obtain⟨a1,a2,_⟩:=zY h1;rw[h1]at h;simp only[AX]at h;cases h2:Dy bs p1 with
   | none=>rw[h2]at h;cases h
   | some q2 =>
    obtain⟨s,p2⟩:=q2;obtain⟨b1,b2,_⟩:=zY h2;rw[h2]at h;simp only[AX]at h;split at h
    .cases h
    obtain⟨c1,c2,c3⟩:=VC bs fuel _ _ _ _ _ _ b2 h;simp only[AG,AR,Ad]at c3;exact⟨I,c2,I⟩
variable{bs l:nG}{p:Nat}
theorem VB(h:GE bs pos=some (l,p)):pos<=p/\p<=bs.length/\l.length<=bs.length:=by
 have he:=Rf h;unfold GE at h;cases hr:Dy bs pos with
 | none=>rw[hr]at h;cases h
 | some q =>
  obtain⟨n,p1⟩:=q;rw[hr]at h;obtain⟨a1,a2,_⟩:=zY hr;simp only[AX]at h;split at h
  .cases h;refine⟨I,he,?_⟩;simp;omega
  cases h
theorem Rx{n:Nat}(h:Fk bs pos=some (n,p)):pos<=p/\p<=bs.length:=by
 unfold Fk at h;cases hr:Dy bs pos with
 | none=>rw[hr]at h;cases h
 | some q =>
  rw[hr]at h;have:=zY hr;simp only[AX]at h;split at h
  .cases h;exact⟨I,this.2.1⟩
  cases h
def SR(bs:nG)(pos:Nat)(k:Int)(f:Da)(p:Nat):Prop:=f.kind=k/\pos<=p/\p<=bs.length/\f.data.length<=bs.length/\f.rngs.length<=bs.length+1
def WO{t:UInt8}{k:Int}{b:Bool}(hk:FZ t=some k)(hp:pos<=bs.length)(h:zL k b bs pos=some (f,p)):SR bs pos k f p:=by
 have j:k=1\/k=2\/k=3\/k=4\/k=5\/k=6\/k=7\/k=8:=by
  unfold FZ at hk;repeat' split at hk
  all_goals simp at hk
  all_goals omega
 rcases j with rfl|rfl|rfl|rfl|rfl|rfl|rfl|rfl
 .rw[show zL 1 b bs pos=some (f0 1 b,pos)by simp[zL]]at h;cases h;exact⟨rfl,AF _,hp,AM _,AM _⟩
 .rw[show zL 2 b bs pos=FP b bs pos by simp[zL],FP,Ar]at h;obtain⟨⟨e,p1⟩,a,h⟩:=h;rw[Ar]at h;obtain⟨⟨i,p2⟩,c,h⟩:=h;rw[Ar]at h;obtain⟨⟨g,p3⟩,d,h⟩:=h;rw[Ar]at h;obtain⟨r,e4,h⟩:=h;cases h;have:=zY a;have:=zY c;have:=zY d;simp only at *;obtain⟨c1,c2,c3⟩:=VC bs _ _ _ _ _ _ _ (zY d).2.1 e4;refine⟨rfl,I,c2,AM _,?_⟩;show r.1.length<=_;simp only[Ad]at c3;omega
 .rw[show zL 3 b bs pos=Hd b bs pos by simp[zL],Hd,Ar]at h;obtain⟨⟨e,p1⟩,a,h⟩:=h;rw[Ar]at h;obtain⟨⟨i,p2⟩,c,h⟩:=h;rw[Ar]at h;obtain⟨⟨g,p3⟩,d,h⟩:=h;cases h;have:=Rx a;have:=zY c;have:=zY d;simp only at *;exact⟨rfl,I,I,AM _,AM _⟩
 .rw[show zL 4 b bs pos=GY b bs pos by simp[zL],GY,Ar]at h;obtain⟨⟨e,p1⟩,a,h⟩:=h;rw[Ar]at h;obtain⟨⟨i,p2⟩,c,h⟩:=h;rw[Ar]at h;obtain⟨⟨g,p3⟩,d,h⟩:=h;cases h;have:=Rx a;have:=zY c;have:=VB d;simp only at *;exact⟨rfl,I,I,by show g.length<=_;omega,AM _⟩
 .rw[show zL 5 b bs pos=GP 5 b bs pos by simp[zL],GP,Ar]at h;obtain⟨⟨e,p1⟩,a,h⟩:=h;cases h;have:=zY a;simp only at *;exact⟨rfl,I,I,AM _,AM _⟩
 .rw[show zL 6 b bs pos=GX b bs pos by simp[zL],GX,Ar]at h;obtain⟨⟨e,p1⟩,a,h⟩:=h;rw[Ar]at h;obtain⟨⟨i,p2⟩,c,h⟩:=h;cases h;have:=Rx a;have:=zY c;simp only at *;exact⟨rfl,I,I,AM _,AM _⟩
 .rw[show zL 7 b bs pos=G9 b bs pos by simp[zL],G9,Ar]at h;obtain⟨⟨e,p1⟩,a,h⟩:=h;rw[Ar]at h;obtain⟨⟨i,p2⟩,c,h⟩:=h;rw[Ar]at h;obtain⟨⟨g,p3⟩,d,h⟩:=h;cases h;have:=zY a;have:=zY c;have:=VB d;simp only at *;exact⟨rfl,I,I,by show g.length<=_;omega,AM _⟩
 rw[show zL 8 b bs pos=GP 8 b bs pos by simp[zL],GP,Ar]at h;obtain⟨⟨e,p1⟩,a,h⟩:=h;cases h;have:=zY a;simp only at *;exact⟨rfl,I,I,AM _,AM _⟩
def Hx(w:World)(pb num:Nat)(fv:Value):Prop:=w.heap[pb]?=some (.cells #[num,fv] 56 (0,0))
def I0(w:World)(eb:Nat)(v:Value):Prop:=w.heap[eb]?=some (.cells #[v] 98 (0,0))
def Ex(w:World)(r:GH)(e:Ending)(w':World):Prop :=
 DW DY w w'/\match r with
 | .sum=>e=.returned (.tuple #[.agg #[.int .u64 0,.slice none 0 0],.iface 57 (.int .i64 7)])
 | .bad at_=>∃fa,e=.returned (.tuple #[.agg #[.int .u64 0,.slice none 0 0],.iface 162 (.pointer (some ⟨fa,0,none⟩))])/\w'.heap[fa]?=some (.cells #[.int .i64 8,[at_]] 167 (0,0))/\w.heap.size<=fa
 | .ok num fs=>∃fv rvs,e=.returned (.tuple #[.agg #[.int .u64 num,fv],.nilIface])/\Gc w' fv rvs/\rvs.map (·.1)=fs/\(∀g,fv.ownBlock=some g->w.heap.size<=g)/\∀x∈rvs,∀g,x.2.ownBlock=some g->w.heap.size<=g
def Pi(tmps:Array Value)(w:World)(a eb:Nat)(n fv ev:Value)(h2:tmps.getD 2 undef=.pointer a)(h3:tmps.getD 3 undef=.pointer eb)
  (c0:w.cell? a=some n) (c1:w.cell? (a,1)=some fv) (c2:w.cell? eb=some ev) :
  (results f74 tmps).run prog w=.ok (.tuple #[.agg #[n,fv],ev]) w:=by
 have b:tmps[2]?.getD undef=.pointer a:=by rw[<-h2];simp
 have c:tmps[3]?.getD undef=.pointer eb:=by rw[<-h3];simp
 simp[results,results74,go_sem,b,c,c0,c1,c2]
def iP(v:Value)(bs:nG)(w:World)(hb:BR w v bs)(hs:bs.length<4):Calls prog 74 #[v] w (Ex w .sum):=by
 obtain⟨a,cap,rfl,h1,h2,h3⟩:=hb;unfold maxLen at h2;have z1:IntKind.i64.wrap ((bs.length:Int)-4)=(bs.length:Int)-4:=IntWalk.i64_in _ I;have d:(bs.length:Int)-4<0:=I;clear h3
 go_enter_defers func74,ntmps74
 go_wp2_with fail;refine⟨_,Pi _ _ _ _ _ _ _ rfl rfl mv mv mv,((DW.refl _ _).alloc _).alloc _,rfl⟩
def Rd(a b:Nat)(ha:a<4294967296)(hb:b<4294967296):bits .or .u32 (a:Int) (b:Int)=((a ||| b:Nat):Int):=by
 have hx:a ||| b<2 ^ 32:=Nat.or_lt_two_pow I I;have h1:(BitVec.ofInt 32 (a:Int)).toNat=a:=by
  rw[Br,B6];exact CD I
 have h2:(BitVec.ofInt 32 (b:Int)).toNat=b:=by
  rw[Br,B6];exact CD I
 show IntKind.u32.wrap ((BitVec.ofInt 32 (a:Int) ||| BitVec.ofInt 32 (b:Int)).toNat:Int)=_;rw[BitVec.toNat_or,h1,h2,JD];omega
def QJ(a b i:Nat)(h:b<2 ^ i):a*2 ^ i ||| b=a*2 ^ i+b:=by
 have:=Nat.two_pow_add_eq_or_of_lt h a;rw[AL]at this;exact this.symm
def Jz(a b c d:Nat)(h0:a<256)(h1:b<256)(h2:c<256)(h3:d<256):bits .or .u32 ((a:Int)*16777216) ((b:Int)*65536)=(a:Int)*16777216+(b:Int)*65536 /\
  bits .or .u32 ((a:Int)*16777216+(b:Int)*65536) ((c:Int)*256)=(a:Int)*16777216+(b:Int)*65536+(c:Int)*256 /\
  bits .or .u32 ((a:Int)*16777216+(b:Int)*65536+(c:Int)*256) (d:Int)=(a:Int)*16777216+(b:Int)*65536+(c:Int)*256+(d:Int):=by
 refine⟨?_,?_,?_⟩
 .have:=Rd (a*16777216) (b*65536) I I;rw[QJ a (b*65536) 24 I]at this;rw[(I:(a:Int)*16777216=((a*16777216:Nat):Int)),(I:(b:Int)*65536=((b*65536:Nat):Int)),this];omega
 .have:=Rd (a*16777216+b*65536) (c*256) I I;have e:a*16777216+b*65536=(a*256+b)*2 ^ 16:=I;rw[e,QJ _ (c*256) 16 I,<-e]at this;rw[(I:(a:Int)*16777216+(b:Int)*65536=((a*16777216+b*65536:Nat):Int)),(I:(c:Int)*256=((c*256:Nat):Int)),this];omega
 have:=Rd (a*16777216+b*65536+c*256) d I I;have e:a*16777216+b*65536+c*256=(a*65536+b*256+c)*2 ^ 8:=I;rw[e,QJ _ d 8 I,<-e]at this;rw[(I:(a:Int)*16777216+(b:Int)*65536+(c:Int)*256=((a*16777216+b*65536+c*256:Nat):Int)),this];omega
variable{a:nI}{cap:Nat}
def BR.pre{n:Nat}(h:BR w (.slice a bs.length cap) bs)(hn:n<=bs.length):BR w (.slice a n cap) (bs.take n):=by
 obtain⟨a',d,hv,h1,h2,h3⟩:=h;cases hv;have hl:(bs.take n).length=n:=my;refine⟨a,cap,by rw[hl],I,h2,λi c hi=>?_⟩;have b:i<n:=by
  have:=(AN.1 hi).1;omega
 rw[CU,AQ b]at hi;exact h3 i c hi
variable{i:Nat}
def BR.byte{l:Nat}(h:BR w (.slice a l cap) bs)(hi:i<bs.length):∃g o,a=some ⟨g,o,none⟩/\w.cell? ⟨g,o+i,none⟩=some (.int .u8 (Dm bs i:Int)):=by
 obtain⟨a',b,hv,h1,h2,h3⟩:=h;cases hv;have:=h3 i bs[i] (AK hi);unfold Dm;rw[Ak,AK hi];exact this
def Js(bs:nG)(i:Nat):Dm bs i<256:=by
 unfold Dm;have:=(bs.getD i 0).toNat_lt;omega
def Xn(v:Value)(bs:nG)(n:Nat)(w:World)(hb:BR w v bs)(B:GA w)(C:bs.length=n+4)(f:IF bs n≠D3 (bs.take n)):Calls prog 74 #[v] w (Ex w .sum):=by
 obtain⟨a,cap,rfl,h1,h2,h3⟩:=id hb;unfold maxLen at h2;rw[C]at h1 hb ⊢;have b:BR w (.slice a bs.length cap) bs:=by rw[C];exact hb
 obtain⟨g,o,rfl,D⟩:=b.byte (i:=n) I;obtain⟨_,_,e,k1⟩:=b.byte (i:=n+1) I;cases e;obtain⟨_,_,e,k2⟩:=b.byte (i:=n+2) I;cases e;obtain⟨_,_,e,k3⟩:=b.byte (i:=n+3) I;cases e;have hgl:=zm D;have c:=b.pre (n:=n) I;have d:=λw' (m:DW DY w w')=>Qc (.slice (g,o) n cap) (bs.take n) w' (c.mod m (Dp.no _)) (B.mod m (λx=>x))
 have t:=MP (bs.take n);obtain⟨s,h⟩:=nm (D3 (bs.take n));rw[h]at d f t;have E:=Js bs n;have F:=Js bs (n+1);have G:=Js bs (n+2);have H:=Js bs (n+3);unfold IF at f;obtain⟨l,J⟩:=nm (Dm bs n);obtain⟨q,K⟩:=nm (Dm bs (n+1));obtain⟨r,L⟩:=nm (Dm bs (n+2));obtain⟨M,N⟩:=nm (Dm bs (n+3));rw[J]at D E f;rw[K]at k1 F f;rw[L]at k2 G f;rw[N]at k3 H f;obtain⟨o1,o2,o3⟩:=Jz l q r M E F G H;have z1:IntKind.i64.wrap (((n+4:Nat):Int)-4)=(n:Int):=by rw[(I:((n+4:Nat):Int)-4=n)];exact IntWalk.i64_in _ I
 have z2:IntKind.i64.wrap ((n:Int)+1)=(n:Int)+1:=IntWalk.i64_in _ I;have z3:IntKind.i64.wrap ((n:Int)+2)=(n:Int)+2:=IntWalk.i64_in _ I;have z4:IntKind.i64.wrap ((n:Int)+3)=(n:Int)+3:=IntWalk.i64_in _ I;have t2:((n:Int)+1).toNat=n+1:=I;have t3:((n:Int)+2).toNat=n+2:=I;have t4:((n:Int)+3).toNat=n+3:=I;have y0:IntKind.u32.wrap ((l:Int)*16777216)=(l:Int)*16777216:=by rw[JD];omega
 have y1:IntKind.u32.wrap ((q:Int)*65536)=(q:Int)*65536:=by rw[JD];omega
 have y2:IntKind.u32.wrap ((r:Int)*256)=(r:Int)*256:=by rw[JD];omega
 have hq:((l:Int)*16777216+(q:Int)*65536+(r:Int)*256+(M:Int) != (s:Int))=true:=by rw[Cp];omega
 clear h3 hb b B c J K L N h f
 go_enter_defers func74,ntmps74
 go_wp2_with (go_at_call 125;refine(d _ (((DW.refl _ _).alloc _).alloc _)).mono ?_;rintro e w' ⟨rfl,rfl⟩);go_quiet (fail);go_wp2_with fail;have m0:DW DY w (((w.alloc (.cells #[.int .u64 0,.slice none 0 0] 56)).alloc (.cells #[.nilIface] 98)).drewN nq):=(((DW.refl _ _).alloc _).alloc _).drewN _;obtain⟨X,y⟩:=nm (((w.alloc (.cells #[.int .u64 0,.slice none 0 0] 56)).alloc (.cells #[.nilIface] 98)).drewN nq);have oP:X.heap[w.heap.size]?=some (.cells #[.int .u64 0,.slice none 0 0] 56 (0,0)):=by
  rw[<-y];exact(((DW.refl DY _).alloc (.cells #[.nilIface] 98)).drewN nq).obj (λx=>x) (heap_alloc_new w _)
 have oE:X.heap[w.heap.size+1]?=some (.cells #[.nilIface] 98 (0,0)):=by
  rw[<-y];have e:(w.alloc (.cells #[.int .u64 0,.slice none 0 0] 56)).heap.size=w.heap.size+1:=mv;rw[<-e];exact((DW.refl DY _).drewN nq).obj (λx=>x) (heap_alloc_new _ _)
 rw[y]at m0 ⊢;have z:=zc (i:=1) (v:=.slice none 0 0) (zc (i:=0) (v:=.int .u64 0) oP);have mE:DW (λk=>k=w.heap.size) X ((X.setCell w.heap.size (.int .u64 0)).setCell (U w.heap.size 1) (.slice none 0 0)):=((DW.refl (λk=>k=w.heap.size) X).setCell (p:=w.heap.size) (.inl rfl) _).setCell (p:=U w.heap.size 1) (.inl rfl) _;have A:=zc (i:=0) (v:=.iface 57 (.int .i64 7)) (mE.obj (by show ¬w.heap.size+1=w.heap.size;omega) oE);have mL:∀u,DW (λk=>k=w.heap.size+1) ((X.setCell w.heap.size (.int .u64 0)).setCell (U w.heap.size 1) (.slice none 0 0)) (((X.setCell w.heap.size (.int .u64 0)).setCell (U w.heap.size 1) (.slice none 0 0)).setCell (U (w.heap.size+1) 0) u):=λu=>(DW.refl (λk=>k=w.heap.size+1) _).setCell (p:=U (w.heap.size+1) 0) (.inl rfl) u
 have j:=(mL (.iface 57 (.int .i64 7))).obj (by show ¬w.heap.size=w.heap.size+1;omega) z;refine⟨_,Pi _ _ _ _ _ _ _ rfl rfl (za j rfl) (za j rfl) (za A rfl),((m0.setCell (p:=w.heap.size) (.inr (AF _)) _).setCell (p:=U w.heap.size 1) (.inr (AF _)) _).setCell (p:=U (w.heap.size+1) 0) (.inr (Bv _)) _,rfl⟩
def jW(r:GH)(w W:World)(tmps:Array Value)(a eb b at_:Nat)(h fv j:Value)(h2:tmps.getD 2 undef=.pointer a)(h3:tmps.getD 3 undef=.pointer eb)(k:DW DY w W)
  (hp:W.heap[a]?=some (.cells #[h,fv] 56 (0,0))) (he:W.heap[eb]?=some (.cells #[j] 98 (0,0))) (ha:W.cell? b=some (.int .i64 at_)) (c:a≠eb) (d:w.heap.size<=a) (g:w.heap.size<=eb) (hr:r=.bad at_) :
  bodyPostD prog f74 (Ex w r) (Exit.panic [{ v:=.iface 230 (.agg #[]),recovered:=false }]) { tmps:=tmps,defers:=[{ target:=.fn (.func 126) #[.pointer b,.pointer a,.pointer eb],args:=#[] }] } W:=by
 subst hr;refine leaves_cons (f:=126) (args:=#[.pointer b,.pointer a,.pointer eb]) mv (by simp[go_sem]) ?_;refine(j6 b a eb at_ h fv j [] W ha hp he c).mono ?_;rintro e u' w'' ⟨rfl,rfl,c1,⟨fa,c2,c3,c4⟩,c5⟩;show Leaves prog f74 tmps (Ex w (.bad at_)) [] .returning w'';refine⟨_,Pi _ _ _ _ _ _ _ h2 h3 (za c1 rfl) (za c1 rfl) (za c2 rfl),?_,fa,rfl,c3,?_⟩
 .refine k.then c5 ?_;rintro i (rfl|rfl)
  .exact .inr d
  exact .inr g
 exact AJ k.size c4
def Xm(r:GH)(w W:World)(tmps:Array Value)(j eb num:Nat)(a b c:Value)(fv:Value)(d:List (Da×Value))(h2:tmps.getD 2 undef=.pointer j)(h3:tmps.getD 3 undef=.pointer eb)(hm:DW DY w W)
  (k:Hx W j num fv) (he:I0 W eb .nilIface) (hf:Gc W fv d) (h:∀g,fv.ownBlock=some g->w.heap.size<=g) (i:∀x∈d,∀g,x.2.ownBlock=some g->w.heap.size<=g) (hr:r=.ok num (d.map (·.1))) :
  bodyPostD prog f74 (Ex w r) Exit.ret { tmps:=tmps,defers:=[{ target:=.fn (.func 126) #[a,b,c],args:=#[] }] } W:=by
 subst hr;refine leaves_cons (f:=126) (args:=#[a,b,c]) mv (by simp[go_sem]) ?_;refine(jX a b c W).mono ?_;rintro e u' w'' ⟨rfl,rfl,rfl⟩;show Leaves prog f74 tmps (Ex w (.ok num (d.map (·.1)))) [] .returning w'';exact⟨_,Pi _ _ _ _ _ _ _ h2 h3 (za k rfl) (za k rfl) (za he rfl),hm,fv,d,rfl,hf,rfl,h,i⟩
variable{base:Nat}
def QU{n:Nat}(h:w.ownsRow base e sz v n xs):∀g,v.ownBlock=some g->g<w.heap.size:=by
 intro g hg;rcases h.2 with⟨rfl,rfl⟩|⟨g',cap,cur,rfl,_,h0,h1,h2,_⟩
 .cases hg
 simp[Value.ownBlock]at hg;subst hg;exact(AH.1 h0).1
variable{T:Nat}{cs:Array Value}{fz:Nat×Nat}
def Is{n:Nat}(h:w.ownsRow base e sz v n xs)(a:w.heap[b]?=some (.cells cs T fz))(hT:T≠e):¬v.ownBlock=some b:=by
 intro hb;rcases h.2 with⟨rfl,_⟩|⟨g,cap,cur,rfl,_,hg,_⟩
 .cases hb
 simp[Value.ownBlock]at hb;subst hb;rw[hg]at a;simp at a;exact hT a.2.1.symm
def VA{b1 b2 f b n n':Nat}{c:nJ}(h:w.ownsRow b1 e sz v n xs)(h':w.ownsRow b2 f b v' n' c)(d:f≠e)(hg:v.ownBlock=some g)(a:v'.ownBlock=some g):False:=by
 rcases h'.2 with⟨rfl,_⟩|⟨g',cap,cur,rfl,_,ho,_⟩
 .cases a
 simp[Value.ownBlock]at a;subst a;exact Is h ho d hg
variable{W:World}
def iO{n:Nat}(h:w.ownsRow base e sz v n xs)(hn:Ig W v):∀g,v.ownBlock=some g->W.heap.size<=g:=by
 intro g hg;rcases h.2 with⟨rfl,_⟩|⟨g',cap,cur,rfl,_⟩
 .cases hg
 simp[Value.ownBlock]at hg;subst hg;exact hn _ _ _ _ rfl
def JP(w:World)(ab at_:Nat):Prop:=w.heap[ab]?=some (.cells #[[at_]] 3 (0,0))
def P1(w wr:World)(v:Value)(bs:nG)(num:Nat)(R:GH):Prop :=
 ∃fuel pos fv rvs at_,EO wr (w.heap.size+1+1) v pos/\Hx wr w.heap.size num fv/\I0 wr (w.heap.size+1) .nilIface/\JP wr (w.heap.size+1+1+1) at_/\Gc wr fv rvs/\(∀g,fv.ownBlock=some g->w.heap.size<=g)/\(∀x∈rvs,∀g,x.2.ownBlock=some g->w.heap.size<=g) /\
  pos<=bs.length/\bs.length-pos<fuel/\rvs.length<=pos/\DW DY w wr/\Ij bs fuel num pos (rvs.map (·.1))=R
def RA(w:World):Nat->Prop:=λk=>k=w.heap.size+1+1\/k=w.heap.size+1+1+1
variable{S:Nat->Prop}{w':World}
def Gc.mod{fs:List (Da×Value)}(h:Gc w v fs)(m:DW S w w')(b:∀i,S i->w.heap.size<=i\/∃cs T fz,w.heap[i]?=some (.cells cs T fz)/\T≠65/\T≠214):Gc w' v fs:=by
 refine⟨m.owns h.1 (λg hg hx=>?_),λx hx=>(h.2 x hx).mod m (λg hg a=>?_)⟩
 .rcases b g hx with h1|⟨cs,T,fz,h1,h2,_⟩
  .have:=QU h.1 g hg;omega
  exact Is h.1 h1 h2 hg
 rcases b g a with h1|⟨cs,T,fz,h1,_,h2⟩
 .have:=QU (h.2 x hx).1 g hg;omega
 exact Is (h.2 x hx).1 h1 h2 hg
structure OW(w W:World)(v:Value):Prop where
 rd:EO W (w.heap.size+1+1) v 0
 pk:Hx W w.heap.size 0 (.slice none 0 0)
 er:I0 W (w.heap.size+1) .nilIface
 at_:JP W (w.heap.size+1+1+1) 0
 mod:DW DY w W
def OH(w:World)(a:Nat)(v:Value):OW w (((((w.alloc (.cells #[.int .u64 0,.slice none 0 0] 56)).alloc (.cells #[.nilIface] 98)).drewN a).alloc (.cells #[v,.int .i64 0] 229)).alloc (.cells #[.int .i64 0] 3)) v:=by
 have e1:(w.alloc (.cells #[.int .u64 0,.slice none 0 0] 56)).heap.size=w.heap.size+1:=mv;have e2:(((w.alloc (.cells #[.int .u64 0,.slice none 0 0] 56)).alloc (.cells #[.nilIface] 98)).drewN a).heap.size=w.heap.size+1+1:=mv;have e3:((((w.alloc (.cells #[.int .u64 0,.slice none 0 0] 56)).alloc (.cells #[.nilIface] 98)).drewN a).alloc (.cells #[v,.int .i64 0] 229)).heap.size=w.heap.size+1+1+1:=mv;refine⟨?_,?_,?_,?_,((((DW.refl _ _).alloc _).alloc _).drewN _).alloc _ |>.alloc _⟩
 .unfold EO;rw[<-e2];exact((DW.refl DY _).alloc _).obj (λx=>x) (heap_alloc_new _ _)
 .exact(((((DW.refl DY _).alloc _).drewN a).alloc _).alloc _).obj (λx=>x) (heap_alloc_new w _)
 .unfold I0;rw[<-e1];exact((((DW.refl DY _).drewN a).alloc _).alloc _).obj (λx=>x) (heap_alloc_new _ _)
 unfold JP;rw[<-e3];exact heap_alloc_new _ _
theorem dO(v:Value)(bs:nG)(n:Nat)(w:World)(hb:BR w v bs)(ht:GA w)(hn:bs.length=n+4)(hs:IF bs n=D3 (bs.take n))(bH:n<1099511627776):Calls prog 74 #[v] w (Ex w (Fn (bs.take n))):=by
 obtain⟨a,cap,rfl,h1,h2,h3⟩:=id hb;unfold maxLen at h2;rw[hn]at h1 hb ⊢;have u:BR w (.slice a bs.length cap) bs:=by rw[hn];exact hb
 obtain⟨g,o,rfl,k0⟩:=u.byte (i:=n) I;obtain⟨_,_,e,k1⟩:=u.byte (i:=n+1) I;cases e;obtain⟨_,_,e,k2⟩:=u.byte (i:=n+2) I;cases e;obtain⟨_,_,e,k3⟩:=u.byte (i:=n+3) I;cases e;have bk:=zm k0;have M:=u.pre (n:=n) I;have N:=λw' (m:DW DY w w')=>Qc (.slice (g,o) n cap) (bs.take n) w' (M.mod m (Dp.no _)) (ht.mod m (λx=>x))
 have bm:=MP (bs.take n);obtain⟨s,aN⟩:=nm (D3 (bs.take n));rw[aN]at N hs bm;have b0:=Js bs n;have b1:=Js bs (n+1);have b2:=Js bs (n+2);have b3:=Js bs (n+3);unfold IF at hs;obtain⟨x0,e0⟩:=nm (Dm bs n);obtain⟨x1,e1⟩:=nm (Dm bs (n+1));obtain⟨x2,e2⟩:=nm (Dm bs (n+2));obtain⟨x3,e3⟩:=nm (Dm bs (n+3));rw[e0]at k0 b0 hs;rw[e1]at k1 b1 hs;rw[e2]at k2 b2 hs;rw[e3]at k3 b3 hs;obtain⟨o1,o2,o3⟩:=Jz x0 x1 x2 x3 b0 b1 b2 b3;have z1:IntKind.i64.wrap (((n+4:Nat):Int)-4)=(n:Int):=by rw[(I:((n+4:Nat):Int)-4=n)];exact IntWalk.i64_in _ I
 have z2:IntKind.i64.wrap ((n:Int)+1)=(n:Int)+1:=IntWalk.i64_in _ I;have z3:IntKind.i64.wrap ((n:Int)+2)=(n:Int)+2:=IntWalk.i64_in _ I;have z4:IntKind.i64.wrap ((n:Int)+3)=(n:Int)+3:=IntWalk.i64_in _ I;have t2:((n:Int)+1).toNat=n+1:=I;have t3:((n:Int)+2).toNat=n+2:=I;have t4:((n:Int)+3).toNat=n+3:=I;have y0:IntKind.u32.wrap ((x0:Int)*16777216)=(x0:Int)*16777216:=by rw[JD];omega
 have y1:IntKind.u32.wrap ((x1:Int)*65536)=(x1:Int)*65536:=by rw[JD];omega
 have y2:IntKind.u32.wrap ((x2:Int)*256)=(x2:Int)*256:=by rw[JD];omega
 have hq:((x0:Int)*16777216+(x1:Int)*65536+(x2:Int)*256+(x3:Int) != (s:Int))=false:=by rw[bne_eq_false_iff_eq];omega
 have D:=zb M;clear h3 hb u ht M e0 e1 e2 e3 aN hs;have aO:(bs.take n).length=n:=my;obtain⟨bd,aP⟩:=nm (bs.take n);rw[aP]at D aO ⊢;clear aP hn;subst aO
 go_enter_defers func74,ntmps74
 go_wp2_with (go_at_call 125;refine(N _ (((DW.refl _ _).alloc _).alloc _)).mono ?_;rintro e w' ⟨rfl,rfl⟩);go_quiet (fail);have hD:=OH w nq (.slice (g,o) bd.length cap);obtain⟨W,hW⟩:=nm (((((w.alloc (.cells #[.int .u64 0,.slice none 0 0] 56)).alloc (.cells #[.nilIface] 98)).drewN nq).alloc (.cells #[.slice (g,o) bd.length cap,.int .i64 0] 229)).alloc (.cells #[.int .i64 0] 3));rw[hW]at hD;have HW:=zb hW;clear hW;have HD:=zb hD;have hgw:=bk;have O:∀b,w.heap.size<=b->Dp (EU b) (.slice (g,o) bd.length cap):=λb u g' o' n' c' e hx=>by
  cases e;have:g=b:=hx;omega
 have aQ:=zb O;have P:=Gr (w.heap.size+1+1) 0 (.slice (g,o) bd.length cap) bd W hD.rd (D.z.mod hD.mod (Dp.no _)) (O _ I) (AM _);clear hD O N k0 k1 k2 k3 o1 o2 o3 t2 t3 t4 y0 y1 y2 b0 b1 b2 b3;go_wp2_with fail;rw[HW.z];have hk:∀tmps r W' at_ num fv,tmps.getD 2 undef=.pointer w.heap.size->tmps.getD 3 undef=.pointer (w.heap.size+1,0)->DW DY w W'->Hx W' w.heap.size num fv->I0 W' (w.heap.size+1) .nilIface->JP W' (w.heap.size+1+1+1) at_->r=.bad at_ ->
   bodyPostD prog f74 (Ex w r) (Exit.panic [{ v:=.iface 230 (.agg #[]),recovered:=false }]) { tmps:=tmps,defers:=[{ target:=.fn (.func 126) #[.pointer (U (w.heap.size+1+1+1) 0),.pointer w.heap.size,.pointer (U (w.heap.size+1) 0)],args:=#[] }] } W' :=
  λtmps r W' at_ num fv e2 e3 hm hp t ha hr=>jW r w W' tmps _ _ _ at_ _ fv _ e2 e3 hm hp t (za ha rfl) I (AF _) I hr
 have Hk:=zb hk;clear hk HW;cases hr0:Dy bd 0 with
 | none =>
  rw[hr0]at P;have Q:AA (Fn bd=.bad 0):=by show _=_;unfold Fn;rw[hr0]
  clear hr0;refine P.mono ?_;rintro e w1 (⟨_,_,hx,_⟩|⟨_,t,hm⟩)
  .cases hx
  unfold EH at t;subst t;have al:=hm;exact Hk.z _ _ w1 0 0 _ rfl rfl (HD.z.mod.then al (λi hi=>.inr (by cases hi;omega))) (al.obj (by show ¬w.heap.size=w.heap.size+1+1;omega) HD.z.pk) (al.obj (by show ¬w.heap.size+1=w.heap.size+1+1;omega) HD.z.er) (al.obj (by show ¬w.heap.size+1+1+1=w.heap.size+1+1;omega) HD.z.at_) Q.z
 | some q0 =>
  obtain⟨num,p0⟩:=q0;rw[hr0]at P;obtain⟨u1,u2,u3⟩:=zY hr0;have ax:=zb hr0;clear hr0;refine P.mono ?_;rintro e w1 (⟨_,_,hx,rfl,aR,m1⟩|⟨hx,_⟩);rotate_left
  .cases hx
  simp only[Az,Au,BJ]at hx;obtain⟨rfl,rfl⟩:=hx;have l:Hx w1 w.heap.size 0 (.slice none 0 0):=m1.obj (by show ¬w.heap.size=w.heap.size+1+1;omega) HD.z.pk;have bn:w1.cell? w.heap.size=some (.int .u64 0):=za l rfl;have fp:w1.frozen? ⟨w.heap.size,0,none⟩=false:=zg l;obtain⟨X,hX⟩:=nm (w1.setCell w.heap.size (.int .u64 num));have mX:DW (λk=>k=w.heap.size) w1 X:=by rw[<-hX];exact(DW.refl (λk=>k=w.heap.size) w1).setCell (p:=w.heap.size) (.inl rfl) _
  have pX:Hx X w.heap.size num (.slice none 0 0):=by
   unfold Hx;rw[<-hX,zc l];simp
  have rX:=aR.mod mX (by show ¬w.heap.size+1+1=w.heap.size;omega);have eX:I0 X (w.heap.size+1) .nilIface:=mX.obj (by show ¬w.heap.size+1=w.heap.size;omega) (m1.obj (by show ¬w.heap.size+1=w.heap.size+1+1;omega) HD.z.er);have aX:JP X (w.heap.size+1+1+1) 0:=mX.obj (by show ¬w.heap.size+1+1+1=w.heap.size;omega) (m1.obj (by show ¬w.heap.size+1+1+1=w.heap.size+1+1;omega) HD.z.at_);have aS:=(HD.z.mod.then m1 (λi hi=>.inr (by cases hi;omega))).then mX (λi hi=>.inr (by cases hi;omega));have bo:=rX.c1;have ay:=zb pX;have aT:=zb rX;have az:=zb eX;have aA:=zb aX;have aB:=zb aS;clear l mX pX rX eX aX aS aR m1 P;by_cases y:p0=bd.length
  .have Q:AA (Fn bd=.bad 0):=by show _=_;unfold Fn;rw[ax.z];simp only[AQ y]
   have e1:(p0==bd.length)=true:=by simp[y]
   have bp:((p0:Int)==(bd.length:Int))=true:=by simp[y]
   clear y;go_wp2_with (go_at_call 128;refine(Jg _ _).mono ?_;rintro e w' ⟨t,rfl⟩;unfold EH at t;subst t);exact Hk.z _ _ X 0 num _ rfl rfl aB.z ay.z az.z aA.z Q.z
  have e1:(p0==bd.length)=false:=nF y;have bp:((p0:Int)==(bd.length:Int))=false:=by rw[AS];omega
  obtain⟨R,T⟩:=nm (Ij bd (bd.length+1) num p0 []);have Q:AA (Fn bd=R):=by show _=_;unfold Fn;rw[ax.z];simp only[AI y];exact T
  have aU:=Q;have HA:AA (P1 w X (.slice (g,o) bd.length cap) bd num R):=⟨bd.length+1,p0,.slice none 0 0,[],0,aT.z,ay.z,az.z,aA.z,⟨World.ownsRow_nil X 0 _ 10,λx hx=>by cases hx⟩,(λg hg=>by cases hg),(λx hx=>by cases hx),u2,I,AM _,aB.z,T⟩;clear T Q ax y ay aT az aA aB;go_wp2_with fail
  go_loopw [8,9,10,11,12] (λ_ _ _ _ _ wr=>P1 w wr (.slice (g,o) bd.length cap) bd num R) (λ_ _ _ _ _ wr=>bd.length-JW wr (w.heap.size+1+1))
  case atStart=>exact HA.z
  case round =>
   obtain⟨fuel,pos,fv,d,at_,V,l,Y,z,am,aC,aD,bI,hfu,hrl,hm,T⟩:=hrel;obtain⟨fuel,rfl⟩:∃f,fuel=f+1:=⟨fuel-1,I⟩;unfold Ij at T;have bo:=V.c1;have an:=zb V;have ao:=zb l;have aa:=zb Y;have aV:=zb z;have J:=zb am;have aW:=zb aC;have aY:=zb aD;have Hm:=zb hm;have hsz:=hm.size;have hws:=(AH.1 z).1;by_cases ab:pos<bd.length
   .rw[AQ ab]at T;have Q:=zb T;have ca:wr.cell? (w.heap.size+1+1+1,0)=some (.int .i64 at_):=za z rfl;have fzA:wr.frozen? ⟨w.heap.size+1+1+1,0,none⟩=false:=zg z;obtain⟨W1,aE⟩:=nm (wr.setCell (U (w.heap.size+1+1+1) 0) (.int .i64 pos));have m1:DW (RA w) wr W1:=by rw[<-aE];exact(DW.refl (RA w) wr).setCell (p:=U (w.heap.size+1+1+1) 0) (.inl (.inr rfl)) _
    have aZ:DW (EU (w.heap.size+1+1+1)) wr W1:=by rw[<-aE];exact(DW.refl (EU (w.heap.size+1+1+1)) wr).setCell (p:=U (w.heap.size+1+1+1) 0) (.inl rfl) _
    have a1:JP W1 (w.heap.size+1+1+1) pos:=by
     unfold JP;rw[<-aE,zc z];simp
    have r1:=V.mod aZ (by show ¬w.heap.size+1+1=w.heap.size+1+1+1;omega);have a0:=hm.then m1 (λi hi=>.inr (by rcases hi with rfl|rfl<;>omega));have aF:=Ou (w.heap.size+1+1) 1 pos 1 rfl (.slice (g,o) bd.length cap) bd W1 r1 (D.z.mod a0 (Dp.no _)) (aQ.z _ I) I;obtain⟨tb,aG⟩:∃c,bd[pos]?=some c:=⟨bd[pos],AK ab⟩;have a3:(bd.drop pos).take 1=[tb]:=by
     rw[List.take_one,List.head?_drop,aG];rfl
    rw[a3]at aF;have ap:=zb aG;have M1:=zb m1;have A1:=zb a1;have sW1:=m1.size;have cr2:=r1.c1;have ac:Gl bd pos=none->∀tmps W',tmps.getD 2 undef=.pointer w.heap.size->tmps.getD 3 undef=.pointer (w.heap.size+1,0)->DW (RA w) wr W'->DW (EU (w.heap.size+1+1)) W1 W' ->
      bodyPostD prog f74 (Ex w (Fn bd)) (Exit.panic [{ v:=.iface 230 (.agg #[]),recovered:=false }]) { tmps:=tmps,defers:=[{ target:=.fn (.func 126) #[.pointer (U (w.heap.size+1+1+1) 0),.pointer w.heap.size,.pointer (U (w.heap.size+1) 0)],args:=#[] }] } W':=by
     intro q tmps W' e2 e3 mA mB;refine Hk.z tmps (Fn bd) W' pos num fv e2 e3 (Hm.z.then mA (λi hi=>.inr (by rcases hi with rfl|rfl<;>omega))) (mA.obj (λhx=>by rcases hx with hx|hx<;>omega) ao.z) (mA.obj (λhx=>by rcases hx with hx|hx<;>omega) aa.z) (mB.obj (λhx=>by have:w.heap.size+1+1+1=w.heap.size+1+1:=hx;omega) A1.z) ?_;have:=Q.z;rw[q]at this;rw[aU.z];exact this.symm
    have A:=zb ac;clear T V l Y z am aC aD hm m1 aZ a1 r1 a0 aG a3 ac;go_wp2_with fail;refine aF.mono ?_;rintro e w2 ⟨sv,rfl,bq,a4,m2⟩;obtain⟨a2,c2,rfl,_,_,a5⟩:=bq;obtain⟨g2,o2,rfl,ct⟩:=a5 0 tb rfl;simp only[B7]at ct;have M2:AA (DW (RA w) wr w2):=M1.z.then m2 (λi hi=>.inl (.inl hi));have N2:=zb m2;have H2:=zb a4;have s2:=m2.size;clear a5 aF a4 m2;cases hkd:FZ tb with
    | none =>
     have q:AA (Gl bd pos=none):=by
      show _=_;unfold Gl;rw[ap.z];simp only[hkd,BV]
     have aq:=λw=>iW tb w hkd
     clear hkd;go_wp2_with (first|(go_at_call 130;refine(aq _).mono ?_;rintro e w' ⟨rfl,rfl⟩)|(go_at_call 128;refine(Jg _ _).mono ?_;rintro e w' ⟨t,rfl⟩;unfold EH at t;subst t));show bodyPostD prog f74 (Ex w (Fn bd)) (Exit.panic _) _ _;exact A.z q.z _ w2 (by rfl) (by rfl) M2.z N2.z
    | some k =>
     have aq:=λw=>iV tb k w hkd
     have ar:=zb hkd;have a6:((tb.toNat:Int)==9)=decide (tb=9):=by
      rw[Cz,Ci,Ah];constructor
      .intro h;exact Cx.1 (by show _=9;omega)
      rintro rfl;rfl
     obtain⟨b9,ad⟩:=nm (decide (tb=9));rw[ad]at a6;have aH:=zb ad;obtain⟨W3,ae⟩:=nm (w2.alloc (.cells #[[k],.int .i64 0,.int .u64 0,.int .u64 0,.int .u64 0,b9,.int .u64 0,.int .u64 0,.string ⟨#[]⟩,.slice none 0 0] 65));have m3:=AB ae;have f3:zj W3 w2.heap.size (f0 k b9) (.slice none 0 0):=by rw[<-ae];exact heap_alloc_new w2 _
     have av:=jZ tb k hkd b9 bd (.slice (g,o) bd.length cap) W3;have M3:=zb m3;have F3:=zb f3;have z3':=AC ae;have bt:=zb ae;clear hkd ad m3 f3 ae;go_wp2_with (go_at_call 130;refine(aq _).mono ?_;rintro e w' ⟨rfl,rfl⟩);rw[bt.z];refine av.mono ?_;rintro e w4 ⟨cb,wv,F,bJ,G,rfl,aI,gF,gG,m4,hcb,af,E⟩;have s3:=M3.z.size;have bu:=aI.2.1;have N4:AA (DW (EU (w.heap.size+1+1)) W1 w4):=(N2.z.then M3.z (λi hi=>hi.elim)).then m4 (λi hi=>hi.elim);have M4:AA (DW (RA w) wr w4):=(M2.z.then M3.z (λi hi=>hi.elim)).then m4 (λi hi=>hi.elim);have F4:=F3.z.mod m4 (λx=>x);have R4:=(H2.z.mod M3.z (λx=>x)).mod m4 (λx=>x);have a7:=Hm.z.then M4.z (λi hi=>.inr (by rcases hi with rfl|rfl<;>omega));have aw:=af (w.heap.size+1+1) w2.heap.size (pos+1) R4 (D.z.mod a7 (Dp.no _)) (λg' o' n' c' e hx=>by cases e;rcases hx with hx|hx<;>omega) I I F4 I;have bv:=zb aI;have bw:=zb E;have bz:=zb gG;have bA:∀args w,(callFunc F args).run prog w=.ok (.enter F args) w:=gF;have s4:=m4.size;clear av aI m4 af E gF gG F4 R4 a7 aq a6;go_wp2_with fail;refine aw.mono ?_;rintro e w5 (⟨f,rv,p,B,rfl,h5,au,aJ,ah,m5⟩|⟨B,t,m5⟩)
     .have M5:AA (DW (RA w) wr w5):=M4.z.then m5 (λi hi=>by
       rcases hi with hi|hi
       .exact .inl (.inl hi)
       exact .inr I)
      have N5:AA (DW (EU (w.heap.size+1+1)) W1 w5):=N4.z.then m5 (λi hi=>by
       rcases hi with hi|hi
       .exact .inl hi
       have:=N2.z.size;exact .inr I)
      obtain⟨d1,d2,d3,d4,d5⟩:=WO ar.z I B;have a8:=bv.z.mod m5 (by rintro(hi|hi)<;>omega);have K:=U1 w2.heap.size cb f rv wv _ G (zO f) w5 au a8 bz.z (λw' m hq=>bw.z w' w2.heap.size f rv (au.mod m (λx=>x)) (aJ.rr.mod m (Dp.no _)) d1 I I hq);rw[show(Ef f&&Ek f&&zO f)=zX f from rfl]at K;have bB:=zb au;have bC:=zb aJ;have bD:=zb ah;have H5:=zb h5;have s5:=m5.size;clear aw a8 au aJ ah h5 m5 bA bu d1;cases hsf:zX f with
      | false =>
       rw[hsf]at K;have q:AA (Gl bd pos=none):=by
        show _=_;unfold Gl;rw[ap.z];simp only[ar.z,AX,aH.z,B,hsf];rfl
       clear B hsf;go_wp2_with (first|(go_at_call 132;refine K.mono ?_;rintro e w6 ⟨rfl,m6⟩;have M6:=zb m6;clear m6)|(go_at_call 128;refine(Jg _ _).mono ?_;rintro e w' ⟨t,rfl⟩;unfold EH at t;subst t));show bodyPostD prog f74 (Ex w (Fn bd)) (Exit.panic _) _ _;exact A.z q.z _ w6 (by rfl) (by rfl) (M5.z.then M6.z (λi hi=>hi.elim)) (N5.z.then M6.z (λi hi=>hi.elim))
      | true =>
       rw[hsf]at K;have q:AA (Gl bd pos=some (f,p)):=by
        show _=_;unfold Gl;rw[ap.z];simp only[ar.z,AX,aH.z,B,hsf];rfl
       clear B hsf;go_wp2_with fail;refine K.mono ?_;rintro e w6 ⟨rfl,m6⟩;have M6:AA (DW (RA w) wr w6):=M5.z.then m6 (λi hi=>hi.elim);have a9:AA (DW DY w5 w6):=m6;have N6:AA (DW (EU (w.heap.size+1+1)) W1 w6):=N5.z.then m6 (λi hi=>hi.elim);have f6:=bB.z.mod m6 (λx=>x);have o6:=bC.z.mod m6 (λ_ _ x=>x);have p6:Hx w6 w.heap.size num fv:=M6.z.obj (λhx=>by rcases hx with hx|hx<;>omega) ao.z;have ai:=J.z.mod M6.z (λi hi=>.inr (by
        rcases hi with rfl|rfl
        .exact⟨_,_,_,an.z,mu,mu⟩
        exact⟨_,_,_,aV.z,mu,mu⟩))
       obtain⟨ra,rc,rfl,_⟩:=zk o6.1;obtain⟨k0,k1,k2,k3,k4,k5,k6,k7,k8,k9⟩:=f6.cells;obtain⟨v7,W7,ba,aj,bb,bc⟩:=Tn w6 fv d f ra f.rngs.length rc ai.1 I;obtain⟨C,fc,rfl,_⟩:=zk ai.1;have cp6:w6.cell? (w.heap.size,1)=some (.slice C d.length fc):=za p6 rfl;obtain⟨W8,be⟩:=nm (W7.setCell (U w.heap.size 1) v7);have m7:=(DW.refl _ _).grown bb (λk hk=>.inl hk);have p7:Hx W7 w.heap.size num (.slice C d.length fc):=m7.obj (λhx=>Is ai.1 p6 mu hx) p6;have cp7:W7.cell? (w.heap.size,1)=some (.slice C d.length fc):=za p7 rfl;have fp7:W7.frozen? ⟨w.heap.size,1,none⟩=false:=zg p7;obtain⟨va,vc,rfl,_⟩:=zk aj;have aK:=zb o6;have aL:=zb p7;have H:=zb ai;have L:=zb m7;have ak:=zb aj;have bf:=zb bc;have HF6:=zb f6;clear K m6 f6 o6 p6 ai p7 m7 aj bc bb;unfold zl at ba;go_wp2_with (at_builtin;refine zn rfl _ _ _ _ rfl _ _ _ rfl rfl ba ?_);have m8:DW (λk=>k=w.heap.size) W7 W8:=by rw[<-be];exact(DW.refl (λk=>k=w.heap.size) W7).setCell (p:=U w.heap.size 1) (.inl rfl) _
       have aM:P1 w W8 (.slice (g,o) bd.length cap) bd num R:=by
        have bh:=λi hi=>aW.z i hi
        have q1:¬(Value.slice C d.length fc).ownBlock=some (w.heap.size+1+1):=λhx=>Is J.z.1 an.z mu hx
        have q2:¬(Value.slice C d.length fc).ownBlock=some (w.heap.size+1):=λhx=>Is J.z.1 aa.z mu hx
        have q3:¬(Value.slice C d.length fc).ownBlock=some (w.heap.size+1+1+1):=λhx=>Is J.z.1 aV.z mu hx
        have bE:I0 w6 (w.heap.size+1) .nilIface:=M6.z.obj (λhx=>by rcases hx with hx|hx<;>omega) aa.z;have bF:JP w6 (w.heap.size+1+1+1) pos:=N6.z.obj (λhx=>by have:w.heap.size+1+1+1=w.heap.size+1+1:=hx;omega) A1.z;have GX:=H5.z.mod (DW.refl DY w5) (λx=>x) |>.mod (S:=DY) a9.z (λx=>x);refine⟨fuel,p,.slice va (d.length+1) vc,d++[(f,.slice ra f.rngs.length rc)],pos,?_,?_,?_,?_,⟨?_,?_⟩,?_,?_,d3,I,?_,?_,?_⟩
        .exact(GX.mod L.z q1).mod m8 (by show ¬w.heap.size+1+1=w.heap.size;omega)
        .unfold Hx;rw[<-be,zc aL.z];simp
        .exact m8.obj (by show ¬w.heap.size+1=w.heap.size;omega) (L.z.obj q2 bE)
        .exact m8.obj (by show ¬w.heap.size+1+1+1=w.heap.size;omega) (L.z.obj q3 bF)
        .have:=m8.owns ak.z (λi hi hx=>Is ak.z aL.z mu (by rw[hi,hx]));simpa using this
        .intro x hx;have bi:Fh w6 x.2 x.1.rngs/\∀i,x.2.ownBlock=some i->¬(Value.slice C d.length fc).ownBlock=some i:=by
          rcases Al.1 hx with h1|h1
          .refine⟨H.z.2 x h1,λi hi hj=>?_⟩;exact VA H.z.1 (H.z.2 x h1).1 mu hj hi
          simp only[Ag]at h1;subst h1;exact⟨aK.z,λi hi hj=>VA H.z.1 aK.z.1 mu hj hi⟩
         have h7:=bi.1.mod L.z bi.2;exact h7.mod m8 (λi hi hj=>Is h7.1 aL.z mu (by rw[hi];exact A8 some hj))
        .intro i hi;rcases bf.z i hi with h1|h1
         .exact bh i h1
         have:=M6.z.size;omega
        .intro x hx i hi;rcases Al.1 hx with h1|h1
         .exact aY.z x h1 i hi
         simp only[Ag]at h1;subst h1;have:=iO aK.z.1 bD.z i hi;omega
        .simp only[AG,AR,Ad];omega
        .exact((Hm.z.then M6.z (λi hi=>.inr (by rcases hi with rfl|rfl<;>omega))).then L.z (λi hi=>.inr (bh i hi))).then m8 (λi hi=>.inr (by cases hi;omega))
        have:=Q.z;rw[q.z]at this;simpa using this
       have HP:AA (JW W8 (w.heap.size+1+1)=p/\JW wr (w.heap.size+1+1)=pos):=by
        obtain⟨_,p',_,_,_,hr8,_,_,_,_,_,_,_,_,_,_,_⟩:=id aM;refine⟨?_,O6 an.z⟩;have GX:=H5.z.mod (S:=DY) a9.z (λx=>x);have q1:¬(Value.slice C d.length fc).ownBlock=some (w.heap.size+1+1):=λhx=>Is J.z.1 an.z mu hx
        exact O6 ((GX.mod L.z q1).mod m8 (by show ¬w.heap.size+1+1=w.heap.size;omega))
       have bj:=zb aM;have bG:=zb ab;clear aM m8 ab;go_roundw
       case rel=>exact bj.z
       case measure =>
        have:=bG.z;rw[HP.z.1,HP.z.2];omega
     have N5:AA (DW (EU (w.heap.size+1+1)) W1 w5):=N4.z.then m5 (λi hi=>by
      rcases hi with hi|hi
      .exact .inl hi
      have:=N2.z.size;exact .inr I)
     have M5:AA (DW (RA w) wr w5):=M4.z.then m5 (λi hi=>by
      rcases hi with hi|hi
      .exact .inl (.inl hi)
      exact .inr I)
     have q:AA (Gl bd pos=none):=by
      show _=_;unfold Gl;rw[ap.z];simp only[ar.z,AX,aH.z,B,BV]
     unfold EH at t;subst t;show bodyPostD prog f74 (Ex w (Fn bd)) (Exit.panic _) _ _;exact A.z q.z _ w5 (by rfl) (by rfl) M5.z N5.z
   rw[AI ab]at T;have Q:AA (Fn bd=.ok num (d.map (·.1))):=by show _=_;rw[aU.z];exact T.symm
   have bn:wr.cell? w.heap.size=some (.int .u64 num):=za l rfl;have ce0:wr.cell? (w.heap.size+1,0)=some .nilIface:=za Y rfl;obtain⟨C,fc,rfl,_⟩:=zk am.1;have cp1:wr.cell? (w.heap.size,1)=some (.slice C d.length fc):=za l rfl;have f0':∀j,wr.frozen? ⟨w.heap.size,j,none⟩=false:=λj=>zg l
   have f1':∀j,wr.frozen? ⟨w.heap.size+1,j,none⟩=false:=λj=>zg Y
   clear T V l Y z am aC aD hm;go_wp2_with fail;obtain⟨Z,hZ⟩:=nm (((wr.setCell w.heap.size (.int .u64 num)).setCell (U w.heap.size 1) (.slice C d.length fc)).setCell (U (w.heap.size+1) 0) .nilIface);rw[hZ];have mZ:DW (λk=>k=w.heap.size\/k=w.heap.size+1) wr Z:=by
    rw[<-hZ];exact(((DW.refl (λk=>k=w.heap.size\/k=w.heap.size+1) wr).setCell (p:=w.heap.size) (.inl (.inl rfl)) _).setCell (p:=U w.heap.size 1) (.inl (.inl rfl)) _).setCell (p:=U (w.heap.size+1) 0) (.inl (.inr rfl)) _
   have o1:=zc (i:=1) (v:=.slice C d.length fc) (zc (i:=0) (v:=.int .u64 num) ao.z);have pZ:Hx Z w.heap.size num (.slice C d.length fc):=by
    unfold Hx;rw[<-hZ];exact(((DW.refl (λk=>k=w.heap.size+1) _).setCell (p:=U (w.heap.size+1) 0) (.inl rfl) _).obj (by show ¬w.heap.size=w.heap.size+1;omega) o1).trans mv
   have eZ:I0 Z (w.heap.size+1) .nilIface:=by
    unfold I0;rw[<-hZ];have e1:=(((DW.refl (λk=>k=w.heap.size) wr).setCell (p:=w.heap.size) (.inl rfl) (.int .u64 num)).setCell (p:=U w.heap.size 1) (.inl rfl) (.slice C d.length fc)).obj (by show ¬w.heap.size+1=w.heap.size;omega) aa.z;exact(zc (i:=0) e1).trans mv
   refine Xm (Fn bd) w Z _ w.heap.size (w.heap.size+1) num _ _ _ (.slice C d.length fc) d (by rfl) (by rfl) (Hm.z.then mZ (λi hi=>.inr (by rcases hi with rfl|rfl<;>omega))) pZ eZ ?_ aW.z aY.z Q.z;exact J.z.mod mZ (λi hi=>.inr (by
    rcases hi with rfl|rfl
    .exact⟨_,_,_,ao.z,mu,mu⟩
    exact⟨_,_,_,aa.z,mu,mu⟩))
def Ph(v:Value)(bs:nG)(w:World)(hb:BR w v bs)(b:GA w)(hl:bs.length<1099511627776):Calls prog 74 #[v] w (Ex w (dec bs)):=by
 unfold dec;by_cases h4:bs.length<4
 .rw[AQ h4];exact iP v bs w hb h4
 rw[AI h4];obtain⟨n,c⟩:∃n,bs.length=n+4:=⟨bs.length-4,I⟩;rw[(I:bs.length-4=n)];by_cases a:IF bs n=D3 (bs.take n)
 .rw[AQ a];exact dO v bs n w hb b c a I
 rw[AI a];exact Xn v bs n w hb b c a
end
section
open Go.RowKit Go.Proofs.Tryz Go.Extern.Stop Go.Stop Go.Extern
def Vs(t:Addr)(w:World):(ReflectliteValue.unpack (.iface 164 (.pointer (some t)))).run prog w
 =.ok (.agg #[.pointer (some ⟨2,164,none⟩),.pointer w.heap.size,.int .u64 150]) (w.alloc (.cells #[.pointer (some t)] 164)):=mr
def TY (a : Addr) (w : World) : (ReflectliteValue.methodAny (ReflectliteValue.valueError "reflectlite.Value.Type" 0) (λt _ _ _ => ReflectliteType.toType t) #[.agg #[.pointer (some ⟨2, 164, none⟩), .pointer (some a), .int .u64 150]]).run prog w
 =.ok (.iface 286 (.agg #[.pointer (some ⟨2,164,none⟩)])) w:=mr
def Tc(w:World):((ReflectliteType.abiMethod λt=>(λa:Nat=>Value.int IntKind.u8 (a:Int)) <$> Rtype.kind t) #[.pointer (some ⟨2,164,none⟩)]).run prog w=.ok (.int .u8 22) w:=mr
def Tm(w:World):((ReflectliteType.abiMethod λt=>(λa:Nat=>Value.int IntKind.u8 (a:Int)) <$> Rtype.kind t) #[.pointer (some ⟨2,162,none⟩)]).run prog w=.ok (.int .u8 22) w:=mr
def UI(a:Addr)(w:World):(ReflectliteValue.parts (.agg #[.pointer (some ⟨2,164,none⟩),.pointer (some a),.int .u64 150])).run prog w=.ok (some (164,a,150)) w:=mr
def Tb(w:World):(ReflectliteType.method ReflectliteType.elem #[.agg #[.pointer (some ⟨2,164,none⟩)]]).run prog w=.ok (.iface 286 (.agg #[.pointer (some ⟨2,162,none⟩)])) w:=mr
def Ta (w : World) : (ReflectliteType.relation "Implements" ReflectliteType.implements_ #[.agg #[.pointer (some ⟨2, 162, none⟩)], .iface 286 (.agg #[.pointer (some ⟨2, 98, none⟩)])]).run prog w=.ok (.bool true) w := mr
def im(w:World):(Rtype.elem? 164).run prog w=.ok (some 162) w:=mr
def jV(t:Addr)(w:World):(ReflectliteValue.unpack (.iface 168 (.pointer (some t)))).run prog w
 =.ok (.agg #[.pointer (some ⟨2,168,none⟩),.pointer w.heap.size,.int .u64 150]) (w.alloc (.cells #[.pointer (some t)] 168)):=mr
def Xl (a : Addr) (w : World) : (ReflectliteValue.methodAny (ReflectliteValue.valueError "reflectlite.Value.Type" 0) (λt _ _ _ => ReflectliteType.toType t) #[.agg #[.pointer (some ⟨2, 168, none⟩), .pointer (some a), .int .u64 150]]).run prog w
 =.ok (.iface 286 (.agg #[.pointer (some ⟨2,168,none⟩)])) w:=mr
def YC(w:World):((ReflectliteType.abiMethod λt=>(λa:Nat=>Value.int IntKind.u8 (a:Int)) <$> Rtype.kind t) #[.pointer (some ⟨2,168,none⟩)]).run prog w=.ok (.int .u8 22) w:=mr
def eP(w:World):((ReflectliteType.abiMethod λt=>(λa:Nat=>Value.int IntKind.u8 (a:Int)) <$> Rtype.kind t) #[.pointer (some ⟨2,57,none⟩)]).run prog w=.ok (.int .u8 2) w:=mr
def UH(a:Addr)(w:World):(ReflectliteValue.parts (.agg #[.pointer (some ⟨2,168,none⟩),.pointer (some a),.int .u64 150])).run prog w=.ok (some (168,a,150)) w:=mr
def YB(w:World):(ReflectliteType.method ReflectliteType.elem #[.agg #[.pointer (some ⟨2,168,none⟩)]]).run prog w=.ok (.iface 286 (.agg #[.pointer (some ⟨2,57,none⟩)])) w:=mr
def YA (w : World) : (ReflectliteType.relation "Implements" ReflectliteType.implements_ #[.agg #[.pointer (some ⟨2, 57, none⟩)], .iface 286 (.agg #[.pointer (some ⟨2, 98, none⟩)])]).run prog w=.ok (.bool true) w := mr
def il(w:World):(Rtype.elem? 168).run prog w=.ok (some 57) w:=mr
def QN (h : Value) (w : World) : (Go.method 451 286 (.agg #[h]) "Kind").run prog w=.ok (234, h) w := mr
def QM (h : Value) (w : World) : (Go.method 451 286 (.agg #[h]) "Elem").run prog w=.ok (252, .agg #[h]) w := mr
def QL (h : Value) (w : World) : (Go.method 451 286 (.agg #[h]) "Implements").run prog w=.ok (253, .agg #[h]) w := mr
def P6 (h : Value) (w : World) : (Go.method 451 286 (.agg #[h]) "AssignableTo").run prog w=.ok (250, .agg #[h]) w := mr
def J2 (h : Value) (w : World) : (Go.method 451 286 (.agg #[h]) "Comparable").run prog w=.ok (251, .agg #[h]) w := mr
def eO(v:Value)(w:World):(ReflectliteType.typeOf #[.iface 162 v]).run prog w=.ok (.iface 286 (.agg #[.pointer (some ⟨2,162,none⟩)])) w:=mr
def O5(v:Value)(w:World):(ReflectliteType.typeOf #[.iface 57 v]).run prog w=.ok (.iface 286 (.agg #[.pointer (some ⟨2,57,none⟩)])) w:=mr
def Lj (w : World) : (ReflectliteType.relation "AssignableTo" ReflectliteType.assignableTo #[.agg #[.pointer (some ⟨2, 162, none⟩)], .iface 286 (.agg #[.pointer (some ⟨2, 162, none⟩)])]).run prog w=.ok (.bool true) w := mr
def Lk (w : World) : (ReflectliteType.relation "AssignableTo" ReflectliteType.assignableTo #[.agg #[.pointer (some ⟨2, 57, none⟩)], .iface 286 (.agg #[.pointer (some ⟨2, 162, none⟩)])]).run prog w=.ok (.bool false) w := mr
def Ll (w : World) : (ReflectliteType.relation "AssignableTo" ReflectliteType.assignableTo #[.agg #[.pointer (some ⟨2, 57, none⟩)], .iface 286 (.agg #[.pointer (some ⟨2, 57, none⟩)])]).run prog w=.ok (.bool true) w := mr
def ij(e:Addr)(w:World):(ReflectliteValue.unpack (.iface 162 (.pointer (some e)))).run prog w
 =.ok (.agg #[.pointer (some ⟨2,162,none⟩),.pointer w.heap.size,.int .u64 150]) (w.alloc (.cells #[.pointer (some e)] 162)):=mr
def ig(n:Int)(w:World):(ReflectliteValue.unpack (.iface 57 (.int .i64 n))).run prog w
 =.ok (.agg #[.pointer (some ⟨2,57,none⟩),.pointer w.heap.size,.int .u64 130]) (w.alloc (.cells #[[n]] 57)):=mr
def Ps(z:Sem Value)(f:TypeId->Addr->Nat->Nat->Sem Value)(v:Value):ReflectliteValue.method z f #[v]=(do match <-ReflectliteValue.parts v with|none=>z|some (t,a,fl)=>f t a fl (fl % 32)):=rfl
theorem Wp(v x:Value):ReflectliteValue.set #[v,x]=(do
  let (some (dst,a,fl),some (src,b,_)):=(<-ReflectliteValue.parts v,<-ReflectliteValue.parts x)
   | unsupported (.noEntry "extern/(internal/reflectlite.Value).Set.zeroValue")
  if fl / ReflectliteValue.flagAddr % 2 == 0 then unsupported (.noEntry "extern/(internal/reflectlite.Value).Set.unaddressable")
  let val <-loadVar src b
  if <-Rtype.directlyAssignable dst src then storeVar dst a val
  else if <-Rtype.implements dst src then
   if (<-Rtype.kind src)==20 then
    match val with
    | .nilIface => unsupported (.noEntry "extern/reflectlite: a nil value of one interface type handed on as a value of another")
    | _=>storeVar dst a val
   else storeVar dst a (.iface src val)
  else panicString ("reflectlite.Set: value of type " ++ (<- Rtype.spelt src) ++ " is not assignable to type " ++ (<- Rtype.spelt dst))
  pure (.tuple #[])):=rfl
def UG(a p:Addr)(W:World)(ha:W.cell? a=some (.pointer (some p))):(ReflectliteValue.method (ReflectliteValue.valueError "reflectlite.Value.IsNil" 0) ReflectliteValue.isNil #[.agg #[.pointer (some ⟨2, 164, none⟩), .pointer (some a), .int .u64 150]]).run prog W=.ok (.bool false) W := by
 rw[Ps];simp only[Sem.run_bind,UI,Result.andThen];simp[ReflectliteValue.isNil,loadVar,isAgg,underlying,underlying164,ha,Result.andThen]
def Nl(p:Addr)(w:World):(ReflectliteValue.mk 162 p ReflectliteValue.flagAddr).run prog w=.ok (.agg #[.pointer (some ⟨2,162,none⟩),.pointer (some p),.int .u64 406]) w:=mr
def eM(a p:Addr)(W:World)(ha:W.cell? a=some (.pointer (some p))):(ReflectliteValue.method (ReflectliteValue.valueError "reflectlite.Value.Elem" 0) ReflectliteValue.elem #[.agg #[.pointer (some ⟨2, 164, none⟩), .pointer (some a), .int .u64 150]]).run prog W
  =.ok (.agg #[.pointer (some ⟨2,162,none⟩),.pointer (some p),.int .u64 406]) W:=by
 rw[Ps];simp only[Sem.run_bind,UI,Result.andThen];simp[ReflectliteValue.elem,loadVar,isAgg,underlying,underlying164,ha,Result.andThen,im,Nl]
def gH(a:Addr)(w:World):(ReflectliteValue.parts (.agg #[.pointer (some ⟨2,162,none⟩),.pointer (some a),.int .u64 406])).run prog w=.ok (some (162,a,406)) w:=mr
def gE(a:Addr)(w:World):(ReflectliteValue.parts (.agg #[.pointer (some ⟨2,162,none⟩),.pointer (some a),.int .u64 150])).run prog w=.ok (some (162,a,150)) w:=mr
def gD(w:World):(Rtype.directlyAssignable 162 162).run prog w=.ok true w:=mr
def LE(a b:Addr)(e:Addr)(old:Value)(W:World)(hb:W.cell? b=some (.pointer (some e)))(ht:W.cell? a=some old)(hf:W.frozen? a=false):(ReflectliteValue.set #[.agg #[.pointer (some ⟨2,162,none⟩),.pointer (some a),.int .u64 406],.agg #[.pointer (some ⟨2,162,none⟩),.pointer (some b),.int .u64 150]]).run prog W
  =.ok (.tuple #[]) (W.setCell a (.pointer (some e))):=by
 rw[Wp];simp only[Sem.run_bind,gH,gE,Result.andThen];simp[ReflectliteValue.flagAddr,loadVar,isAgg,underlying,underlying162,hb,Result.andThen,gD,storeVar,Value.cells,storeCells,Addr.add];rw[run_store prog W a _ _ (by rfl)];simp[ht,hf]
def eK(a p:Addr)(W:World)(ha:W.cell? a=some (.pointer (some p))):(ReflectliteValue.method (ReflectliteValue.valueError "reflectlite.Value.IsNil" 0) ReflectliteValue.isNil #[.agg #[.pointer (some ⟨2, 168, none⟩), .pointer (some a), .int .u64 150]]).run prog W=.ok (.bool false) W := by
 rw[Ps];simp only[Sem.run_bind,UH,Result.andThen];simp[ReflectliteValue.isNil,loadVar,isAgg,underlying,underlying168,ha,Result.andThen]
def Nm(p:Addr)(w:World):(ReflectliteValue.mk 57 p ReflectliteValue.flagAddr).run prog w=.ok (.agg #[.pointer (some ⟨2,57,none⟩),.pointer (some p),.int .u64 386]) w:=mr
def eJ(a p:Addr)(W:World)(ha:W.cell? a=some (.pointer (some p))):(ReflectliteValue.method (ReflectliteValue.valueError "reflectlite.Value.Elem" 0) ReflectliteValue.elem #[.agg #[.pointer (some ⟨2, 168, none⟩), .pointer (some a), .int .u64 150]]).run prog W
  =.ok (.agg #[.pointer (some ⟨2,57,none⟩),.pointer (some p),.int .u64 386]) W:=by
 rw[Ps];simp only[Sem.run_bind,UH,Result.andThen];simp[ReflectliteValue.elem,loadVar,isAgg,underlying,underlying168,ha,Result.andThen,il,Nm]
def gC(a:Addr)(w:World):(ReflectliteValue.parts (.agg #[.pointer (some ⟨2,57,none⟩),.pointer (some a),.int .u64 386])).run prog w=.ok (some (57,a,386)) w:=mr
def gB(a:Addr)(w:World):(ReflectliteValue.parts (.agg #[.pointer (some ⟨2,57,none⟩),.pointer (some a),.int .u64 130])).run prog w=.ok (some (57,a,130)) w:=mr
def gA(w:World):(Rtype.directlyAssignable 57 57).run prog w=.ok true w:=mr
def LF(a b:Addr)(e:Int)(old:Value)(W:World)(hb:W.cell? b=some (.int .i64 e))(ht:W.cell? a=some old)(hf:W.frozen? a=false):(ReflectliteValue.set #[.agg #[.pointer (some ⟨2,57,none⟩),.pointer (some a),.int .u64 386],.agg #[.pointer (some ⟨2,57,none⟩),.pointer (some b),.int .u64 130]]).run prog W
  =.ok (.tuple #[]) (W.setCell a (.int .i64 e)):=by
 rw[Wp];simp only[Sem.run_bind,gC,gB,Result.andThen];simp[ReflectliteValue.flagAddr,loadVar,isAgg,underlying,underlying57,hb,Result.andThen,gA,storeVar,Value.cells,storeCells,Addr.add];rw[run_store prog W a _ _ (by rfl)];simp[ht,hf]
def FJ(w:World):Prop:=w.cell? ⟨0,0,none⟩=some (.iface 286 (.agg #[.pointer (some ⟨2,98,none⟩)]))
def ON(e:Addr)(t:Addr)(old:Value)(w:World)(hg:FJ w)(a:w.cell? t=some old)(c:w.frozen? t=false):Calls prog 75 #[.iface 162 (.pointer (some e)),.iface 164 (.pointer (some t))] w λev w'=>ev=.returned (.bool true)/\w'=((((w.alloc (.cells #[.pointer (some t)] 164)).alloc (.cells #[.pointer (some ⟨2,164,none⟩),(w.heap.size,0),.int .u64 150] 247)).alloc (.cells #[.pointer (some ⟨2,164,none⟩),(w.heap.size,0),.int .u64 150] 247)).alloc (.cells #[.pointer (some e)] 162)).setCell t (.pointer (some e)):=by
 unfold FJ at hg;have h6 := @run_callFunc_extern prog 133 _ (λargs=>ReflectliteValue.unpack (args.getD 0 (.tuple #[]))) func133 mr mr mr mr;have h7 := @run_callFunc_extern prog 134 _ (ReflectliteValue.methodAny (ReflectliteValue.valueError "reflectlite.Value.Type" 0) (λt _ _ _ => ReflectliteType.toType t)) func134 mr mr mr mr;have h8 := @run_callFunc_extern prog 135 _ (ReflectliteValue.method (ReflectliteValue.valueError "reflectlite.Value.IsNil" 0) ReflectliteValue.isNil) func135 mr mr mr mr;have h27 := @run_callFunc_extern prog 234 _ (ReflectliteType.abiMethod λt=>do pure (.int .u8 (<-Rtype.kind t))) func234 mr mr mr mr;have h37 := @run_callFunc_extern prog 252 _ (ReflectliteType.method ReflectliteType.elem) func252 mr mr mr mr;have h38 := @run_callFunc_extern prog 253 _ (ReflectliteType.relation "Implements" ReflectliteType.implements_) func253 mr mr mr mr;have h10 := @run_callFunc_extern prog 137 _ ReflectliteType.typeOf func137 mr mr mr mr;have h35 := @run_callFunc_extern prog 250 _ (ReflectliteType.relation "AssignableTo" ReflectliteType.assignableTo) func250 mr mr mr mr;have h11 := @run_callFunc_extern prog 191 _ (ReflectliteValue.method (ReflectliteValue.valueError "reflectlite.Value.Elem" 0) ReflectliteValue.elem) func191 mr mr mr mr;have h12 := @run_callFunc_extern prog 192 _ ReflectliteValue.set func192 mr mr mr mr;have tO:=eO;have mA:=P6;have a25:=Lj;have v25:=ij;have f6:=Vs;have f7:=TY;have mK:=QN;have mE:=QM;have mI:=QL;have k27:=Tc;have k25:=Tm;have e27:=Tb;have i25:=Ta;have n8:=UG ⟨w.heap.size,0,none⟩ t ((w.alloc (.cells #[.pointer (some t)] 164)).alloc (.cells #[.pointer (some ⟨2,164,none⟩),(w.heap.size,0),.int .u64 150] 247)) mv;have d:0<w.heap.size:=by
  rcases C8 w.heap.size with h0|h
  .simp[World.cell?,h0]at hg
  .exact h
 have hg2:((w.alloc (.cells #[.pointer (some t)] 164)).alloc (.cells #[.pointer (some ⟨2,164,none⟩),(w.heap.size,0),.int .u64 150] 247)).cell? ⟨0,0,none⟩=some (.iface 286 (.agg #[.pointer (some ⟨2,98,none⟩)])):=by
  rw[World.cell?_alloc_lt _ _ ⟨0,0,none⟩ mv,World.cell?_alloc_lt _ _ ⟨0,0,none⟩ d];exact hg
 have b:t.block<w.heap.size:=by
  rcases Nat.lt_or_ge t.block w.heap.size with h|h
  .exact h
  .simp[World.cell?,CW h]at a
 have el:=eM ⟨w.heap.size,0,none⟩ t (((w.alloc (.cells #[.pointer (some t)] 164)).alloc (.cells #[.pointer (some ⟨2,164,none⟩),(w.heap.size,0),.int .u64 150] 247)).alloc (.cells #[.pointer (some ⟨2,164,none⟩),(w.heap.size,0),.int .u64 150] 247)) (by rw[World.cell?_alloc_lt _ _ ⟨w.heap.size,0,none⟩ my];simp);have st:=LE t ⟨w.heap.size+1+1+1,0,none⟩ e old ((((w.alloc (.cells #[.pointer (some t)] 164)).alloc (.cells #[.pointer (some ⟨2,164,none⟩),(w.heap.size,0),.int .u64 150] 247)).alloc (.cells #[.pointer (some ⟨2,164,none⟩),(w.heap.size,0),.int .u64 150] 247)).alloc (.cells #[.pointer (some e)] 162))
  (by rw[World.cell?_alloc_at _ _ _ _ mv];rfl)
  (by rw[World.cell?_alloc_lt _ _ t my,World.cell?_alloc_lt _ _ t my,World.cell?_alloc_lt _ _ t my,World.cell?_alloc_lt _ _ t b];exact a)
  (by rw[World.frozen?_alloc_old _ _ t my,World.frozen?_alloc_old _ _ t my,World.frozen?_alloc_old _ _ t my,World.frozen?_alloc_old _ _ t (Nat.ne_of_lt b)];exact c)
 go_enter func75,ntmps75;go_wp2;refine wp_loop_rounds 1 ?_;rw[rounds_succ];go_wp2;go_ret;exact⟨rfl,rfl⟩
def OP(e:Int)(t:Addr)(old:Value)(w:World)(hg:FJ w)(a:w.cell? t=some old)(c:w.frozen? t=false):Calls prog 75 #[.iface 57 (.int .i64 e),.iface 168 (.pointer (some t))] w λev w'=>ev=.returned (.bool true)/\w'=((((w.alloc (.cells #[.pointer (some t)] 168)).alloc (.cells #[.pointer (some ⟨2,168,none⟩),(w.heap.size,0),.int .u64 150] 247)).alloc (.cells #[.pointer (some ⟨2,168,none⟩),(w.heap.size,0),.int .u64 150] 247)).alloc (.cells #[[e]] 57)).setCell t (.int .i64 e):=by
 unfold FJ at hg;have h6 := @run_callFunc_extern prog 133 _ (λargs=>ReflectliteValue.unpack (args.getD 0 (.tuple #[]))) func133 mr mr mr mr;have h7 := @run_callFunc_extern prog 134 _ (ReflectliteValue.methodAny (ReflectliteValue.valueError "reflectlite.Value.Type" 0) (λt _ _ _ => ReflectliteType.toType t)) func134 mr mr mr mr;have h8 := @run_callFunc_extern prog 135 _ (ReflectliteValue.method (ReflectliteValue.valueError "reflectlite.Value.IsNil" 0) ReflectliteValue.isNil) func135 mr mr mr mr;have h27 := @run_callFunc_extern prog 234 _ (ReflectliteType.abiMethod λt=>do pure (.int .u8 (<-Rtype.kind t))) func234 mr mr mr mr;have h37 := @run_callFunc_extern prog 252 _ (ReflectliteType.method ReflectliteType.elem) func252 mr mr mr mr;have h38 := @run_callFunc_extern prog 253 _ (ReflectliteType.relation "Implements" ReflectliteType.implements_) func253 mr mr mr mr;have h10 := @run_callFunc_extern prog 137 _ ReflectliteType.typeOf func137 mr mr mr mr;have h35 := @run_callFunc_extern prog 250 _ (ReflectliteType.relation "AssignableTo" ReflectliteType.assignableTo) func250 mr mr mr mr;have h11 := @run_callFunc_extern prog 191 _ (ReflectliteValue.method (ReflectliteValue.valueError "reflectlite.Value.Elem" 0) ReflectliteValue.elem) func191 mr mr mr mr;have h12 := @run_callFunc_extern prog 192 _ ReflectliteValue.set func192 mr mr mr mr;have tO:=O5;have mA:=P6;have a25:=Ll;have v25:=ig;have f6:=jV;have f7:=Xl;have mK:=QN;have mE:=QM;have mI:=QL;have k27:=YC;have k25:=eP;have e27:=YB;have i25:=YA;have n8:=eK ⟨w.heap.size,0,none⟩ t ((w.alloc (.cells #[.pointer (some t)] 168)).alloc (.cells #[.pointer (some ⟨2,168,none⟩),(w.heap.size,0),.int .u64 150] 247)) mv;have d:0<w.heap.size:=by
  rcases C8 w.heap.size with h0|h
  .simp[World.cell?,h0]at hg
  .exact h
 have hg2:((w.alloc (.cells #[.pointer (some t)] 168)).alloc (.cells #[.pointer (some ⟨2,168,none⟩),(w.heap.size,0),.int .u64 150] 247)).cell? ⟨0,0,none⟩=some (.iface 286 (.agg #[.pointer (some ⟨2,98,none⟩)])):=by
  rw[World.cell?_alloc_lt _ _ ⟨0,0,none⟩ mv,World.cell?_alloc_lt _ _ ⟨0,0,none⟩ d];exact hg
 have b:t.block<w.heap.size:=by
  rcases Nat.lt_or_ge t.block w.heap.size with h|h
  .exact h
  .simp[World.cell?,CW h]at a
 have el:=eJ ⟨w.heap.size,0,none⟩ t (((w.alloc (.cells #[.pointer (some t)] 168)).alloc (.cells #[.pointer (some ⟨2,168,none⟩),(w.heap.size,0),.int .u64 150] 247)).alloc (.cells #[.pointer (some ⟨2,168,none⟩),(w.heap.size,0),.int .u64 150] 247)) (by rw[World.cell?_alloc_lt _ _ ⟨w.heap.size,0,none⟩ my];simp);have st:=LF t ⟨w.heap.size+1+1+1,0,none⟩ e old ((((w.alloc (.cells #[.pointer (some t)] 168)).alloc (.cells #[.pointer (some ⟨2,168,none⟩),(w.heap.size,0),.int .u64 150] 247)).alloc (.cells #[.pointer (some ⟨2,168,none⟩),(w.heap.size,0),.int .u64 150] 247)).alloc (.cells #[[e]] 57))
  (by rw[World.cell?_alloc_at _ _ _ _ mv];rfl)
  (by rw[World.cell?_alloc_lt _ _ t my,World.cell?_alloc_lt _ _ t my,World.cell?_alloc_lt _ _ t my,World.cell?_alloc_lt _ _ t b];exact a)
  (by rw[World.frozen?_alloc_old _ _ t my,World.frozen?_alloc_old _ _ t my,World.frozen?_alloc_old _ _ t my,World.frozen?_alloc_old _ _ t (Nat.ne_of_lt b)];exact c)
 go_enter func75,ntmps75;go_wp2;refine wp_loop_rounds 1 ?_;rw[rounds_succ];go_wp2;go_ret;exact⟨rfl,rfl⟩
def X9(n:Int)(w:World):(Instr.typeAssert (.iface 57 (.int .i64 n)) 98 290 true).run prog w=.ok (.tuple #[.nilIface,false]) w:=run_typeAssert_lacksB underlying290 mr mr _ _ w
def X8(n:Int)(w:World):(Instr.typeAssert (.iface 57 (.int .i64 n)) 98 293 true).run prog w=.ok (.tuple #[.nilIface,false]) w:=run_typeAssert_lacksB underlying293 mr mr _ _ w
def X7(n:Int)(w:World):(Instr.typeAssert (.iface 57 (.int .i64 n)) 98 294 true).run prog w=.ok (.tuple #[.nilIface,false]) w:=run_typeAssert_lacksB underlying294 mr mr _ _ w
def X6(p:Addr)(w:World):(Instr.typeAssert (.iface 162 (.pointer (some p))) 98 297 true).run prog w=.ok (.tuple #[.nilIface,false]) w:=run_typeAssert_lacksB underlying297 mr mr _ _ w
def X2(p:Addr)(w:World):(Instr.typeAssert (.iface 162 (.pointer (some p))) 98 293 true).run prog w=.ok (.tuple #[.iface 162 (.pointer (some p)),true]) w:=run_typeAssert_hasB underlying293 mr _ _ w
def eI (p : Addr) (w : World) : (Go.method 451 162 (.pointer (some p)) "Unwrap").run prog w=.ok (240, .pointer (some p)) w := mr
def OG(p:Addr)(n:Int)(w:World):(binOp .eql 98 (.iface 162 (.pointer (some p))) (.iface 57 (.int .i64 n))).run prog w=.ok (.bool false) w:=run_eql_iface_types _ _ _ _ underlying98 mu w
def J5(n:Int)(w:World):(binOp .eql 98 (.iface 57 (.int .i64 n)) (.iface 57 (.int .i64 n))).run prog w=.ok (.bool true) w:=by
 have a:(prog.info? 57).map (·.comparable)=some true:=mr;obtain⟨i,hi,hc⟩:=CB.1 a;have h:∀d,(Op.equalIn (d+2) 98 (.iface 57 (.int .i64 n)) (.iface 57 (.int .i64 n))).run prog w=.ok true w:=λd=>by simp[Op.equalIn,run_underlying underlying98,run_underlying underlying57,typeInfo,hi,hc]
 simp only[binOp];simp[Op.equal,Op.maxDepth,h 9998]
def Sm (w : World) : (ReflectliteType.method (λt => do Rtype.noPackHeld "Comparable" t; (λa => Value.bool a.comparable) <$> typeInfo t) #[.agg #[.pointer (some ⟨2, 57, none⟩)]]).run prog w=.ok (.bool true) w := mr
def OO(n:Int)(t:Addr)(old:Value)(w:World)(hg:FJ w)(ht0:w.cell? t=some old):Calls prog 75 #[.iface 57 (.int .i64 n),.iface 164 (.pointer (some t))] w λev w'=>ev=.returned (.bool false)/\w'=(((w.alloc (.cells #[.pointer (some t)] 164)).alloc (.cells #[.pointer (some ⟨2,164,none⟩),(w.heap.size,0),.int .u64 150] 247)).alloc (.cells #[.pointer (some ⟨2,164,none⟩),(w.heap.size,0),.int .u64 150] 247)):=by
 unfold FJ at hg;have h6 := @run_callFunc_extern prog 133 _ (λargs=>ReflectliteValue.unpack (args.getD 0 (.tuple #[]))) func133 mr mr mr mr;have h7 := @run_callFunc_extern prog 134 _ (ReflectliteValue.methodAny (ReflectliteValue.valueError "reflectlite.Value.Type" 0) (λt _ _ _ => ReflectliteType.toType t)) func134 mr mr mr mr;have h8 := @run_callFunc_extern prog 135 _ (ReflectliteValue.method (ReflectliteValue.valueError "reflectlite.Value.IsNil" 0) ReflectliteValue.isNil) func135 mr mr mr mr;have h27 := @run_callFunc_extern prog 234 _ (ReflectliteType.abiMethod λt=>do pure (.int .u8 (<-Rtype.kind t))) func234 mr mr mr mr;have h37 := @run_callFunc_extern prog 252 _ (ReflectliteType.method ReflectliteType.elem) func252 mr mr mr mr;have h38 := @run_callFunc_extern prog 253 _ (ReflectliteType.relation "Implements" ReflectliteType.implements_) func253 mr mr mr mr;have h10 := @run_callFunc_extern prog 137 _ ReflectliteType.typeOf func137 mr mr mr mr;have h35 := @run_callFunc_extern prog 250 _ (ReflectliteType.relation "AssignableTo" ReflectliteType.assignableTo) func250 mr mr mr mr;have h11 := @run_callFunc_extern prog 191 _ (ReflectliteValue.method (ReflectliteValue.valueError "reflectlite.Value.Elem" 0) ReflectliteValue.elem) func191 mr mr mr mr;have h12 := @run_callFunc_extern prog 192 _ ReflectliteValue.set func192 mr mr mr mr;have tO:=O5;have mA:=P6;have a25:=Lk;have f6:=Vs;have f7:=TY;have mK:=QN;have mE:=QM;have mI:=QL;have k27:=Tc;have k25:=Tm;have e27:=Tb;have i25:=Ta;have x1:=X9;have x2:=X8;have x3:=X7;have n8:=UG ⟨w.heap.size,0,none⟩ t ((w.alloc (.cells #[.pointer (some t)] 164)).alloc (.cells #[.pointer (some ⟨2,164,none⟩),(w.heap.size,0),.int .u64 150] 247)) mv;have a:0<w.heap.size:=by
  rcases C8 w.heap.size with h0|h
  .simp[World.cell?,h0]at hg
  .exact h
 have hg2:((w.alloc (.cells #[.pointer (some t)] 164)).alloc (.cells #[.pointer (some ⟨2,164,none⟩),(w.heap.size,0),.int .u64 150] 247)).cell? ⟨0,0,none⟩=some (.iface 286 (.agg #[.pointer (some ⟨2,98,none⟩)])):=by
  rw[World.cell?_alloc_lt _ _ ⟨0,0,none⟩ mv,World.cell?_alloc_lt _ _ ⟨0,0,none⟩ a];exact hg
 go_enter func75,ntmps75;go_wp2;refine wp_loop_rounds 1 ?_;rw[rounds_succ];go_wp2;go_ret;exact⟨rfl,rfl⟩
def OC(n:Int)(w:World):Calls prog 76 #[.iface 57 (.int .i64 n),.iface 57 (.int .i64 n)] w λev w'=>ev=.returned (.bool true)/\w=w':=by
 have h10 := @run_callFunc_extern prog 137 _ ReflectliteType.typeOf func137 mr mr mr mr;have h36 := @run_callFunc_extern prog 251 _ (ReflectliteType.method (λt => do Rtype.noPackHeld "Comparable" t; pure (.bool (<- typeInfo t).comparable))) func251 mr mr mr mr;have tO:=O5;have mC:=J2;have cE:=Sm;have q1:=J5;go_enter func76,ntmps76;go_wp2;refine wp_loop_rounds 1 ?_;rw[rounds_succ];go_wp2;go_ret;exact⟨rfl,rfl⟩
def OA(p:Nat)(n:Int)(w:World)(hc:w.cell? p=some (.int .i64 n)):Calls prog 76 #[.iface 162 (.pointer p),.iface 57 (.int .i64 n)] w λev w'=>ev=.returned (.bool true)/\w=w':=by
 have h10 := @run_callFunc_extern prog 137 _ ReflectliteType.typeOf func137 mr mr mr mr;have h36 := @run_callFunc_extern prog 251 _ (ReflectliteType.method (λt => do Rtype.noPackHeld "Comparable" t; pure (.bool (<- typeInfo t).comparable))) func251 mr mr mr mr;have tO:=O5;have mC:=J2;have cE:=Sm;have q1:=J5;have q2:=OG;have x1:=X6;have x2:=X2;have mU:=eI;go_enter func76,ntmps76;go_wp2;refine wp_loop_rounds 2 ?_;rw[rounds_succ];go_wp2;rw[rounds_succ];go_wp2;go_ret;exact⟨rfl,rfl⟩
end
end Go.Proofs.YtddfdpbaiedcjaaGreatDoor
