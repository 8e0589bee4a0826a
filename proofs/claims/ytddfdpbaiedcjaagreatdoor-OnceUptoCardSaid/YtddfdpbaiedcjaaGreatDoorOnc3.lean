/- A part of Once's proof. Conditions: none. Part 3 of 15. -/
import Derived.Test.YtddfdpbaiedcjaaGreatDoorOnc2
import Derived.Stop.Asserts
import Derived.RowKitTokens
set_option maxRecDepth 100000
set_option maxHeartbeats 16000000
set_option linter.all false
namespace Go.Proofs.YtddfdpbaiedcjaaGreatDoor
section
open Go.RowKit Go.Proofs.Tryz
theorem eH(l:List UInt8):∀s:ByteArray,(l.map λc=>((c.toNat:Nat):Int)).foldl (λr n=>r.push (UInt8.ofNat n.toNat)) s=⟨s.data++l.toArray⟩:=by
 induction l with
 | nil=>intro s;simp
 | cons c l ih =>
  intro s;simp only[Bt,List.foldl_cons,Ao,UInt8.ofNat_toNat];rw[ih];simp[ByteArray.push]
variable{l:List UInt8}{v:Value}{w:World}
theorem IN(h:BR w v l):(convert 60 9 v).run prog w = .ok (.string (zq l)) w:=by
 obtain⟨a,cap,rfl,h1,h2,h3⟩:=h;rw[run_convert_bytes_string w _ _ _ a l.length cap underlying60 underlying5 underlying9];cases a with
 | none =>
  have hl:l=[]:=by
   cases l with
   | nil=>rfl
   | cons c l =>
    obtain⟨g,o,e,_⟩:=h3 0 c rfl;cases e
  subst hl;rfl
 | some a =>
  have b:∀j u,(zR l)[j]?=some u->w.cell? (a.add j)=some u:=by
   intro j u d;simp only[zR,BW,CM]at d;obtain⟨c,hc,rfl⟩:=d;obtain⟨g,o,e,hh⟩:=h3 j c hc;cases e;rw[zS];exact hh
  have Li:(loadCells a l.length).run prog w = .ok ((l.map λc=>((c.toNat:Nat):Int)).map (Value.int .u8)).toArray w:=by
   have:=run_loadCells_list (P:=prog) (w:=w) a (zR l) b;rw[Ig]at this;rw[this];simp[zR]
  rw[run_bytesToString w a l.length cap _ Li,eH];simp[zq]
def FI(bs:List UInt8)(pos:Nat):Option (Nat×Nat):=(Ds bs pos).bind λq=>if q.1<8 then some q else none
def Fh(bs:List UInt8)(pos:Nat):Option (List UInt8×Nat):=(Ds bs pos).bind λq=>if q.1<=bs.length-q.2 then some ((bs.drop q.2).take q.1,q.2+q.1)else none
variable{bs:List UInt8}{p pos:Nat}
theorem zV{n:Nat}(h:Ds bs pos=some (n,p)):pos<p/\p<=bs.length/\n<4611686018427387904:=by
 unfold Ds at h;cases hc:bs[pos]? with
 | none=>rw[hc]at h;cases h
 | some c =>
  rw[hc]at h;simp only at h;split at h
  ·rename_i hfit;simp only[Ax,BF]at h;obtain⟨rfl,rfl⟩:=h;have hz1:1<=D4 c:=Nat.one_le_two_pow;have hcl:=c.toNat_lt;have hq:c.toNat / 64=0\/c.toNat / 64=1\/c.toNat / 64=2\/c.toNat / 64=3:=by omega
   have hz8:D4 c<=8:=by
    unfold D4;rcases hq with e|e|e|e<;>rw[e]<;>decide
   refine⟨by omega,hfit,?_⟩;have h1:=Ro c ((bs.drop (pos+1)).take (D4 c-1));have h2:((bs.drop (pos+1)).take (D4 c-1)).length<=7:=by rw[AS];omega
   have h5:64*256 ^ ((bs.drop (pos+1)).take (D4 c-1)).length<=64*256 ^ 7:=Cx _ (Nat.pow_le_pow_right (by omega) h2);have h6:64*256 ^ 7=4611686018427387904:=by decide
   omega
  ·cases h
theorem QD(rb pos:Nat)(v:Value)(bs:List UInt8)(w:World)(h:D7 w rb v pos)(hb:BR w v bs)(j:Dl (EJ rb) v)(hp:pos<=bs.length):Calls prog 178 #[.pointer (some ⟨rb,0,none⟩)] w (QX w rb v ((FI bs pos).map λq=>(.int .i64 q.1,q.2))):=by
 have hc:=zW rb pos v bs w h hb j hp;clear h hb j;cases hr:Ds bs pos with
 | none =>
  rw[hr]at hc;have d:AA (FI bs pos=none):=by show _=_;rw[FI,hr];rfl
  clear hr;go_enter func178,ntmps178;go_wp2_with (go_at_call 127;refine hc.mono ?_;rintro e k (⟨_,_,a,_⟩|⟨_,f,c⟩);cases a;unfold D2 at f;subst f);exact⟨rfl,.inr ⟨by rw[d.z];rfl,rfl,c⟩⟩
 | some q =>
  obtain⟨n,p⟩:=q;obtain⟨q1,q2,q3⟩:=zV hr;rw[hr]at hc;by_cases l:n<8
  ·have d:AA (FI bs pos=some (n,p)):=by show _=_;rw[FI,hr];simp[l]
   have g:¬(8:Int)<=n:=by omega
   have e1:IntKind.i64.wrap (n:Int)=n:=IntWalk.i64_in _ (by omega);clear hr;go_enter func178,ntmps178;go_wp2_with fail;refine hc.mono ?_;rintro e k (⟨_,_,a,rfl,b,c⟩|⟨a,_⟩)
   ·simp only[Ay,Ax,BF]at a;obtain⟨rfl,rfl⟩:=a;have HA:=zb b;have i:=zb c;clear b c;go_wp2_with fail;go_ret;exact .inl ⟨_,_,by rw[d.z];rfl,rfl,HA.z,i.z⟩
   ·cases a
  ·have d:AA (FI bs pos=none):=by show _=_;rw[FI,hr];simp[l]
   have g:(8:Int)<=n:=by omega
   clear hr;go_enter func178,ntmps178;go_wp2_with fail;refine hc.mono ?_;rintro e k (⟨_,_,a,rfl,b,c⟩|⟨a,_⟩)
   ·simp only[Ay,Ax,BF]at a;obtain⟨rfl,rfl⟩:=a;have i:=zb c;clear b c;go_wp2_with (go_at_call 128;refine(I7 _ _).mono ?_;rintro e w' ⟨f,rfl⟩;unfold D2 at f;subst f);exact⟨rfl,.inr ⟨by rw[d.z];rfl,rfl,i.z⟩⟩
   ·cases a
theorem TC(rb pos:Nat)(v:Value)(bs:List UInt8)(w:World)(h:D7 w rb v pos)(hb:BR w v bs)(k:Dl (EJ rb) v)(hp:pos<=bs.length):Calls prog 183 #[.pointer (some ⟨rb,0,none⟩)] w (QX w rb v ((Fh bs pos).map λq=>(.string (zq q.1),q.2))):=by
 have hc:=zW rb pos v bs w h hb k hp;have x:=zb hb;clear h hb;cases hr:Ds bs pos with
 | none =>
  rw[hr]at hc;have g:AA (Fh bs pos=none):=by show _=_;rw[Fh,hr];rfl
  clear hr k;go_enter func183,ntmps183;go_wp2_with (go_at_call 127;refine hc.mono ?_;rintro e l (⟨_,_,a,_⟩|⟨_,i,c⟩);cases a;unfold D2 at i;subst i);exact⟨rfl,.inr ⟨by rw[g.z];rfl,rfl,c⟩⟩
 | some q =>
  obtain⟨n,p⟩:=q;obtain⟨q1,q2,q3⟩:=zV hr;rw[hr]at hc;have y:=zb hr;have o:=zb k;clear hr k;by_cases d:n<=bs.length-p
  ·have g:AA (Fh bs pos=some ((bs.drop p).take n,p+n)):=by show _=_;rw[Fh,y.z];simp[d]
   go_enter func183,ntmps183;go_wp2_with fail;refine hc.mono ?_;rintro e l (⟨_,_,a,rfl,b,c⟩|⟨a,_⟩)
   ·simp only[Ay,Ax,BF]at a;obtain⟨rfl,rfl⟩:=a;have m:=Nb rb n p (n:Int) rfl v bs l b (x.z.mod c o.z) o.z (by omega);have r:=zb c;clear b c;go_wp2_with fail;refine m.mono ?_;rintro e w2 ⟨sv,rfl,j,h2,z⟩;have s:=IN j;have H2:=zb h2;have t:=zb z;obtain⟨a2,A,rfl,_⟩:=j;obtain⟨l2,f⟩:=nm ((bs.drop p).take n);rw[f]at s g;rw[f];clear h2 z m f;go_wp2_with fail;go_ret;exact .inl ⟨_,_,by rw[g.z];rfl,rfl,H2.z,r.z.trans t.z⟩
   ·cases a
  ·have g:AA (Fh bs pos=none):=by show _=_;rw[Fh,y.z];simp[d]
   go_enter func183,ntmps183;go_wp2_with fail;refine hc.mono ?_;rintro e l (⟨_,_,a,rfl,b,c⟩|⟨a,_⟩)
   ·simp only[Ay,Ax,BF]at a;obtain⟨rfl,rfl⟩:=a;have m:=PG rb n p (n:Int) rfl v bs l b (x.z.mod c o.z) (by omega) (by omega);have r:=zb c;clear b c;go_wp2_with (go_at_call 129;refine m.mono ?_;rintro e w' ⟨i,u⟩;unfold D2 at i;subst i);exact⟨rfl,.inr ⟨by rw[g.z];rfl,rfl,r.z.trans u⟩⟩
   ·cases a
def FA(t:UInt8):Option Int :=
 if t=1 then some 1 else if t=2 then some 2 else if t=8\/t=9 then some 4 else if t=16 then some 5 else if t=17 then some 6 else if t=28 then some 8 else if t=36 then some 3 else if t=48 then some 7 else none
def dO(t:UInt8)(w:World)(h:FA t=none):Calls prog 130 #[.int .u8 (t.toNat:Int)] w λe w'=>e = .returned (.tuple #[.int .i64 0,.bool false])/\w=w':=by
 have a:∀c:UInt8,c ∈ [1,2,8,9,16,17,28,36,48]->((t.toNat:Int)==(c.toNat:Int))=false:=by
  intro c hc;rw[AR];intro he;have:t=c:=Cv.1 (by omega);subst this;simp only[BP,Cp,or_false]at hc;rcases hc with rfl|rfl|rfl|rfl|rfl|rfl|rfl|rfl|rfl<;>simp[FA]at h
 have h1:((t.toNat:Int)==1)=false:=a 1 (by simp);have h2:((t.toNat:Int)==2)=false:=a 2 (by simp);have h3:((t.toNat:Int)==8)=false:=a 8 (by simp);have h4:((t.toNat:Int)==9)=false:=a 9 (by simp);have h5:((t.toNat:Int)==16)=false:=a 16 (by simp);have h6:((t.toNat:Int)==17)=false:=a 17 (by simp);have h7:((t.toNat:Int)==28)=false:=a 28 (by simp);have h8:((t.toNat:Int)==36)=false:=a 36 (by simp);have h9:((t.toNat:Int)==48)=false:=a 48 (by simp);clear a h;go_enter func130,ntmps130;go_wp2_with fail;go_ret2;exact⟨rfl,rfl⟩
def dN(t:UInt8)(k:Int)(w:World)(h:FA t=some k):Calls prog 130 #[.int .u8 (t.toNat:Int)] w λe w'=>e = .returned (.tuple #[.int .i64 k,.bool true])/\w=w':=by
 have hc:t∈([1,2,8,9,16,17,28,36,48]:List UInt8):=by
  refine Decidable.byContradiction λhc=>?_
  simp only[BP,Cp,or_false,not_or]at hc;obtain⟨a1,a2,a3,a4,a5,a6,a7,a8,a9⟩:=hc;simp[FA, *]at h
 simp only[BP,Cp,or_false]at hc;rcases hc with rfl|rfl|rfl|rfl|rfl|rfl|rfl|rfl|rfl;all_goals
  simp[FA]at h;subst h;simp only[UInt8.reduceToNat];go_enter func130,ntmps130;go_wp2_with fail;go_ret2;exact⟨rfl,rfl⟩
def Gr(rb fb:Nat):Nat->Prop:=λk=>k=rb\/k=fb
def FG(w:World)(v:Value)(rs:zC):Prop:=w.ownsRow 0 214 2 v rs.length (zo rs)/\∀i,i<rs.length->Da rs i<18446744073709551616/\DY rs i<18446744073709551616
def FG.nil(w:World):FG w (.slice none 0 0) []:=⟨World.ownsRow_nil w 0 _ 2,λi hi=>absurd hi (BA i)⟩
variable{S:Nat->Prop}{rs:zC}{w':World}
def FG.mod(h:FG w v rs)(m:DW S w w')(hs:∀g,v.ownBlock=some g->¬S g):FG w' v rs:=⟨m.owns h.1 hs,h.2⟩
def FG.rr(h:FG w v rs):RR w v rs:=by
 obtain⟨a,cap,rfl,h1,h2,h3⟩:=zi h.1;refine⟨a,cap,rfl,h1,h2,λi hi=>?_⟩;obtain⟨g,rfl⟩:=h3 (by omega);have:=IM h.1 i hi;exact⟨g,0,rfl,by simpa using this.1,by simpa using this.2,h.2 i hi⟩
def Hy(w:World)(v:Value):Prop:=∀g o n c,v = .slice (some ⟨g,o,none⟩) n c->w.heap.size<=g
def f0(k:Int)(b:Bool):Db:={ kind:=k,stream:=0,off:=0,rel:=0,lim:=0,fin:=b,id:=0,dl:=0,data:=[],rngs:=[] }
def JL(w:World)(rb:Nat)(v:Value)(fb:Nat)(r:Option (Db×Nat))(e:Ending)(w':World):Prop :=
 (∃f rv p,r=some (f,p)/\e = .returned (.tuple #[])/\D7 w' rb v p/\zj w' fb f rv/\FG w' rv f.rngs/\Hy w rv/\DW (Gr rb fb) w w')\/(r=none/\e=D2/\DW (Gr rb fb) w w')
variable{rb:Nat}
def EV{fb:Nat}(m:DW (EJ rb) w w'):DW (Gr rb fb) w w':=m.mono (λ_ h=>.inl (.inl h))
def Hy.nil(w:World):Hy w (.slice none 0 0):=λ_ _ _ _ h=>by cases h
def read1(rb fb pos:Nat)(v:Value)(b:Bool)(w:World)(h:D7 w rb v pos)(hf:zj w fb (f0 1 b) (.slice none 0 0)):Calls prog 171 #[.pointer (some ⟨rb,0,none⟩),.pointer (some ⟨fb,0,none⟩)] w (JL w rb v fb (some (f0 1 b,pos))):=by
 go_enter func171,ntmps171;go_wp2_with fail;exact bodyPost_end (results_none rfl _ _ _) rfl (.inl ⟨_,_,_,rfl,rfl,h,hf,FG.nil w,Hy.nil w,DW.refl _ _⟩)
variable{b i:Nat}{f:Db}{rv:Value}
def zj.set{f':Db}{rv':Value}(h:zj w b f rv)(he:(zh f rv).setIfInBounds i v=zh f' rv'):zj (w.setCell ⟨b,i,none⟩ v) b f' rv':=by
 unfold zj at h ⊢;rw[zc h,he]
def Hi{n:Nat}(h:Ds bs pos=some (n,p)):p<=bs.length:=(zV h).2.1
theorem QL{n:Nat}(h:FI bs pos=some (n,p)):p<=bs.length:=by
 unfold FI at h;cases hr:Ds bs pos with
 | none=>rw[hr]at h;cases h
 | some q =>
  rw[hr]at h;simp only[AU]at h;split at h
  ·cases h;exact Hi hr
  ·cases h
theorem P1(h:Fh bs pos=some (l,p)):p<=bs.length:=by
 unfold Fh at h;cases hr:Ds bs pos with
 | none=>rw[hr]at h;cases h
 | some q =>
  rw[hr]at h;have:=Hi hr;simp only[AU]at h;split at h
  ·cases h;omega
  ·cases h
def GO(b:Bool)(bs:List UInt8)(pos:Nat):Option (Db×Nat) :=
 (FI bs pos).bind fun(x1,p1)=>(Ds bs p1).bind fun(x2,p2)=>(Ds bs p2).bind fun(x3,p3)=>some ({ f0 3 b with stream:=(x1:Int),off:=x2,rel:=x3 },p3)
theorem MX(rb fb pos:Nat)(v:Value)(bs:List UInt8)(b:Bool)(w:World)(h:D7 w rb v pos)(hb:BR w v bs)(J:Dl (Gr rb fb) v)(hp:pos<=bs.length)(hf:zj w fb (f0 3 b) (.slice none 0 0))(q:fb≠rb):Calls prog 177 #[.pointer (some ⟨rb,0,none⟩),.pointer (some ⟨fb,0,none⟩)] w (JL w rb v fb (GO b bs pos)):=by
 have r:Dl (EJ rb) v:=λg o n c e a=>J g o n c e (.inl a)
 have W0:w=w:=rfl;have D:=zb (DW.refl (EJ rb) w);have E:=zb hb;have Hf:=zb hf;have s:=zb r;have t:=zb q;clear hb J hf r q W0;have c1:=QD rb pos v bs w h (E.z) s.z hp;cases hr1:FI bs pos with
 | none =>
  rw[hr1]at c1;have u:AA (GO b bs pos=none):=by
   show _=_;unfold GO;simp only[hr1,AU,BJ]
  clear hr1;go_enter func177,ntmps177;go_wp2_with (go_at_call 178;refine c1.mono ?_;rintro e w' (⟨_,_,a,_⟩|⟨_,d,x⟩);cases a;unfold D2 at d;subst d);exact⟨rfl,.inr ⟨u.z,rfl,EV (x)⟩⟩
 | some q1 =>
  obtain⟨y,p1⟩:=q1;rw[hr1]at c1;have F:=QL hr1;have f:=zb hr1;clear hr1;go_enter func177,ntmps177;go_wp2_with fail;refine c1.mono ?_;rintro e w1 (⟨_,_,a,rfl,h1,m1⟩|⟨a,_⟩);rotate_left
  ·cases a
  simp only[Ay,Ax,BF]at a;obtain⟨rfl,rfl⟩:=a;have l:=zb (D.z.trans m1);clear c1 m1;have c2:=zW rb p1 v bs w1 h1 (E.z.mod l.z s.z) s.z F;cases hr2:Ds bs p1 with
  | none =>
   rw[hr2]at c2;have u:AA (GO b bs pos=none):=by
    show _=_;unfold GO;simp only[f.z,hr2,AU,BJ]
   clear hr2;go_wp2_with (go_at_call 127;refine c2.mono ?_;rintro e w' (⟨_,_,a,_⟩|⟨_,d,x⟩);cases a;unfold D2 at d;subst d);exact⟨rfl,.inr ⟨u.z,rfl,EV (l.z.trans x)⟩⟩
  | some q2 =>
   obtain⟨B,p2⟩:=q2;rw[hr2]at c2;have G:=Hi hr2;have z:=zb hr2;clear hr2;go_wp2_with fail;refine c2.mono ?_;rintro e w2 (⟨_,_,a,rfl,h2,K⟩|⟨a,_⟩);rotate_left
   ·cases a
   simp only[Ay,Ax,BF]at a;obtain⟨rfl,rfl⟩:=a;have m:=zb (l.z.trans K);clear c2 K;have c3:=zW rb p2 v bs w2 h2 (E.z.mod m.z s.z) s.z G;cases hr3:Ds bs p2 with
   | none =>
    rw[hr3]at c3;have u:AA (GO b bs pos=none):=by
     show _=_;unfold GO;simp only[f.z,z.z,hr3,AU,BJ]
    clear hr3;go_wp2_with (go_at_call 127;refine c3.mono ?_;rintro e w' (⟨_,_,a,_⟩|⟨_,d,x⟩);cases a;unfold D2 at d;subst d);exact⟨rfl,.inr ⟨u.z,rfl,EV (m.z.trans x)⟩⟩
   | some q3 =>
    obtain⟨H,p3⟩:=q3;rw[hr3]at c3;have hp3:=Hi hr3;have I:=zb hr3;clear hr3;go_wp2_with fail;refine c3.mono ?_;rintro e w3 (⟨_,_,a,rfl,h3,L⟩|⟨a,_⟩);rotate_left
    ·cases a
    simp only[Ay,Ax,BF]at a;obtain⟨rfl,rfl⟩:=a;have A:=zb (m.z.trans L);clear c3 L;have HH:=zb h3;have C:=Hf.z.mod A.z t.z;obtain⟨k0,k1,k2,k3,k4,k5,k6,k7,k8,k9⟩:=C.cells;have hfz:∀j,w3.frozen? ⟨fb,j,none⟩=false:=λj=>zf C
    have HF:=zb C;clear C h3;go_wp2_with fail;refine bodyPost_end (results_none rfl _ _ _) rfl (.inl ⟨{ f0 3 b with stream:=(y:Int),off:=B,rel:=H },.slice none 0 0,p3,?_,rfl,?_,?_,FG.nil _,Hy.nil w,(((((((EV A.z)).setCell (p:=⟨fb,1,none⟩) (.inl (.inr rfl)) _)).setCell (p:=⟨fb,2,none⟩) (.inl (.inr rfl)) _)).setCell (p:=⟨fb,3,none⟩) (.inl (.inr rfl)) _)⟩)
    ·unfold GO;simp only[f.z,z.z,I.z,AU]
    ·exact HH.z.mod ((((DW.refl (λk=>k=fb) _).setCell (p:=⟨fb,1,none⟩) (.inl rfl) _).setCell (p:=⟨fb,2,none⟩) (.inl rfl) _).setCell (p:=⟨fb,3,none⟩) (.inl rfl) _) (λe=>t.z e.symm)
    ·exact(((HF.z).set (i:=1) (v:=.int .i64 y) (f':={ f0 3 b with stream:=(y:Int) }) (rv':=.slice none 0 0) rfl).set (i:=2) (v:=.int .u64 B) (f':={ f0 3 b with stream:=(y:Int),off:=B }) (rv':=.slice none 0 0) rfl).set (i:=3) (v:=.int .u64 H) (f':={ f0 3 b with stream:=(y:Int),off:=B,rel:=H }) (rv':=.slice none 0 0) rfl
def Fu(b:Bool)(bs:List UInt8)(pos:Nat):Option (Db×Nat) :=
 (FI bs pos).bind fun(x1,p1)=>(Ds bs p1).bind fun(x2,p2)=>(Fh bs p2).bind fun(x3,p3)=>some ({ f0 4 b with stream:=(x1:Int),off:=x2,data:=x3 },p3)
theorem MV(rb fb pos:Nat)(v:Value)(bs:List UInt8)(b:Bool)(w:World)(h:D7 w rb v pos)(hb:BR w v bs)(J:Dl (Gr rb fb) v)(hp:pos<=bs.length)(hf:zj w fb (f0 4 b) (.slice none 0 0))(q:fb≠rb):Calls prog 182 #[.pointer (some ⟨rb,0,none⟩),.pointer (some ⟨fb,0,none⟩)] w (JL w rb v fb (Fu b bs pos)):=by
 have r:Dl (EJ rb) v:=λg o n c e a=>J g o n c e (.inl a)
 have W0:w=w:=rfl;have D:=zb (DW.refl (EJ rb) w);have E:=zb hb;have Hf:=zb hf;have s:=zb r;have t:=zb q;clear hb J hf r q W0;have c1:=QD rb pos v bs w h (E.z) s.z hp;cases hr1:FI bs pos with
 | none =>
  rw[hr1]at c1;have u:AA (Fu b bs pos=none):=by
   show _=_;unfold Fu;simp only[hr1,AU,BJ]
  clear hr1;go_enter func182,ntmps182;go_wp2_with (go_at_call 178;refine c1.mono ?_;rintro e w' (⟨_,_,a,_⟩|⟨_,d,x⟩);cases a;unfold D2 at d;subst d);exact⟨rfl,.inr ⟨u.z,rfl,EV (x)⟩⟩
 | some q1 =>
  obtain⟨y,p1⟩:=q1;rw[hr1]at c1;have F:=QL hr1;have f:=zb hr1;clear hr1;go_enter func182,ntmps182;go_wp2_with fail;refine c1.mono ?_;rintro e w1 (⟨_,_,a,rfl,h1,m1⟩|⟨a,_⟩);rotate_left
  ·cases a
  simp only[Ay,Ax,BF]at a;obtain⟨rfl,rfl⟩:=a;have l:=zb (D.z.trans m1);clear c1 m1;have c2:=zW rb p1 v bs w1 h1 (E.z.mod l.z s.z) s.z F;cases hr2:Ds bs p1 with
  | none =>
   rw[hr2]at c2;have u:AA (Fu b bs pos=none):=by
    show _=_;unfold Fu;simp only[f.z,hr2,AU,BJ]
   clear hr2;go_wp2_with (go_at_call 127;refine c2.mono ?_;rintro e w' (⟨_,_,a,_⟩|⟨_,d,x⟩);cases a;unfold D2 at d;subst d);exact⟨rfl,.inr ⟨u.z,rfl,EV (l.z.trans x)⟩⟩
  | some q2 =>
   obtain⟨B,p2⟩:=q2;rw[hr2]at c2;have G:=Hi hr2;have z:=zb hr2;clear hr2;go_wp2_with fail;refine c2.mono ?_;rintro e w2 (⟨_,_,a,rfl,h2,K⟩|⟨a,_⟩);rotate_left
   ·cases a
   simp only[Ay,Ax,BF]at a;obtain⟨rfl,rfl⟩:=a;have m:=zb (l.z.trans K);clear c2 K;have c3:=TC rb p2 v bs w2 h2 (E.z.mod m.z s.z) s.z G;cases hr3:Fh bs p2 with
   | none =>
    rw[hr3]at c3;have u:AA (Fu b bs pos=none):=by
     show _=_;unfold Fu;simp only[f.z,z.z,hr3,AU,BJ]
    clear hr3;go_wp2_with (go_at_call 183;refine c3.mono ?_;rintro e w' (⟨_,_,a,_⟩|⟨_,d,x⟩);cases a;unfold D2 at d;subst d);exact⟨rfl,.inr ⟨u.z,rfl,EV (m.z.trans x)⟩⟩
   | some q3 =>
    obtain⟨H,p3⟩:=q3;rw[hr3]at c3;have hp3:=P1 hr3;have I:=zb hr3;clear hr3;go_wp2_with fail;refine c3.mono ?_;rintro e w3 (⟨_,_,a,rfl,h3,L⟩|⟨a,_⟩);rotate_left
    ·cases a
    simp only[Ay,Ax,BF]at a;obtain⟨rfl,rfl⟩:=a;have A:=zb (m.z.trans L);clear c3 L;have HH:=zb h3;have C:=Hf.z.mod A.z t.z;obtain⟨k0,k1,k2,k3,k4,k5,k6,k7,k8,k9⟩:=C.cells;have hfz:∀j,w3.frozen? ⟨fb,j,none⟩=false:=λj=>zf C
    have HF:=zb C;clear C h3;go_wp2_with fail;refine bodyPost_end (results_none rfl _ _ _) rfl (.inl ⟨{ f0 4 b with stream:=(y:Int),off:=B,data:=H },.slice none 0 0,p3,?_,rfl,?_,?_,FG.nil _,Hy.nil w,(((((((EV A.z)).setCell (p:=⟨fb,1,none⟩) (.inl (.inr rfl)) _)).setCell (p:=⟨fb,2,none⟩) (.inl (.inr rfl)) _)).setCell (p:=⟨fb,8,none⟩) (.inl (.inr rfl)) _)⟩)
    ·unfold Fu;simp only[f.z,z.z,I.z,AU]
    ·exact HH.z.mod ((((DW.refl (λk=>k=fb) _).setCell (p:=⟨fb,1,none⟩) (.inl rfl) _).setCell (p:=⟨fb,2,none⟩) (.inl rfl) _).setCell (p:=⟨fb,8,none⟩) (.inl rfl) _) (λe=>t.z e.symm)
    ·exact(((HF.z).set (i:=1) (v:=.int .i64 y) (f':={ f0 4 b with stream:=(y:Int) }) (rv':=.slice none 0 0) rfl).set (i:=2) (v:=.int .u64 B) (f':={ f0 4 b with stream:=(y:Int),off:=B }) (rv':=.slice none 0 0) rfl).set (i:=8) (v:=.string (zq H)) (f':={ f0 4 b with stream:=(y:Int),off:=B,data:=H }) (rv':=.slice none 0 0) rfl
def Ft(b:Bool)(bs:List UInt8)(pos:Nat):Option (Db×Nat) :=
 (FI bs pos).bind fun(x1,p1)=>(Ds bs p1).bind fun(x2,p2)=>some ({ f0 6 b with stream:=(x1:Int),lim:=x2 },p2)
theorem MU(rb fb pos:Nat)(v:Value)(bs:List UInt8)(b:Bool)(w:World)(h:D7 w rb v pos)(hb:BR w v bs)(E:Dl (Gr rb fb) v)(hp:pos<=bs.length)(hf:zj w fb (f0 6 b) (.slice none 0 0))(f:fb≠rb):Calls prog 188 #[.pointer (some ⟨rb,0,none⟩),.pointer (some ⟨fb,0,none⟩)] w (JL w rb v fb (Ft b bs pos)):=by
 have l:Dl (EJ rb) v:=λg o n c e a=>E g o n c e (.inl a)
 have W0:w=w:=rfl;have x:=zb (DW.refl (EJ rb) w);have F:=zb hb;have Hf:=zb hf;have y:=zb l;have m:=zb f;clear hb E hf l f W0;have c1:=QD rb pos v bs w h (F.z) y.z hp;cases hr1:FI bs pos with
 | none =>
  rw[hr1]at c1;have z:AA (Ft b bs pos=none):=by
   show _=_;unfold Ft;simp only[hr1,AU,BJ]
  clear hr1;go_enter func188,ntmps188;go_wp2_with (go_at_call 178;refine c1.mono ?_;rintro e w' (⟨_,_,a,_⟩|⟨_,q,A⟩);cases a;unfold D2 at q;subst q);exact⟨rfl,.inr ⟨z.z,rfl,EV (A)⟩⟩
 | some q1 =>
  obtain⟨t,p1⟩:=q1;rw[hr1]at c1;have B:=QL hr1;have r:=zb hr1;clear hr1;go_enter func188,ntmps188;go_wp2_with fail;refine c1.mono ?_;rintro e w1 (⟨_,_,a,rfl,h1,m1⟩|⟨a,_⟩);rotate_left
  ·cases a
  simp only[Ay,Ax,BF]at a;obtain⟨rfl,rfl⟩:=a;have d:=zb (x.z.trans m1);clear c1 m1;have c2:=zW rb p1 v bs w1 h1 (F.z.mod d.z y.z) y.z B;cases hr2:Ds bs p1 with
  | none =>
   rw[hr2]at c2;have z:AA (Ft b bs pos=none):=by
    show _=_;unfold Ft;simp only[r.z,hr2,AU,BJ]
   clear hr2;go_wp2_with (go_at_call 127;refine c2.mono ?_;rintro e w' (⟨_,_,a,_⟩|⟨_,q,A⟩);cases a;unfold D2 at q;subst q);exact⟨rfl,.inr ⟨z.z,rfl,EV (d.z.trans A)⟩⟩
  | some q2 =>
   obtain⟨C,p2⟩:=q2;rw[hr2]at c2;have hp2:=Hi hr2;have D:=zb hr2;clear hr2;go_wp2_with fail;refine c2.mono ?_;rintro e w2 (⟨_,_,a,rfl,h2,G⟩|⟨a,_⟩);rotate_left
   ·cases a
   simp only[Ay,Ax,BF]at a;obtain⟨rfl,rfl⟩:=a;have s:=zb (d.z.trans G);clear c2 G;have HH:=zb h2;have u:=Hf.z.mod s.z m.z;obtain⟨k0,k1,k2,k3,k4,k5,k6,k7,k8,k9⟩:=u.cells;have hfz:∀j,w2.frozen? ⟨fb,j,none⟩=false:=λj=>zf u
   have HF:=zb u;clear u h2;go_wp2_with fail;refine bodyPost_end (results_none rfl _ _ _) rfl (.inl ⟨{ f0 6 b with stream:=(t:Int),lim:=C },.slice none 0 0,p2,?_,rfl,?_,?_,FG.nil _,Hy.nil w,(((((EV s.z)).setCell (p:=⟨fb,1,none⟩) (.inl (.inr rfl)) _)).setCell (p:=⟨fb,4,none⟩) (.inl (.inr rfl)) _)⟩)
   ·unfold Ft;simp only[r.z,D.z,AU]
   ·exact HH.z.mod (((DW.refl (λk=>k=fb) _).setCell (p:=⟨fb,1,none⟩) (.inl rfl) _).setCell (p:=⟨fb,4,none⟩) (.inl rfl) _) (λe=>m.z e.symm)
   ·exact((HF.z).set (i:=1) (v:=.int .i64 t) (f':={ f0 6 b with stream:=(t:Int) }) (rv':=.slice none 0 0) rfl).set (i:=4) (v:=.int .u64 C) (f':={ f0 6 b with stream:=(t:Int),lim:=C }) (rv':=.slice none 0 0) rfl
def GM(b:Bool)(bs:List UInt8)(pos:Nat):Option (Db×Nat) :=
 (Ds bs pos).bind fun(x1,p1)=>(Ds bs p1).bind fun(x2,p2)=>(Fh bs p2).bind fun(x3,p3)=>some ({ f0 7 b with id:=x1,dl:=x2,data:=x3 },p3)
theorem MT(rb fb pos:Nat)(v:Value)(bs:List UInt8)(b:Bool)(w:World)(h:D7 w rb v pos)(hb:BR w v bs)(J:Dl (Gr rb fb) v)(hp:pos<=bs.length)(hf:zj w fb (f0 7 b) (.slice none 0 0))(q:fb≠rb):Calls prog 190 #[.pointer (some ⟨rb,0,none⟩),.pointer (some ⟨fb,0,none⟩)] w (JL w rb v fb (GM b bs pos)):=by
 have r:Dl (EJ rb) v:=λg o n c e a=>J g o n c e (.inl a)
 have W0:w=w:=rfl;have D:=zb (DW.refl (EJ rb) w);have E:=zb hb;have Hf:=zb hf;have s:=zb r;have t:=zb q;clear hb J hf r q W0;have c1:=zW rb pos v bs w h (E.z) s.z hp;cases hr1:Ds bs pos with
 | none =>
  rw[hr1]at c1;have u:AA (GM b bs pos=none):=by
   show _=_;unfold GM;simp only[hr1,AU,BJ]
  clear hr1;go_enter func190,ntmps190;go_wp2_with (go_at_call 127;refine c1.mono ?_;rintro e w' (⟨_,_,a,_⟩|⟨_,d,x⟩);cases a;unfold D2 at d;subst d);exact⟨rfl,.inr ⟨u.z,rfl,EV (x)⟩⟩
 | some q1 =>
  obtain⟨y,p1⟩:=q1;rw[hr1]at c1;have F:=Hi hr1;have f:=zb hr1;clear hr1;go_enter func190,ntmps190;go_wp2_with fail;refine c1.mono ?_;rintro e w1 (⟨_,_,a,rfl,h1,m1⟩|⟨a,_⟩);rotate_left
  ·cases a
  simp only[Ay,Ax,BF]at a;obtain⟨rfl,rfl⟩:=a;have l:=zb (D.z.trans m1);clear c1 m1;have c2:=zW rb p1 v bs w1 h1 (E.z.mod l.z s.z) s.z F;cases hr2:Ds bs p1 with
  | none =>
   rw[hr2]at c2;have u:AA (GM b bs pos=none):=by
    show _=_;unfold GM;simp only[f.z,hr2,AU,BJ]
   clear hr2;go_wp2_with (go_at_call 127;refine c2.mono ?_;rintro e w' (⟨_,_,a,_⟩|⟨_,d,x⟩);cases a;unfold D2 at d;subst d);exact⟨rfl,.inr ⟨u.z,rfl,EV (l.z.trans x)⟩⟩
  | some q2 =>
   obtain⟨B,p2⟩:=q2;rw[hr2]at c2;have G:=Hi hr2;have z:=zb hr2;clear hr2;go_wp2_with fail;refine c2.mono ?_;rintro e w2 (⟨_,_,a,rfl,h2,K⟩|⟨a,_⟩);rotate_left
   ·cases a
   simp only[Ay,Ax,BF]at a;obtain⟨rfl,rfl⟩:=a;have m:=zb (l.z.trans K);clear c2 K;have c3:=TC rb p2 v bs w2 h2 (E.z.mod m.z s.z) s.z G;cases hr3:Fh bs p2 with
   | none =>
    rw[hr3]at c3;have u:AA (GM b bs pos=none):=by
     show _=_;unfold GM;simp only[f.z,z.z,hr3,AU,BJ]
    clear hr3;go_wp2_with (go_at_call 183;refine c3.mono ?_;rintro e w' (⟨_,_,a,_⟩|⟨_,d,x⟩);cases a;unfold D2 at d;subst d);exact⟨rfl,.inr ⟨u.z,rfl,EV (m.z.trans x)⟩⟩
   | some q3 =>
    obtain⟨H,p3⟩:=q3;rw[hr3]at c3;have hp3:=P1 hr3;have I:=zb hr3;clear hr3;go_wp2_with fail;refine c3.mono ?_;rintro e w3 (⟨_,_,a,rfl,h3,L⟩|⟨a,_⟩);rotate_left
    ·cases a
    simp only[Ay,Ax,BF]at a;obtain⟨rfl,rfl⟩:=a;have A:=zb (m.z.trans L);clear c3 L;have HH:=zb h3;have C:=Hf.z.mod A.z t.z;obtain⟨k0,k1,k2,k3,k4,k5,k6,k7,k8,k9⟩:=C.cells;have hfz:∀j,w3.frozen? ⟨fb,j,none⟩=false:=λj=>zf C
    have HF:=zb C;clear C h3;go_wp2_with fail;refine bodyPost_end (results_none rfl _ _ _) rfl (.inl ⟨{ f0 7 b with id:=y,dl:=B,data:=H },.slice none 0 0,p3,?_,rfl,?_,?_,FG.nil _,Hy.nil w,(((((((EV A.z)).setCell (p:=⟨fb,6,none⟩) (.inl (.inr rfl)) _)).setCell (p:=⟨fb,7,none⟩) (.inl (.inr rfl)) _)).setCell (p:=⟨fb,8,none⟩) (.inl (.inr rfl)) _)⟩)
    ·unfold GM;simp only[f.z,z.z,I.z,AU]
    ·exact HH.z.mod ((((DW.refl (λk=>k=fb) _).setCell (p:=⟨fb,6,none⟩) (.inl rfl) _).setCell (p:=⟨fb,7,none⟩) (.inl rfl) _).setCell (p:=⟨fb,8,none⟩) (.inl rfl) _) (λe=>t.z e.symm)
    ·exact(((HF.z).set (i:=6) (v:=.int .u64 y) (f':={ f0 7 b with id:=y }) (rv':=.slice none 0 0) rfl).set (i:=7) (v:=.int .u64 B) (f':={ f0 7 b with id:=y,dl:=B }) (rv':=.slice none 0 0) rfl).set (i:=8) (v:=.string (zq H)) (f':={ f0 7 b with id:=y,dl:=B,data:=H }) (rv':=.slice none 0 0) rfl
def Fq(k:Int)(b:Bool)(bs:List UInt8)(pos:Nat):Option (Db×Nat):=(Ds bs pos).bind fun(x1,p1)=>some ({ f0 k b with lim:=x1 },p1)
theorem Rn(rb fb t pos:Nat)(k:Int)(v:Value)(bs:List UInt8)(b:Bool)(w:World)(h:D7 w rb v pos)(hb:BR w v bs)(u:Dl (Gr rb fb) v)(hp:pos<=bs.length)(hf:zj w fb (f0 k b) (.slice none 0 0))(d:fb≠rb)
  (hab:w.cell? ⟨t,0,none⟩=some (.func (.func 186) #[] #[])) :
  Calls prog 214 #[.pointer (some ⟨rb,0,none⟩),.pointer (some ⟨fb,0,none⟩),.pointer (some ⟨t,0,none⟩)] w (JL w rb v fb (Fq k b bs pos)):=by
 have f:Dl (EJ rb) v:=λg o n c e a=>u g o n c e (.inl a)
 have c1:=zW rb pos v bs w h hb f hp;have Hf:=zb hf;have l:=zb d;clear hb u hf f d h;cases hr1:Ds bs pos with
 | none =>
  rw[hr1]at c1;have HR:AA (Fq k b bs pos=none):=by show _=_;unfold Fq;rw[hr1];rfl
  clear hr1;go_enter func214,ntmps214;go_wp2_with (first|(go_at_call 186;refine(P2 _ _).mono ?_;rintro e w' ⟨rfl,rfl⟩)|(go_at_call 127;refine c1.mono ?_;rintro e w' (⟨_,_,a,_⟩|⟨_,x,hm⟩);cases a;unfold D2 at x;subst x));exact⟨rfl,.inr ⟨HR.z,rfl,EV hm⟩⟩
 | some q1 =>
  obtain⟨q,p1⟩:=q1;rw[hr1]at c1;have r:=zb hr1;clear hr1;go_enter func214,ntmps214;go_wp2_with (go_at_call 186;refine(P2 _ _).mono ?_;rintro e w' ⟨rfl,rfl⟩);refine c1.mono ?_;rintro e w1 (⟨_,_,a,rfl,h1,m1⟩|⟨a,_⟩);rotate_left
  ·cases a
  simp only[Ay,Ax,BF]at a;obtain⟨rfl,rfl⟩:=a;have s:=zb m1;have HH:=zb h1;have m:=Hf.z.mod m1 l.z;obtain⟨k0,k1,k2,k3,k4,k5,k6,k7,k8,k9⟩:=m.cells;have hfz:∀j,w1.frozen? ⟨fb,j,none⟩=false:=λj=>zf m
  have HF:=zb m;clear m h1 c1 m1;go_wp2_with fail;refine bodyPost_end (results_none rfl _ _ _) rfl (.inl ⟨{ f0 k b with lim:=q },.slice none 0 0,p1,?_,rfl,?_,?_,FG.nil _,Hy.nil w,((EV s.z).setCell (p:=⟨fb,4,none⟩) (.inl (.inr rfl)) _)⟩)
  ·unfold Fq;simp only[r.z,AU]
  ·exact HH.z.mod ((DW.refl (λk=>k=fb) _).setCell (p:=⟨fb,4,none⟩) (.inl rfl) _) (λe=>l.z e.symm)
  ·exact(HF.z).set (i:=4) (v:=.int .u64 q) (f':={ f0 k b with lim:=q }) (rv':=.slice none 0 0) rfl
def ID(bs:List UInt8):Nat->Nat->Nat->Nat->Nat->zC->Option (zC×Nat)
 | 0,_,_,_,_,_=>none
 | fuel+1,hi,n,size,pos,acc =>
  if hi<size then none
  else if n=0 then some (acc++[(hi-size,hi)],pos)
  else(Ds bs pos).bind λa=>(Ds bs a.2).bind λb =>
   if hi-size<2\/hi-size-2<a.1 then none else ID bs fuel (hi-size-2-a.1) (n-1) b.1 b.2 (acc++[(hi-size,hi)])
def Ez(b:Bool)(bs:List UInt8)(pos:Nat):Option (Db×Nat) :=
 (Ds bs pos).bind λa=>(Ds bs a.2).bind λc=>(Ds bs c.2).bind λd =>
  (ID bs (bs.length+1) a.1 c.1 d.1 d.2 []).bind λr=>some ({ f0 2 b with rngs:=r.1 },r.2)
def eG:(prog.info? 214).map (λi=>(i.zero,i.size,i.bytes))=some (some (.agg #[.int .u64 0,.int .u64 0]),2,16):=by kernel_rfl
def Rl(w:World)(v:Value)(rs:zC)(lo hi:Nat)(h:w.ownsRow 0 214 2 v rs.length (zo rs))(hl:rs.length<=1099511627776):∃v' w',(∀ty,(Builtin.append_ #[63,63] ty #[v,.slice (some ⟨w.heap.size,0,none⟩) 1 1]).run prog (w.alloc (.cells #[.int .u64 lo,.int .u64 hi] 214)) = .ok v' w') /\
   w'.ownsRow 0 214 2 v' (rs++[(lo,hi)]).length (zo (rs++[(lo,hi)]))/\w.grownBy w' v.ownBlock/\Dy w v v':=by
 obtain⟨i,b,hz,c,d⟩:=info_parts eG;have a:∀(j:Nat) u,(zo [(lo,hi)])[j]?=some u->(w.alloc (.cells #[.int .u64 lo,.int .u64 hi] 214)).cell? ((⟨w.heap.size,0,none⟩:Addr).add j)=some u:=by
  intro j u hj;rw[zS];refine za (heap_alloc_new w _) ?_;rw[Au,<-Array.getElem?_toList];exact hj
 obtain⟨v',w',h1,h2,h3,h4,h5⟩:=Jw (P:=prog) (w.alloc (.cells #[.int .u64 lo,.int .u64 hi] 214)) 63 214 i (.agg #[.int .u64 0,.int .u64 0]) 2 16 underlying63 b hz c d rfl (by decide) v rs.length (zo rs) (World.ownsRow.alloc h _)
  ⟨w.heap.size,0,none⟩ 1 1 (zo [(lo,hi)]) rfl a (by intro u e;simp[zo]at e;rcases e with rfl|rfl<;>rfl) (by unfold maxLen;omega) (by omega)
 refine⟨v',w',h1,?_,?_,?_⟩
 ·rw[AF,JB];exact h2
 ·exact⟨h3.os,h3.tape,h3.output,AO (by simp) h3.size,λk hk hn=>(h3.block k (by simp;omega) hn).trans (Below.heap_alloc w _ k hk)⟩
 ·intro k hk;rcases h4 k hk with x|x
  ·exact .inl x
  ·exact .inr (by simp at x;omega)
end
section
open Go.RowKit Go.Proofs.Tryz Go.Shelf
attribute [local go_sem] Oper.semAt_some
variable{P:Program}{Q:Exit->Act->World->Prop}{ops:Array Oper}{w w1:World}
def jL{F:Fence}{n:Nat}{rest:List Oper}{o:Oper}{a:Act}(d:o.guard=none)(s x:Operand)(t u:TypeId)
  (e:o.op = .call { callee:=.builtin .append,args:=#[s,x],argTypes:=#[t,u] }) (g i v':Value) (hs:a.eval s=g) (hx:a.eval x=i)
  (Dc:∀ty,(Builtin.append_ #[t,u] ty #[g,i]).run P w = .ok v' w1) (h:wpListIn F n P ops Q rest (a.put o.dst v') w1):wpListIn F n P ops Q (o::rest) a w:=by
 refine wpListIn_plain d λK hK=>?_
 have b:=Dc o.type;unfold Oper.wpIn;refine⟨by simp[Oper.about,e,resolve,Target.leads,Sem.run_pure],?_⟩;rw[Oper.semAt_plain F _ _ (by rw[e];intro c f;cases f)];simp[execOp,e,resolve,invoke,builtin,hs,hx,b,Result.andThen];exact hK _ _ h
variable{S:Nat->Prop}{w':World}
def DW.putObj(h:DW S w w'){l:Nat}(hl:S l\/w.heap.size<=l)(o:Obj):DW S w (w'.putObj l o) :=
 ⟨h.os,h.tape,h.output,by simpa using h.size,λi hi a=>(World.putObj_heap_other (λe=>by
  subst e;rcases hl with x|x
  ·exact a x
  ·omega)).trans (h.block i hi a)⟩
def UO{F:Fence}{n:Nat}{g:Operand}{c:Array Tmp}{assign body:Code}{a:Act}(d:F.round=none)(h1:1<=n){gf:Nat}{lb:Array Value}(hg:a.eval g = .func (.func gf) #[] lb)
  (e:F.fn gf) (eg:∀args w,(callFunc gf args).run P w = .ok (.enter gf args) w)
  (h:∀fn,F.fn fn->CallsIn F (n-1) P gf (#[.func (.yield (w.heap.size+1)) #[] #[]]++lb) ((w.alloc (.deferred (some []))).alloc (.loop { state:=.ready,pending:=none,fn:=fn,tmps:=a.tmps,params:=c,assign:=assign,body:=body,defers:=w.heap.size }))
   (rangePost F n P (w.heap.size+1) Q { a with defers:=[{ target:=.collected w.heap.size,args:=#[] }]++a.defers })) :
  (Code.rangeFunc g c assign body).wpIn F n P Q a w:=by
 refine wpIn_rangeFunc λfn f=>⟨_,_,_,{ target:=.fn (.func gf) lb,args:=#[.func (.yield (w.heap.size+1)) #[] #[]] },(w.alloc (.deferred (some []))).alloc (.loop { state:=.ready,pending:=none,fn:=fn,tmps:=a.tmps,params:=c,assign:=assign,body:=body,defers:=w.heap.size }),gf,_,_,by rw[d];exact run_enterLoop_outer _ _ _ _ _,?_,?_,?_,λ_=>h1,h fn f⟩
 ·simp only[resolve,hg];simp[go_sem]
 ·intro f' b;simp[Target.leads]at b;subst b;exact e
 ·simp[invoke,go_sem,eg]
variable{base e sz:Nat}{v:Value}{xs:List Value}
def U3{n:Nat}(h:w.ownsRow base e sz v n xs):∀g,v.ownBlock=some g->g<w.heap.size:=by
 intro g hg;rcases h.2 with⟨rfl,rfl⟩|⟨g',cap,cur,rfl,_,h0,h1,h2,_⟩
 ·cases hg
 ·simp[Value.ownBlock]at hg;subst hg;exact(AI.1 h0).1
def T1(rs:zC)(k:Nat)(hk:k<=rs.length):(Ey rs k).map (·.2)=rs.reverse.take k:=by
 apply List.ext_getElem
 ·simp[Ey,hk]
 ·intro i h1 h2;have hi:i<rs.length:=by simp[Ey]at h1;omega
  simp[Ey,Da,DY,Ai,List.getElem_reverse,show rs.length-1-i<rs.length by omega]
variable{X:World}{rs:zC}
def dM{l:zC}(h:X.ownsRow 0 214 2 v l.length (zo l))(a:∀i,i<rs.length->Da rs i<18446744073709551616/\DY rs i<18446744073709551616)(b:∀x∈l,x∈rs):RR X v l:=by
 refine FG.rr ⟨h,λi hi=>?_⟩;have hx:(Da l i,DY l i)∈l:=by
  have:l[i]?=some (Da l i,DY l i):=by simp[Da,DY,Ai,AJ hi]
  exact Ac this
 obtain⟨j,c⟩:=Cu (b _ hx);have d:=(AM.1 c).1;have:=a j d;have e1:Da rs j=Da l i:=by unfold Da at *;simp[Ai,c]
 have e2:DY rs j=DY l i:=by unfold DY at *;simp[Ai,c]
 omega
end
section
open Go.RowKit Go.Proofs.Tryz Go.Shelf
attribute [local go_sem] Oper.semAt_some
structure Lk(w:World)(rec:Loop)(pre:zC)(v:Value)(X:World):Prop where
 mod:DW DX w X
 bx:Boxed X w.heap.size 63 v
 own:X.ownsRow 0 214 2 v pre.length (zo pre)
 new:∀g,v.ownBlock=some g->w.heap.size<=g
 df:X.heap[w.heap.size+1]?=some (.deferred (some []))
 rc:X.heap[w.heap.size+2]?=some (.loop rec)
variable{w:World}
def Lk.own_from{d:Loop}:OwnFrom (w.heap.size+3) (λpre X=>∃v,Lk w d pre v X):=by
 rintro pre A B row ⟨v,h⟩ hg f;refine⟨v,?_⟩;have b:∀k,k<w.heap.size+3->some k≠row:=λk hk e=>by have:=(f k e.symm).1;omega
 have l:=(DW.refl _ _).grown hg (λk hk=>.inl hk);refine⟨h.mod.then l (λi hi=>.inr (by have:=(f i hi).1;omega)),h.bx.kept hg (b _ (by omega)),l.owns h.own (λg a hx=>?_),h.new,?_,?_⟩
 ·obtain⟨_,o,ho,j⟩:=f g hx;rcases h.own.2 with⟨e,_⟩|⟨g',cap,cur,e,_,c,_⟩
  ·rw[e]at a;cases a
  ·rw[e]at a;simp[Value.ownBlock]at a;subst a;rw[ho]at c;cases c;cases j
 ·exact(hg.block _ (AI.1 h.df).1 (b _ (by omega))).trans h.df
 ·exact(hg.block _ (AI.1 h.rc).1 (b _ (by omega))).trans h.rc
def PX(rs:zC)(w:World)(e:Ending)(W':World):Prop :=
 ∃v,e = .returned v/\W'.ownsRow 0 214 2 v rs.length (zo rs.reverse)/\(∀g,v.ownBlock=some g->w.heap.size<=g)/\DW DX w W'
def dL(F:Fence)(n:Nat)(M:∀f,F.fn f)(U:F.round=none)(hn:7<=n)(rs:zC)(fl most b sB:Nat)(v:Value)(w:World)(h:ET w b 0 v rs fl most)(ak:∀i,i<rs.length->Da rs i<18446744073709551616/\DY rs i<18446744073709551616)(al:w.cell? ⟨sB,0,none⟩=some (.pointer (some ⟨b,0,none⟩))):CallsIn F n prog 195 #[.slice none 0 0,.func (.func 193) #[] #[.pointer (some ⟨sB,0,none⟩)]] w (PX rs w):=by
 obtain⟨a,cap,rfl,o1,o2,o3⟩:=zi h.own;have hbw:=zk h.cl;have hsw:=zk al;have am:∀g o,a=some ⟨g,o,none⟩->g<w.heap.size:=λg o e=>U3 h.own g (by rw[e];rfl)
 have aE:=FG.rr ⟨h.own,ak⟩;have aF:=h.cl;have aT:=h.len;clear h;have h1:1<=n:=by omega
 refine callsIn_of_wp_marks func195 rfl (M _) ?_ U;simp only[ntmps195,Al,AQ,AX,Nat.reduceAdd,Nat.reduceSub,A8,A7,BG,BB,Am,BI];gi_wp2;refine UO U h1 (gf:=193) (lb:=#[.pointer (some ⟨sB,0,none⟩)]) rfl (M _) (enters_of func193 (by kernel_rfl) rfl) ?_;intro fn hf;generalize hrec:Loop.mk .ready none fn _ _ _ _ _=rec;have V:(w.alloc (.cells #[.slice none 0 0] 63)).heap.size=w.heap.size+1:=by simp
 rw[V]at hrec ⊢;have e12:w.heap.size+1+1=w.heap.size+2:=rfl;obtain⟨W1,r⟩:=nm (((w.alloc (.cells #[.slice none 0 0] 63)).alloc (.deferred (some []))).alloc (.loop rec));have m1:DW DX w W1:=by rw[<-r];exact(((DW.refl _ _).alloc _).alloc _).alloc _
 have aG:W1.heap.size=w.heap.size+3:=by rw[<-r];simp
 have bs:=m1.cell (a:=⟨sB,0,none⟩) id al;have bx:Boxed W1 w.heap.size 63 (.slice none 0 0):=by
  rw[<-r];exact((Boxed.new w _ _).alloc _).alloc _
 have aH:W1.heap[w.heap.size+1]?=some (.deferred (some [])):=by
  rw[<-r];have:=World.alloc_heap_new (w.alloc (.cells #[.slice none 0 0] 63)) (.deferred (some []));rw[V]at this;exact(Below.heap_alloc _ _ _ (by simp)).trans this
 have aI:W1.heap[w.heap.size+2]?=some (.loop rec):=by
  rw[<-r];have:=World.alloc_heap_new ((w.alloc (.cells #[.slice none 0 0] 63)).alloc (.deferred (some []))) (.loop rec);rw[World.size_alloc,V]at this;exact this
 rw[r];have aJ:Lk w rec [] (.slice none 0 0) W1:=⟨m1,bx,World.ownsRow_nil _ 0 _ 2,(λg hg=>by cases hg),aH,aI⟩;clear r;have W:=A0 Loop.assign hrec.symm;dsimp only at W;have Y:=A0 Loop.body hrec.symm;dsimp only at Y;have Z:=A0 Loop.tmps hrec.symm;dsimp only at Z;have an:rec.params=#[7]:=by rw[<-hrec]
 have ao:rec.state = .ready:=by rw[<-hrec]
 have ap:rec.pending=none:=by rw[<-hrec]
 have aq:=zb ap;have aK:=zb W;have aL:=zb Y;have aM:=zb Z;have ar:=zb an;have aa:=zb ao;clear hrec W Y Z an ao ap;refine(Xt F (n-1) M U (by omega) (w.heap.size+2) sB b w.heap.size cap a rs
  (λpre X=>∃v,Lk w rec pre v X)
  (λ_ _=>False) W1 ?hY ?hJ ?hJx bs (m1.cell (a:=⟨b,0,none⟩) id aF) (aE.mod m1 (Dl.no _)) (by omega) (by omega) (λg o e=>by have:=am g o e;omega) ⟨_,aJ⟩).mono ?post
 case hJ=>rw[aG];exact Lk.own_from
 case hJx=>intro _ _ _ _ x;exact x.elim
 case hY =>
  rintro m pre x X ⟨v,z⟩ hlt;have hpl:pre.length<=1099511627776:=by omega
  have L:=zb z;have aN:=(AI.1 z.rc).1;refine⟨_,_,_,_,run_yield z.rc (by rw[ar.z];rfl),roundIn_of_wpIn (M _) ?_⟩;rw[aK.z,aL.z,aM.z,ar.z];unfold K9;clear z;gi_wp2;have au:(X.alloc (.cells #[.int .u64 x.1,.int .u64 x.2] 214)).heap[w.heap.size+2]?=some (.loop rec):=(Below.heap_alloc _ _ _ aN).trans L.z.rc;refine⟨_,run_beginRound au aa.z,?_⟩;obtain⟨j,d⟩:∃j,(X.alloc (.cells #[.int .u64 x.1,.int .u64 x.2] 214)).putObj (w.heap.size+2) (.loop { rec with state:=.busy })=j:=⟨_,rfl⟩;have m2:DW (λk=>k=w.heap.size\/k=w.heap.size+2\/v.ownBlock=some k) X j:=by
   rw[<-d];exact((DW.refl (λk=>k=w.heap.size\/k=w.heap.size+2\/v.ownBlock=some k) _).alloc _).putObj (.inl (.inr (.inl rfl))) _
  have B:j.heap[w.heap.size+2]?=some (.loop { rec with state:=.busy }):=by
   rw[<-d];exact World.putObj_heap_same (by simp;omega)
  have ab:j.heap[X.heap.size]?=some (.cells #[.int .u64 x.1,.int .u64 x.2] 214 (0,0)):=by
   rw[<-d];exact(World.putObj_heap_other (by omega)).trans (heap_alloc_new X _)
  have ac:∀k,k<X.heap.size->k≠w.heap.size+2->j.heap[k]?=X.heap[k]?:=λk hk hn=>by
   rw[<-d];exact(World.putObj_heap_other hn).trans (Below.heap_alloc _ _ _ hk)
  have av:DW (λk=>k=w.heap.size+2) X j:=by
   rw[<-d];exact((DW.refl (λk=>k=w.heap.size+2) X).alloc _).putObj (.inl rfl) _
  rw[d];have N:Boxed j w.heap.size 63 v:=(ac _ (by omega) (by omega)).trans L.z.bx;have O:=(ac _ (by omega) (by omega)).trans L.z.df;have A:=av.owns L.z.own (λg hg e=>by
   have e:=e;subst e;rcases L.z.own.2 with⟨e,_⟩|⟨g',cp,C,e,_,c,_⟩
   ·rw[e]at hg;cases hg
   ·rw[e]at hg;simp[Value.ownBlock]at hg;rw[hg,L.z.rc]at c;cases c)
  have ad:=L.z.new;have D:∀k,v.ownBlock=some k->Iw w.heap.size (w.heap.size+2) a X k:=λk hk=>by
   refine .inr (.inr ⟨λg o e=>by have:=am g o e;have:=ad k hk;omega,?_⟩);rcases L.z.own.2 with⟨e,_⟩|⟨g',cp,C,e,_,c,_⟩
   ·rw[e]at hk;cases hk
   ·rw[e]at hk;simp[Value.ownBlock]at hk;subst hk;exact⟨_,_,c⟩
  have hs2:=m2.size;obtain⟨va,vc,rfl,_⟩:=zi A;obtain⟨v3,W3,ae,E,G,aw⟩:=Rl j (.slice va pre.length vc) pre x.1 x.2 A (by omega);have Q:∀k,k=w.heap.size\/k=w.heap.size+1\/k=w.heap.size+2->some k≠(Value.slice va pre.length vc).ownBlock:=λk hk e=>by
   rcases A.2 with⟨s,_⟩|⟨g',cp,C,s,_,c,_⟩
   ·rw[s]at e;cases e
   ·rw[s]at e;simp[Value.ownBlock]at e;subst e;rcases hk with rfl|rfl|rfl
    ·rw[show j.heap[w.heap.size]?=_ from N]at c;simp at c
    ·rw[O]at c;cases c
    ·rw[B]at c;cases c
  have H:=N.kept G (Q _ (.inl rfl));have af:=(G.block _ (AI.1 O).1 (Q _ (.inr (.inl rfl)))).trans O;have ah:=(G.block _ (AI.1 B).1 (Q _ (.inr (.inr rfl)))).trans B;have m3:=m2.grown G (λk hk=>.inl (.inr (.inr hk)));have m4:=m3.setCell (p:=⟨w.heap.size,0,none⟩) (.inl (.inl rfl)) v3;have I:=H.set v3;have J:DW (λk=>k=w.heap.size) W3 (W3.setCell ⟨w.heap.size,0,none⟩ v3):=(DW.refl (λk=>k=w.heap.size) W3).setCell (p:=⟨w.heap.size,0,none⟩) (.inl rfl) _;have R:=(J.block _ (AI.1 ah).1 (by omega)).trans ah;have S:=(J.block _ (AI.1 af).1 (by omega)).trans af;have l:(W3.setCell ⟨w.heap.size,0,none⟩ v3).ownsRow 0 214 2 v3 (pre++[x]).length (zo (pre++[x])):=J.owns E (λg hg e=>by
   have e:=e;subst e;rcases E.2 with⟨s,_⟩|⟨g',cp,C,s,_,c,_⟩
   ·rw[s]at hg;cases hg
   ·rw[s]at hg;simp[Value.ownBlock]at hg;rw[hg,show W3.heap[w.heap.size]?=_ from H]at c;simp at c)
  have u:∀g,v3.ownBlock=some g->w.heap.size<=g:=λg hg=>by
   rcases aw g hg with q|q
   ·exact ad g q
   ·omega
  obtain⟨vb,vd,rfl,_⟩:=zi l;have y:(pre++[x]).length=pre.length+1:=by simp
  rw[y]at ae;have bxc:=H.cell;have bxf:=H.frozen;have T:=I.cell;have aU:=N.cell;have r20:j.cell? ⟨X.heap.size,0,none⟩=some (.int .u64 x.1):=za ab rfl;have r21:j.cell? ⟨X.heap.size,1,none⟩=some (.int .u64 x.2):=za ab rfl;rw[y]at m4 I J R S l u T;obtain⟨X4,aO⟩:=nm (W3.setCell ⟨w.heap.size,0,none⟩ (.slice vb (pre.length+1) vd));rw[aO]at m4 I R S l T;have aP:AA (DW (Iw w.heap.size (w.heap.size+2) a X) X X4):=m4.mono (λk hk=>.inl (by
   rcases hk with hk|hk|hk
   ·exact .inl hk
   ·exact .inr (.inl hk)
   ·exact D k hk))
  have ai:AA (DW DX w X4):=L.z.mod.then m4 (λk hk=>.inr (by
   rcases hk with hk|hk|hk
   ·omega
   ·omega
   ·exact ad k hk))
  have hwX:=L.z.mod.size;have ax:=zb I;have aj:=zb R;have aQ:=zb S;have ay:=zb l;have az:=zb u;clear m4 I J R S l u E G aw Q D ac av m2 m3 B O ah af N H A d ab au
  gi_wp2_with (gi_at_builtin;refine jL rfl _ _ _ _ rfl _ _ _ rfl rfl ae ?_;clear ae)
  refine⟨_,_,run_endRound none aj.z,aP.z.putObj (.inl (.inr (.inl rfl))) _,rfl,.slice vb (pre.length+1) vd,?_⟩;have aA:=(AI.1 aj.z).1;have mp:=λo=>(DW.refl (λk=>k=w.heap.size+2) X4).putObj (.inl rfl) o
  have aR:∀g,(Value.slice vb (pre.length+1) vd).ownBlock=some g->¬g=w.heap.size+2:=λg hg e=>by
   subst e;rcases ay.z.2 with⟨e,_⟩|⟨g',cp,C,e,_,c,_⟩
   ·rw[e]at hg;cases hg
   ·rw[e]at hg;simp[Value.ownBlock]at hg;rw[hg,aj.z]at c;cases c
  refine⟨ai.z.putObj (.inr (by omega)) _,(World.putObj_heap_other (by omega)).trans ax.z,by rw[y];exact(mp _).owns ay.z aR,az.z,(World.putObj_heap_other (by omega)).trans aQ.z,?_⟩;rw[World.putObj_heap_same aA];have aB:=aq.z;have aC:=aa.z;cases rec;simp only at aB aC;subst aB;subst aC;rfl
 case post =>
  rintro e X ⟨⟨v0,rfl⟩,⟨v,z⟩|⟨k,hk,hx⟩⟩
  ·have K:=run_endLoop (P:=prog) z.rc (by rw[aa.z];simp);rw[aq.z]at K;refine⟨none,_,K,?_⟩;clear K;obtain⟨j,d⟩:∃j,X.putObj (w.heap.size+2) (.loop { rec with state:=.exhausted,pending:=none })=j:=⟨_,rfl⟩;have hm:DW (λk=>k=w.heap.size+2) X j:=by rw[<-d];exact(DW.refl (λk=>k=w.heap.size+2) _).putObj (.inl rfl) _
   have hb:=hm.cell (a:=⟨w.heap.size,0,none⟩) (by simp) z.bx.cell;have hd:=hm.obj (by simp) z.df;have ho:=hm.owns z.own (λg hg e=>by
    have e:=e;subst e;rcases z.own.2 with⟨s,_⟩|⟨g',cp,C,s,_,c,_⟩
    ·rw[s]at hg;cases hg
    ·rw[s]at hg;simp[Value.ownBlock]at hg;rw[hg,z.rc]at c;cases c)
   have HX2:=zb d;have ai:=zb (z.mod.then hm (λi hi=>.inr (by omega)));have HO:=zb ho;have HN:=zb z.new;rw[d];clear hm z ho d;gi_wp2;refine⟨by simp,.inl ⟨_,_,rfl,run_takeDeferred hd,?_⟩⟩;have aS:(Ey rs rs.length).map (·.2)=rs.reverse:=by rw[T1 rs rs.length (AG _),AW (by simp)]
   have B:rs.reverse.length=rs.length:=by simp
   rw[aS]at HO;refine⟨_,results_tmp (t:=4) rfl _ _ _,v,rfl,?_,HN.z,ai.z.putObj (.inr (by omega)) _⟩;have aD:=((DW.refl (λk=>k=w.heap.size+1) j).putObj (.inl rfl) (.deferred none)).owns HO.z (λg hg e=>by
    have e:=e;subst e;rcases HO.z.2 with⟨s,_⟩|⟨g',cp,C,s,_,c,_⟩
    ·rw[s]at hg;cases hg
    ·rw[s]at hg;simp[Value.ownBlock]at hg;rw[hg,hd]at c;cases c)
   rw[B]at aD;exact aD
  ·exact hx.elim
def eF(F:Fence)(n:Nat)(a:∀f,F.fn f)(c:F.round=none)(hn:8<=n)(rs:zC)(fl most b g:Nat)(v:Value)(w:World)(h:ET w b 0 v rs fl most)(d:∀i,i<rs.length->Da rs i<18446744073709551616/\DY rs i<18446744073709551616)(j:w.cell? ⟨g,0,none⟩=some (.pointer (some ⟨b,0,none⟩))):CallsIn F n prog 143 #[.func (.func 193) #[] #[.pointer (some ⟨g,0,none⟩)]] w (PX rs w):=by
 have k:=dL F (n-1) a c (by omega) rs fl most b g v w h d j;have K:=zb k;have h1:1<=n:=by omega
 clear h k;refine callsIn_of_wp func143 rfl (a _) ?_ c;simp only[ntmps143,Al,AQ,AX,Nat.reduceAdd,Nat.reduceSub,A8,A7,BG,BB,Am,BI]
 gi_wp2_with (gi_at_call 195;refine K.z.mono ?_;rintro e w' ⟨v',rfl,ho,l,hm⟩)
 go_ret;exact⟨v',rfl,ho,l,hm⟩
def g9(rs:zC)(fl most b c:Nat)(v:Value)(w:World)(h:ET w b 0 v rs fl most)(a:∀i,i<rs.length->Da rs i<18446744073709551616/\DY rs i<18446744073709551616)(d:w.cell? ⟨c,0,none⟩=some (.pointer (some ⟨b,0,none⟩))):Calls prog 143 #[.func (.func 193) #[] #[.pointer (some ⟨c,0,none⟩)]] w (PX rs w) :=
 (callsIn_wide (n:=8)).1 (eF Fence.wide 8 (λ_=>trivial) rfl (AG _) rs fl most b c v w h a d)
def dK(b:Nat)(w:World):Calls prog 141 #[.pointer (some ⟨b,0,none⟩)] w λe w'=>e = .returned (.func (.func 193) #[] #[.pointer (some ⟨w.heap.size,0,none⟩)])/\w'=w.alloc (.cells #[.pointer (some ⟨b,0,none⟩)] 114) :=
 (callsIn_wide (n:=8)).1 (U5 Fence.wide 8 trivial rfl b w)
end
section
open Go.RowKit Go.Proofs.Tryz
def Iv(w:World)(rb:Nat):Nat:=match w.cell? ⟨rb,1,none⟩with
 | some (.int _ n)=>n.toNat
 | _=>0
variable{pos rb:Nat}{v:Value}{w:World}
def Nk(h:D7 w rb v pos):Iv w rb=pos:=by
 unfold Iv;rw[h.c1];simp
def OZ(w wr:World)(rb fb:Nat)(v:Value)(b:Bool)(bs:List UInt8)(hi n size:Nat)(R:Option (zC×Nat)):Prop :=
 ∃fuel pos acc rv,D7 wr rb v pos/\zj wr fb { f0 2 b with rngs:=acc } rv/\wr.ownsRow 0 214 2 rv acc.length (zo acc)/\(∀g,rv.ownBlock=some g->w.heap.size<=g) /\
  (∀i,i<acc.length->Da acc i<18446744073709551616/\DY acc i<18446744073709551616)/\pos<=bs.length/\bs.length-pos<fuel/\acc.length<=pos/\DW (Gr rb fb) w wr /\
  hi<4611686018427387904/\n<4611686018427387904/\size<4611686018427387904/\ID bs fuel hi n size pos acc=R
variable{hi lo:Nat}
def iH{a:zC}(h:∀i,i<a.length->Da a i<18446744073709551616/\DY a i<18446744073709551616)(h1:lo<18446744073709551616)(h2:hi<18446744073709551616):∀i,i<(a++[(lo,hi)]).length->Da (a++[(lo,hi)]) i<18446744073709551616/\DY (a++[(lo,hi)]) i<18446744073709551616:=by
 intro i c;by_cases b:i<a.length
 ·have:=h i b;unfold Da DY at this ⊢;rw[Ai,Ag b,<-List.getD_eq_getElem?_getD];exact this
 ·have:i=a.length:=by simp at c;omega
  subst this;simp[Da,DY,h1,h2]
variable{e g m o sz:Nat}{xs:List Value}
def dI{n c:Nat}(h:w.ownsRow 0 e sz v n xs)(a:v = .slice (some ⟨g,o,none⟩) m c):v.ownBlock=some g:=by
 rcases h.2 with⟨rfl,_⟩|⟨g',cap,cur,rfl,_⟩
 ·cases a
 ·cases a;rfl
variable{b:Nat}{f:Db}{rv:Value}
def UW{n:Nat}(h:w.ownsRow 0 214 2 v n xs)(hf:zj w b f rv):¬v.ownBlock=some b:=by
 intro hb;rcases h.2 with⟨rfl,_⟩|⟨g,cap,cur,rfl,_,hg,_⟩
 ·cases hb
 ·simp[Value.ownBlock]at hb;subst hb;unfold zj at hf;rw[hg]at hf;simp at hf
variable{v':Value}
def UQ{n:Nat}(h:w.ownsRow 0 214 2 v n xs)(hf:D7 w b v' pos):¬v.ownBlock=some b:=by
 intro hb;rcases h.2 with⟨rfl,_⟩|⟨g,cap,cur,rfl,_,hg,_⟩
 ·cases hb
 ·simp[Value.ownBlock]at hb;subst hb;unfold D7 at hf;rw[hg]at hf;simp at hf
theorem iG(rb fb pos:Nat)(v:Value)(bs:List UInt8)(b:Bool)(w:World)(h:D7 w rb v pos)(hb:BR w v bs)(hv:Dl (Gr rb fb) v)(hp:pos<=bs.length)(hbl:bs.length<=1099511627776)(hf:zj w fb (f0 2 b) (.slice none 0 0))(aj:fb≠rb):Calls prog 174 #[.pointer (some ⟨rb,0,none⟩),.pointer (some ⟨fb,0,none⟩)] w (JL w rb v fb (Ez b bs pos)):=by
 have ak:Dl (EJ rb) v:=λg o n c e a=>hv g o n c e (.inl a)
 have aA:=zb (DW.refl (EJ rb) w);have Hb:=zb hb;have Hf:=zb hf;have V:=zb ak;have al:=zb hv;have W:=zb aj;clear hb hv hf ak aj;have c1:=zW rb pos v bs w h (Hb.z) V.z hp;cases hr1:Ds bs pos with
 | none =>
  rw[hr1]at c1;have t:AA (Ez b bs pos=none):=by
   show _=_;unfold Ez;simp only[hr1,AU,BJ]
  clear hr1;go_enter func174,ntmps174;go_wp2_with (go_at_call 127;refine c1.mono ?_;rintro e w' (⟨_,_,a,_⟩|⟨_,l,A⟩);cases a;unfold D2 at l;subst l);exact⟨rfl,.inr ⟨t.z,rfl,EV (A)⟩⟩
 | some q1 =>
  obtain⟨x1,p1⟩:=q1;rw[hr1]at c1;have aB:=Hi hr1;have am:=(zV hr1).2.2;have X:=zb hr1;clear hr1;go_enter func174,ntmps174;go_wp2_with fail;refine c1.mono ?_;rintro e w1 (⟨_,_,a,rfl,h1,m1⟩|⟨a,_⟩);rotate_left
  ·cases a
  simp only[Ay,Ax,BF]at a;obtain⟨rfl,rfl⟩:=a;have Y:=zb (aA.z.trans m1);clear c1 m1;have c2:=zW rb p1 v bs w1 h1 (Hb.z.mod Y.z V.z) V.z aB;cases hr2:Ds bs p1 with
  | none =>
   rw[hr2]at c2;have t:AA (Ez b bs pos=none):=by
    show _=_;unfold Ez;simp only[X.z,hr2,AU,BJ]
   clear hr2;go_wp2_with (go_at_call 127;refine c2.mono ?_;rintro e w' (⟨_,_,a,_⟩|⟨_,l,A⟩);cases a;unfold D2 at l;subst l);exact⟨rfl,.inr ⟨t.z,rfl,EV (Y.z.trans A)⟩⟩
  | some q2 =>
   obtain⟨x2,p2⟩:=q2;rw[hr2]at c2;have aC:=Hi hr2;have an:=(zV hr2).2.2;have ao:=zb hr2;clear hr2;go_wp2_with fail;refine c2.mono ?_;rintro e w2 (⟨_,_,a,rfl,h2,m2⟩|⟨a,_⟩);rotate_left
   ·cases a
   simp only[Ay,Ax,BF]at a;obtain⟨rfl,rfl⟩:=a;have Z:=zb (Y.z.trans m2);clear c2 m2;have c3:=zW rb p2 v bs w2 h2 (Hb.z.mod Z.z V.z) V.z aC;cases hr3:Ds bs p2 with
   | none =>
    rw[hr3]at c3;have t:AA (Ez b bs pos=none):=by
     show _=_;unfold Ez;simp only[X.z,ao.z,hr3,AU,BJ]
    clear hr3;go_wp2_with (go_at_call 127;refine c3.mono ?_;rintro e w' (⟨_,_,a,_⟩|⟨_,l,A⟩);cases a;unfold D2 at l;subst l);exact⟨rfl,.inr ⟨t.z,rfl,EV (Z.z.trans A)⟩⟩
   | some q3 =>
    obtain⟨x3,p3⟩:=q3;rw[hr3]at c3;have aD:=Hi hr3;have ap:=(zV hr3).2.2;have aE:=zb hr3;clear hr3;go_wp2_with fail;refine c3.mono ?_;rintro e w3 (⟨_,_,a,rfl,h3,m3⟩|⟨a,_⟩);rotate_left
    ·cases a
    simp only[Ay,Ax,BF]at a;obtain⟨rfl,rfl⟩:=a;have aq:=zb (Z.z.trans m3);clear c3 m3;obtain⟨R,D⟩:=nm (ID bs (bs.length+1) x1 x2 x3 p3 []);have hA:OZ w w3 rb fb v b bs x1 x2 x3 R:=⟨bs.length+1,p3,[],.slice none 0 0,h3,Hf.z.mod aq.z W.z,World.ownsRow_nil w3 0 _ 2,(λg hg=>by cases hg),(λi hi=>absurd hi (BA i)),aD,by omega,AL _,EV aq.z,am,an,ap,D⟩;have HA:=zb hA;have B:AA (Ez b bs pos=R.bind λr=>some ({ f0 2 b with rngs:=r.1 },r.2)):=by
     show _=_;unfold Ez;simp only[X.z,ao.z,aE.z,AU,D]
    clear hA D h3 h2 h1 h am an ap;go_wp2_with fail
    go_loopw [4,5,6,7,8] (λhi n size _ _ wr=>∃hi' n' size':Nat,hi = .int .u64 hi'/\n = .int .u64 n'/\size = .int .u64 size'/\OZ w wr rb fb v b bs hi' n' size' R) (λ_ _ _ _ _ wr=>bs.length-Iv wr rb)
    case atStart=>exact⟨x1,x2,x3,rfl,rfl,rfl,HA.z⟩
    case round =>
     obtain⟨hi,n,size,rfl,rfl,rfl,fuel,q,d,rv,E,x,m,F,aa,hq,hfu,hal,A,b1,b2,b3,D⟩:=hrel;obtain⟨fuel,rfl⟩:∃f,fuel=f+1:=⟨fuel-1,by omega⟩;unfold ID at D;have aF:=zb E;have Hfr:=zb x;have aM:=zb m;have P:=zb F;have aG:=zb aa;have Hm:=zb A;by_cases d1:hi<size
     ·rw[AN d1]at D;have t:AA (Ez b bs pos=none):=by show _=_;rw[B.z,<-D];rfl
      clear D E x m F aa A;go_wp2_with (go_at_call 128;refine(I7 _ _).mono ?_;rintro e w' ⟨l,rfl⟩;unfold D2 at l;subst l);exact⟨rfl,.inr ⟨t.z,rfl,Hm.z⟩⟩
     ·rw[AH d1]at D;have z1:IntKind.u64.wrap ((hi:Int)-size)=((hi-size:Nat):Int):=by rw[IntKind.wrap_u64];omega
      obtain⟨lo,ab⟩:=nm (hi-size);rw[ab]at z1 D;have hlh:lo<=hi:=by omega
      obtain⟨k0,k1,k2,k3,k4,k5,k6,k7,k8,k9⟩:=x.cells;have hfz:∀j,wr.frozen? ⟨fb,j,none⟩=false:=λj=>zf x
      obtain⟨v2,W2,hr2,G,ar,au⟩:=Rl wr rv d lo hi m (by omega);obtain⟨ra,rc,rfl,_⟩:=zi m;have av:=zb D;have ac:=UW m x;have ad:=UQ m E;have mg:=(DW.refl _ _).grown ar (λk hk=>.inl hk);have z:=x.mod mg ac;have Q:=E.mod mg ad;have c9':=z.cells.2.2.2.2.2.2.2.2.2;have aN:∀j,W2.frozen? ⟨fb,j,none⟩=false:=λj=>zf z
      obtain⟨a2,c2,rfl,_⟩:=zi G;have H:=zb G;have S:=zb z;have aw:=zb Q;have aH:=zb mg;have ax:=zb au;have Hlo:=zb ab;clear D E x m F aa A G ar au mg z Q ab;obtain⟨W3,ae⟩:=nm (W2.setCell ⟨fb,9,none⟩ (.slice a2 (d.length+1) c2));have I:(d++[(lo,hi)]).length=d.length+1:=by simp
      have M:DW (λk=>k=fb) W2 W3:=by rw[<-ae];exact(DW.refl (λk=>k=fb) W2).setCell (p:=⟨fb,9,none⟩) (.inl rfl) _
      have J:=zb (aw.z.mod M (λe=>W.z e.symm));have T:AA (zj W3 fb { f0 2 b with rngs:=d++[(lo,hi)] } (.slice a2 (d.length+1) c2)):=by
       show zj _ _ _ _;rw[<-ae];exact S.z.set rfl
      have s:AA (W3.ownsRow 0 214 2 (.slice a2 (d.length+1) c2) (d++[(lo,hi)]).length (zo (d++[(lo,hi)]))):=by
       show World.ownsRow _ _ _ _ _ _ _;have:=M.owns H.z (λg hg e=>UW H.z S.z (by rw[hg,e]));rw[I]at this ⊢;exact this
      have N:AA (DW (Gr rb fb) w W3):=(Hm.z.then aH.z (λi hi=>.inr (P.z i hi))).then M (λi hi=>.inl (.inr hi));have K:AA (∀g,(Value.slice a2 (d.length+1) c2).ownBlock=some g->w.heap.size<=g):=by
       intro g hg;have aI:Dy wr (Value.slice ra d.length rc) (.slice a2 (d.length+1) c2):=by rw[<-I];exact ax.z
       rcases aI g hg with h1|h1
       ·exact P.z g h1
       ·have:=Hm.z.size;omega
      have U:=zb (iH aG.z (show lo<18446744073709551616 by omega) (show hi<18446744073709551616 by omega));have ay:=Hb.z.mod N.z al.z;have C:=zW rb q v bs W3 J.z ay V.z hq;clear M I ay;by_cases hn:n=0
      ·have t:AA (Ez b bs pos=some ({ f0 2 b with rngs:=d++[(lo,hi)] },q)):=by
        show _=_;have:=av.z;rw[AN hn]at this;rw[B.z,<-this];rfl
       have aJ:((n:Int)==0)=true:=by simp[hn]
       clear hn C;go_wp2_with (at_builtin;refine zm rfl _ _ _ _ rfl _ _ _ rfl rfl hr2 ?_);refine bodyPost_ret (results_none rfl _ _ _) rfl (.inl ⟨_,_,q,t.z,rfl,J.z,T.z,?_,?_,N.z⟩)
       ·exact⟨s.z,U.z⟩
       ·intro g o n' c' e;cases e;exact K.z g (dI s.z rfl)
      ·have aJ:((n:Int)==0)=false:=by rw[AR];omega
       have z2:IntKind.u64.wrap ((n:Int)-1)=((n-1:Nat):Int):=by rw[IntKind.wrap_u64];omega
       have u:=av.z;rw[AH hn]at u;have u:=zb u;cases hg1:Ds bs q with
       | none =>
        rw[hg1]at C;have t:AA (Ez b bs pos=none):=by
         show _=_;have:=u.z;rw[hg1]at this;rw[B.z,<-this];rfl
        clear hg1 hn;go_wp2_with (first|(at_builtin;refine zm rfl _ _ _ _ rfl _ _ _ rfl rfl hr2 ?_)|(go_at_call 127;refine C.mono ?_;rintro e w' (⟨_,_,a,_⟩|⟨_,l,A⟩);cases a;unfold D2 at l;subst l));exact⟨rfl,.inr ⟨t.z,rfl,N.z.then (EV A) (λi hi=>.inl hi)⟩⟩
       | some q1 =>
        obtain⟨y,p4⟩:=q1;obtain⟨u1,u2,u3⟩:=zV hg1;rw[hg1]at C;have O:=zb hg1;clear hg1 hn;go_wp2_with (at_builtin;refine zm rfl _ _ _ _ rfl _ _ _ rfl rfl hr2 ?_);refine C.mono ?_;rintro e w4 (⟨_,_,a,rfl,h4,m4⟩|⟨a,_⟩);rotate_left
        ·cases a
        simp only[Ay,Ax,BF]at a;obtain⟨rfl,rfl⟩:=a;have af:=zb (N.z.then (EV (fb:=fb) m4) (λi hi=>.inl hi));have L:=zW rb p4 v bs w4 h4 (Hb.z.mod af.z al.z) V.z u2;have aK:=zb m4;clear C m4 h4 ae;cases hg2:Ds bs p4 with
        | none =>
         rw[hg2]at L;have t:AA (Ez b bs pos=none):=by
          show _=_;have:=u.z;rw[O.z,AU,hg2]at this;rw[B.z,<-this];rfl
         clear hg2;go_wp2_with (go_at_call 127;refine L.mono ?_;rintro e w' (⟨_,_,a,_⟩|⟨_,l,A⟩);cases a;unfold D2 at l;subst l);exact⟨rfl,.inr ⟨t.z,rfl,af.z.then (EV A) (λi hi=>.inl hi)⟩⟩
        | some q2 =>
         obtain⟨size',p5⟩:=q2;obtain⟨u4,u5,u6⟩:=zV hg2;rw[hg2]at L;have ah:=zb hg2;clear hg2;go_wp2_with fail;refine L.mono ?_;rintro e w5 (⟨_,_,a,rfl,h5,m5⟩|⟨a,_⟩);rotate_left
         ·cases a
         simp only[Ay,Ax,BF]at a;obtain⟨rfl,rfl⟩:=a;have ai:=zb (af.z.then (EV (fb:=fb) m5) (λi hi=>.inl hi));have az:=zb (aK.z.trans m5);have H5:=zb h5;clear L m5 h5;by_cases d2:lo<2
         ·have t:AA (Ez b bs pos=none):=by
           show _=_;have:=u.z;rw[O.z,AU,ah.z,AU,AN (.inl d2)]at this;rw[B.z,<-this];rfl
          have e2:decide ((lo:Int)<2)=true:=by simp;omega
          go_wp2_with (go_at_call 128;refine(I7 _ _).mono ?_;rintro e w' ⟨l,rfl⟩;unfold D2 at l;subst l);exact⟨rfl,.inr ⟨t.z,rfl,ai.z⟩⟩
         ·have e2:decide ((lo:Int)<2)=false:=by simp;omega
          have z3:IntKind.u64.wrap ((lo:Int)-2)=((lo-2:Nat):Int):=by rw[IntKind.wrap_u64];omega
          have Hd2:=zb d2;by_cases d3:lo-2<y
          ·have t:AA (Ez b bs pos=none):=by
            show _=_;have:=u.z;rw[O.z,AU,ah.z,AU,AN (.inr d3)]at this;rw[B.z,<-this];rfl
           have e3:decide (lo-2<y)=true:=by simpa using d3
           clear d2;go_wp2_with (go_at_call 128;refine(I7 _ _).mono ?_;rintro e w' ⟨l,rfl⟩;unfold D2 at l;subst l);exact⟨rfl,.inr ⟨t.z,rfl,ai.z⟩⟩
          ·have e3:decide (lo-2<y)=false:=by simpa using d3
           have z4:IntKind.u64.wrap (((lo-2:Nat):Int)-y)=((lo-2-y:Nat):Int):=by rw[IntKind.wrap_u64];omega
           have aL:AA (OZ w w5 rb fb v b bs (lo-2-y) (n-1) size' R):=by
            refine⟨fuel,p5,d++[(lo,hi)],.slice a2 (d.length+1) c2,H5.z,T.z.mod az.z W.z,az.z.owns s.z (λg hg e=>UQ s.z J.z (by rw[hg,e])),K.z,U.z,u5,by omega,by simp;omega,ai.z,by omega,by omega,u6,?_⟩;have:=u.z;rw[O.z,AU,ah.z,AU,AH (by omega)]at this;exact this
           have HP:AA (Iv w5 rb=p5/\Iv wr rb=q):=⟨Nk H5.z,Nk aF.z⟩;clear d2;go_wp2_with fail;go_roundw
           case rel=>exact⟨lo-2-y,n-1,size',by rfl,by rfl,rfl,aL.z⟩
           case measure =>
            rw[HP.z.1,HP.z.2];omega
def zI(k:Int)(b:Bool)(bs:List UInt8)(pos:Nat):Option (Db×Nat) :=
 if k=1 then some (f0 1 b,pos)
 else if k=2 then Ez b bs pos
 else if k=3 then GO b bs pos
 else if k=4 then Fu b bs pos
 else if k=5 then Fq 5 b bs pos
 else if k=6 then Ft b bs pos
 else if k=7 then GM b bs pos
 else Fq 8 b bs pos
def IW(k:Int)(b:Bool)(bs:List UInt8)(v:Value)(w:World)(e:Ending)(w':World):Prop :=
 ∃cb wv F caps G,e = .returned (.pointer (some ⟨cb,0,none⟩))/\IE w' cb wv (.func (.func F) #[] caps) (.func (.func G) #[] #[])/\EY F/\EY G/\DW DX w w'/\w.heap.size<=cb /\
  (∀rb fb pos,D7 w' rb v pos->BR w' v bs->Dl (Gr rb fb) v->pos<=bs.length->bs.length<=1099511627776->zj w' fb (f0 k b) (.slice none 0 0)->fb≠rb->Calls prog F (#[.pointer (some ⟨rb,0,none⟩),.pointer (some ⟨fb,0,none⟩)]++caps) w' (JL w' rb v fb (zI k b bs pos))) /\
  (∀Y bf f rv,zj Y bf f rv->RR Y rv f.rngs->f.kind=k->f.rngs.length<=1099511627776->f.data.length<=35184372088832->EM f=true->Calls prog G #[.pointer (some ⟨bf,0,none⟩)] Y (IS Y (zN f)))
def Ri:EY 214:=Fb func214 (by kernel_rfl) rfl
def Wl:EY 188:=Fb func188 (by kernel_rfl) rfl
def Wk:EY 190:=Fb func190 (by kernel_rfl) rfl
def Wj:EY 171:=Fb func171 (by kernel_rfl) rfl
def Wi:EY 177:=Fb func177 (by kernel_rfl) rfl
def Wh:EY 182:=Fb func182 (by kernel_rfl) rfl
def Wg:EY 174:=Fb func174 (by kernel_rfl) rfl
def Wf(b:Bool)(bs:List UInt8)(v:Value)(w:World):Calls prog 131 #[.int .i64 1] w (IW 1 b bs v w):=by
 refine(Ml w).mono ?_;rintro e w' ⟨cb,rfl,hc,hm,hb⟩;refine⟨cb,_,171,#[],172,rfl,hc,Wj,II,hm,hb,λrb fb pos h hb hv hp hl hf hne=>by rw[show zI 1 b bs pos=some (f0 1 b,pos)by simp[zI]];exact read1 rb fb pos v b w' h hf,λY bf f rv hf hr hk hn hd hq=>?_⟩;rw[show zN f=(true)by simp[zN,hk]];exact IK _ Y
def We(b:Bool)(bs:List UInt8)(v:Value)(w:World):Calls prog 131 #[.int .i64 2] w (IW 2 b bs v w):=by
 refine(Mj w).mono ?_;rintro e w' ⟨cb,rfl,hc,hm,hb⟩;refine⟨cb,_,174,#[],175,rfl,hc,Wg,Rp,hm,hb,λrb fb pos h hb hv hp hl hf a=>by rw[show zI 2 b bs pos=Ez b bs pos by simp[zI]];exact iG rb fb pos v bs b w' h hb hv hp hl hf a,λY bf f rv hf hr hk hn hd hq=>?_⟩;rw[show zN f=(Eh f.rngs)by simp[zN,hk]];exact T8 bf f rv Y hf hr hn
def Wb(b:Bool)(bs:List UInt8)(v:Value)(w:World):Calls prog 131 #[.int .i64 3] w (IW 3 b bs v w):=by
 refine(Mi w).mono ?_;rintro e w' ⟨cb,rfl,hc,hm,hb⟩;refine⟨cb,_,177,#[],179,rfl,hc,Wi,Rr,hm,hb,λrb fb pos h hb hv hp hl hf a=>by rw[show zI 3 b bs pos=GO b bs pos by simp[zI]];exact MX rb fb pos v bs b w' h hb hv hp hf a,λY bf f rv hf hr hk hn hd hq=>?_⟩;rw[show zN f=(decide (f.rel<=f.off))by simp[zN,hk]];exact Qn bf f rv Y hf
def Wa(b:Bool)(bs:List UInt8)(v:Value)(w:World):Calls prog 131 #[.int .i64 4] w (IW 4 b bs v w):=by
 refine(Mh w).mono ?_;rintro e w' ⟨cb,rfl,hc,hm,hb⟩;refine⟨cb,_,182,#[],184,rfl,hc,Wh,Rq,hm,hb,λrb fb pos h hb hv hp hl hf a=>by rw[show zI 4 b bs pos=Fu b bs pos by simp[zI]];exact MV rb fb pos v bs b w' h hb hv hp hf a,λY bf f rv hf hr hk hn hd hq=>?_⟩;rw[show zN f=(decide (f.data.length+f.off<=4611686018427387903))by simp[zN,hk]];exact Qm bf f rv Y hf (QM hq).1 (by omega)
def WZ(b:Bool)(bs:List UInt8)(v:Value)(w:World):Calls prog 131 #[.int .i64 5] w (IW 5 b bs v w):=by
 refine(Mf w).mono ?_;rintro e w' ⟨cb,tb,ab,rfl,hc,a,hm,hb,_,_⟩;refine⟨cb,_,_,_,172,rfl,hc,Ri,II,hm,hb,λrb fb pos h hb hv hp hl hf c=>by rw[show zI 5 b bs pos=Fq 5 b bs pos by simp[zI]];exact Rn rb fb ab pos 5 v bs b w' h hb hv hp hf c a.2,λY bf f rv hf hr hk hn hd hq=>?_⟩;rw[show zN f=(true)by simp[zN,hk]];exact IK _ Y
def WY(b:Bool)(bs:List UInt8)(v:Value)(w:World):Calls prog 131 #[.int .i64 6] w (IW 6 b bs v w):=by
 refine(Me w).mono ?_;rintro e w' ⟨cb,rfl,hc,hm,hb⟩;refine⟨cb,_,188,#[],172,rfl,hc,Wl,II,hm,hb,λrb fb pos h hb hv hp hl hf a=>by rw[show zI 6 b bs pos=Ft b bs pos by simp[zI]];exact MU rb fb pos v bs b w' h hb hv hp hf a,λY bf f rv hf hr hk hn hd hq=>?_⟩;rw[show zN f=(true)by simp[zN,hk]];exact IK _ Y
def WW(b:Bool)(bs:List UInt8)(v:Value)(w:World):Calls prog 131 #[.int .i64 7] w (IW 7 b bs v w):=by
 refine(Md w).mono ?_;rintro e w' ⟨cb,rfl,hc,hm,hb⟩;refine⟨cb,_,190,#[],172,rfl,hc,Wk,II,hm,hb,λrb fb pos h hb hv hp hl hf a=>by rw[show zI 7 b bs pos=GM b bs pos by simp[zI]];exact MT rb fb pos v bs b w' h hb hv hp hf a,λY bf f rv hf hr hk hn hd hq=>?_⟩;rw[show zN f=(true)by simp[zN,hk]];exact IK _ Y
def WV(b:Bool)(bs:List UInt8)(v:Value)(w:World):Calls prog 131 #[.int .i64 8] w (IW 8 b bs v w):=by
 refine(Mc w).mono ?_;rintro e w' ⟨cb,tb,ab,rfl,hc,a,hm,hb,_,_⟩;refine⟨cb,_,_,_,172,rfl,hc,Ri,II,hm,hb,λrb fb pos h hb hv hp hl hf c=>by rw[show zI 8 b bs pos=Fq 8 b bs pos by simp[zI]];exact Rn rb fb ab pos 8 v bs b w' h hb hv hp hf c a.2,λY bf f rv hf hr hk hn hd hq=>?_⟩;rw[show zN f=(true)by simp[zN,hk]];exact IK _ Y
def eC(t:UInt8)(k:Int)(hk:FA t=some k)(b:Bool)(bs:List UInt8)(v:Value)(w:World):Calls prog 131 #[.int .i64 k] w (IW k b bs v w):=by
 have a:k=1\/k=2\/k=3\/k=4\/k=5\/k=6\/k=7\/k=8:=by
  unfold FA at hk;repeat' split at hk
  all_goals simp at hk
  all_goals omega
 rcases a with rfl|rfl|rfl|rfl|rfl|rfl|rfl|rfl
 ·exact Wf b bs v w
 ·exact We b bs v w
 ·exact Wb b bs v w
 ·exact Wa b bs v w
 ·exact WZ b bs v w
 ·exact WY b bs v w
 ·exact WW b bs v w
 ·exact WV b bs v w
def Ex(fs:List (Db×Value)):List Value:=fs.flatMap λx=>(zh x.1 x.2).toList
def il(a b:List (Db×Value)):Ex (a++b)=Ex a++Ex b:=by simp[Ex]
theorem ij(fs:List (Db×Value)):(Ex fs).length=fs.length*10:=by
 induction fs with
 | nil=>rfl
 | cons x fs ih =>
  have:Ex (x::fs)=(zh x.1 x.2).toList++Ex fs:=rfl;rw[this,AF,ih];simp[zh];omega
theorem TR(fs:List (Db×Value)):∀i x,fs[i]?=some x->∀j u,(zh x.1 x.2)[j]?=some u->(Ex fs)[i*10+j]?=some u:=by
 induction fs with
 | nil=>intro i x h;simp at h
 | cons y fs ih =>
  intro i x h j u a;have hl:((zh y.1 y.2).toList).length=10:=rfl;have e:Ex (y::fs)=(zh y.1 y.2).toList++Ex fs:=rfl;cases i with
  | zero =>
   simp only[List.getElem?_cons_zero,Ax]at h;subst h;have hj:j<10:=(AI.1 a).1;rw[e,Cz,Au,Ag (by omega),Bd];exact a
  | succ i =>
   simp only[DI]at h;rw[e,show(i+1)*10+j=10+(i*10+j)by omega,AV (by omega),hl,Cf];exact ih i x h j u a
def Fw(w:World)(v:Value)(fs:List (Db×Value)):Prop:=w.ownsRow 0 65 10 v fs.length (Ex fs)/\∀x∈fs,FG w x.2 x.1.rngs
def Fw.frs{fs:List (Db×Value)}(h:Fw w v fs):G6 w v fs:=by
 obtain⟨a,cap,rfl,h1,h2,h3⟩:=zi h.1;refine⟨a,cap,rfl,h1,h2,λi fr hi=>⟨?_,(h.2 fr (Ac hi)).rr⟩⟩;have hlt:=(AM.1 hi).1;obtain⟨g,rfl⟩:=h3 (by omega);refine⟨g,0,rfl,λj x hx=>?_⟩;have:=h.1.cells (g:=g) rfl _ _ (TR fs i fr hi j x hx);rw[zS]at this;rw[Au]at this
 rwa [Au]
def eB:(prog.info? 65).map (λi=>(i.zero,i.size,i.bytes))=some (some (.agg #[.int .i64 0,.int .i64 0,.int .u64 0,.int .u64 0,.int .u64 0,.bool false,.int .u64 0,.int .u64 0,.string ⟨#[]⟩,.slice none 0 0]),10,104):=by kernel_rfl
def iF(f:Db)(a:Option Addr)(n c:Nat):∀u∈(zh f (.slice a n c)).toList,u.oneCell'=true:=by
 intro u b;simp[zh]at b;rcases b with rfl|rfl|rfl|rfl|rfl|rfl|rfl|rfl|rfl|rfl<;>rfl
def Rh(w:World)(v:Value)(fs:List (Db×Value))(f:Db)(a:Option Addr)(n c:Nat)(h:w.ownsRow 0 65 10 v fs.length (Ex fs))(hl:fs.length<=1099511627776):∃v' w',(∀ty,(Builtin.append_ #[54,54] ty #[v,.slice (some ⟨w.heap.size,0,none⟩) 1 1]).run prog (w.alloc (.cells (zh f (.slice a n c)) 65)) = .ok v' w') /\
   w'.ownsRow 0 65 10 v' (fs.length+1) (Ex (fs++[(f,.slice a n c)]))/\w.grownBy w' v.ownBlock/\Dy w v v':=by
 obtain⟨i,d,hz,e,g⟩:=info_parts eB;have l:Ex [(f,.slice a n c)]=(zh f (.slice a n c)).toList:=by simp[Ex]
 have b:∀(j:Nat) u,(Ex [(f,.slice a n c)])[j]?=some u->(w.alloc (.cells (zh f (.slice a n c)) 65)).cell? ((⟨w.heap.size,0,none⟩:Addr).add j)=some u:=by
  intro j u hj;rw[zS];refine za (heap_alloc_new w _) ?_;rw[Au,<-Array.getElem?_toList,<-l];exact hj
 obtain⟨v',w',h1,h2,h3,h4,h5⟩:=Jw (P:=prog) (w.alloc (.cells (zh f (.slice a n c)) 65)) 54 65 i _ 10 104 underlying54 d hz e g rfl (by decide) v fs.length (Ex fs) (World.ownsRow.alloc h _)
  ⟨w.heap.size,0,none⟩ 1 1 (Ex [(f,.slice a n c)]) (by rw[ij];rfl) b (by rw[l];exact iF f a n c) (by unfold maxLen;omega) (by omega)
 refine⟨v',w',h1,?_,?_,?_⟩
 ·rw[il];exact h2
 ·exact⟨h3.os,h3.tape,h3.output,AO (by simp) h3.size,λk hk hn=>(h3.block k (by simp;omega) hn).trans (Below.heap_alloc w _ k hk)⟩
 ·intro k hk;rcases h4 k hk with x|x
  ·exact .inl x
  ·exact .inr (by simp at x;omega)
def NH(G:World->Prop):Exit->Act->World->Prop:=λb a w'=>(b = .normal\/b = .ret)/\a.defers=[]/\G w'
def eA(a b c:Value)(w:World):CallsD prog 126 #[a,b,c] .returning w λe u' w'=>e = .returned (.tuple #[])/\u' = .returning/\w'=w:=by
 refine callsD_of_wpS func126 rfl λd cs f=>?_
 apply wpS_seq;apply wpS_region;simp[wpOpsS,go_sem,recoverD,f,ntmps126,Exit.thenS];rw[show #[a,b,c]++((Array.replicate 19 undef).setIfInBounds 3 Value.nilIface).setIfInBounds 0 Value.nilIface=(#[a,b,c,.nilIface,undef,undef,.nilIface,undef,undef,undef,undef,undef,undef,undef,undef,undef,undef,undef,undef,undef,undef,undef]:Array Value)from by kernel_rfl];refine wpS_of_wp (wp_mono (Q:=NH (λw'=>w'=w)) ?_ ?_)
 ·go_wp2_with fail;exact⟨by first|exact .inl rfl|exact .inr rfl,rfl,rfl⟩
 ·rintro e a w' ⟨he,hd,rfl⟩;have hc:({ d with mode:=.returning }:Frame)=d:=by
   cases d;simp at f;simp[f]
  rcases he with rfl|rfl;all_goals exact⟨hd,_,by rw[hc],_,results_none rfl _ _ _,rfl,rfl,rfl⟩
def Qk(w:World)(a eb at_:Nat)(w':World):Prop :=
 w'.heap[a]?=some (.cells #[.int .u64 0,.slice none 0 0] 56 (0,0)) /\
 (∃fa,w'.heap[eb]?=some (.cells #[.iface 162 (.pointer (some ⟨fa,0,none⟩))] 98 (0,0))/\w'.heap[fa]?=some (.cells #[.int .i64 8,.int .i64 at_] 167 (0,0))/\w.heap.size<=fa) /\
 DW (λk=>k=a\/k=eb) w w'
def iE(d b eb at_:Nat)(q h r:Value)(c:List PanicEntry)(w:World)(ha:w.cell? ⟨d,0,none⟩=some (.int .i64 at_))(g:w.heap[b]?=some (.cells #[q,h] 56 (0,0)))(f:w.heap[eb]?=some (.cells #[r] 98 (0,0)))(l:b≠eb):CallsD prog 126 #[.pointer (some ⟨d,0,none⟩),.pointer (some ⟨b,0,none⟩),.pointer (some ⟨eb,0,none⟩)] (.panicking ({ v:=.iface 230 (.agg #[]),recovered:=false }::c)) w λe u' w' =>
   e = .returned (.tuple #[])/\u' = .panicking ({ v:=.iface 230 (.agg #[]),recovered:=true }::c)/\Qk w b eb at_ w':=by
 refine callsD_of_wpS func126 rfl λc₀ cs s=>?_
 have Hp:=zb g;have He:=zb f;have hpl:=zk (za (o:=0) g rfl);have hel:=zk (za (o:=0) f rfl);have hal:=zk ha;have p0:w.cell? ⟨b,0,none⟩=some q:=za (o:=0) g rfl;have p1:w.cell? ⟨b,1,none⟩=some h:=za (o:=1) g rfl;have q0:w.cell? ⟨eb,0,none⟩=some r:=za (o:=0) f rfl;have hta:∀w,(Instr.typeAssert (.iface 230 (.agg #[])) 20 230 true).run prog w = .ok (.tuple #[.agg #[],.bool true]) w:=λ_=>by kernel_rfl
 have pz:∀j,w.frozen? ⟨b,j,none⟩=false:=λj=>zf g
 have qz:∀j,w.frozen? ⟨eb,j,none⟩=false:=λj=>zf f
 apply wpS_seq;apply wpS_region;simp[wpOpsS,go_sem,recoverD,s,ntmps126,Exit.thenS];rw[show #[Value.pointer (some ⟨d,0,none⟩),Value.pointer (some ⟨b,0,none⟩),Value.pointer (some ⟨eb,0,none⟩)]++((Array.replicate 19 undef).setIfInBounds 3 (Value.iface 230 (.agg #[]))).setIfInBounds 0 (Value.iface 230 (.agg #[]))=(#[.pointer (some ⟨d,0,none⟩),.pointer (some ⟨b,0,none⟩),.pointer (some ⟨eb,0,none⟩),.iface 230 (.agg #[]),undef,undef,.iface 230 (.agg #[]),undef,undef,undef,undef,undef,undef,undef,undef,undef,undef,undef,undef,undef,undef,undef]:Array Value)from by kernel_rfl];refine wpS_of_wp (wp_mono (Q:=NH (Qk w b eb at_)) ?_ ?_)
 ·clear g f s;go_wp2_with fail;refine⟨.inl rfl,rfl,?_⟩;obtain⟨W,m⟩:=nm (((w.setCell ⟨b,0,none⟩ (.int .u64 0)).setCell ⟨b,1,none⟩ (.slice none 0 0)).setCell ⟨eb,0,none⟩ (.iface 162 (.pointer (some ⟨w.heap.size+1,0,none⟩))));rw[m];have mW:DW (λk=>k=b\/k=eb) w W:=by
   rw[<-m];exact(((DW.refl (λk=>k=b\/k=eb) w).setCell (p:=⟨b,0,none⟩) (.inl (.inl rfl)) _).setCell (p:=⟨b,1,none⟩) (.inl (.inl rfl)) _).setCell (p:=⟨eb,0,none⟩) (.inl (.inr rfl)) _
  have o1:=zc (i:=1) (v:=.slice none 0 0) (zc (i:=0) (v:=.int .u64 0) Hp.z);have oP:W.heap[b]?=some (.cells #[.int .u64 0,.slice none 0 0] 56 (0,0)):=by
   rw[<-m];exact(((DW.refl (λk=>k=eb) _).setCell (p:=⟨eb,0,none⟩) (.inl rfl) _).obj l o1).trans (by simp)
  have oE:W.heap[eb]?=some (.cells #[.iface 162 (.pointer (some ⟨w.heap.size+1,0,none⟩))] 98 (0,0)):=by
   rw[<-m];have e1:=(((DW.refl (λk=>k=b) w).setCell (p:=⟨b,0,none⟩) (.inl rfl) (.int .u64 0)).setCell (p:=⟨b,1,none⟩) (.inl rfl) (.slice none 0 0)).obj (λe=>l e.symm) He.z;exact(zc (i:=0) e1).trans (by simp)
  have hs:W.heap.size=w.heap.size:=by rw[<-m];simp[World.setCell]
  have n:DW DX W ((W.alloc (.cells #[] 230)).alloc (.cells #[.int .i64 8,.int .i64 at_] 167)):=((DW.refl _ _).alloc _).alloc _;refine⟨n.obj (λx=>x) oP,⟨w.heap.size+1,n.obj (λx=>x) oE,?_,by omega⟩,mW.then n (λ_ x=>x.elim)⟩;have:(W.alloc (.cells #[] 230)).heap.size=w.heap.size+1:=by simp[hs]
  rw[<-this];exact heap_alloc_new _ _
 ·rintro e a w' ⟨f,hd,hg⟩;rcases f with rfl|rfl;all_goals exact⟨hd,_,rfl,_,results_none rfl _ _ _,rfl,rfl,hg⟩
def Di(bs:List UInt8)(i:Nat):Nat:=(bs.getD i 0).toNat
def Gq(bs:List UInt8)(n:Nat):Nat:=Di bs n*16777216+Di bs (n+1)*65536+Di bs (n+2)*256+Di bs (n+3)
inductive Fo where
 | sum:Fo
 | bad (at_:Nat):Fo
 | ok (num:Nat) (fs:List Db):Fo
def GB(bs:List UInt8)(pos:Nat):Option (Db×Nat) :=
 match bs[pos]? with
 | none=>none
 | some t=>(FA t).bind λk=>(zI k (decide (t=9)) bs (pos+1)).bind λr=>if zT r.1=true then some r else none
def IC(bs:List UInt8):Nat->Nat->Nat->List Db->Fo
 | 0,_,pos,_=>.bad pos
 | fuel+1,num,pos,acc =>
  if pos<bs.length then
   match GB bs pos with
   | none=>.bad pos
   | some r=>IC bs fuel num r.2 (acc++[r.1])
  else .ok num acc
def FK(bs:List UInt8):Fo :=
 match Ds bs 0 with
 | none=>.bad 0
 | some q=>if q.2=bs.length then .bad 0 else IC bs (bs.length+1) q.1 q.2 []
def dec(bs:List UInt8):Fo :=
 if bs.length<4 then .sum
 else if Gq bs (bs.length-4)=Dv (bs.take (bs.length-4))then FK (bs.take (bs.length-4))else .sum
theorem TQ(bs:List UInt8):∀fuel hi n size pos acc r,pos<=bs.length->ID bs fuel hi n size pos acc=some r->pos<=r.2/\r.2<=bs.length/\r.1.length<=acc.length+(r.2-pos)+1
 | 0,_,_,_,_,_,_,_,h=>by cases h
 | fuel+1,hi,n,size,pos,acc,r,hp,h=>by
  unfold ID at h;split at h
  ·cases h
  ·split at h
   ·cases h;simp;exact hp
   ·cases h1:Ds bs pos with
    | none=>rw[h1]at h;cases h
    | some q1 =>
     obtain⟨g,p1⟩:=q1;obtain⟨a1,a2,_⟩:=zV h1;rw[h1]at h;simp only[AU]at h;cases h2:Ds bs p1 with
     | none=>rw[h2]at h;cases h
     | some q2 =>
      obtain⟨s,p2⟩:=q2;obtain⟨b1,b2,_⟩:=zV h2;rw[h2]at h;simp only[AU]at h;split at h
      ·cases h
      ·obtain⟨c1,c2,c3⟩:=TQ bs fuel _ _ _ _ _ _ b2 h;simp only[AF,AQ,AX]at c3;exact⟨by omega,c2,by omega⟩
variable{bs l:List UInt8}{p:Nat}
theorem TP(h:Fh bs pos=some (l,p)):pos<=p/\p<=bs.length/\l.length<=bs.length:=by
 have he:=P1 h;unfold Fh at h;cases hr:Ds bs pos with
 | none=>rw[hr]at h;cases h
 | some q =>
  obtain⟨n,p1⟩:=q;rw[hr]at h;obtain⟨a1,a2,_⟩:=zV hr;simp only[AU]at h;split at h
  ·cases h;refine⟨by omega,he,?_⟩;simp;omega
  ·cases h
theorem QB{n:Nat}(h:FI bs pos=some (n,p)):pos<=p/\p<=bs.length:=by
 unfold FI at h;cases hr:Ds bs pos with
 | none=>rw[hr]at h;cases h
 | some q =>
  rw[hr]at h;have:=zV hr;simp only[AU]at h;split at h
  ·cases h;exact⟨by omega,this.2.1⟩
  ·cases h
def QW(bs:List UInt8)(pos:Nat)(k:Int)(f:Db)(p:Nat):Prop:=f.kind=k/\pos<=p/\p<=bs.length/\f.data.length<=bs.length/\f.rngs.length<=bs.length+1
def UN{t:UInt8}{k:Int}{b:Bool}(hk:FA t=some k)(hp:pos<=bs.length)(h:zI k b bs pos=some (f,p)):QW bs pos k f p:=by
 have j:k=1\/k=2\/k=3\/k=4\/k=5\/k=6\/k=7\/k=8:=by
  unfold FA at hk;repeat' split at hk
  all_goals simp at hk
  all_goals omega
 rcases j with rfl|rfl|rfl|rfl|rfl|rfl|rfl|rfl
 ·rw[show zI 1 b bs pos=some (f0 1 b,pos)by simp[zI]]at h;cases h;exact⟨rfl,AG _,hp,AL _,AL _⟩
 ·rw[show zI 2 b bs pos=Ez b bs pos by simp[zI],Ez,Ar]at h;obtain⟨⟨e,p1⟩,a,h⟩:=h;rw[Ar]at h;obtain⟨⟨i,p2⟩,c,h⟩:=h;rw[Ar]at h;obtain⟨⟨g,p3⟩,d,h⟩:=h;rw[Ar]at h;obtain⟨r,e4,h⟩:=h;cases h;have:=zV a;have:=zV c;have:=zV d;simp only at *;obtain⟨c1,c2,c3⟩:=TQ bs _ _ _ _ _ _ _ (zV d).2.1 e4;refine⟨rfl,by omega,c2,AL _,?_⟩;show r.1.length<=_;simp only[AX]at c3;omega
 ·rw[show zI 3 b bs pos=GO b bs pos by simp[zI],GO,Ar]at h;obtain⟨⟨e,p1⟩,a,h⟩:=h;rw[Ar]at h;obtain⟨⟨i,p2⟩,c,h⟩:=h;rw[Ar]at h;obtain⟨⟨g,p3⟩,d,h⟩:=h;cases h;have:=QB a;have:=zV c;have:=zV d;simp only at *;exact⟨rfl,by omega,by omega,AL _,AL _⟩
 ·rw[show zI 4 b bs pos=Fu b bs pos by simp[zI],Fu,Ar]at h;obtain⟨⟨e,p1⟩,a,h⟩:=h;rw[Ar]at h;obtain⟨⟨i,p2⟩,c,h⟩:=h;rw[Ar]at h;obtain⟨⟨g,p3⟩,d,h⟩:=h;cases h;have:=QB a;have:=zV c;have:=TP d;simp only at *;exact⟨rfl,by omega,by omega,by show g.length<=_;omega,AL _⟩
 ·rw[show zI 5 b bs pos=Fq 5 b bs pos by simp[zI],Fq,Ar]at h;obtain⟨⟨e,p1⟩,a,h⟩:=h;cases h;have:=zV a;simp only at *;exact⟨rfl,by omega,by omega,AL _,AL _⟩
 ·rw[show zI 6 b bs pos=Ft b bs pos by simp[zI],Ft,Ar]at h;obtain⟨⟨e,p1⟩,a,h⟩:=h;rw[Ar]at h;obtain⟨⟨i,p2⟩,c,h⟩:=h;cases h;have:=QB a;have:=zV c;simp only at *;exact⟨rfl,by omega,by omega,AL _,AL _⟩
 ·rw[show zI 7 b bs pos=GM b bs pos by simp[zI],GM,Ar]at h;obtain⟨⟨e,p1⟩,a,h⟩:=h;rw[Ar]at h;obtain⟨⟨i,p2⟩,c,h⟩:=h;rw[Ar]at h;obtain⟨⟨g,p3⟩,d,h⟩:=h;cases h;have:=zV a;have:=zV c;have:=TP d;simp only at *;exact⟨rfl,by omega,by omega,by show g.length<=_;omega,AL _⟩
 ·rw[show zI 8 b bs pos=Fq 8 b bs pos by simp[zI],Fq,Ar]at h;obtain⟨⟨e,p1⟩,a,h⟩:=h;cases h;have:=zV a;simp only at *;exact⟨rfl,by omega,by omega,AL _,AL _⟩
def Ge(w:World)(pb a:Nat)(fv:Value):Prop:=w.heap[pb]?=some (.cells #[.int .u64 a,fv] 56 (0,0))
def IP(w:World)(eb:Nat)(v:Value):Prop:=w.heap[eb]?=some (.cells #[v] 98 (0,0))
def Ed(w:World)(r:Fo)(e:Ending)(w':World):Prop :=
 DW DX w w'/\match r with
 | .sum=>e = .returned (.tuple #[.agg #[.int .u64 0,.slice none 0 0],.iface 57 (.int .i64 7)])
 | .bad at_=>∃fa,e = .returned (.tuple #[.agg #[.int .u64 0,.slice none 0 0],.iface 162 (.pointer (some ⟨fa,0,none⟩))])/\w'.heap[fa]?=some (.cells #[.int .i64 8,.int .i64 at_] 167 (0,0))/\w.heap.size<=fa
 | .ok num fs=>∃fv rvs,e = .returned (.tuple #[.agg #[.int .u64 num,fv],.nilIface])/\Fw w' fv rvs/\rvs.map (·.1)=fs/\(∀g,fv.ownBlock=some g->w.heap.size<=g)/\∀x∈rvs,∀g,x.2.ownBlock=some g->w.heap.size<=g
def Nx(tmps:Array Value)(w:World)(a eb:Nat)(n fv ev:Value)(h2:tmps.getD 2 undef = .pointer (some ⟨a,0,none⟩))(h3:tmps.getD 3 undef = .pointer (some ⟨eb,0,none⟩))
  (c0:w.cell? ⟨a,0,none⟩=some n) (c1:w.cell? ⟨a,1,none⟩=some fv) (c2:w.cell? ⟨eb,0,none⟩=some ev) :
  (results f74 tmps).run prog w = .ok (.tuple #[.agg #[n,fv],ev]) w:=by
 have b:tmps[2]?.getD undef = .pointer (some ⟨a,0,none⟩):=by rw[<-h2];simp
 have c:tmps[3]?.getD undef = .pointer (some ⟨eb,0,none⟩):=by rw[<-h3];simp
 simp[results,results74,go_sem,b,c,c0,c1,c2]
def dH(v:Value)(bs:List UInt8)(w:World)(hb:BR w v bs)(hs:bs.length<4):Calls prog 74 #[v] w (Ed w .sum):=by
 obtain⟨a,cap,rfl,h1,h2,h3⟩:=hb;unfold maxLen at h2;have z1:IntKind.i64.wrap ((bs.length:Int)-4)=(bs.length:Int)-4:=IntWalk.i64_in _ (by omega);have d:(bs.length:Int)-4<0:=by omega
 clear h3
 go_enter_defers func74,ntmps74
 go_wp2_with fail;refine⟨_,Nx _ _ _ _ _ _ _ rfl rfl (by simp) (by simp) (by simp),((DW.refl _ _).alloc _).alloc _,rfl⟩
def Pz(a b:Nat)(ha:a<4294967296)(hb:b<4294967296):bits .or .u32 (a:Int) (b:Int)=((a ||| b:Nat):Int):=by
 have hx:a ||| b<2 ^ 32:=Nat.or_lt_two_pow (by omega) (by omega);have h1:(BitVec.ofInt 32 (a:Int)).toNat=a:=by
  rw[Bi,Bq];exact B6 (by omega)
 have h2:(BitVec.ofInt 32 (b:Int)).toNat=b:=by
  rw[Bi,Bq];exact B6 (by omega)
 show IntKind.u32.wrap ((BitVec.ofInt 32 (a:Int) ||| BitVec.ofInt 32 (b:Int)).toNat:Int)=_;rw[BitVec.toNat_or,h1,h2,If];omega
def Ow(a b i:Nat)(h:b<2 ^ i):a*2 ^ i ||| b=a*2 ^ i+b:=by
 have:=Nat.two_pow_add_eq_or_of_lt h a;rw[AK]at this;exact this.symm
def JD(a b c d:Nat)(h0:a<256)(h1:b<256)(h2:c<256)(h3:d<256):bits .or .u32 ((a:Int)*16777216) ((b:Int)*65536)=(a:Int)*16777216+(b:Int)*65536 /\
  bits .or .u32 ((a:Int)*16777216+(b:Int)*65536) ((c:Int)*256)=(a:Int)*16777216+(b:Int)*65536+(c:Int)*256 /\
  bits .or .u32 ((a:Int)*16777216+(b:Int)*65536+(c:Int)*256) (d:Int)=(a:Int)*16777216+(b:Int)*65536+(c:Int)*256+(d:Int):=by
 refine⟨?_,?_,?_⟩
 ·have:=Pz (a*16777216) (b*65536) (by omega) (by omega);rw[Ow a (b*65536) 24 (by omega)]at this;rw[show(a:Int)*16777216=((a*16777216:Nat):Int)by omega,show(b:Int)*65536=((b*65536:Nat):Int)by omega,this];omega
 ·have:=Pz (a*16777216+b*65536) (c*256) (by omega) (by omega);have e:a*16777216+b*65536=(a*256+b)*2 ^ 16:=by omega
  rw[e,Ow _ (c*256) 16 (by omega),<-e]at this;rw[show(a:Int)*16777216+(b:Int)*65536=((a*16777216+b*65536:Nat):Int)by omega,show(c:Int)*256=((c*256:Nat):Int)by omega,this];omega
 ·have:=Pz (a*16777216+b*65536+c*256) d (by omega) (by omega);have e:a*16777216+b*65536+c*256=(a*65536+b*256+c)*2 ^ 8:=by omega
  rw[e,Ow _ d 8 (by omega),<-e]at this;rw[show(a:Int)*16777216+(b:Int)*65536+(c:Int)*256=((a*16777216+b*65536+c*256:Nat):Int)by omega,this];omega
variable{a:Option Addr}{cap:Nat}
def BR.pre{n:Nat}(h:BR w (.slice a bs.length cap) bs)(hn:n<=bs.length):BR w (.slice a n cap) (bs.take n):=by
 obtain⟨a',d,hv,h1,h2,h3⟩:=h;cases hv;have hl:(bs.take n).length=n:=by simp;omega
 refine⟨a,cap,by rw[hl],by omega,h2,λi c hi=>?_⟩;have b:i<n:=by
  have:=(AM.1 hi).1;omega
 rw[B8,AN b]at hi;exact h3 i c hi
variable{i:Nat}
def BR.byte{l:Nat}(h:BR w (.slice a l cap) bs)(hi:i<bs.length):∃g o,a=some ⟨g,o,none⟩/\w.cell? ⟨g,o+i,none⟩=some (.int .u8 (Di bs i:Int)):=by
 obtain⟨a',b,hv,h1,h2,h3⟩:=h;cases hv;have:=h3 i bs[i] (AJ hi);unfold Di;rw[Ai,AJ hi];exact this
def I5(bs:List UInt8)(i:Nat):Di bs i<256:=by
 unfold Di;have:=(bs.getD i 0).toNat_lt;omega
def Uv(v:Value)(bs:List UInt8)(n:Nat)(w:World)(hb:BR w v bs)(B:Fc w)(C:bs.length=n+4)(f:Gq bs n≠Dv (bs.take n)):Calls prog 74 #[v] w (Ed w .sum):=by
 obtain⟨a,cap,rfl,h1,h2,h3⟩:=id hb;unfold maxLen at h2;rw[C]at h1 hb ⊢;have b:BR w (.slice a bs.length cap) bs:=by rw[C];exact hb
 obtain⟨g,o,rfl,D⟩:=b.byte (i:=n) (by omega);obtain⟨_,_,e,k1⟩:=b.byte (i:=n+1) (by omega);cases e;obtain⟨_,_,e,k2⟩:=b.byte (i:=n+2) (by omega);cases e;obtain⟨_,_,e,k3⟩:=b.byte (i:=n+3) (by omega);cases e;have hgl:=zk D;have c:=b.pre (n:=n) (by omega);have d:=λw' (m:DW DX w w')=>PH (.slice (some ⟨g,o,none⟩) n cap) (bs.take n) w' (c.mod m (Dl.no _)) (B.mod m (λx=>x))
 have t:=LN (bs.take n);obtain⟨s,h⟩:=nm (Dv (bs.take n));rw[h]at d f t;have E:=I5 bs n;have F:=I5 bs (n+1);have G:=I5 bs (n+2);have H:=I5 bs (n+3);unfold Gq at f;obtain⟨l,I⟩:=nm (Di bs n);obtain⟨q,J⟩:=nm (Di bs (n+1));obtain⟨r,K⟩:=nm (Di bs (n+2));obtain⟨L,M⟩:=nm (Di bs (n+3));rw[I]at D E f;rw[J]at k1 F f;rw[K]at k2 G f;rw[M]at k3 H f;obtain⟨o1,o2,o3⟩:=JD l q r L E F G H;have z1:IntKind.i64.wrap (((n+4:Nat):Int)-4)=(n:Int):=by rw[show((n+4:Nat):Int)-4=n by omega];exact IntWalk.i64_in _ (by omega)
 have z2:IntKind.i64.wrap ((n:Int)+1)=(n:Int)+1:=IntWalk.i64_in _ (by omega);have z3:IntKind.i64.wrap ((n:Int)+2)=(n:Int)+2:=IntWalk.i64_in _ (by omega);have z4:IntKind.i64.wrap ((n:Int)+3)=(n:Int)+3:=IntWalk.i64_in _ (by omega);have t2:((n:Int)+1).toNat=n+1:=by omega
 have t3:((n:Int)+2).toNat=n+2:=by omega
 have t4:((n:Int)+3).toNat=n+3:=by omega
 have y0:IntKind.u32.wrap ((l:Int)*16777216)=(l:Int)*16777216:=by rw[If];omega
 have y1:IntKind.u32.wrap ((q:Int)*65536)=(q:Int)*65536:=by rw[If];omega
 have y2:IntKind.u32.wrap ((r:Int)*256)=(r:Int)*256:=by rw[If];omega
 have hq:((l:Int)*16777216+(q:Int)*65536+(r:Int)*256+(L:Int) != (s:Int))=true:=by rw[CK];omega
 clear h3 hb b B c I J K M h f
 go_enter_defers func74,ntmps74
 go_wp2_with (go_at_call 125;refine(d _ (((DW.refl _ _).alloc _).alloc _)).mono ?_;rintro e w' ⟨rfl,rfl⟩);go_quiet (fail);go_wp2_with fail;have N:DW DX w (((w.alloc (.cells #[.int .u64 0,.slice none 0 0] 56)).alloc (.cells #[.nilIface] 98)).drewN nq):=(((DW.refl _ _).alloc _).alloc _).drewN _;obtain⟨X,y⟩:=nm (((w.alloc (.cells #[.int .u64 0,.slice none 0 0] 56)).alloc (.cells #[.nilIface] 98)).drewN nq);have oP:X.heap[w.heap.size]?=some (.cells #[.int .u64 0,.slice none 0 0] 56 (0,0)):=by
  rw[<-y];exact(((DW.refl DX _).alloc (.cells #[.nilIface] 98)).drewN nq).obj (λx=>x) (heap_alloc_new w _)
 have oE:X.heap[w.heap.size+1]?=some (.cells #[.nilIface] 98 (0,0)):=by
  rw[<-y];have e:(w.alloc (.cells #[.int .u64 0,.slice none 0 0] 56)).heap.size=w.heap.size+1:=by simp
  rw[<-e];exact((DW.refl DX _).drewN nq).obj (λx=>x) (heap_alloc_new _ _)
 rw[y]at N ⊢;have z:=zc (i:=1) (v:=.slice none 0 0) (zc (i:=0) (v:=.int .u64 0) oP);have mE:DW (λk=>k=w.heap.size) X ((X.setCell ⟨w.heap.size,0,none⟩ (.int .u64 0)).setCell ⟨w.heap.size,1,none⟩ (.slice none 0 0)):=((DW.refl (λk=>k=w.heap.size) X).setCell (p:=⟨w.heap.size,0,none⟩) (.inl rfl) _).setCell (p:=⟨w.heap.size,1,none⟩) (.inl rfl) _;have A:=zc (i:=0) (v:=.iface 57 (.int .i64 7)) (mE.obj (by show ¬w.heap.size+1=w.heap.size;omega) oE);have mL:∀u,DW (λk=>k=w.heap.size+1) ((X.setCell ⟨w.heap.size,0,none⟩ (.int .u64 0)).setCell ⟨w.heap.size,1,none⟩ (.slice none 0 0)) (((X.setCell ⟨w.heap.size,0,none⟩ (.int .u64 0)).setCell ⟨w.heap.size,1,none⟩ (.slice none 0 0)).setCell ⟨w.heap.size+1,0,none⟩ u):=λu=>(DW.refl (λk=>k=w.heap.size+1) _).setCell (p:=⟨w.heap.size+1,0,none⟩) (.inl rfl) u
 have j:=(mL (.iface 57 (.int .i64 7))).obj (by show ¬w.heap.size=w.heap.size+1;omega) z;refine⟨_,Nx _ _ _ _ _ _ _ rfl rfl (za j rfl) (za j rfl) (za A rfl),((N.setCell (p:=⟨w.heap.size,0,none⟩) (.inr (AG _)) _).setCell (p:=⟨w.heap.size,1,none⟩) (.inr (AG _)) _).setCell (p:=⟨w.heap.size+1,0,none⟩) (.inr (Bz _)) _,rfl⟩
def dy(r:Fo)(w W:World)(tmps:Array Value)(a eb b at_:Nat)(h fv j:Value)(h2:tmps.getD 2 undef = .pointer (some ⟨a,0,none⟩))(h3:tmps.getD 3 undef = .pointer (some ⟨eb,0,none⟩))(k:DW DX w W)
  (hp:W.heap[a]?=some (.cells #[h,fv] 56 (0,0))) (he:W.heap[eb]?=some (.cells #[j] 98 (0,0))) (ha:W.cell? ⟨b,0,none⟩=some (.int .i64 at_)) (c:a≠eb) (d:w.heap.size<=a) (g:w.heap.size<=eb) (hr:r = .bad at_) :
  bodyPostD prog f74 (Ed w r) (Exit.panic [{ v:=.iface 230 (.agg #[]),recovered:=false }]) { tmps:=tmps,defers:=[{ target:=.fn (.func 126) #[.pointer (some ⟨b,0,none⟩),.pointer (some ⟨a,0,none⟩),.pointer (some ⟨eb,0,none⟩)],args:=#[] }] } W:=by
 subst hr;refine leaves_cons (f:=126) (args:=#[.pointer (some ⟨b,0,none⟩),.pointer (some ⟨a,0,none⟩),.pointer (some ⟨eb,0,none⟩)]) (by simp) (by simp[go_sem]) ?_;refine(iE b a eb at_ h fv j [] W ha hp he c).mono ?_;rintro e u' w'' ⟨rfl,rfl,c1,⟨fa,c2,c3,c4⟩,c5⟩;show Leaves prog f74 tmps (Ed w (.bad at_)) [] .returning w'';refine⟨_,Nx _ _ _ _ _ _ _ h2 h3 (za c1 rfl) (za c1 rfl) (za c2 rfl),?_,fa,rfl,c3,?_⟩
 ·refine k.then c5 ?_;rintro i (rfl|rfl)
  ·exact .inr d
  ·exact .inr g
 ·exact AO k.size c4
def Uu(r:Fo)(w W:World)(tmps:Array Value)(k eb h:Nat)(a b c:Value)(fv:Value)(d:List (Db×Value))(h2:tmps.getD 2 undef = .pointer (some ⟨k,0,none⟩))(h3:tmps.getD 3 undef = .pointer (some ⟨eb,0,none⟩))(hm:DW DX w W)
  (l:Ge W k h fv) (he:IP W eb .nilIface) (hf:Fw W fv d) (i:∀g,fv.ownBlock=some g->w.heap.size<=g) (j:∀x∈d,∀g,x.2.ownBlock=some g->w.heap.size<=g) (hr:r = .ok h (d.map (·.1))) :
  bodyPostD prog f74 (Ed w r) Exit.ret { tmps:=tmps,defers:=[{ target:=.fn (.func 126) #[a,b,c],args:=#[] }] } W:=by
 subst hr;refine leaves_cons (f:=126) (args:=#[a,b,c]) (by simp) (by simp[go_sem]) ?_;refine(eA a b c W).mono ?_;rintro e u' w'' ⟨rfl,rfl,rfl⟩;show Leaves prog f74 tmps (Ed w (.ok h (d.map (·.1)))) [] .returning w'';exact⟨_,Nx _ _ _ _ _ _ _ h2 h3 (za l rfl) (za l rfl) (za he rfl),hm,fv,d,rfl,hf,rfl,i,j⟩
variable{base:Nat}
def PJ{n:Nat}(h:w.ownsRow base e sz v n xs):∀g,v.ownBlock=some g->g<w.heap.size:=by
 intro g hg;rcases h.2 with⟨rfl,rfl⟩|⟨g',cap,cur,rfl,_,h0,h1,h2,_⟩
 ·cases hg
 ·simp[Value.ownBlock]at hg;subst hg;exact(AI.1 h0).1
variable{T:Nat}{cs:Array Value}{fz:Nat×Nat}
def IJ{n:Nat}(h:w.ownsRow base e sz v n xs)(a:w.heap[b]?=some (.cells cs T fz))(hT:T≠e):¬v.ownBlock=some b:=by
 intro hb;rcases h.2 with⟨rfl,_⟩|⟨g,cap,cur,rfl,_,hg,_⟩
 ·cases hb
 ·simp[Value.ownBlock]at hb;subst hb;rw[hg]at a;simp at a;exact hT a.2.1.symm
def TO{b1 b2 f b n n':Nat}{c:List Value}(h:w.ownsRow b1 e sz v n xs)(h':w.ownsRow b2 f b v' n' c)(d:f≠e)(hg:v.ownBlock=some g)(a:v'.ownBlock=some g):False:=by
 rcases h'.2 with⟨rfl,_⟩|⟨g',cap,cur,rfl,_,ho,_⟩
 ·cases a
 ·simp[Value.ownBlock]at a;subst a;exact IJ h ho d hg
variable{W:World}
def dG{n:Nat}(h:w.ownsRow base e sz v n xs)(hn:Hy W v):∀g,v.ownBlock=some g->W.heap.size<=g:=by
 intro g hg;rcases h.2 with⟨rfl,_⟩|⟨g',cap,cur,rfl,_⟩
 ·cases hg
 ·simp[Value.ownBlock]at hg;subst hg;exact hn _ _ _ _ rfl
def Io(w:World)(ab at_:Nat):Prop:=w.heap[ab]?=some (.cells #[.int .i64 at_] 3 (0,0))
def OY(w wr:World)(v:Value)(bs:List UInt8)(a:Nat)(R:Fo):Prop :=
 ∃fuel pos fv rvs at_,D7 wr (w.heap.size+1+1) v pos/\Ge wr w.heap.size a fv/\IP wr (w.heap.size+1) .nilIface/\Io wr (w.heap.size+1+1+1) at_/\Fw wr fv rvs/\(∀g,fv.ownBlock=some g->w.heap.size<=g)/\(∀x∈rvs,∀g,x.2.ownBlock=some g->w.heap.size<=g) /\
  pos<=bs.length/\bs.length-pos<fuel/\rvs.length<=pos/\DW DX w wr/\IC bs fuel a pos (rvs.map (·.1))=R
def RA(w:World):Nat->Prop:=λk=>k=w.heap.size+1+1\/k=w.heap.size+1+1+1
variable{S:Nat->Prop}{w':World}
def Fw.mod{fs:List (Db×Value)}(h:Fw w v fs)(m:DW S w w')(c:∀i,S i->w.heap.size<=i\/∃cs T fz,w.heap[i]?=some (.cells cs T fz)/\T≠65/\T≠214):Fw w' v fs:=by
 refine⟨m.owns h.1 (λg hg a=>?_),λx a=>(h.2 x a).mod m (λg hg b=>?_)⟩
 ·rcases c g a with h1|⟨cs,T,fz,h1,h2,_⟩
  ·have:=PJ h.1 g hg;omega
  ·exact IJ h.1 h1 h2 hg
 ·rcases c g b with h1|⟨cs,T,fz,h1,_,h2⟩
  ·have:=PJ (h.2 x a).1 g hg;omega
  ·exact IJ (h.2 x a).1 h1 h2 hg
structure NI(w W:World)(v:Value):Prop where
 rd:D7 W (w.heap.size+1+1) v 0
 pk:Ge W w.heap.size 0 (.slice none 0 0)
 er:IP W (w.heap.size+1) .nilIface
 at_:Io W (w.heap.size+1+1+1) 0
 mod:DW DX w W
def Mr(w:World)(a:Nat)(v:Value):NI w (((((w.alloc (.cells #[.int .u64 0,.slice none 0 0] 56)).alloc (.cells #[.nilIface] 98)).drewN a).alloc (.cells #[v,.int .i64 0] 229)).alloc (.cells #[.int .i64 0] 3)) v:=by
 have e1:(w.alloc (.cells #[.int .u64 0,.slice none 0 0] 56)).heap.size=w.heap.size+1:=by simp
 have e2:(((w.alloc (.cells #[.int .u64 0,.slice none 0 0] 56)).alloc (.cells #[.nilIface] 98)).drewN a).heap.size=w.heap.size+1+1:=by simp
 have e3:((((w.alloc (.cells #[.int .u64 0,.slice none 0 0] 56)).alloc (.cells #[.nilIface] 98)).drewN a).alloc (.cells #[v,.int .i64 0] 229)).heap.size=w.heap.size+1+1+1:=by simp
 refine⟨?_,?_,?_,?_,((((DW.refl _ _).alloc _).alloc _).drewN _).alloc _ |>.alloc _⟩
 ·unfold D7;rw[<-e2];exact((DW.refl DX _).alloc _).obj (λx=>x) (heap_alloc_new _ _)
 ·exact(((((DW.refl DX _).alloc _).drewN a).alloc _).alloc _).obj (λx=>x) (heap_alloc_new w _)
 ·unfold IP;rw[<-e1];exact((((DW.refl DX _).drewN a).alloc _).alloc _).obj (λx=>x) (heap_alloc_new _ _)
 ·unfold Io;rw[<-e3];exact heap_alloc_new _ _
theorem WU(v:Value)(bs:List UInt8)(n:Nat)(w:World)(hb:BR w v bs)(ht:Fc w)(hn:bs.length=n+4)(hs:Gq bs n=Dv (bs.take n))(bH:n<1099511627776):Calls prog 74 #[v] w (Ed w (FK (bs.take n))):=by
 obtain⟨a,cap,rfl,h1,h2,h3⟩:=id hb;unfold maxLen at h2;rw[hn]at h1 hb ⊢;have z:BR w (.slice a bs.length cap) bs:=by rw[hn];exact hb
 obtain⟨g,o,rfl,k0⟩:=z.byte (i:=n) (by omega);obtain⟨_,_,e,k1⟩:=z.byte (i:=n+1) (by omega);cases e;obtain⟨_,_,e,k2⟩:=z.byte (i:=n+2) (by omega);cases e;obtain⟨_,_,e,k3⟩:=z.byte (i:=n+3) (by omega);cases e;have bk:=zk k0;have N:=z.pre (n:=n) (by omega);have O:=λw' (m:DW DX w w')=>PH (.slice (some ⟨g,o,none⟩) n cap) (bs.take n) w' (N.mod m (Dl.no _)) (ht.mod m (λx=>x))
 have bm:=LN (bs.take n);obtain⟨s,aN⟩:=nm (Dv (bs.take n));rw[aN]at O hs bm;have b0:=I5 bs n;have b1:=I5 bs (n+1);have b2:=I5 bs (n+2);have b3:=I5 bs (n+3);unfold Gq at hs;obtain⟨x0,e0⟩:=nm (Di bs n);obtain⟨x1,e1⟩:=nm (Di bs (n+1));obtain⟨x2,e2⟩:=nm (Di bs (n+2));obtain⟨x3,e3⟩:=nm (Di bs (n+3));rw[e0]at k0 b0 hs;rw[e1]at k1 b1 hs;rw[e2]at k2 b2 hs;rw[e3]at k3 b3 hs;obtain⟨o1,o2,o3⟩:=JD x0 x1 x2 x3 b0 b1 b2 b3;have z1:IntKind.i64.wrap (((n+4:Nat):Int)-4)=(n:Int):=by rw[show((n+4:Nat):Int)-4=n by omega];exact IntWalk.i64_in _ (by omega)
 have z2:IntKind.i64.wrap ((n:Int)+1)=(n:Int)+1:=IntWalk.i64_in _ (by omega);have z3:IntKind.i64.wrap ((n:Int)+2)=(n:Int)+2:=IntWalk.i64_in _ (by omega);have z4:IntKind.i64.wrap ((n:Int)+3)=(n:Int)+3:=IntWalk.i64_in _ (by omega);have t2:((n:Int)+1).toNat=n+1:=by omega
 have t3:((n:Int)+2).toNat=n+2:=by omega
 have t4:((n:Int)+3).toNat=n+3:=by omega
 have y0:IntKind.u32.wrap ((x0:Int)*16777216)=(x0:Int)*16777216:=by rw[If];omega
 have y1:IntKind.u32.wrap ((x1:Int)*65536)=(x1:Int)*65536:=by rw[If];omega
 have y2:IntKind.u32.wrap ((x2:Int)*256)=(x2:Int)*256:=by rw[If];omega
 have hq:((x0:Int)*16777216+(x1:Int)*65536+(x2:Int)*256+(x3:Int) != (s:Int))=false:=by rw[bne_eq_false_iff_eq];omega
 have H:=zb N;clear h3 hb z ht N e0 e1 e2 e3 aN hs;have aO:(bs.take n).length=n:=by simp;omega
 obtain⟨l,aP⟩:=nm (bs.take n);rw[aP]at H aO ⊢;clear aP hn;subst aO
 go_enter_defers func74,ntmps74
 go_wp2_with (go_at_call 125;refine(O _ (((DW.refl _ _).alloc _).alloc _)).mono ?_;rintro e w' ⟨rfl,rfl⟩);go_quiet (fail);have hD:=Mr w nq (.slice (some ⟨g,o,none⟩) l.length cap);obtain⟨W,hW⟩:=nm (((((w.alloc (.cells #[.int .u64 0,.slice none 0 0] 56)).alloc (.cells #[.nilIface] 98)).drewN nq).alloc (.cells #[.slice (some ⟨g,o,none⟩) l.length cap,.int .i64 0] 229)).alloc (.cells #[.int .i64 0] 3));rw[hW]at hD;have HW:=zb hW;clear hW;have HD:=zb hD;have hgw:=bk;have P:∀b,w.heap.size<=b->Dl (EJ b) (.slice (some ⟨g,o,none⟩) l.length cap):=λb z g' o' n' c' e d=>by
  cases e;have:g=b:=d;omega
 have aQ:=zb P;have Q:=zW (w.heap.size+1+1) 0 (.slice (some ⟨g,o,none⟩) l.length cap) l W hD.rd (H.z.mod hD.mod (Dl.no _)) (P _ (by omega)) (AL _);clear hD P O k0 k1 k2 k3 o1 o2 o3 t2 t3 t4 y0 y1 y2 b0 b1 b2 b3;go_wp2_with fail;rw[HW.z];have hk:∀tmps r W' at_ num fv,tmps.getD 2 undef = .pointer (some ⟨w.heap.size,0,none⟩)->tmps.getD 3 undef = .pointer (some ⟨w.heap.size+1,0,none⟩)->DW DX w W'->Ge W' w.heap.size num fv->IP W' (w.heap.size+1) .nilIface->Io W' (w.heap.size+1+1+1) at_->r = .bad at_ ->
   bodyPostD prog f74 (Ed w r) (Exit.panic [{ v:=.iface 230 (.agg #[]),recovered:=false }]) { tmps:=tmps,defers:=[{ target:=.fn (.func 126) #[.pointer (some ⟨w.heap.size+1+1+1,0,none⟩),.pointer (some ⟨w.heap.size,0,none⟩),.pointer (some ⟨w.heap.size+1,0,none⟩)],args:=#[] }] } W' :=
  λtmps r W' at_ num fv e2 e3 hm hp y ha hr=>dy r w W' tmps _ _ _ at_ _ fv _ e2 e3 hm hp y (za ha rfl) (by omega) (AG _) (by omega) hr
 have Hk:=zb hk;clear hk HW;cases hr0:Ds l 0 with
 | none =>
  rw[hr0]at Q;have T:AA (FK l = .bad 0):=by show _=_;unfold FK;rw[hr0]
  clear hr0;refine Q.mono ?_;rintro e w1 (⟨_,_,d,_⟩|⟨_,y,hm⟩)
  ·cases d
  unfold D2 at y;subst y;have al:=hm;exact Hk.z _ _ w1 0 0 _ rfl rfl (HD.z.mod.then al (λi hi=>.inr (by cases hi;omega))) (al.obj (by show ¬w.heap.size=w.heap.size+1+1;omega) HD.z.pk) (al.obj (by show ¬w.heap.size+1=w.heap.size+1+1;omega) HD.z.er) (al.obj (by show ¬w.heap.size+1+1+1=w.heap.size+1+1;omega) HD.z.at_) T.z
 | some q0 =>
  obtain⟨num,p0⟩:=q0;rw[hr0]at Q;obtain⟨u1,u2,u3⟩:=zV hr0;have ax:=zb hr0;clear hr0;refine Q.mono ?_;rintro e w1 (⟨_,_,d,rfl,aR,m1⟩|⟨d,_⟩);rotate_left
  ·cases d
  simp only[Ay,Ax,BF]at d;obtain⟨rfl,rfl⟩:=d;have t:Ge w1 w.heap.size 0 (.slice none 0 0):=m1.obj (by show ¬w.heap.size=w.heap.size+1+1;omega) HD.z.pk;have bn:w1.cell? ⟨w.heap.size,0,none⟩=some (.int .u64 0):=za t rfl;have fp:w1.frozen? ⟨w.heap.size,0,none⟩=false:=zf t;obtain⟨X,hX⟩:=nm (w1.setCell ⟨w.heap.size,0,none⟩ (.int .u64 num));have mX:DW (λk=>k=w.heap.size) w1 X:=by rw[<-hX];exact(DW.refl (λk=>k=w.heap.size) w1).setCell (p:=⟨w.heap.size,0,none⟩) (.inl rfl) _
  have pX:Ge X w.heap.size num (.slice none 0 0):=by
   unfold Ge;rw[<-hX,zc t];simp
  have rX:=aR.mod mX (by show ¬w.heap.size+1+1=w.heap.size;omega);have eX:IP X (w.heap.size+1) .nilIface:=mX.obj (by show ¬w.heap.size+1=w.heap.size;omega) (m1.obj (by show ¬w.heap.size+1=w.heap.size+1+1;omega) HD.z.er);have aX:Io X (w.heap.size+1+1+1) 0:=mX.obj (by show ¬w.heap.size+1+1+1=w.heap.size;omega) (m1.obj (by show ¬w.heap.size+1+1+1=w.heap.size+1+1;omega) HD.z.at_);have aS:=(HD.z.mod.then m1 (λi hi=>.inr (by cases hi;omega))).then mX (λi hi=>.inr (by cases hi;omega));have bo:=rX.c1;have ay:=zb pX;have aT:=zb rX;have az:=zb eX;have aA:=zb aX;have aB:=zb aS;clear t mX pX rX eX aX aS aR m1 Q;by_cases A:p0=l.length
  ·have T:AA (FK l = .bad 0):=by show _=_;unfold FK;rw[ax.z];simp only[AN A]
   have e1:(p0==l.length)=true:=by simp[A]
   have bp:((p0:Int)==(l.length:Int))=true:=by simp[A]
   clear A;go_wp2_with (go_at_call 128;refine(I7 _ _).mono ?_;rintro e w' ⟨y,rfl⟩;unfold D2 at y;subst y);exact Hk.z _ _ X 0 num _ rfl rfl aB.z ay.z az.z aA.z T.z
  ·have e1:(p0==l.length)=false:=by simpa using A
   have bp:((p0:Int)==(l.length:Int))=false:=by rw[AR];omega
   obtain⟨R,U⟩:=nm (IC l (l.length+1) num p0 []);have T:AA (FK l=R):=by show _=_;unfold FK;rw[ax.z];simp only[AH A];exact U
   have aU:=T;have HA:AA (OY w X (.slice (some ⟨g,o,none⟩) l.length cap) l num R):=⟨l.length+1,p0,.slice none 0 0,[],0,aT.z,ay.z,az.z,aA.z,⟨World.ownsRow_nil X 0 _ 10,λx d=>by cases d⟩,(λg hg=>by cases hg),(λx d=>by cases d),u2,by omega,AL _,aB.z,U⟩;clear U T ax A ay aT az aA aB;go_wp2_with fail
   go_loopw [8,9,10,11,12] (λ_ _ _ _ _ wr=>OY w wr (.slice (some ⟨g,o,none⟩) l.length cap) l num R) (λ_ _ _ _ _ wr=>l.length-Iv wr (w.heap.size+1+1))
   case atStart=>exact HA.z
   case round =>
    obtain⟨fuel,pos,fv,q,at_,V,t,Y,B,am,aC,aD,bI,hfu,hrl,hm,U⟩:=hrel;obtain⟨fuel,rfl⟩:∃f,fuel=f+1:=⟨fuel-1,by omega⟩;unfold IC at U;have bo:=V.c1;have an:=zb V;have ao:=zb t;have aa:=zb Y;have aV:=zb B;have K:=zb am;have aW:=zb aC;have aY:=zb aD;have Hm:=zb hm;have hsz:=hm.size;have hws:=(AI.1 B).1;by_cases ab:pos<l.length
    ·rw[AN ab]at U;have T:=zb U;have ca:wr.cell? ⟨w.heap.size+1+1+1,0,none⟩=some (.int .i64 at_):=za B rfl;have fzA:wr.frozen? ⟨w.heap.size+1+1+1,0,none⟩=false:=zf B;obtain⟨W1,aE⟩:=nm (wr.setCell ⟨w.heap.size+1+1+1,0,none⟩ (.int .i64 pos));have m1:DW (RA w) wr W1:=by rw[<-aE];exact(DW.refl (RA w) wr).setCell (p:=⟨w.heap.size+1+1+1,0,none⟩) (.inl (.inr rfl)) _
     have aZ:DW (EJ (w.heap.size+1+1+1)) wr W1:=by rw[<-aE];exact(DW.refl (EJ (w.heap.size+1+1+1)) wr).setCell (p:=⟨w.heap.size+1+1+1,0,none⟩) (.inl rfl) _
     have a1:Io W1 (w.heap.size+1+1+1) pos:=by
      unfold Io;rw[<-aE,zc B];simp
     have r1:=V.mod aZ (by show ¬w.heap.size+1+1=w.heap.size+1+1+1;omega);have a0:=hm.then m1 (λi hi=>.inr (by rcases hi with rfl|rfl<;>omega));have aF:=Nb (w.heap.size+1+1) 1 pos 1 rfl (.slice (some ⟨g,o,none⟩) l.length cap) l W1 r1 (H.z.mod a0 (Dl.no _)) (aQ.z _ (by omega)) (by omega);obtain⟨tb,aG⟩:∃c,l[pos]?=some c:=⟨l[pos],AJ ab⟩;have a3:(l.drop pos).take 1=[tb]:=by
      rw[List.take_one,List.head?_drop,aG];rfl
     rw[a3]at aF;have ap:=zb aG;have M1:=zb m1;have A1:=zb a1;have sW1:=m1.size;have cr2:=r1.c1;have ac:GB l pos=none->∀tmps W',tmps.getD 2 undef = .pointer (some ⟨w.heap.size,0,none⟩)->tmps.getD 3 undef = .pointer (some ⟨w.heap.size+1,0,none⟩)->DW (RA w) wr W'->DW (EJ (w.heap.size+1+1)) W1 W' ->
       bodyPostD prog f74 (Ed w (FK l)) (Exit.panic [{ v:=.iface 230 (.agg #[]),recovered:=false }]) { tmps:=tmps,defers:=[{ target:=.fn (.func 126) #[.pointer (some ⟨w.heap.size+1+1+1,0,none⟩),.pointer (some ⟨w.heap.size,0,none⟩),.pointer (some ⟨w.heap.size+1,0,none⟩)],args:=#[] }] } W':=by
      intro u tmps W' e2 e3 mA mB;refine Hk.z tmps (FK l) W' pos num fv e2 e3 (Hm.z.then mA (λi hi=>.inr (by rcases hi with rfl|rfl<;>omega))) (mA.obj (λd=>by rcases d with d|d<;>omega) ao.z) (mA.obj (λd=>by rcases d with d|d<;>omega) aa.z) (mB.obj (λd=>by have:w.heap.size+1+1+1=w.heap.size+1+1:=d;omega) A1.z) ?_;have:=T.z;rw[u]at this;rw[aU.z];exact this.symm
     have C:=zb ac;clear U V t Y B am aC aD hm m1 aZ a1 r1 a0 aG a3 ac;go_wp2_with fail;refine aF.mono ?_;rintro e w2 ⟨sv,rfl,bq,a4,m2⟩;obtain⟨a2,c2,rfl,_,_,a5⟩:=bq;obtain⟨g2,o2,rfl,ct⟩:=a5 0 tb rfl;simp only[Br]at ct;have M2:AA (DW (RA w) wr w2):=M1.z.then m2 (λi hi=>.inl (.inl hi));have N2:=zb m2;have H2:=zb a4;have s2:=m2.size;clear a5 aF a4 m2;cases hkd:FA tb with
     | none =>
      have u:AA (GB l pos=none):=by
       show _=_;unfold GB;rw[ap.z];simp only[hkd,BJ]
      have aq:=λw=>dO tb w hkd
      clear hkd;go_wp2_with (first|(go_at_call 130;refine(aq _).mono ?_;rintro e w' ⟨rfl,rfl⟩)|(go_at_call 128;refine(I7 _ _).mono ?_;rintro e w' ⟨y,rfl⟩;unfold D2 at y;subst y));show bodyPostD prog f74 (Ed w (FK l)) (Exit.panic _) _ _;exact C.z u.z _ w2 (by rfl) (by rfl) M2.z N2.z
     | some k =>
      have aq:=λw=>dN tb k w hkd
      have ar:=zb hkd;have a6:((tb.toNat:Int)==9)=decide (tb=9):=by
       rw[DK,Cd,Af];constructor
       ·intro h;exact Cv.1 (by show _=9;omega)
       ·rintro rfl;rfl
      obtain⟨b9,ad⟩:=nm (decide (tb=9));rw[ad]at a6;have aH:=zb ad;obtain⟨W3,ae⟩:=nm (w2.alloc (.cells #[.int .i64 k,.int .i64 0,.int .u64 0,.int .u64 0,.int .u64 0,.bool b9,.int .u64 0,.int .u64 0,.string ⟨#[]⟩,.slice none 0 0] 65));have m3:=AB ae
      have f3:zj W3 w2.heap.size (f0 k b9) (.slice none 0 0):=by rw[<-ae];exact heap_alloc_new w2 _
      have av:=eC tb k hkd b9 l (.slice (some ⟨g,o,none⟩) l.length cap) W3;have M3:=zb m3;have F3:=zb f3;have z3':=AC ae
      have bt:=zb ae;clear hkd ad m3 f3 ae;go_wp2_with (go_at_call 130;refine(aq _).mono ?_;rintro e w' ⟨rfl,rfl⟩);rw[bt.z];refine av.mono ?_;rintro e w4 ⟨cb,wv,F,bJ,G,rfl,aI,gF,gG,m4,hcb,af,I⟩;have s3:=M3.z.size;have bu:=aI.2.1;have N4:AA (DW (EJ (w.heap.size+1+1)) W1 w4):=(N2.z.then M3.z (λi hi=>hi.elim)).then m4 (λi hi=>hi.elim);have M4:AA (DW (RA w) wr w4):=(M2.z.then M3.z (λi hi=>hi.elim)).then m4 (λi hi=>hi.elim);have F4:=F3.z.mod m4 (λx=>x);have R4:=(H2.z.mod M3.z (λx=>x)).mod m4 (λx=>x);have a7:=Hm.z.then M4.z (λi hi=>.inr (by rcases hi with rfl|rfl<;>omega));have aw:=af (w.heap.size+1+1) w2.heap.size (pos+1) R4 (H.z.mod a7 (Dl.no _)) (λg' o' n' c' e d=>by cases e;rcases d with d|d<;>omega) (by omega) (by omega) F4 (by omega);have bv:=zb aI;have bw:=zb I;have bz:=zb gG;have bA:∀args w,(callFunc F args).run prog w = .ok (.enter F args) w:=gF;have s4:=m4.size;clear av aI m4 af I gF gG F4 R4 a7 aq a6;go_wp2_with fail;refine aw.mono ?_;rintro e w5 (⟨f,rv,p,D,rfl,h5,au,aJ,ah,m5⟩|⟨D,y,m5⟩)
      ·have M5:AA (DW (RA w) wr w5):=M4.z.then m5 (λi hi=>by
        rcases hi with hi|hi
        ·exact .inl (.inl hi)
        ·exact .inr (by omega))
       have N5:AA (DW (EJ (w.heap.size+1+1)) W1 w5):=N4.z.then m5 (λi hi=>by
        rcases hi with hi|hi
        ·exact .inl hi
        ·have:=N2.z.size;exact .inr (by omega))
       obtain⟨d1,d2,d3,d4,d5⟩:=UN ar.z (by omega) D;have a8:=bv.z.mod m5 (by rintro(hi|hi)<;>omega);have L:=TD w2.heap.size cb f rv wv _ G (zN f) w5 au a8 bz.z (λw' m hq=>bw.z w' w2.heap.size f rv (au.mod m (λx=>x)) (aJ.rr.mod m (Dl.no _)) d1 (by omega) (by omega) hq);rw[show(EM f&&ER f&&zN f)=zT f from rfl]at L;have bB:=zb au;have bC:=zb aJ;have bD:=zb ah;have H5:=zb h5;have s5:=m5.size;clear aw a8 au aJ ah h5 m5 bA bu d1;cases hsf:zT f with
       | false =>
        rw[hsf]at L;have u:AA (GB l pos=none):=by
         show _=_;unfold GB;rw[ap.z];simp only[ar.z,AU,aH.z,D,hsf];rfl
        clear D hsf;go_wp2_with (first|(go_at_call 132;refine L.mono ?_;rintro e w6 ⟨rfl,m6⟩;have M6:=zb m6;clear m6)|(go_at_call 128;refine(I7 _ _).mono ?_;rintro e w' ⟨y,rfl⟩;unfold D2 at y;subst y));show bodyPostD prog f74 (Ed w (FK l)) (Exit.panic _) _ _;exact C.z u.z _ w6 (by rfl) (by rfl) (M5.z.then M6.z (λi hi=>hi.elim)) (N5.z.then M6.z (λi hi=>hi.elim))
       | true =>
        rw[hsf]at L;have u:AA (GB l pos=some (f,p)):=by
         show _=_;unfold GB;rw[ap.z];simp only[ar.z,AU,aH.z,D,hsf];rfl
        clear D hsf;go_wp2_with fail;refine L.mono ?_;rintro e w6 ⟨rfl,m6⟩;have M6:AA (DW (RA w) wr w6):=M5.z.then m6 (λi hi=>hi.elim);have a9:AA (DW DX w5 w6):=m6;have N6:AA (DW (EJ (w.heap.size+1+1)) W1 w6):=N5.z.then m6 (λi hi=>hi.elim);have f6:=bB.z.mod m6 (λx=>x);have o6:=bC.z.mod m6 (λ_ _ x=>x);have p6:Ge w6 w.heap.size num fv:=M6.z.obj (λd=>by rcases d with d|d<;>omega) ao.z;have ai:=K.z.mod M6.z (λi hi=>.inr (by
         rcases hi with rfl|rfl
         ·exact⟨_,_,_,an.z,by decide,by decide⟩
         ·exact⟨_,_,_,aV.z,by decide,by decide⟩))
        obtain⟨ra,rc,rfl,_⟩:=zi o6.1;obtain⟨k0,k1,k2,k3,k4,k5,k6,k7,k8,k9⟩:=f6.cells;obtain⟨v7,W7,ba,aj,bb,bc⟩:=Rh w6 fv q f ra f.rngs.length rc ai.1 (by omega);obtain⟨E,fc,rfl,_⟩:=zi ai.1;have cp6:w6.cell? ⟨w.heap.size,1,none⟩=some (.slice E q.length fc):=za p6 rfl;obtain⟨W8,be⟩:=nm (W7.setCell ⟨w.heap.size,1,none⟩ v7);have m7:=(DW.refl _ _).grown bb (λk hk=>.inl hk);have p7:Ge W7 w.heap.size num (.slice E q.length fc):=m7.obj (λd=>IJ ai.1 p6 (by decide) d) p6;have cp7:W7.cell? ⟨w.heap.size,1,none⟩=some (.slice E q.length fc):=za p7 rfl;have fp7:W7.frozen? ⟨w.heap.size,1,none⟩=false:=zf p7;obtain⟨va,vc,rfl,_⟩:=zi aj;have aK:=zb o6;have aL:=zb p7;have J:=zb ai;have M:=zb m7;have ak:=zb aj;have bf:=zb bc;have HF6:=zb f6;clear L m6 f6 o6 p6 ai p7 m7 aj bc bb;unfold zh at ba;go_wp2_with (at_builtin;refine zm rfl _ _ _ _ rfl _ _ _ rfl rfl ba ?_);have m8:DW (λk=>k=w.heap.size) W7 W8:=by rw[<-be];exact(DW.refl (λk=>k=w.heap.size) W7).setCell (p:=⟨w.heap.size,1,none⟩) (.inl rfl) _
        have aM:OY w W8 (.slice (some ⟨g,o,none⟩) l.length cap) l num R:=by
         have bh:=λi hi=>aW.z i hi
         have q1:¬(Value.slice E q.length fc).ownBlock=some (w.heap.size+1+1):=λd=>IJ K.z.1 an.z (by decide) d
         have q2:¬(Value.slice E q.length fc).ownBlock=some (w.heap.size+1):=λd=>IJ K.z.1 aa.z (by decide) d
         have q3:¬(Value.slice E q.length fc).ownBlock=some (w.heap.size+1+1+1):=λd=>IJ K.z.1 aV.z (by decide) d
         have bE:IP w6 (w.heap.size+1) .nilIface:=M6.z.obj (λd=>by rcases d with d|d<;>omega) aa.z;have bF:Io w6 (w.heap.size+1+1+1) pos:=N6.z.obj (λd=>by have:w.heap.size+1+1+1=w.heap.size+1+1:=d;omega) A1.z;have Ft:=H5.z.mod (DW.refl DX w5) (λx=>x) |>.mod (S:=DX) a9.z (λx=>x);refine⟨fuel,p,.slice va (q.length+1) vc,q++[(f,.slice ra f.rngs.length rc)],pos,?_,?_,?_,?_,⟨?_,?_⟩,?_,?_,d3,by omega,?_,?_,?_⟩
         ·exact(Ft.mod M.z q1).mod m8 (by show ¬w.heap.size+1+1=w.heap.size;omega)
         ·unfold Ge;rw[<-be,zc aL.z];simp
         ·exact m8.obj (by show ¬w.heap.size+1=w.heap.size;omega) (M.z.obj q2 bE)
         ·exact m8.obj (by show ¬w.heap.size+1+1+1=w.heap.size;omega) (M.z.obj q3 bF)
         ·have:=m8.owns ak.z (λi hi d=>IJ ak.z aL.z (by decide) (by rw[hi,d]));simpa using this
         ·intro x d;have bi:FG w6 x.2 x.1.rngs/\∀i,x.2.ownBlock=some i->¬(Value.slice E q.length fc).ownBlock=some i:=by
           rcases An.1 d with h1|h1
           ·refine⟨J.z.2 x h1,λi hi hj=>?_⟩;exact TO J.z.1 (J.z.2 x h1).1 (by decide) hj hi
           ·simp only[Ab]at h1;subst h1;exact⟨aK.z,λi hi hj=>TO J.z.1 aK.z.1 (by decide) hj hi⟩
          have h7:=bi.1.mod M.z bi.2;exact h7.mod m8 (λi hi hj=>IJ h7.1 aL.z (by decide) (by rw[hi];exact A0 some hj))
         ·intro i hi;rcases bf.z i hi with h1|h1
          ·exact bh i h1
          ·have:=M6.z.size;omega
         ·intro x d i hi;rcases An.1 d with h1|h1
          ·exact aY.z x h1 i hi
          ·simp only[Ab]at h1;subst h1;have:=dG aK.z.1 bD.z i hi;omega
         ·simp only[AF,AQ,AX];omega
         ·exact((Hm.z.then M6.z (λi hi=>.inr (by rcases hi with rfl|rfl<;>omega))).then M.z (λi hi=>.inr (bh i hi))).then m8 (λi hi=>.inr (by cases hi;omega))
         ·have:=T.z;rw[u.z]at this;simpa using this
        have HP:AA (Iv W8 (w.heap.size+1+1)=p/\Iv wr (w.heap.size+1+1)=pos):=by
         obtain⟨_,p',_,_,_,hr8,_,_,_,_,_,_,_,_,_,_,_⟩:=id aM;refine⟨?_,Nk an.z⟩;have Ft:=H5.z.mod (S:=DX) a9.z (λx=>x);have q1:¬(Value.slice E q.length fc).ownBlock=some (w.heap.size+1+1):=λd=>IJ K.z.1 an.z (by decide) d
         exact Nk ((Ft.mod M.z q1).mod m8 (by show ¬w.heap.size+1+1=w.heap.size;omega))
        have bj:=zb aM;have bG:=zb ab;clear aM m8 ab;go_roundw
        case rel=>exact bj.z
        case measure =>
         have:=bG.z;rw[HP.z.1,HP.z.2];omega
      ·have N5:AA (DW (EJ (w.heap.size+1+1)) W1 w5):=N4.z.then m5 (λi hi=>by
        rcases hi with hi|hi
        ·exact .inl hi
        ·have:=N2.z.size;exact .inr (by omega))
       have M5:AA (DW (RA w) wr w5):=M4.z.then m5 (λi hi=>by
        rcases hi with hi|hi
        ·exact .inl (.inl hi)
        ·exact .inr (by omega))
       have u:AA (GB l pos=none):=by
        show _=_;unfold GB;rw[ap.z];simp only[ar.z,AU,aH.z,D,BJ]
       unfold D2 at y;subst y;show bodyPostD prog f74 (Ed w (FK l)) (Exit.panic _) _ _;exact C.z u.z _ w5 (by rfl) (by rfl) M5.z N5.z
    ·rw[AH ab]at U;have T:AA (FK l = .ok num (q.map (·.1))):=by show _=_;rw[aU.z];exact U.symm
     have bn:wr.cell? ⟨w.heap.size,0,none⟩=some (.int .u64 num):=za t rfl;have ce0:wr.cell? ⟨w.heap.size+1,0,none⟩=some .nilIface:=za Y rfl;obtain⟨E,fc,rfl,_⟩:=zi am.1;have cp1:wr.cell? ⟨w.heap.size,1,none⟩=some (.slice E q.length fc):=za t rfl;have f0':∀j,wr.frozen? ⟨w.heap.size,j,none⟩=false:=λj=>zf t
     have f1':∀j,wr.frozen? ⟨w.heap.size+1,j,none⟩=false:=λj=>zf Y
     clear U V t Y B am aC aD hm;go_wp2_with fail;obtain⟨Z,hZ⟩:=nm (((wr.setCell ⟨w.heap.size,0,none⟩ (.int .u64 num)).setCell ⟨w.heap.size,1,none⟩ (.slice E q.length fc)).setCell ⟨w.heap.size+1,0,none⟩ .nilIface);rw[hZ];have mZ:DW (λk=>k=w.heap.size\/k=w.heap.size+1) wr Z:=by
      rw[<-hZ];exact(((DW.refl (λk=>k=w.heap.size\/k=w.heap.size+1) wr).setCell (p:=⟨w.heap.size,0,none⟩) (.inl (.inl rfl)) _).setCell (p:=⟨w.heap.size,1,none⟩) (.inl (.inl rfl)) _).setCell (p:=⟨w.heap.size+1,0,none⟩) (.inl (.inr rfl)) _
     have o1:=zc (i:=1) (v:=.slice E q.length fc) (zc (i:=0) (v:=.int .u64 num) ao.z);have pZ:Ge Z w.heap.size num (.slice E q.length fc):=by
      unfold Ge;rw[<-hZ];exact(((DW.refl (λk=>k=w.heap.size+1) _).setCell (p:=⟨w.heap.size+1,0,none⟩) (.inl rfl) _).obj (by show ¬w.heap.size=w.heap.size+1;omega) o1).trans (by simp)
     have eZ:IP Z (w.heap.size+1) .nilIface:=by
      unfold IP;rw[<-hZ];have e1:=(((DW.refl (λk=>k=w.heap.size) wr).setCell (p:=⟨w.heap.size,0,none⟩) (.inl rfl) (.int .u64 num)).setCell (p:=⟨w.heap.size,1,none⟩) (.inl rfl) (.slice E q.length fc)).obj (by show ¬w.heap.size+1=w.heap.size;omega) aa.z;exact(zc (i:=0) e1).trans (by simp)
     refine Uu (FK l) w Z _ w.heap.size (w.heap.size+1) num _ _ _ (.slice E q.length fc) q (by rfl) (by rfl) (Hm.z.then mZ (λi hi=>.inr (by rcases hi with rfl|rfl<;>omega))) pZ eZ ?_ aW.z aY.z T.z;exact K.z.mod mZ (λi hi=>.inr (by
      rcases hi with rfl|rfl
      ·exact⟨_,_,_,ao.z,by decide,by decide⟩
      ·exact⟨_,_,_,aa.z,by decide,by decide⟩))
def Nw(v:Value)(bs:List UInt8)(w:World)(hb:BR w v bs)(b:Fc w)(hl:bs.length<1099511627776):Calls prog 74 #[v] w (Ed w (dec bs)):=by
 unfold dec;by_cases h4:bs.length<4
 ·rw[AN h4];exact dH v bs w hb h4
 ·rw[AH h4];obtain⟨n,c⟩:∃n,bs.length=n+4:=⟨bs.length-4,by omega⟩;rw[show bs.length-4=n by omega];by_cases a:Gq bs n=Dv (bs.take n)
  ·rw[AN a];exact WU v bs n w hb b c a (by omega)
  ·rw[AH a];exact Uv v bs n w hb b c a
end
section
open Go.RowKit Go.Proofs.Tryz Go.Extern.Stop Go.Stop Go.Extern
def Tm(t:Addr)(w:World):(ReflectliteValue.unpack (.iface 164 (.pointer (some t)))).run prog w
  = .ok (.agg #[.pointer (some ⟨2,164,none⟩),.pointer (some ⟨w.heap.size,0,none⟩),.int .u64 150]) (w.alloc (.cells #[.pointer (some t)] 164)):=by kernel_rfl
def RU (a : Addr) (w : World) : (ReflectliteValue.methodAny (ReflectliteValue.valueError "reflectlite.Value.Type" 0) (λt _ _ _ => ReflectliteType.toType t) #[.agg #[.pointer (some ⟨2, 164, none⟩), .pointer (some a), .int .u64 150]]).run prog w
  = .ok (.iface 286 (.agg #[.pointer (some ⟨2,164,none⟩)])) w:=by kernel_rfl
def RT(w:World):((ReflectliteType.abiMethod λt=>(λa:Nat=>Value.int IntKind.u8 (a:Int)) <$> Rtype.kind t) #[.pointer (some ⟨2,164,none⟩)]).run prog w = .ok (.int .u8 22) w:=by kernel_rfl
def Rg(w:World):((ReflectliteType.abiMethod λt=>(λa:Nat=>Value.int IntKind.u8 (a:Int)) <$> Rtype.kind t) #[.pointer (some ⟨2,162,none⟩)]).run prog w = .ok (.int .u8 22) w:=by kernel_rfl
def Rf(a:Addr)(w:World):(ReflectliteValue.parts (.agg #[.pointer (some ⟨2,164,none⟩),.pointer (some a),.int .u64 150])).run prog w = .ok (some (164,a,150)) w:=by kernel_rfl
def RP(w:World):(ReflectliteType.method ReflectliteType.elem #[.agg #[.pointer (some ⟨2,164,none⟩)]]).run prog w = .ok (.iface 286 (.agg #[.pointer (some ⟨2,162,none⟩)])) w:=by kernel_rfl
def RO (w : World) : (ReflectliteType.relation "Implements" ReflectliteType.implements_ #[.agg #[.pointer (some ⟨2, 162, none⟩)], .iface 286 (.agg #[.pointer (some ⟨2, 98, none⟩)])]).run prog w = .ok (.bool true) w := by kernel_rfl
def dF(w:World):(Rtype.elem? 164).run prog w = .ok (some 162) w:=by kernel_rfl
def du(t:Addr)(w:World):(ReflectliteValue.unpack (.iface 168 (.pointer (some t)))).run prog w
  = .ok (.agg #[.pointer (some ⟨2,168,none⟩),.pointer (some ⟨w.heap.size,0,none⟩),.int .u64 150]) (w.alloc (.cells #[.pointer (some t)] 168)):=by kernel_rfl
def Ut (a : Addr) (w : World) : (ReflectliteValue.methodAny (ReflectliteValue.valueError "reflectlite.Value.Type" 0) (λt _ _ _ => ReflectliteType.toType t) #[.agg #[.pointer (some ⟨2, 168, none⟩), .pointer (some a), .int .u64 150]]).run prog w
  = .ok (.iface 286 (.agg #[.pointer (some ⟨2,168,none⟩)])) w:=by kernel_rfl
def Us(w:World):((ReflectliteType.abiMethod λt=>(λa:Nat=>Value.int IntKind.u8 (a:Int)) <$> Rtype.kind t) #[.pointer (some ⟨2,168,none⟩)]).run prog w = .ok (.int .u8 22) w:=by kernel_rfl
def WT(w:World):((ReflectliteType.abiMethod λt=>(λa:Nat=>Value.int IntKind.u8 (a:Int)) <$> Rtype.kind t) #[.pointer (some ⟨2,57,none⟩)]).run prog w = .ok (.int .u8 2) w:=by kernel_rfl
def Re(a:Addr)(w:World):(ReflectliteValue.parts (.agg #[.pointer (some ⟨2,168,none⟩),.pointer (some a),.int .u64 150])).run prog w = .ok (some (168,a,150)) w:=by kernel_rfl
def Ur(w:World):(ReflectliteType.method ReflectliteType.elem #[.agg #[.pointer (some ⟨2,168,none⟩)]]).run prog w = .ok (.iface 286 (.agg #[.pointer (some ⟨2,57,none⟩)])) w:=by kernel_rfl
def Uq (w : World) : (ReflectliteType.relation "Implements" ReflectliteType.implements_ #[.agg #[.pointer (some ⟨2, 57, none⟩)], .iface 286 (.agg #[.pointer (some ⟨2, 98, none⟩)])]).run prog w = .ok (.bool true) w := by kernel_rfl
def dD(w:World):(Rtype.elem? 168).run prog w = .ok (some 57) w:=by kernel_rfl
def Ov (h : Value) (w : World) : (Go.method 451 286 (.agg #[h]) "Kind").run prog w = .ok (234, h) w := by kernel_rfl
def Ou (h : Value) (w : World) : (Go.method 451 286 (.agg #[h]) "Elem").run prog w = .ok (252, .agg #[h]) w := by kernel_rfl
def Ot (h : Value) (w : World) : (Go.method 451 286 (.agg #[h]) "Implements").run prog w = .ok (253, .agg #[h]) w := by kernel_rfl
def OX (h : Value) (w : World) : (Go.method 451 286 (.agg #[h]) "AssignableTo").run prog w = .ok (250, .agg #[h]) w := by kernel_rfl
def JF (h : Value) (w : World) : (Go.method 451 286 (.agg #[h]) "Comparable").run prog w = .ok (251, .agg #[h]) w := by kernel_rfl
def XV(v:Value)(w:World):(ReflectliteType.typeOf #[.iface 162 v]).run prog w = .ok (.iface 286 (.agg #[.pointer (some ⟨2,162,none⟩)])) w:=by kernel_rfl
def Nj(v:Value)(w:World):(ReflectliteType.typeOf #[.iface 57 v]).run prog w = .ok (.iface 286 (.agg #[.pointer (some ⟨2,57,none⟩)])) w:=by kernel_rfl
def Ks (w : World) : (ReflectliteType.relation "AssignableTo" ReflectliteType.assignableTo #[.agg #[.pointer (some ⟨2, 162, none⟩)], .iface 286 (.agg #[.pointer (some ⟨2, 162, none⟩)])]).run prog w = .ok (.bool true) w := by kernel_rfl
def Kt (w : World) : (ReflectliteType.relation "AssignableTo" ReflectliteType.assignableTo #[.agg #[.pointer (some ⟨2, 57, none⟩)], .iface 286 (.agg #[.pointer (some ⟨2, 162, none⟩)])]).run prog w = .ok (.bool false) w := by kernel_rfl
def Ku (w : World) : (ReflectliteType.relation "AssignableTo" ReflectliteType.assignableTo #[.agg #[.pointer (some ⟨2, 57, none⟩)], .iface 286 (.agg #[.pointer (some ⟨2, 57, none⟩)])]).run prog w = .ok (.bool true) w := by kernel_rfl
def dC(e:Addr)(w:World):(ReflectliteValue.unpack (.iface 162 (.pointer (some e)))).run prog w
  = .ok (.agg #[.pointer (some ⟨2,162,none⟩),.pointer (some ⟨w.heap.size,0,none⟩),.int .u64 150]) (w.alloc (.cells #[.pointer (some e)] 162)):=by kernel_rfl
def dB(n:Int)(w:World):(ReflectliteValue.unpack (.iface 57 (.int .i64 n))).run prog w
  = .ok (.agg #[.pointer (some ⟨2,57,none⟩),.pointer (some ⟨w.heap.size,0,none⟩),.int .u64 130]) (w.alloc (.cells #[.int .i64 n] 57)):=by kernel_rfl
def OT(z:Sem Value)(f:TypeId->Addr->Nat->Nat->Sem Value)(v:Value):ReflectliteValue.method z f #[v]=(do match <-ReflectliteValue.parts v with|none=>z|some (t,a,fl)=>f t a fl (fl % 32)):=rfl
theorem UY(v x:Value):ReflectliteValue.set #[v,x]=(do
  let (some (dst,a,fl),some (src,b,_)):=(<-ReflectliteValue.parts v,<-ReflectliteValue.parts x)
   | unsupported (.noEntry "extern/(internal/reflectlite.Value).Set.zeroValue")
  if fl / ReflectliteValue.flagAddr % 2 == 0 then unsupported (.noEntry "extern/(internal/reflectlite.Value).Set.unaddressable")
  let val <-loadVar src b
  if <-Rtype.directlyAssignable dst src then storeVar dst a val
  else if <-Rtype.implements dst src then
   if (<-Rtype.kind src)==20 then
    match val with
    | .nilIface => unsupported (.noEntry "extern/reflectlite: a nil value of one interface type handed on as a value of another")
    | _=>storeVar dst a val
   else storeVar dst a (.iface src val)
  else panicString ("reflectlite.Set: value of type " ++ (<- Rtype.spelt src) ++ " is not assignable to type " ++ (<- Rtype.spelt dst))
  pure (.tuple #[])):=rfl
def Rd(a p:Addr)(W:World)(ha:W.cell? a=some (.pointer (some p))):(ReflectliteValue.method (ReflectliteValue.valueError "reflectlite.Value.IsNil" 0) ReflectliteValue.isNil #[.agg #[.pointer (some ⟨2, 164, none⟩), .pointer (some a), .int .u64 150]]).run prog W = .ok (.bool false) W := by
 rw[OT];simp only[Sem.run_bind,Rf,Result.andThen];simp[ReflectliteValue.isNil,loadVar,isAgg,underlying,underlying164,ha,Result.andThen]
def MP(p:Addr)(w:World):(ReflectliteValue.mk 162 p ReflectliteValue.flagAddr).run prog w = .ok (.agg #[.pointer (some ⟨2,162,none⟩),.pointer (some p),.int .u64 406]) w:=by kernel_rfl
def XU(a p:Addr)(W:World)(ha:W.cell? a=some (.pointer (some p))):(ReflectliteValue.method (ReflectliteValue.valueError "reflectlite.Value.Elem" 0) ReflectliteValue.elem #[.agg #[.pointer (some ⟨2, 164, none⟩), .pointer (some a), .int .u64 150]]).run prog W
   = .ok (.agg #[.pointer (some ⟨2,162,none⟩),.pointer (some p),.int .u64 406]) W:=by
 rw[OT];simp only[Sem.run_bind,Rf,Result.andThen];simp[ReflectliteValue.elem,loadVar,isAgg,underlying,underlying164,ha,Result.andThen,dF,MP]
def dA(a:Addr)(w:World):(ReflectliteValue.parts (.agg #[.pointer (some ⟨2,162,none⟩),.pointer (some a),.int .u64 406])).run prog w = .ok (some (162,a,406)) w:=by kernel_rfl
def cZ(a:Addr)(w:World):(ReflectliteValue.parts (.agg #[.pointer (some ⟨2,162,none⟩),.pointer (some a),.int .u64 150])).run prog w = .ok (some (162,a,150)) w:=by kernel_rfl
def cY(w:World):(Rtype.directlyAssignable 162 162).run prog w = .ok true w:=by kernel_rfl
def KM(a b:Addr)(e:Addr)(old:Value)(W:World)(hb:W.cell? b=some (.pointer (some e)))(ht:W.cell? a=some old)(hf:W.frozen? a=false):(ReflectliteValue.set #[.agg #[.pointer (some ⟨2,162,none⟩),.pointer (some a),.int .u64 406],.agg #[.pointer (some ⟨2,162,none⟩),.pointer (some b),.int .u64 150]]).run prog W
   = .ok (.tuple #[]) (W.setCell a (.pointer (some e))):=by
 rw[UY];simp only[Sem.run_bind,dA,cZ,Result.andThen];simp[ReflectliteValue.flagAddr,loadVar,isAgg,underlying,underlying162,hb,Result.andThen,cY,storeVar,Value.cells,storeCells,Addr.add];rw[run_store prog W a _ _ (by rfl)];simp[ht,hf]
def XT(a p:Addr)(W:World)(ha:W.cell? a=some (.pointer (some p))):(ReflectliteValue.method (ReflectliteValue.valueError "reflectlite.Value.IsNil" 0) ReflectliteValue.isNil #[.agg #[.pointer (some ⟨2, 168, none⟩), .pointer (some a), .int .u64 150]]).run prog W = .ok (.bool false) W := by
 rw[OT];simp only[Sem.run_bind,Re,Result.andThen];simp[ReflectliteValue.isNil,loadVar,isAgg,underlying,underlying168,ha,Result.andThen]
def MQ(p:Addr)(w:World):(ReflectliteValue.mk 57 p ReflectliteValue.flagAddr).run prog w = .ok (.agg #[.pointer (some ⟨2,57,none⟩),.pointer (some p),.int .u64 386]) w:=by kernel_rfl
def XS(a p:Addr)(W:World)(ha:W.cell? a=some (.pointer (some p))):(ReflectliteValue.method (ReflectliteValue.valueError "reflectlite.Value.Elem" 0) ReflectliteValue.elem #[.agg #[.pointer (some ⟨2, 168, none⟩), .pointer (some a), .int .u64 150]]).run prog W
   = .ok (.agg #[.pointer (some ⟨2,57,none⟩),.pointer (some p),.int .u64 386]) W:=by
 rw[OT];simp only[Sem.run_bind,Re,Result.andThen];simp[ReflectliteValue.elem,loadVar,isAgg,underlying,underlying168,ha,Result.andThen,dD,MQ]
def dX(a:Addr)(w:World):(ReflectliteValue.parts (.agg #[.pointer (some ⟨2,57,none⟩),.pointer (some a),.int .u64 386])).run prog w = .ok (some (57,a,386)) w:=by kernel_rfl
def dW(a:Addr)(w:World):(ReflectliteValue.parts (.agg #[.pointer (some ⟨2,57,none⟩),.pointer (some a),.int .u64 130])).run prog w = .ok (some (57,a,130)) w:=by kernel_rfl
def dV(w:World):(Rtype.directlyAssignable 57 57).run prog w = .ok true w:=by kernel_rfl
def KN(a b:Addr)(e:Int)(old:Value)(W:World)(hb:W.cell? b=some (.int .i64 e))(ht:W.cell? a=some old)(hf:W.frozen? a=false):(ReflectliteValue.set #[.agg #[.pointer (some ⟨2,57,none⟩),.pointer (some a),.int .u64 386],.agg #[.pointer (some ⟨2,57,none⟩),.pointer (some b),.int .u64 130]]).run prog W
   = .ok (.tuple #[]) (W.setCell a (.int .i64 e)):=by
 rw[UY];simp only[Sem.run_bind,dX,dW,Result.andThen];simp[ReflectliteValue.flagAddr,loadVar,isAgg,underlying,underlying57,hb,Result.andThen,dV,storeVar,Value.cells,storeCells,Addr.add];rw[run_store prog W a _ _ (by rfl)];simp[ht,hf]
def Er(w:World):Prop:=w.cell? ⟨0,0,none⟩=some (.iface 286 (.agg #[.pointer (some ⟨2,98,none⟩)]))
def Mx(e:Addr)(t:Addr)(old:Value)(w:World)(hg:Er w)(a:w.cell? t=some old)(c:w.frozen? t=false):Calls prog 75 #[.iface 162 (.pointer (some e)),.iface 164 (.pointer (some t))] w λev w'=>ev = .returned (.bool true)/\w'=((((w.alloc (.cells #[.pointer (some t)] 164)).alloc (.cells #[.pointer (some ⟨2,164,none⟩),.pointer (some ⟨w.heap.size,0,none⟩),.int .u64 150] 247)).alloc (.cells #[.pointer (some ⟨2,164,none⟩),.pointer (some ⟨w.heap.size,0,none⟩),.int .u64 150] 247)).alloc (.cells #[.pointer (some e)] 162)).setCell t (.pointer (some e)):=by
 unfold Er at hg;have h6 := @run_callFunc_extern prog 133 _ (λargs=>ReflectliteValue.unpack (args.getD 0 (.tuple #[]))) func133 (by kernel_rfl) (by kernel_rfl) (by kernel_rfl) (by kernel_rfl);have h7 := @run_callFunc_extern prog 134 _ (ReflectliteValue.methodAny (ReflectliteValue.valueError "reflectlite.Value.Type" 0) (λt _ _ _ => ReflectliteType.toType t)) func134 (by kernel_rfl) (by kernel_rfl) (by kernel_rfl) (by kernel_rfl);have h8 := @run_callFunc_extern prog 135 _ (ReflectliteValue.method (ReflectliteValue.valueError "reflectlite.Value.IsNil" 0) ReflectliteValue.isNil) func135 (by kernel_rfl) (by kernel_rfl) (by kernel_rfl) (by kernel_rfl);have h27 := @run_callFunc_extern prog 234 _ (ReflectliteType.abiMethod λt=>do pure (.int .u8 (<-Rtype.kind t))) func234 (by kernel_rfl) (by kernel_rfl) (by kernel_rfl) (by kernel_rfl);have h37 := @run_callFunc_extern prog 252 _ (ReflectliteType.method ReflectliteType.elem) func252 (by kernel_rfl) (by kernel_rfl) (by kernel_rfl) (by kernel_rfl);have h38 := @run_callFunc_extern prog 253 _ (ReflectliteType.relation "Implements" ReflectliteType.implements_) func253 (by kernel_rfl) (by kernel_rfl) (by kernel_rfl) (by kernel_rfl);have h10 := @run_callFunc_extern prog 137 _ ReflectliteType.typeOf func137 (by kernel_rfl) (by kernel_rfl) (by kernel_rfl) (by kernel_rfl);have h35 := @run_callFunc_extern prog 250 _ (ReflectliteType.relation "AssignableTo" ReflectliteType.assignableTo) func250 (by kernel_rfl) (by kernel_rfl) (by kernel_rfl) (by kernel_rfl);have h11 := @run_callFunc_extern prog 191 _ (ReflectliteValue.method (ReflectliteValue.valueError "reflectlite.Value.Elem" 0) ReflectliteValue.elem) func191 (by kernel_rfl) (by kernel_rfl) (by kernel_rfl) (by kernel_rfl);have h12 := @run_callFunc_extern prog 192 _ ReflectliteValue.set func192 (by kernel_rfl) (by kernel_rfl) (by kernel_rfl) (by kernel_rfl);have tO:=XV;have mA:=OX;have a25:=Ks;have v25:=dC;have f6:=Tm;have f7:=RU;have mK:=Ov;have mE:=Ou;have mI:=Ot;have k27:=RT;have k25:=Rg;have e27:=RP;have i25:=RO;have n8:=Rd ⟨w.heap.size,0,none⟩ t ((w.alloc (.cells #[.pointer (some t)] 164)).alloc (.cells #[.pointer (some ⟨2,164,none⟩),.pointer (some ⟨w.heap.size,0,none⟩),.int .u64 150] 247)) (by simp);have d:0<w.heap.size:=by
  rcases C3 w.heap.size with h0|h
  ·simp[World.cell?,h0]at hg
  ·exact h
 have hg2:((w.alloc (.cells #[.pointer (some t)] 164)).alloc (.cells #[.pointer (some ⟨2,164,none⟩),.pointer (some ⟨w.heap.size,0,none⟩),.int .u64 150] 247)).cell? ⟨0,0,none⟩=some (.iface 286 (.agg #[.pointer (some ⟨2,98,none⟩)])):=by
  rw[World.cell?_alloc_lt _ _ ⟨0,0,none⟩ (by simp),World.cell?_alloc_lt _ _ ⟨0,0,none⟩ d];exact hg
 have b:t.block<w.heap.size:=by
  rcases Nat.lt_or_ge t.block w.heap.size with h|h
  ·exact h
  ·simp[World.cell?,CQ h]at a
 have el:=XU ⟨w.heap.size,0,none⟩ t (((w.alloc (.cells #[.pointer (some t)] 164)).alloc (.cells #[.pointer (some ⟨2,164,none⟩),.pointer (some ⟨w.heap.size,0,none⟩),.int .u64 150] 247)).alloc (.cells #[.pointer (some ⟨2,164,none⟩),.pointer (some ⟨w.heap.size,0,none⟩),.int .u64 150] 247)) (by rw[World.cell?_alloc_lt _ _ ⟨w.heap.size,0,none⟩ (by simp;omega)];simp);have st:=KM t ⟨w.heap.size+1+1+1,0,none⟩ e old ((((w.alloc (.cells #[.pointer (some t)] 164)).alloc (.cells #[.pointer (some ⟨2,164,none⟩),.pointer (some ⟨w.heap.size,0,none⟩),.int .u64 150] 247)).alloc (.cells #[.pointer (some ⟨2,164,none⟩),.pointer (some ⟨w.heap.size,0,none⟩),.int .u64 150] 247)).alloc (.cells #[.pointer (some e)] 162))
  (by rw[World.cell?_alloc_at _ _ _ _ (by simp)];rfl)
  (by rw[World.cell?_alloc_lt _ _ t (by simp;omega),World.cell?_alloc_lt _ _ t (by simp;omega),World.cell?_alloc_lt _ _ t (by simp;omega),World.cell?_alloc_lt _ _ t b];exact a)
  (by rw[World.frozen?_alloc_old _ _ t (by simp;omega),World.frozen?_alloc_old _ _ t (by simp;omega),World.frozen?_alloc_old _ _ t (by simp;omega),World.frozen?_alloc_old _ _ t (Nat.ne_of_lt b)];exact c)
 go_enter func75,ntmps75;go_wp2;refine wp_loop_rounds 1 ?_;rw[rounds_succ];go_wp2;go_ret;exact⟨rfl,rfl⟩
def Mz(e:Int)(t:Addr)(old:Value)(w:World)(hg:Er w)(a:w.cell? t=some old)(c:w.frozen? t=false):Calls prog 75 #[.iface 57 (.int .i64 e),.iface 168 (.pointer (some t))] w λev w'=>ev = .returned (.bool true)/\w'=((((w.alloc (.cells #[.pointer (some t)] 168)).alloc (.cells #[.pointer (some ⟨2,168,none⟩),.pointer (some ⟨w.heap.size,0,none⟩),.int .u64 150] 247)).alloc (.cells #[.pointer (some ⟨2,168,none⟩),.pointer (some ⟨w.heap.size,0,none⟩),.int .u64 150] 247)).alloc (.cells #[.int .i64 e] 57)).setCell t (.int .i64 e):=by
 unfold Er at hg;have h6 := @run_callFunc_extern prog 133 _ (λargs=>ReflectliteValue.unpack (args.getD 0 (.tuple #[]))) func133 (by kernel_rfl) (by kernel_rfl) (by kernel_rfl) (by kernel_rfl);have h7 := @run_callFunc_extern prog 134 _ (ReflectliteValue.methodAny (ReflectliteValue.valueError "reflectlite.Value.Type" 0) (λt _ _ _ => ReflectliteType.toType t)) func134 (by kernel_rfl) (by kernel_rfl) (by kernel_rfl) (by kernel_rfl);have h8 := @run_callFunc_extern prog 135 _ (ReflectliteValue.method (ReflectliteValue.valueError "reflectlite.Value.IsNil" 0) ReflectliteValue.isNil) func135 (by kernel_rfl) (by kernel_rfl) (by kernel_rfl) (by kernel_rfl);have h27 := @run_callFunc_extern prog 234 _ (ReflectliteType.abiMethod λt=>do pure (.int .u8 (<-Rtype.kind t))) func234 (by kernel_rfl) (by kernel_rfl) (by kernel_rfl) (by kernel_rfl);have h37 := @run_callFunc_extern prog 252 _ (ReflectliteType.method ReflectliteType.elem) func252 (by kernel_rfl) (by kernel_rfl) (by kernel_rfl) (by kernel_rfl);have h38 := @run_callFunc_extern prog 253 _ (ReflectliteType.relation "Implements" ReflectliteType.implements_) func253 (by kernel_rfl) (by kernel_rfl) (by kernel_rfl) (by kernel_rfl);have h10 := @run_callFunc_extern prog 137 _ ReflectliteType.typeOf func137 (by kernel_rfl) (by kernel_rfl) (by kernel_rfl) (by kernel_rfl);have h35 := @run_callFunc_extern prog 250 _ (ReflectliteType.relation "AssignableTo" ReflectliteType.assignableTo) func250 (by kernel_rfl) (by kernel_rfl) (by kernel_rfl) (by kernel_rfl);have h11 := @run_callFunc_extern prog 191 _ (ReflectliteValue.method (ReflectliteValue.valueError "reflectlite.Value.Elem" 0) ReflectliteValue.elem) func191 (by kernel_rfl) (by kernel_rfl) (by kernel_rfl) (by kernel_rfl);have h12 := @run_callFunc_extern prog 192 _ ReflectliteValue.set func192 (by kernel_rfl) (by kernel_rfl) (by kernel_rfl) (by kernel_rfl);have tO:=Nj;have mA:=OX;have a25:=Ku;have v25:=dB;have f6:=du;have f7:=Ut;have mK:=Ov;have mE:=Ou;have mI:=Ot;have k27:=Us;have k25:=WT;have e27:=Ur;have i25:=Uq;have n8:=XT ⟨w.heap.size,0,none⟩ t ((w.alloc (.cells #[.pointer (some t)] 168)).alloc (.cells #[.pointer (some ⟨2,168,none⟩),.pointer (some ⟨w.heap.size,0,none⟩),.int .u64 150] 247)) (by simp);have d:0<w.heap.size:=by
  rcases C3 w.heap.size with h0|h
  ·simp[World.cell?,h0]at hg
  ·exact h
 have hg2:((w.alloc (.cells #[.pointer (some t)] 168)).alloc (.cells #[.pointer (some ⟨2,168,none⟩),.pointer (some ⟨w.heap.size,0,none⟩),.int .u64 150] 247)).cell? ⟨0,0,none⟩=some (.iface 286 (.agg #[.pointer (some ⟨2,98,none⟩)])):=by
  rw[World.cell?_alloc_lt _ _ ⟨0,0,none⟩ (by simp),World.cell?_alloc_lt _ _ ⟨0,0,none⟩ d];exact hg
 have b:t.block<w.heap.size:=by
  rcases Nat.lt_or_ge t.block w.heap.size with h|h
  ·exact h
  ·simp[World.cell?,CQ h]at a
 have el:=XS ⟨w.heap.size,0,none⟩ t (((w.alloc (.cells #[.pointer (some t)] 168)).alloc (.cells #[.pointer (some ⟨2,168,none⟩),.pointer (some ⟨w.heap.size,0,none⟩),.int .u64 150] 247)).alloc (.cells #[.pointer (some ⟨2,168,none⟩),.pointer (some ⟨w.heap.size,0,none⟩),.int .u64 150] 247)) (by rw[World.cell?_alloc_lt _ _ ⟨w.heap.size,0,none⟩ (by simp;omega)];simp);have st:=KN t ⟨w.heap.size+1+1+1,0,none⟩ e old ((((w.alloc (.cells #[.pointer (some t)] 168)).alloc (.cells #[.pointer (some ⟨2,168,none⟩),.pointer (some ⟨w.heap.size,0,none⟩),.int .u64 150] 247)).alloc (.cells #[.pointer (some ⟨2,168,none⟩),.pointer (some ⟨w.heap.size,0,none⟩),.int .u64 150] 247)).alloc (.cells #[.int .i64 e] 57))
  (by rw[World.cell?_alloc_at _ _ _ _ (by simp)];rfl)
  (by rw[World.cell?_alloc_lt _ _ t (by simp;omega),World.cell?_alloc_lt _ _ t (by simp;omega),World.cell?_alloc_lt _ _ t (by simp;omega),World.cell?_alloc_lt _ _ t b];exact a)
  (by rw[World.frozen?_alloc_old _ _ t (by simp;omega),World.frozen?_alloc_old _ _ t (by simp;omega),World.frozen?_alloc_old _ _ t (by simp;omega),World.frozen?_alloc_old _ _ t (Nat.ne_of_lt b)];exact c)
 go_enter func75,ntmps75;go_wp2;refine wp_loop_rounds 1 ?_;rw[rounds_succ];go_wp2;go_ret;exact⟨rfl,rfl⟩
def Uo(n:Int)(w:World):(Instr.typeAssert (.iface 57 (.int .i64 n)) 98 290 true).run prog w = .ok (.tuple #[.nilIface,.bool false]) w:=run_typeAssert_lacksB underlying290 (by kernel_rfl) (by kernel_rfl) _ _ w
def Un(n:Int)(w:World):(Instr.typeAssert (.iface 57 (.int .i64 n)) 98 293 true).run prog w = .ok (.tuple #[.nilIface,.bool false]) w:=run_typeAssert_lacksB underlying293 (by kernel_rfl) (by kernel_rfl) _ _ w
def Um(n:Int)(w:World):(Instr.typeAssert (.iface 57 (.int .i64 n)) 98 294 true).run prog w = .ok (.tuple #[.nilIface,.bool false]) w:=run_typeAssert_lacksB underlying294 (by kernel_rfl) (by kernel_rfl) _ _ w
def Ul(p:Addr)(w:World):(Instr.typeAssert (.iface 162 (.pointer (some p))) 98 297 true).run prog w = .ok (.tuple #[.nilIface,.bool false]) w:=run_typeAssert_lacksB underlying297 (by kernel_rfl) (by kernel_rfl) _ _ w
def Uk(p:Addr)(w:World):(Instr.typeAssert (.iface 162 (.pointer (some p))) 98 293 true).run prog w = .ok (.tuple #[.iface 162 (.pointer (some p)),.bool true]) w:=run_typeAssert_hasB underlying293 (by kernel_rfl) _ _ w
def XR (p : Addr) (w : World) : (Go.method 451 162 (.pointer (some p)) "Unwrap").run prog w = .ok (240, .pointer (some p)) w := by kernel_rfl
def Mq(p:Addr)(n:Int)(w:World):(binOp .eql 98 (.iface 162 (.pointer (some p))) (.iface 57 (.int .i64 n))).run prog w = .ok (.bool false) w:=run_eql_iface_types _ _ _ _ underlying98 (by decide) w
def JH(n:Int)(w:World):(binOp .eql 98 (.iface 57 (.int .i64 n)) (.iface 57 (.int .i64 n))).run prog w = .ok (.bool true) w:=by
 have a:(prog.info? 57).map (·.comparable)=some true:=by kernel_rfl
 obtain⟨i,hi,hc⟩:=CM.1 a;have h:∀d,(Op.equalIn (d+2) 98 (.iface 57 (.int .i64 n)) (.iface 57 (.int .i64 n))).run prog w = .ok true w:=λd=>by simp[Op.equalIn,run_underlying underlying98,run_underlying underlying57,typeInfo,hi,hc]
 simp only[binOp];simp[Op.equal,Op.maxDepth,h 9998]
def Qj (w : World) : (ReflectliteType.method (λt => do Rtype.noPackHeld "Comparable" t; (λa => Value.bool a.comparable) <$> typeInfo t) #[.agg #[.pointer (some ⟨2, 57, none⟩)]]).run prog w = .ok (.bool true) w := by kernel_rfl
def My(n:Int)(t:Addr)(old:Value)(w:World)(hg:Er w)(ht0:w.cell? t=some old):Calls prog 75 #[.iface 57 (.int .i64 n),.iface 164 (.pointer (some t))] w λev w'=>ev = .returned (.bool false)/\w'=(((w.alloc (.cells #[.pointer (some t)] 164)).alloc (.cells #[.pointer (some ⟨2,164,none⟩),.pointer (some ⟨w.heap.size,0,none⟩),.int .u64 150] 247)).alloc (.cells #[.pointer (some ⟨2,164,none⟩),.pointer (some ⟨w.heap.size,0,none⟩),.int .u64 150] 247)):=by
 unfold Er at hg;have h6 := @run_callFunc_extern prog 133 _ (λargs=>ReflectliteValue.unpack (args.getD 0 (.tuple #[]))) func133 (by kernel_rfl) (by kernel_rfl) (by kernel_rfl) (by kernel_rfl);have h7 := @run_callFunc_extern prog 134 _ (ReflectliteValue.methodAny (ReflectliteValue.valueError "reflectlite.Value.Type" 0) (λt _ _ _ => ReflectliteType.toType t)) func134 (by kernel_rfl) (by kernel_rfl) (by kernel_rfl) (by kernel_rfl);have h8 := @run_callFunc_extern prog 135 _ (ReflectliteValue.method (ReflectliteValue.valueError "reflectlite.Value.IsNil" 0) ReflectliteValue.isNil) func135 (by kernel_rfl) (by kernel_rfl) (by kernel_rfl) (by kernel_rfl);have h27 := @run_callFunc_extern prog 234 _ (ReflectliteType.abiMethod λt=>do pure (.int .u8 (<-Rtype.kind t))) func234 (by kernel_rfl) (by kernel_rfl) (by kernel_rfl) (by kernel_rfl);have h37 := @run_callFunc_extern prog 252 _ (ReflectliteType.method ReflectliteType.elem) func252 (by kernel_rfl) (by kernel_rfl) (by kernel_rfl) (by kernel_rfl);have h38 := @run_callFunc_extern prog 253 _ (ReflectliteType.relation "Implements" ReflectliteType.implements_) func253 (by kernel_rfl) (by kernel_rfl) (by kernel_rfl) (by kernel_rfl);have h10 := @run_callFunc_extern prog 137 _ ReflectliteType.typeOf func137 (by kernel_rfl) (by kernel_rfl) (by kernel_rfl) (by kernel_rfl);have h35 := @run_callFunc_extern prog 250 _ (ReflectliteType.relation "AssignableTo" ReflectliteType.assignableTo) func250 (by kernel_rfl) (by kernel_rfl) (by kernel_rfl) (by kernel_rfl);have h11 := @run_callFunc_extern prog 191 _ (ReflectliteValue.method (ReflectliteValue.valueError "reflectlite.Value.Elem" 0) ReflectliteValue.elem) func191 (by kernel_rfl) (by kernel_rfl) (by kernel_rfl) (by kernel_rfl);have h12 := @run_callFunc_extern prog 192 _ ReflectliteValue.set func192 (by kernel_rfl) (by kernel_rfl) (by kernel_rfl) (by kernel_rfl);have tO:=Nj;have mA:=OX;have a25:=Kt;have f6:=Tm;have f7:=RU;have mK:=Ov;have mE:=Ou;have mI:=Ot;have k27:=RT;have k25:=Rg;have e27:=RP;have i25:=RO;have x1:=Uo;have x2:=Un;have x3:=Um;have n8:=Rd ⟨w.heap.size,0,none⟩ t ((w.alloc (.cells #[.pointer (some t)] 164)).alloc (.cells #[.pointer (some ⟨2,164,none⟩),.pointer (some ⟨w.heap.size,0,none⟩),.int .u64 150] 247)) (by simp);have a:0<w.heap.size:=by
  rcases C3 w.heap.size with h0|h
  ·simp[World.cell?,h0]at hg
  ·exact h
 have hg2:((w.alloc (.cells #[.pointer (some t)] 164)).alloc (.cells #[.pointer (some ⟨2,164,none⟩),.pointer (some ⟨w.heap.size,0,none⟩),.int .u64 150] 247)).cell? ⟨0,0,none⟩=some (.iface 286 (.agg #[.pointer (some ⟨2,98,none⟩)])):=by
  rw[World.cell?_alloc_lt _ _ ⟨0,0,none⟩ (by simp),World.cell?_alloc_lt _ _ ⟨0,0,none⟩ a];exact hg
 go_enter func75,ntmps75;go_wp2;refine wp_loop_rounds 1 ?_;rw[rounds_succ];go_wp2;go_ret;exact⟨rfl,rfl⟩
def Mn(n:Int)(w:World):Calls prog 76 #[.iface 57 (.int .i64 n),.iface 57 (.int .i64 n)] w λev w'=>ev = .returned (.bool true)/\w=w':=by
 have h10 := @run_callFunc_extern prog 137 _ ReflectliteType.typeOf func137 (by kernel_rfl) (by kernel_rfl) (by kernel_rfl) (by kernel_rfl);have h36 := @run_callFunc_extern prog 251 _ (ReflectliteType.method (λt => do Rtype.noPackHeld "Comparable" t; pure (.bool (<- typeInfo t).comparable))) func251 (by kernel_rfl) (by kernel_rfl) (by kernel_rfl) (by kernel_rfl);have tO:=Nj;have mC:=JF;have cE:=Qj;have q1:=JH;go_enter func76,ntmps76;go_wp2;refine wp_loop_rounds 1 ?_;rw[rounds_succ];go_wp2;go_ret;exact⟨rfl,rfl⟩
def Mm(p:Nat)(n:Int)(w:World)(hc:w.cell? ⟨p,0,none⟩=some (.int .i64 n)):Calls prog 76 #[.iface 162 (.pointer (some ⟨p,0,none⟩)),.iface 57 (.int .i64 n)] w λev w'=>ev = .returned (.bool true)/\w=w':=by
 have h10 := @run_callFunc_extern prog 137 _ ReflectliteType.typeOf func137 (by kernel_rfl) (by kernel_rfl) (by kernel_rfl) (by kernel_rfl);have h36 := @run_callFunc_extern prog 251 _ (ReflectliteType.method (λt => do Rtype.noPackHeld "Comparable" t; pure (.bool (<- typeInfo t).comparable))) func251 (by kernel_rfl) (by kernel_rfl) (by kernel_rfl) (by kernel_rfl);have tO:=Nj;have mC:=JF;have cE:=Qj;have q1:=JH;have q2:=Mq;have x1:=Ul;have x2:=Uk;have mU:=XR;go_enter func76,ntmps76;go_wp2;refine wp_loop_rounds 2 ?_;rw[rounds_succ];go_wp2;rw[rounds_succ];go_wp2;go_ret;exact⟨rfl,rfl⟩
end
section
open Go.RowKit Go.Proofs.Tryz
def Iu(b:Nat):Nat->Prop:=λk=>k=b
def Mu(e:Addr)(tb:Nat)(old:Value)(w:World)(hg:Er w)(b:w.cell? ⟨tb,0,none⟩=some old)(hf:w.frozen? ⟨tb,0,none⟩=false):Calls prog 75 #[.iface 162 (.pointer (some e)),.iface 164 (.pointer (some ⟨tb,0,none⟩))] w λev w'=>ev = .returned (.bool true)/\DW (Iu tb) w w'/\w'.cell? ⟨tb,0,none⟩=some (.pointer (some e)):=by
 refine(Mx e ⟨tb,0,none⟩ old w hg b hf).mono ?_;rintro ev w' ⟨rfl,rfl⟩;have hl:=zk b;refine⟨rfl,(((((DW.refl (Iu tb) w).alloc _).alloc _).alloc _).alloc _).setCell (p:=⟨tb,0,none⟩) (.inl rfl) _,World.cell?_setCell_same _ _ _ ((((((DW.refl DX w).alloc _).alloc _).alloc _).alloc _).cell (a:=⟨tb,0,none⟩) id b)⟩
def Mw(n:Int)(tb:Nat)(old:Value)(w:World)(hg:Er w)(b:w.cell? ⟨tb,0,none⟩=some old)(hf:w.frozen? ⟨tb,0,none⟩=false):Calls prog 75 #[.iface 57 (.int .i64 n),.iface 168 (.pointer (some ⟨tb,0,none⟩))] w λev w'=>ev = .returned (.bool true)/\DW (Iu tb) w w'/\w'.cell? ⟨tb,0,none⟩=some (.int .i64 n):=by
 refine(Mz n ⟨tb,0,none⟩ old w hg b hf).mono ?_;rintro ev w' ⟨rfl,rfl⟩;refine⟨rfl,(((((DW.refl (Iu tb) w).alloc _).alloc _).alloc _).alloc _).setCell (p:=⟨tb,0,none⟩) (.inl rfl) _,World.cell?_setCell_same _ _ _ ((((((DW.refl DX w).alloc _).alloc _).alloc _).alloc _).cell (a:=⟨tb,0,none⟩) id b)⟩
def Mv(n:Int)(tb:Nat)(old:Value)(w:World)(hg:Er w)(ht:w.cell? ⟨tb,0,none⟩=some old):Calls prog 75 #[.iface 57 (.int .i64 n),.iface 164 (.pointer (some ⟨tb,0,none⟩))] w λev w'=>ev = .returned (.bool false)/\DW DX w w':=by
 refine(My n ⟨tb,0,none⟩ old w hg ht).mono ?_;rintro ev w' ⟨rfl,rfl⟩;exact⟨rfl,(((DW.refl DX w).alloc _).alloc _).alloc _⟩
variable{S:Nat->Prop}{w w':World}
def Er.mod(h:Er w)(m:DW S w w')(hs:¬S 0):Er w':=m.cell (a:=⟨0,0,none⟩) hs h
def LI(w:World)(n at_:Int)(e:Ending)(w':World):Prop:=e = .returned (.tuple #[.int .i64 n,.int .i64 at_])/\DW DX w w'
def PR(w:World):Calls prog 43 #[.nilIface] w (LI w 0 (-1)):=by
 go_enter func43,ntmps43;go_wp2_with fail;go_ret2;exact⟨rfl,((DW.refl _ _).alloc _).alloc _⟩
def XQ(n:Int)(w:World):(binOp .eql 98 (.iface 57 (.int .i64 n)) .nilIface).run prog w = .ok (.bool false) w:=by kernel_rfl
def XP(p:Addr)(w:World):(binOp .eql 98 (.iface 162 (.pointer (some p))) .nilIface).run prog w = .ok (.bool false) w:=by kernel_rfl
structure Kw(w W:World):Prop where
 o0:W.heap[w.heap.size]?=some (.cells #[.pointer none] 162 (0,0))
 o1:W.heap[w.heap.size+1]?=some (.cells #[.int .i64 0] 57 (0,0))
 m:DW DX w W
def Tl(w:World):Kw w ((w.alloc (.cells #[.pointer none] 162)).alloc (.cells #[.int .i64 0] 57)):=by
 have e1:(w.alloc (.cells #[.pointer none] 162)).heap.size=w.heap.size+1:=by simp
 refine⟨((DW.refl DX _).alloc _).obj (λx=>x) (heap_alloc_new w _),?_,((DW.refl DX w).alloc _).alloc _⟩;rw[<-e1];exact heap_alloc_new _ _
def Oy(n:Int)(w:World)(hg:Er w):Calls prog 43 #[.iface 57 (.int .i64 n)] w (LI w n (-1)):=by
 have q0:=XQ n;have a:=Tl w;obtain⟨W,b⟩:=nm ((w.alloc (.cells #[.pointer none] 162)).alloc (.cells #[.int .i64 0] 57));rw[b]at a;have f:W.heap.size=w.heap.size+1+1:=by rw[<-b];simp
 have h0:=zk hg;have c:=hg.mod a.m (λx=>x);have g:=Mv n w.heap.size _ W c (za a.o0 rfl);have d:=zb a;have HG:=zb c;have HW:=zb b;have HS:=zb f;clear a c b f hg;go_enter func43,ntmps43;go_wp2_with fail;rw[HW.z];refine g.mono ?_;rintro e w1 ⟨rfl,m1⟩;have k2:=Mw n (w.heap.size+1) _ w1 (HG.z.mod m1 (λx=>x)) (za (m1.obj (λx=>x) d.z.o1) rfl) (zf (m1.obj (λx=>x) d.z.o1));clear g;have M1:=zb m1;clear m1;go_wp2_with fail;refine k2.mono ?_;rintro e w2 ⟨rfl,h,c2⟩;have k3:=Mn n w2;have M2:=zb h;clear h k2;go_wp2_with fail;refine k3.mono ?_;rintro e w3 ⟨rfl,rfl⟩;go_wp2_with fail;go_ret2;exact⟨rfl,(d.z.m.trans M1.z).then M2.z (λk hk=>by unfold Iu at hk;omega)⟩
def Qi(p:Nat)(n at_:Int)(w:World)(hg:Er w)(f:w.cell? ⟨p,0,none⟩=some (.int .i64 n))(c:w.cell? ⟨p,1,none⟩=some (.int .i64 at_)):Calls prog 43 #[.iface 162 (.pointer (some ⟨p,0,none⟩))] w (LI w n at_):=by
 have q0:=XP ⟨p,0,none⟩;have b:=Tl w;obtain⟨W,g⟩:=nm ((w.alloc (.cells #[.pointer none] 162)).alloc (.cells #[.int .i64 0] 57));rw[g]at b;have hpl:=zk f;have h0:=zk hg;have h:=hg.mod b.m (λx=>x);have i:=Mu ⟨p,0,none⟩ w.heap.size _ W h (za b.o0 rfl) (zf b.o0);have p0:=b.m.cell (a:=⟨p,0,none⟩) id f;have p1:=b.m.cell (a:=⟨p,1,none⟩) id c;have HT:=zb b;have HW:=zb g;clear b h g hg;go_enter func43,ntmps43;go_wp2_with fail;rw[HW.z];refine i.mono ?_;rintro e w1 ⟨rfl,m1,c1⟩;have d:¬Iu w.heap.size p:=by unfold Iu;omega
 have r0:=m1.cell (a:=⟨p,0,none⟩) d p0;have r1:=m1.cell (a:=⟨p,1,none⟩) d p1;have k3:=Mm p n w1 r0;have M1:=zb m1;clear m1 i p0 p1 f c;go_wp2_with fail;refine k3.mono ?_;rintro e w3 ⟨rfl,rfl⟩;clear k3;go_wp2_with fail;go_quiet (fail);go_wp2_with fail;go_ret2;exact⟨rfl,(HT.z.m.then M1.z (λk hk=>by unfold Iu at hk;omega)).drewN _⟩
def Rb(w:World)(n:Int)(e:Ending)(w':World):Prop:=e = .returned (.int .i64 n)/\DW DX w w'
def TN(v:Value)(n at_:Int)(w:World)(h:Calls prog 43 #[v] w (LI w n at_)):Calls prog 53 #[v] w (Rb w n):=by
 go_enter func53,ntmps53;go_wp2_with fail;refine h.mono ?_;rintro e w1 ⟨rfl,m1⟩;go_wp2_with fail;go_ret;exact⟨rfl,m1⟩
end
end Go.Proofs.YtddfdpbaiedcjaaGreatDoor
