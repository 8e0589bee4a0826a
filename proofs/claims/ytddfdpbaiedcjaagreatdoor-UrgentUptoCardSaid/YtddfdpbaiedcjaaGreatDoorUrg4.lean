/- A part of Urgent's proof. Conditions: none. Part 4 of 32. -/
import Derived.Test.YtddfdpbaiedcjaaGreatDoorUrg3
set_option maxRecDepth 100000
set_option maxHeartbeats 16000000
set_option linter.all false
namespace Go.Proofs.YtddfdpbaiedcjaaGreatDoor
open Go.RowKit
theorem zkc(l:List UInt8):∀s:ByteArray,(l.map fun c=>((c.toNat:Nat):Int)).foldl (fun r n=>r.push (UInt8.ofNat n.toNat)) s=⟨s.data++l.toArray⟩:=by
 induction l with
 | nil=>intro s;simp
 | cons c l ih =>
  intro s;simp only[List.map_cons,List.foldl_cons,Int.toNat_natCast,UInt8.ofNat_toNat];rw[ih];simp[ByteArray.push]
theorem zbh{w:World}{v:Value}{l:List UInt8}(h:BR w v l):(convert 60 9 v).run Tryz.prog w = .ok (.string (zq l)) w:=by
 obtain⟨a,cap,rfl,h1,h2,h3⟩:=h;rw[run_convert_bytes_string w _ _ _ a l.length cap Tryz.underlying60 Tryz.underlying5 Tryz.underlying9];cases a with
 | none =>
  have hl:l=[]:=by
   cases l with
   | nil=>rfl
   | cons c l =>
    obtain⟨g,o,e,_⟩:=h3 0 c rfl;cases e
  subst hl;rfl
 | some a =>
  have b:∀j u,(zO l)[j]?=some u→w.cell? (a.add j)=some u:=by
   intro j u d;simp only[zO,List.getElem?_map,Option.map_eq_some_iff]at d;obtain⟨c,hc,rfl⟩:=d;obtain⟨g,o,e,hh⟩:=h3 j c hc;cases e;rw[addr_add];exact hh
  have zl5:(loadCells a l.length).run Tryz.prog w = .ok ((l.map fun c=>((c.toNat:Nat):Int)).map (Value.int .u8)).toArray w:=by
   have:=run_loadCells_list (P:=Tryz.prog) (w:=w) a (zO l) b;rw[zal]at this;rw[this];simp[zO]
  rw[run_bytesToString w a l.length cap _ zl5,zkc];simp[zq]
def zam(bs:List UInt8)(pos:Nat):Option (Nat×Nat):=(zaq bs pos).bind fun q=>if q.1<8 then some q else none
def zbv(bs:List UInt8)(pos:Nat):Option (List UInt8×Nat):=(zaq bs pos).bind fun q=>if q.1≤bs.length-q.2 then some ((bs.drop q.2).take q.1,q.2+q.1)else none
theorem zR{bs:List UInt8}{pos n p:Nat}(h:zaq bs pos=some (n,p)):pos<p∧p≤bs.length∧n<4611686018427387904:=by
 unfold zaq at h;cases hc:bs[pos]? with
 | none=>rw[hc]at h;cases h
 | some c =>
  rw[hc]at h;simp only at h;split at h
  ·rename_i hfit;simp only[Option.some.injEq,Prod.mk.injEq]at h;obtain⟨rfl,rfl⟩:=h;have hz1:1≤vsz c:=Nat.one_le_two_pow;have hcl:=c.toNat_lt;have hq:c.toNat / 64=0∨c.toNat / 64=1∨c.toNat / 64=2∨c.toNat / 64=3:=by omega
   have hz8:vsz c≤8:=by
    unfold vsz;rcases hq with e|e|e|e<;>rw[e]<;>decide
   refine⟨by omega,hfit,?_⟩;have h1:=zju c ((bs.drop (pos+1)).take (vsz c-1));have h2:((bs.drop (pos+1)).take (vsz c-1)).length≤7:=by rw[List.length_take];omega
   have h5:64*256 ^ ((bs.drop (pos+1)).take (vsz c-1)).length≤64*256 ^ 7:=Nat.mul_le_mul_left _ (Nat.pow_le_pow_right (by omega) h2);have h6:64*256 ^ 7=4611686018427387904:=by decide
   omega
  ·cases h
theorem zc6(rb pos:Nat)(v:Value)(bs:List UInt8)(w:World)(h:zcv w rb v pos)(hb:BR w v bs)(j:zaX (zdm rb) v)(hp:pos≤bs.length) :
  Calls Tryz.prog 178 #[.pointer (some ⟨rb,0,none⟩)] w (Rds w rb v ((zam bs pos).map fun q=>(.int .i64 (q.1:Int),q.2))):=by
 have hc:=zU rb pos v bs w h hb j hp;clear h hb j;cases hr:zaq bs pos with
 | none =>
  rw[hr]at hc;have d:Hid (zam bs pos=none):=by show _=_;rw[zam,hr];rfl
  clear hr;go_enter Tryz.func178,Tryz.ntmps178;go_wp2_with (go_at_call 127;refine hc.mono ?_;rintro e k (⟨_,_,a,_⟩|⟨_,f,c⟩);cases a;unfold zac at f;subst f);exact⟨rfl,.inr ⟨by rw[d.out];rfl,rfl,c⟩⟩
 | some q =>
  obtain⟨n,p⟩:=q;obtain⟨q1,q2,q3⟩:=zR hr;rw[hr]at hc;by_cases l:n<8
  ·have d:Hid (zam bs pos=some (n,p)):=by show _=_;rw[zam,hr];simp[l]
   have g:¬(8:Int)≤n:=by omega
   have e1:IntKind.i64.wrap (n:Int)=n:=IntWalk.i64_in _ (by omega);clear hr;go_enter Tryz.func178,Tryz.ntmps178;go_wp2_with fail;refine hc.mono ?_;rintro e k (⟨_,_,a,rfl,b,c⟩|⟨a,_⟩)
   ·simp only[Option.map_some,Option.some.injEq,Prod.mk.injEq]at a;obtain⟨rfl,rfl⟩:=a;have HA:=zb b;have i:=zb c;clear b c;go_wp2_with fail;go_ret;exact .inl ⟨_,_,by rw[d.out];rfl,rfl,HA.out,i.out⟩
   ·cases a
  ·have d:Hid (zam bs pos=none):=by show _=_;rw[zam,hr];simp[l]
   have g:(8:Int)≤n:=by omega
   clear hr;go_enter Tryz.func178,Tryz.ntmps178;go_wp2_with fail;refine hc.mono ?_;rintro e k (⟨_,_,a,rfl,b,c⟩|⟨a,_⟩)
   ·simp only[Option.map_some,Option.some.injEq,Prod.mk.injEq]at a;obtain⟨rfl,rfl⟩:=a;have i:=zb c;clear b c;go_wp2_with (go_at_call 128;refine(zbY _ _).mono ?_;rintro e w' ⟨f,rfl⟩;unfold zac at f;subst f);exact⟨rfl,.inr ⟨by rw[d.out];rfl,rfl,i.out⟩⟩
   ·cases a
theorem zgP(rb pos:Nat)(v:Value)(bs:List UInt8)(w:World)(h:zcv w rb v pos)(hb:BR w v bs)(k:zaX (zdm rb) v)(hp:pos≤bs.length) :
  Calls Tryz.prog 183 #[.pointer (some ⟨rb,0,none⟩)] w (Rds w rb v ((zbv bs pos).map fun q=>(.string (zq q.1),q.2))):=by
 have hc:=zU rb pos v bs w h hb k hp;have x:=zb hb;clear h hb;cases hr:zaq bs pos with
 | none =>
  rw[hr]at hc;have g:Hid (zbv bs pos=none):=by show _=_;rw[zbv,hr];rfl
  clear hr k;go_enter Tryz.func183,Tryz.ntmps183;go_wp2_with (go_at_call 127;refine hc.mono ?_;rintro e l (⟨_,_,a,_⟩|⟨_,i,c⟩);cases a;unfold zac at i;subst i);exact⟨rfl,.inr ⟨by rw[g.out];rfl,rfl,c⟩⟩
 | some q =>
  obtain⟨n,p⟩:=q;obtain⟨q1,q2,q3⟩:=zR hr;rw[hr]at hc;have y:=zb hr;have o:=zb k;clear hr k;by_cases d:n≤bs.length-p
  ·have g:Hid (zbv bs pos=some ((bs.drop p).take n,p+n)):=by show _=_;rw[zbv,y.out];simp[d]
   go_enter Tryz.func183,Tryz.ntmps183;go_wp2_with fail;refine hc.mono ?_;rintro e l (⟨_,_,a,rfl,b,c⟩|⟨a,_⟩)
   ·simp only[Option.map_some,Option.some.injEq,Prod.mk.injEq]at a;obtain⟨rfl,rfl⟩:=a;have m:=zf4 rb n p (n:Int) rfl v bs l b (x.out.mod c o.out) o.out (by omega);have r:=zb c;clear b c;go_wp2_with fail;refine m.mono ?_;rintro e w2 ⟨sv,rfl,j,h2,z⟩;have s:=zbh j;have H2:=zb h2;have t:=zb z;obtain⟨a2,A,rfl,_⟩:=j;obtain⟨l2,f⟩:=nm ((bs.drop p).take n);rw[f]at s g;rw[f];clear h2 z m f;go_wp2_with fail;go_ret;exact .inl ⟨_,_,by rw[g.out];rfl,rfl,H2.out,r.out.trans t.out⟩
   ·cases a
  ·have g:Hid (zbv bs pos=none):=by show _=_;rw[zbv,y.out];simp[d]
   go_enter Tryz.func183,Tryz.ntmps183;go_wp2_with fail;refine hc.mono ?_;rintro e l (⟨_,_,a,rfl,b,c⟩|⟨a,_⟩)
   ·simp only[Option.map_some,Option.some.injEq,Prod.mk.injEq]at a;obtain⟨rfl,rfl⟩:=a;have m:=zig rb n p (n:Int) rfl v bs l b (x.out.mod c o.out) (by omega) (by omega);have r:=zb c;clear b c;go_wp2_with (go_at_call 129;refine m.mono ?_;rintro e w' ⟨i,u⟩;unfold zac at i;subst i);exact⟨rfl,.inr ⟨by rw[g.out];rfl,rfl,r.out.trans u⟩⟩
   ·cases a
def zbb(t:UInt8):Option Int :=
 if t=1 then some 1 else if t=2 then some 2 else if t=8∨t=9 then some 4 else if t=16 then some 5 else if t=17 then some 6 else if t=28 then some 8 else if t=36 then some 3 else if t=48 then some 7 else none
theorem zlo(t:UInt8)(w:World)(h:zbb t=none):Calls Tryz.prog 130 #[.int .u8 (t.toNat:Int)] w fun e w'=>e = .returned (.tuple #[.int .i64 0,.bool false])∧w=w':=by
 have a:∀c:UInt8,c ∈ [1,2,8,9,16,17,28,36,48]→((t.toNat:Int)==(c.toNat:Int))=false:=by
  intro c hc;rw[beq_eq_false_iff_ne];intro he;have:t=c:=UInt8.toNat_inj.1 (by omega);subst this;simp only[List.mem_cons,List.not_mem_nil,or_false]at hc;rcases hc with rfl|rfl|rfl|rfl|rfl|rfl|rfl|rfl|rfl<;>simp[zbb]at h
 have h1:((t.toNat:Int)==1)=false:=a 1 (by simp);have h2:((t.toNat:Int)==2)=false:=a 2 (by simp);have h3:((t.toNat:Int)==8)=false:=a 8 (by simp);have h4:((t.toNat:Int)==9)=false:=a 9 (by simp);have h5:((t.toNat:Int)==16)=false:=a 16 (by simp);have h6:((t.toNat:Int)==17)=false:=a 17 (by simp);have h7:((t.toNat:Int)==28)=false:=a 28 (by simp);have h8:((t.toNat:Int)==36)=false:=a 36 (by simp);have h9:((t.toNat:Int)==48)=false:=a 48 (by simp);clear a h;go_enter Tryz.func130,Tryz.ntmps130;go_wp2_with fail;go_ret2;exact⟨rfl,rfl⟩
theorem zlp(t:UInt8)(k:Int)(w:World)(h:zbb t=some k):Calls Tryz.prog 130 #[.int .u8 (t.toNat:Int)] w fun e w'=>e = .returned (.tuple #[.int .i64 k,.bool true])∧w=w':=by
 have hc:t∈([1,2,8,9,16,17,28,36,48]:List UInt8):=by
  refine Decidable.byContradiction fun hc=>?_
  simp only[List.mem_cons,List.not_mem_nil,or_false,not_or]at hc;obtain⟨a1,a2,a3,a4,a5,a6,a7,a8,a9⟩:=hc;simp[zbb, *]at h
 simp only[List.mem_cons,List.not_mem_nil,or_false]at hc;rcases hc with rfl|rfl|rfl|rfl|rfl|rfl|rfl|rfl|rfl;all_goals
  simp[zbb]at h;subst h;simp only[UInt8.reduceToNat];go_enter Tryz.func130,Tryz.ntmps130;go_wp2_with fail;go_ret2;exact⟨rfl,rfl⟩
def Two(rb fb:Nat):Nat→Prop:=fun k=>k=rb∨k=fb
def zf5(w:World)(v:Value)(rs:zD):Prop:=w.ownsRow 0 214 2 v rs.length (zn rs)∧∀i,i<rs.length→loAt rs i<18446744073709551616∧hiAt rs i<18446744073709551616
theorem zf5.nil(w:World):zf5 w (.slice none 0 0) []:=⟨World.ownsRow_nil w 0 _ 2,fun i hi=>absurd hi (Nat.not_lt_zero i)⟩
theorem zf5.mod{S:Nat→Prop}{w w':World}{v:Value}{rs:zD}(h:zf5 w v rs)(m:Mod S w w')(hs:∀g,v.ownBlock=some g→¬S g):zf5 w' v rs:=⟨m.owns h.1 hs,h.2⟩
theorem zf5.rr{w:World}{v:Value}{rs:zD}(h:zf5 w v rs):RR w v rs:=by
 obtain⟨a,cap,rfl,h1,h2,h3⟩:=zj h.1;refine⟨a,cap,rfl,h1,h2,fun i hi=>?_⟩;obtain⟨g,rfl⟩:=h3 (by omega);have:=zaI h.1 i hi;exact⟨g,0,rfl,by simpa using this.1,by simpa using this.2,h.2 i hi⟩
def zfk(w:World)(v:Value):Prop:=∀g o n c,v = .slice (some ⟨g,o,none⟩) n c→w.heap.size≤g
def f0(k:Int)(b:Bool):Frm:={ kind:=k,stream:=0,off:=0,rel:=0,lim:=0,fin:=b,id:=0,dl:=0,data:=[],rngs:=[] }
def RdF(w:World)(rb:Nat)(v:Value)(fb:Nat)(r:Option (Frm×Nat))(e:Ending)(w':World):Prop :=
 (∃f rv p,r=some (f,p)∧e = .returned (.tuple #[])∧zcv w' rb v p∧zi w' fb f rv∧zf5 w' rv f.rngs∧zfk w rv∧Mod (Two rb fb) w w')∨(r=none∧e=zac∧Mod (Two rb fb) w w')
theorem zah{rb fb:Nat}{w w':World}(m:Mod (zdm rb) w w'):Mod (Two rb fb) w w':=m.mono (fun _ h=>.inl (.inl h))
theorem zfk.nil(w:World):zfk w (.slice none 0 0):=fun _ _ _ _ h=>by cases h
theorem read1(rb fb pos:Nat)(v:Value)(b:Bool)(w:World)(h:zcv w rb v pos)(hf:zi w fb (f0 1 b) (.slice none 0 0)) :
  Calls Tryz.prog 171 #[.pointer (some ⟨rb,0,none⟩),.pointer (some ⟨fb,0,none⟩)] w (RdF w rb v fb (some (f0 1 b,pos))):=by
 go_enter Tryz.func171,Tryz.ntmps171;go_wp2_with fail;exact bodyPost_end (results_none rfl _ _ _) rfl (.inl ⟨_,_,_,rfl,rfl,h,hf,zf5.nil w,zfk.nil w,Mod.refl _ _⟩)
theorem zi.set{w:World}{b i:Nat}{f f':Frm}{a rv' v:Value}(h:zi w b f a)(he:(zh f a).setIfInBounds i v=zh f' rv'):zi (w.setCell ⟨b,i,none⟩ v) b f' rv':=by
 unfold zi at h ⊢;rw[zc h,he]
theorem zaP{bs:List UInt8}{pos n p:Nat}(h:zaq bs pos=some (n,p)):p≤bs.length:=(zR h).2.1
theorem zcC{bs:List UInt8}{pos n p:Nat}(h:zam bs pos=some (n,p)):p≤bs.length:=by
 unfold zam at h;cases hr:zaq bs pos with
 | none=>rw[hr]at h;cases h
 | some q =>
  rw[hr]at h;simp only[Option.bind_some]at h;split at h
  ·cases h;exact zaP hr
  ·cases h
theorem zdS{bs l:List UInt8}{pos p:Nat}(h:zbv bs pos=some (l,p)):p≤bs.length:=by
 unfold zbv at h;cases hr:zaq bs pos with
 | none=>rw[hr]at h;cases h
 | some q =>
  rw[hr]at h;have:=zaP hr;simp only[Option.bind_some]at h;split at h
  ·cases h;omega
  ·cases h
def rd3(b:Bool)(bs:List UInt8)(pos:Nat):Option (Frm×Nat) :=
 (zam bs pos).bind fun(x1,p1)=>(zaq bs p1).bind fun(x2,p2)=>(zaq bs p2).bind fun(x3,p3)=>some ({ f0 3 b with stream:=(x1:Int),off:=x2,rel:=x3 },p3)
theorem read3(rb fb pos:Nat)(v:Value)(bs:List UInt8)(b:Bool)(w:World)(h:zcv w rb v pos)(hb:BR w v bs)(J:zaX (Two rb fb) v)(hp:pos≤bs.length)(K:zi w fb (f0 3 b) (.slice none 0 0))(q:fb≠rb) :
  Calls Tryz.prog 177 #[.pointer (some ⟨rb,0,none⟩),.pointer (some ⟨fb,0,none⟩)] w (RdF w rb v fb (rd3 b bs pos)):=by
 have r:zaX (zdm rb) v:=fun g o n c e a=>J g o n c e (.inl a)
 have W0:w=w:=rfl;have D:=zb (Mod.refl (zdm rb) w);have E:=zb hb;have Hf:=zb K;have s:=zb r;have t:=zb q;clear hb J K r q W0;have c1:=zc6 rb pos v bs w h (E.out) s.out hp;cases hr1:zam bs pos with
 | none =>
  rw[hr1]at c1;have u:Hid (rd3 b bs pos=none):=by
   show _=_;unfold rd3;simp only[hr1,Option.bind_some,Option.bind_none]
  clear hr1;go_enter Tryz.func177,Tryz.ntmps177;go_wp2_with (go_at_call 178;refine c1.mono ?_;rintro e w' (⟨_,_,a,_⟩|⟨_,d,x⟩);cases a;unfold zac at d;subst d);exact⟨rfl,.inr ⟨u.out,rfl,zah (x)⟩⟩
 | some q1 =>
  obtain⟨y,p1⟩:=q1;rw[hr1]at c1;have F:p1≤bs.length:=zcC hr1;have f:=zb hr1;clear hr1;go_enter Tryz.func177,Tryz.ntmps177;go_wp2_with fail;refine c1.mono ?_;rintro e w1 (⟨_,_,a,rfl,h1,m1⟩|⟨a,_⟩);rotate_left
  ·cases a
  simp only[Option.map_some,Option.some.injEq,Prod.mk.injEq]at a;obtain⟨rfl,rfl⟩:=a;have l:=zb (D.out.trans m1);clear c1 m1;have c2:=zU rb p1 v bs w1 h1 (E.out.mod l.out s.out) s.out F;cases hr2:zaq bs p1 with
  | none =>
   rw[hr2]at c2;have u:Hid (rd3 b bs pos=none):=by
    show _=_;unfold rd3;simp only[f.out,hr2,Option.bind_some,Option.bind_none]
   clear hr2;go_wp2_with (go_at_call 127;refine c2.mono ?_;rintro e w' (⟨_,_,a,_⟩|⟨_,d,x⟩);cases a;unfold zac at d;subst d);exact⟨rfl,.inr ⟨u.out,rfl,zah (l.out.trans x)⟩⟩
  | some q2 =>
   obtain⟨B,p2⟩:=q2;rw[hr2]at c2;have G:p2≤bs.length:=zaP hr2;have z:=zb hr2;clear hr2;go_wp2_with fail;refine c2.mono ?_;rintro e w2 (⟨_,_,a,rfl,h2,L⟩|⟨a,_⟩);rotate_left
   ·cases a
   simp only[Option.map_some,Option.some.injEq,Prod.mk.injEq]at a;obtain⟨rfl,rfl⟩:=a;have m:=zb (l.out.trans L);clear c2 L;have c3:=zU rb p2 v bs w2 h2 (E.out.mod m.out s.out) s.out G;cases hr3:zaq bs p2 with
   | none =>
    rw[hr3]at c3;have u:Hid (rd3 b bs pos=none):=by
     show _=_;unfold rd3;simp only[f.out,z.out,hr3,Option.bind_some,Option.bind_none]
    clear hr3;go_wp2_with (go_at_call 127;refine c3.mono ?_;rintro e w' (⟨_,_,a,_⟩|⟨_,d,x⟩);cases a;unfold zac at d;subst d);exact⟨rfl,.inr ⟨u.out,rfl,zah (m.out.trans x)⟩⟩
   | some q3 =>
    obtain⟨H,p3⟩:=q3;rw[hr3]at c3;have hp3:p3≤bs.length:=zaP hr3;have I:=zb hr3;clear hr3;go_wp2_with fail;refine c3.mono ?_;rintro e w3 (⟨_,_,a,rfl,h3,M⟩|⟨a,_⟩);rotate_left
    ·cases a
    simp only[Option.map_some,Option.some.injEq,Prod.mk.injEq]at a;obtain⟨rfl,rfl⟩:=a;have A:=zb (m.out.trans M);clear c3 M;have HH:=zb h3;have C:=Hf.out.mod A.out t.out;obtain⟨k0,k1,k2,k3,k4,k5,k6,k7,k8,k9⟩:=C.cells;have hfz:∀j,w3.frozen? ⟨fb,j,none⟩=false:=fun j=>zd C
    have HF:=zb C;clear C h3;go_wp2_with fail;refine bodyPost_end (results_none rfl _ _ _) rfl (.inl ⟨{ f0 3 b with stream:=(y:Int),off:=B,rel:=H },.slice none 0 0,p3,?_,rfl,?_,?_,zf5.nil _,zfk.nil w,(((((((zah A.out)).setCell (p:=⟨fb,1,none⟩) (.inl (.inr rfl)) _)).setCell (p:=⟨fb,2,none⟩) (.inl (.inr rfl)) _)).setCell (p:=⟨fb,3,none⟩) (.inl (.inr rfl)) _)⟩)
    ·unfold rd3;simp only[f.out,z.out,I.out,Option.bind_some]
    ·exact HH.out.mod ((((Mod.refl (fun k=>k=fb) _).setCell (p:=⟨fb,1,none⟩) (.inl rfl) _).setCell (p:=⟨fb,2,none⟩) (.inl rfl) _).setCell (p:=⟨fb,3,none⟩) (.inl rfl) _) (fun e=>t.out e.symm)
    ·exact(((HF.out).set (i:=1) (v:=.int .i64 (y:Int)) (f':={ f0 3 b with stream:=(y:Int) }) (rv':=.slice none 0 0) rfl).set (i:=2) (v:=.int .u64 (B:Int)) (f':={ f0 3 b with stream:=(y:Int),off:=B }) (rv':=.slice none 0 0) rfl).set (i:=3) (v:=.int .u64 (H:Int)) (f':={ f0 3 b with stream:=(y:Int),off:=B,rel:=H }) (rv':=.slice none 0 0) rfl
def rd4(b:Bool)(bs:List UInt8)(pos:Nat):Option (Frm×Nat) :=
 (zam bs pos).bind fun(x1,p1)=>(zaq bs p1).bind fun(x2,p2)=>(zbv bs p2).bind fun(x3,p3)=>some ({ f0 4 b with stream:=(x1:Int),off:=x2,data:=x3 },p3)
theorem read4(rb fb pos:Nat)(v:Value)(bs:List UInt8)(b:Bool)(w:World)(h:zcv w rb v pos)(hb:BR w v bs)(J:zaX (Two rb fb) v)(hp:pos≤bs.length)(K:zi w fb (f0 4 b) (.slice none 0 0))(q:fb≠rb) :
  Calls Tryz.prog 182 #[.pointer (some ⟨rb,0,none⟩),.pointer (some ⟨fb,0,none⟩)] w (RdF w rb v fb (rd4 b bs pos)):=by
 have r:zaX (zdm rb) v:=fun g o n c e a=>J g o n c e (.inl a)
 have W0:w=w:=rfl;have D:=zb (Mod.refl (zdm rb) w);have E:=zb hb;have Hf:=zb K;have s:=zb r;have t:=zb q;clear hb J K r q W0;have c1:=zc6 rb pos v bs w h (E.out) s.out hp;cases hr1:zam bs pos with
 | none =>
  rw[hr1]at c1;have u:Hid (rd4 b bs pos=none):=by
   show _=_;unfold rd4;simp only[hr1,Option.bind_some,Option.bind_none]
  clear hr1;go_enter Tryz.func182,Tryz.ntmps182;go_wp2_with (go_at_call 178;refine c1.mono ?_;rintro e w' (⟨_,_,a,_⟩|⟨_,d,x⟩);cases a;unfold zac at d;subst d);exact⟨rfl,.inr ⟨u.out,rfl,zah (x)⟩⟩
 | some q1 =>
  obtain⟨y,p1⟩:=q1;rw[hr1]at c1;have F:p1≤bs.length:=zcC hr1;have f:=zb hr1;clear hr1;go_enter Tryz.func182,Tryz.ntmps182;go_wp2_with fail;refine c1.mono ?_;rintro e w1 (⟨_,_,a,rfl,h1,m1⟩|⟨a,_⟩);rotate_left
  ·cases a
  simp only[Option.map_some,Option.some.injEq,Prod.mk.injEq]at a;obtain⟨rfl,rfl⟩:=a;have l:=zb (D.out.trans m1);clear c1 m1;have c2:=zU rb p1 v bs w1 h1 (E.out.mod l.out s.out) s.out F;cases hr2:zaq bs p1 with
  | none =>
   rw[hr2]at c2;have u:Hid (rd4 b bs pos=none):=by
    show _=_;unfold rd4;simp only[f.out,hr2,Option.bind_some,Option.bind_none]
   clear hr2;go_wp2_with (go_at_call 127;refine c2.mono ?_;rintro e w' (⟨_,_,a,_⟩|⟨_,d,x⟩);cases a;unfold zac at d;subst d);exact⟨rfl,.inr ⟨u.out,rfl,zah (l.out.trans x)⟩⟩
  | some q2 =>
   obtain⟨B,p2⟩:=q2;rw[hr2]at c2;have G:p2≤bs.length:=zaP hr2;have z:=zb hr2;clear hr2;go_wp2_with fail;refine c2.mono ?_;rintro e w2 (⟨_,_,a,rfl,h2,L⟩|⟨a,_⟩);rotate_left
   ·cases a
   simp only[Option.map_some,Option.some.injEq,Prod.mk.injEq]at a;obtain⟨rfl,rfl⟩:=a;have m:=zb (l.out.trans L);clear c2 L;have c3:=zgP rb p2 v bs w2 h2 (E.out.mod m.out s.out) s.out G;cases hr3:zbv bs p2 with
   | none =>
    rw[hr3]at c3;have u:Hid (rd4 b bs pos=none):=by
     show _=_;unfold rd4;simp only[f.out,z.out,hr3,Option.bind_some,Option.bind_none]
    clear hr3;go_wp2_with (go_at_call 183;refine c3.mono ?_;rintro e w' (⟨_,_,a,_⟩|⟨_,d,x⟩);cases a;unfold zac at d;subst d);exact⟨rfl,.inr ⟨u.out,rfl,zah (m.out.trans x)⟩⟩
   | some q3 =>
    obtain⟨H,p3⟩:=q3;rw[hr3]at c3;have hp3:p3≤bs.length:=zdS hr3;have I:=zb hr3;clear hr3;go_wp2_with fail;refine c3.mono ?_;rintro e w3 (⟨_,_,a,rfl,h3,M⟩|⟨a,_⟩);rotate_left
    ·cases a
    simp only[Option.map_some,Option.some.injEq,Prod.mk.injEq]at a;obtain⟨rfl,rfl⟩:=a;have A:=zb (m.out.trans M);clear c3 M;have HH:=zb h3;have C:=Hf.out.mod A.out t.out;obtain⟨k0,k1,k2,k3,k4,k5,k6,k7,k8,k9⟩:=C.cells;have hfz:∀j,w3.frozen? ⟨fb,j,none⟩=false:=fun j=>zd C
    have HF:=zb C;clear C h3;go_wp2_with fail;refine bodyPost_end (results_none rfl _ _ _) rfl (.inl ⟨{ f0 4 b with stream:=(y:Int),off:=B,data:=H },.slice none 0 0,p3,?_,rfl,?_,?_,zf5.nil _,zfk.nil w,(((((((zah A.out)).setCell (p:=⟨fb,1,none⟩) (.inl (.inr rfl)) _)).setCell (p:=⟨fb,2,none⟩) (.inl (.inr rfl)) _)).setCell (p:=⟨fb,8,none⟩) (.inl (.inr rfl)) _)⟩)
    ·unfold rd4;simp only[f.out,z.out,I.out,Option.bind_some]
    ·exact HH.out.mod ((((Mod.refl (fun k=>k=fb) _).setCell (p:=⟨fb,1,none⟩) (.inl rfl) _).setCell (p:=⟨fb,2,none⟩) (.inl rfl) _).setCell (p:=⟨fb,8,none⟩) (.inl rfl) _) (fun e=>t.out e.symm)
    ·exact(((HF.out).set (i:=1) (v:=.int .i64 (y:Int)) (f':={ f0 4 b with stream:=(y:Int) }) (rv':=.slice none 0 0) rfl).set (i:=2) (v:=.int .u64 (B:Int)) (f':={ f0 4 b with stream:=(y:Int),off:=B }) (rv':=.slice none 0 0) rfl).set (i:=8) (v:=.string (zq H)) (f':={ f0 4 b with stream:=(y:Int),off:=B,data:=H }) (rv':=.slice none 0 0) rfl
def rd6(b:Bool)(bs:List UInt8)(pos:Nat):Option (Frm×Nat) :=
 (zam bs pos).bind fun(x1,p1)=>(zaq bs p1).bind fun(x2,p2)=>some ({ f0 6 b with stream:=(x1:Int),lim:=x2 },p2)
theorem read6(rb fb pos:Nat)(v:Value)(bs:List UInt8)(b:Bool)(w:World)(h:zcv w rb v pos)(hb:BR w v bs)(E:zaX (Two rb fb) v)(hp:pos≤bs.length)(F:zi w fb (f0 6 b) (.slice none 0 0))(f:fb≠rb) :
  Calls Tryz.prog 188 #[.pointer (some ⟨rb,0,none⟩),.pointer (some ⟨fb,0,none⟩)] w (RdF w rb v fb (rd6 b bs pos)):=by
 have l:zaX (zdm rb) v:=fun g o n c e a=>E g o n c e (.inl a)
 have W0:w=w:=rfl;have x:=zb (Mod.refl (zdm rb) w);have G:=zb hb;have Hf:=zb F;have y:=zb l;have m:=zb f;clear hb E F l f W0;have c1:=zc6 rb pos v bs w h (G.out) y.out hp;cases hr1:zam bs pos with
 | none =>
  rw[hr1]at c1;have z:Hid (rd6 b bs pos=none):=by
   show _=_;unfold rd6;simp only[hr1,Option.bind_some,Option.bind_none]
  clear hr1;go_enter Tryz.func188,Tryz.ntmps188;go_wp2_with (go_at_call 178;refine c1.mono ?_;rintro e w' (⟨_,_,a,_⟩|⟨_,q,A⟩);cases a;unfold zac at q;subst q);exact⟨rfl,.inr ⟨z.out,rfl,zah (A)⟩⟩
 | some q1 =>
  obtain⟨t,p1⟩:=q1;rw[hr1]at c1;have B:p1≤bs.length:=zcC hr1;have r:=zb hr1;clear hr1;go_enter Tryz.func188,Tryz.ntmps188;go_wp2_with fail;refine c1.mono ?_;rintro e w1 (⟨_,_,a,rfl,h1,m1⟩|⟨a,_⟩);rotate_left
  ·cases a
  simp only[Option.map_some,Option.some.injEq,Prod.mk.injEq]at a;obtain⟨rfl,rfl⟩:=a;have d:=zb (x.out.trans m1);clear c1 m1;have c2:=zU rb p1 v bs w1 h1 (G.out.mod d.out y.out) y.out B;cases hr2:zaq bs p1 with
  | none =>
   rw[hr2]at c2;have z:Hid (rd6 b bs pos=none):=by
    show _=_;unfold rd6;simp only[r.out,hr2,Option.bind_some,Option.bind_none]
   clear hr2;go_wp2_with (go_at_call 127;refine c2.mono ?_;rintro e w' (⟨_,_,a,_⟩|⟨_,q,A⟩);cases a;unfold zac at q;subst q);exact⟨rfl,.inr ⟨z.out,rfl,zah (d.out.trans A)⟩⟩
  | some q2 =>
   obtain⟨C,p2⟩:=q2;rw[hr2]at c2;have hp2:p2≤bs.length:=zaP hr2;have D:=zb hr2;clear hr2;go_wp2_with fail;refine c2.mono ?_;rintro e w2 (⟨_,_,a,rfl,h2,H⟩|⟨a,_⟩);rotate_left
   ·cases a
   simp only[Option.map_some,Option.some.injEq,Prod.mk.injEq]at a;obtain⟨rfl,rfl⟩:=a;have s:=zb (d.out.trans H);clear c2 H;have HH:=zb h2;have u:=Hf.out.mod s.out m.out;obtain⟨k0,k1,k2,k3,k4,k5,k6,k7,k8,k9⟩:=u.cells;have hfz:∀j,w2.frozen? ⟨fb,j,none⟩=false:=fun j=>zd u
   have HF:=zb u;clear u h2;go_wp2_with fail;refine bodyPost_end (results_none rfl _ _ _) rfl (.inl ⟨{ f0 6 b with stream:=(t:Int),lim:=C },.slice none 0 0,p2,?_,rfl,?_,?_,zf5.nil _,zfk.nil w,(((((zah s.out)).setCell (p:=⟨fb,1,none⟩) (.inl (.inr rfl)) _)).setCell (p:=⟨fb,4,none⟩) (.inl (.inr rfl)) _)⟩)
   ·unfold rd6;simp only[r.out,D.out,Option.bind_some]
   ·exact HH.out.mod (((Mod.refl (fun k=>k=fb) _).setCell (p:=⟨fb,1,none⟩) (.inl rfl) _).setCell (p:=⟨fb,4,none⟩) (.inl rfl) _) (fun e=>m.out e.symm)
   ·exact((HF.out).set (i:=1) (v:=.int .i64 (t:Int)) (f':={ f0 6 b with stream:=(t:Int) }) (rv':=.slice none 0 0) rfl).set (i:=4) (v:=.int .u64 (C:Int)) (f':={ f0 6 b with stream:=(t:Int),lim:=C }) (rv':=.slice none 0 0) rfl
def rd7(b:Bool)(bs:List UInt8)(pos:Nat):Option (Frm×Nat) :=
 (zaq bs pos).bind fun(x1,p1)=>(zaq bs p1).bind fun(x2,p2)=>(zbv bs p2).bind fun(x3,p3)=>some ({ f0 7 b with id:=x1,dl:=x2,data:=x3 },p3)
theorem read7(rb fb pos:Nat)(v:Value)(bs:List UInt8)(b:Bool)(w:World)(h:zcv w rb v pos)(hb:BR w v bs)(J:zaX (Two rb fb) v)(hp:pos≤bs.length)(K:zi w fb (f0 7 b) (.slice none 0 0))(q:fb≠rb) :
  Calls Tryz.prog 190 #[.pointer (some ⟨rb,0,none⟩),.pointer (some ⟨fb,0,none⟩)] w (RdF w rb v fb (rd7 b bs pos)):=by
 have r:zaX (zdm rb) v:=fun g o n c e a=>J g o n c e (.inl a)
 have W0:w=w:=rfl;have D:=zb (Mod.refl (zdm rb) w);have E:=zb hb;have Hf:=zb K;have s:=zb r;have t:=zb q;clear hb J K r q W0;have c1:=zU rb pos v bs w h (E.out) s.out hp;cases hr1:zaq bs pos with
 | none =>
  rw[hr1]at c1;have u:Hid (rd7 b bs pos=none):=by
   show _=_;unfold rd7;simp only[hr1,Option.bind_some,Option.bind_none]
  clear hr1;go_enter Tryz.func190,Tryz.ntmps190;go_wp2_with (go_at_call 127;refine c1.mono ?_;rintro e w' (⟨_,_,a,_⟩|⟨_,d,x⟩);cases a;unfold zac at d;subst d);exact⟨rfl,.inr ⟨u.out,rfl,zah (x)⟩⟩
 | some q1 =>
  obtain⟨y,p1⟩:=q1;rw[hr1]at c1;have F:p1≤bs.length:=zaP hr1;have f:=zb hr1;clear hr1;go_enter Tryz.func190,Tryz.ntmps190;go_wp2_with fail;refine c1.mono ?_;rintro e w1 (⟨_,_,a,rfl,h1,m1⟩|⟨a,_⟩);rotate_left
  ·cases a
  simp only[Option.map_some,Option.some.injEq,Prod.mk.injEq]at a;obtain⟨rfl,rfl⟩:=a;have l:=zb (D.out.trans m1);clear c1 m1;have c2:=zU rb p1 v bs w1 h1 (E.out.mod l.out s.out) s.out F;cases hr2:zaq bs p1 with
  | none =>
   rw[hr2]at c2;have u:Hid (rd7 b bs pos=none):=by
    show _=_;unfold rd7;simp only[f.out,hr2,Option.bind_some,Option.bind_none]
   clear hr2;go_wp2_with (go_at_call 127;refine c2.mono ?_;rintro e w' (⟨_,_,a,_⟩|⟨_,d,x⟩);cases a;unfold zac at d;subst d);exact⟨rfl,.inr ⟨u.out,rfl,zah (l.out.trans x)⟩⟩
  | some q2 =>
   obtain⟨B,p2⟩:=q2;rw[hr2]at c2;have G:p2≤bs.length:=zaP hr2;have z:=zb hr2;clear hr2;go_wp2_with fail;refine c2.mono ?_;rintro e w2 (⟨_,_,a,rfl,h2,L⟩|⟨a,_⟩);rotate_left
   ·cases a
   simp only[Option.map_some,Option.some.injEq,Prod.mk.injEq]at a;obtain⟨rfl,rfl⟩:=a;have m:=zb (l.out.trans L);clear c2 L;have c3:=zgP rb p2 v bs w2 h2 (E.out.mod m.out s.out) s.out G;cases hr3:zbv bs p2 with
   | none =>
    rw[hr3]at c3;have u:Hid (rd7 b bs pos=none):=by
     show _=_;unfold rd7;simp only[f.out,z.out,hr3,Option.bind_some,Option.bind_none]
    clear hr3;go_wp2_with (go_at_call 183;refine c3.mono ?_;rintro e w' (⟨_,_,a,_⟩|⟨_,d,x⟩);cases a;unfold zac at d;subst d);exact⟨rfl,.inr ⟨u.out,rfl,zah (m.out.trans x)⟩⟩
   | some q3 =>
    obtain⟨H,p3⟩:=q3;rw[hr3]at c3;have hp3:p3≤bs.length:=zdS hr3;have I:=zb hr3;clear hr3;go_wp2_with fail;refine c3.mono ?_;rintro e w3 (⟨_,_,a,rfl,h3,M⟩|⟨a,_⟩);rotate_left
    ·cases a
    simp only[Option.map_some,Option.some.injEq,Prod.mk.injEq]at a;obtain⟨rfl,rfl⟩:=a;have A:=zb (m.out.trans M);clear c3 M;have HH:=zb h3;have C:=Hf.out.mod A.out t.out;obtain⟨k0,k1,k2,k3,k4,k5,k6,k7,k8,k9⟩:=C.cells;have hfz:∀j,w3.frozen? ⟨fb,j,none⟩=false:=fun j=>zd C
    have HF:=zb C;clear C h3;go_wp2_with fail;refine bodyPost_end (results_none rfl _ _ _) rfl (.inl ⟨{ f0 7 b with id:=y,dl:=B,data:=H },.slice none 0 0,p3,?_,rfl,?_,?_,zf5.nil _,zfk.nil w,(((((((zah A.out)).setCell (p:=⟨fb,6,none⟩) (.inl (.inr rfl)) _)).setCell (p:=⟨fb,7,none⟩) (.inl (.inr rfl)) _)).setCell (p:=⟨fb,8,none⟩) (.inl (.inr rfl)) _)⟩)
    ·unfold rd7;simp only[f.out,z.out,I.out,Option.bind_some]
    ·exact HH.out.mod ((((Mod.refl (fun k=>k=fb) _).setCell (p:=⟨fb,6,none⟩) (.inl rfl) _).setCell (p:=⟨fb,7,none⟩) (.inl rfl) _).setCell (p:=⟨fb,8,none⟩) (.inl rfl) _) (fun e=>t.out e.symm)
    ·exact(((HF.out).set (i:=6) (v:=.int .u64 (y:Int)) (f':={ f0 7 b with id:=y }) (rv':=.slice none 0 0) rfl).set (i:=7) (v:=.int .u64 (B:Int)) (f':={ f0 7 b with id:=y,dl:=B }) (rv':=.slice none 0 0) rfl).set (i:=8) (v:=.string (zq H)) (f':={ f0 7 b with id:=y,dl:=B,data:=H }) (rv':=.slice none 0 0) rfl
def zbE(k:Int)(b:Bool)(bs:List UInt8)(pos:Nat):Option (Frm×Nat):=(zaq bs pos).bind fun(x1,p1)=>some ({ f0 k b with lim:=x1 },p1)
theorem zjv(rb fb t pos:Nat)(k:Int)(v:Value)(bs:List UInt8)(b:Bool)(w:World)(h:zcv w rb v pos)(hb:BR w v bs)(u:zaX (Two rb fb) v)(hp:pos≤bs.length)(x:zi w fb (f0 k b) (.slice none 0 0))(d:fb≠rb)
  (hab:w.cell? ⟨t,0,none⟩=some (.func (.func 186) #[] #[])) :
  Calls Tryz.prog 214 #[.pointer (some ⟨rb,0,none⟩),.pointer (some ⟨fb,0,none⟩),.pointer (some ⟨t,0,none⟩)] w (RdF w rb v fb (zbE k b bs pos)):=by
 have f:zaX (zdm rb) v:=fun g o n c e a=>u g o n c e (.inl a)
 have c1:=zU rb pos v bs w h hb f hp;have Hf:=zb x;have l:=zb d;clear hb u x f d h;cases hr1:zaq bs pos with
 | none =>
  rw[hr1]at c1;have HR:Hid (zbE k b bs pos=none):=by show _=_;unfold zbE;rw[hr1];rfl
  clear hr1;go_enter Tryz.func214,Tryz.ntmps214;go_wp2_with (first|(go_at_call 186;refine(zeC _ _).mono ?_;rintro e w' ⟨rfl,rfl⟩)|(go_at_call 127;refine c1.mono ?_;rintro e w' (⟨_,_,a,_⟩|⟨_,y,hm⟩);cases a;unfold zac at y;subst y));exact⟨rfl,.inr ⟨HR.out,rfl,zah hm⟩⟩
 | some q1 =>
  obtain⟨q,p1⟩:=q1;rw[hr1]at c1;have r:=zb hr1;clear hr1;go_enter Tryz.func214,Tryz.ntmps214;go_wp2_with (go_at_call 186;refine(zeC _ _).mono ?_;rintro e w' ⟨rfl,rfl⟩);refine c1.mono ?_;rintro e w1 (⟨_,_,a,rfl,h1,m1⟩|⟨a,_⟩);rotate_left
  ·cases a
  simp only[Option.map_some,Option.some.injEq,Prod.mk.injEq]at a;obtain⟨rfl,rfl⟩:=a;have s:=zb m1;have HH:=zb h1;have m:=Hf.out.mod m1 l.out;obtain⟨k0,k1,k2,k3,k4,k5,k6,k7,k8,k9⟩:=m.cells;have hfz:∀j,w1.frozen? ⟨fb,j,none⟩=false:=fun j=>zd m
  have HF:=zb m;clear m h1 c1 m1;go_wp2_with fail;refine bodyPost_end (results_none rfl _ _ _) rfl (.inl ⟨{ f0 k b with lim:=q },.slice none 0 0,p1,?_,rfl,?_,?_,zf5.nil _,zfk.nil w,((zah s.out).setCell (p:=⟨fb,4,none⟩) (.inl (.inr rfl)) _)⟩)
  ·unfold zbE;simp only[r.out,Option.bind_some]
  ·exact HH.out.mod ((Mod.refl (fun k=>k=fb) _).setCell (p:=⟨fb,4,none⟩) (.inl rfl) _) (fun e=>l.out e.symm)
  ·exact(HF.out).set (i:=4) (v:=.int .u64 (q:Int)) (f':={ f0 k b with lim:=q }) (rv':=.slice none 0 0) rfl
def zcX(bs:List UInt8):Nat→Nat→Nat→Nat→Nat→zD→Option (zD×Nat)
 | 0,_,_,_,_,_=>none
 | fuel+1,hi,n,size,pos,acc =>
  if hi<size then none
  else if n=0 then some (acc++[(hi-size,hi)],pos)
  else(zaq bs pos).bind fun a=>(zaq bs a.2).bind fun b =>
   if hi-size<2∨hi-size-2<a.1 then none else zcX bs fuel (hi-size-2-a.1) (n-1) b.1 b.2 (acc++[(hi-size,hi)])
def rd2(b:Bool)(bs:List UInt8)(pos:Nat):Option (Frm×Nat) :=
 (zaq bs pos).bind fun a=>(zaq bs a.2).bind fun c=>(zaq bs c.2).bind fun d =>
  (zcX bs (bs.length+1) a.1 c.1 d.1 d.2 []).bind fun r=>some ({ f0 2 b with rngs:=r.1 },r.2)
theorem zkd:(Tryz.prog.info? 214).map (fun i=>(i.zero,i.size,i.bytes))=some (some (.agg #[.int .u64 0,.int .u64 0]),2,16):=by kernel_rfl
theorem zjw(w:World)(v:Value)(rs:zD)(lo hi:Nat)(h:w.ownsRow 0 214 2 v rs.length (zn rs))(hl:rs.length≤1099511627776) :
  ∃v' w',(∀ty,(Builtin.append_ #[63,63] ty #[v,.slice (some ⟨w.heap.size,0,none⟩) 1 1]).run Tryz.prog (w.alloc (.cells #[.int .u64 (lo:Int),.int .u64 (hi:Int)] 214)) = .ok v' w') ∧
   w'.ownsRow 0 214 2 v' (rs++[(lo,hi)]).length (zn (rs++[(lo,hi)]))∧w.grownBy w' v.ownBlock∧zaG w v v':=by
 obtain⟨i,b,hz,c,d⟩:=info_parts zkd;have a:∀(j:Nat) u,(zn [(lo,hi)])[j]?=some u→(w.alloc (.cells #[.int .u64 (lo:Int),.int .u64 (hi:Int)] 214)).cell? ((⟨w.heap.size,0,none⟩:Addr).add j)=some u:=by
  intro j u hj;rw[addr_add];refine za (heap_alloc_new w _) ?_;rw[Nat.zero_add,←Array.getElem?_toList];exact hj
 obtain⟨v',w',h1,h2,h3,h4,h5⟩:=zas (P:=Tryz.prog) (w.alloc (.cells #[.int .u64 (lo:Int),.int .u64 (hi:Int)] 214)) 63 214 i (.agg #[.int .u64 0,.int .u64 0]) 2 16 Tryz.underlying63 b hz c d rfl (by decide) v rs.length (zn rs) (World.ownsRow.alloc h _)
  ⟨w.heap.size,0,none⟩ 1 1 (zn [(lo,hi)]) rfl a (by intro u e;simp[zn]at e;rcases e with rfl|rfl<;>rfl) (by unfold maxLen;omega) (by omega)
 refine⟨v',w',h1,?_,?_,?_⟩
 ·rw[List.length_append,zaw];exact h2
 ·exact⟨h3.os,h3.tape,h3.output,Nat.le_trans (by simp) h3.size,fun k hk hn=>(h3.block k (by simp;omega) hn).trans (Below.heap_alloc w _ k hk)⟩
 ·intro k hk;rcases h4 k hk with x|x
  ·exact .inl x
  ·exact .inr (by simp at x;omega)
end Go.Proofs.YtddfdpbaiedcjaaGreatDoor
namespace Go.Proofs.YtddfdpbaiedcjaaGreatDoor
open Go.RowKit Go.Shelf
attribute [local go_sem] Oper.semAt_some
theorem zdp{F:Fence}{n:Nat}{P:Program}{w g:World}{ops:Array Oper}{rest:List Oper}{o:Oper}{a:Act}{Q:Exit→Act→World→Prop}(d:o.guard=none)(s x:Operand)(t u:TypeId)
  (e:o.op = .call { callee:=.builtin .append,args:=#[s,x],argTypes:=#[t,u] }) (i j v':Value) (hs:a.eval s=i) (hx:a.eval x=j)
  (happ:∀ty,(Builtin.append_ #[t,u] ty #[i,j]).run P w = .ok v' g) (h:wpListIn F n P ops Q rest (a.put o.dst v') g):wpListIn F n P ops Q (o::rest) a w:=by
 refine wpListIn_plain d fun K hK=>?_
 have b:=happ o.type;unfold Oper.wpIn;refine⟨by simp[Oper.about,e,resolve,Target.leads,Sem.run_pure],?_⟩;rw[Oper.semAt_plain F _ _ (by rw[e];intro c f;cases f)];simp[execOp,e,resolve,invoke,builtin,hs,hx,b,Result.andThen];exact hK _ _ h
theorem Mod.putObj{S:Nat→Prop}{w w':World}(h:Mod S w w'){l:Nat}(hl:S l∨w.heap.size≤l)(o:Obj):Mod S w (w'.putObj l o) :=
 ⟨h.os,h.tape,h.output,by simpa using h.size,fun i hi a=>(World.putObj_heap_other (fun e=>by
  subst e;rcases hl with x|x
  ·exact a x
  ·omega)).trans (h.block i hi a)⟩
structure DownJ(w:World)(left:Nat)(rec:Loop)(pre:zD)(v:Value)(X:World):Prop where
 mod:Mod NoB w X
 bl:Boxed X w.heap.size 3 (.int .i64 (left:Int))
 bx:Boxed X (w.heap.size+2) 63 v
 own:X.ownsRow 0 214 2 v pre.length (zn pre)
 new:∀g,v.ownBlock=some g→w.heap.size≤g
 df:X.heap[w.heap.size+3]?=some (.deferred (some []))
 rc:X.heap[w.heap.size+4]?=some (.loop rec)
theorem DownJ.own_from{w:World}{left:Nat}{d:Loop}(p:zD→Prop):OwnFrom (w.heap.size+5) (fun pre X=>p pre∧∃v,DownJ w left d pre v X):=by
 rintro pre A B row ⟨hp,v,h⟩ hg f;refine⟨hp,v,?_⟩;have b:∀k,k<w.heap.size+5→some k≠row:=fun k hk e=>by have:=(f k e.symm).1;omega
 have l:Mod (fun k=>row=some k) A B:=(Mod.refl _ _).grown hg (fun k hk=>.inl hk);refine⟨h.mod.then l (fun i hi=>.inr (by have:=(f i hi).1;omega)),h.bl.kept hg (b _ (by omega)),h.bx.kept hg (b _ (by omega)),l.owns h.own (fun g a hx=>?_),h.new,?_,?_⟩
 ·obtain⟨_,o,ho,j⟩:=f g hx;rcases h.own.2 with⟨e,_⟩|⟨g',cap,cur,e,_,c,_⟩
  ·rw[e]at a;cases a
  ·rw[e]at a;simp[Value.ownBlock]at a;subst a;rw[ho]at c;cases c;cases j
 ·exact(hg.block _ (Array.getElem?_eq_some_iff.1 h.df).1 (b _ (by omega))).trans h.df
 ·exact(hg.block _ (Array.getElem?_eq_some_iff.1 h.rc).1 (b _ (by omega))).trans h.rc
theorem zeE{F:Fence}{n:Nat}{P:Program}{g:Operand}{c:Array Tmp}{assign body:Code}{Q:Exit→Act→World→Prop}{a:Act}{w:World}(d:F.round=none)(h1:1≤n){gf:Nat}{lb:Array Value}(hg:a.eval g = .func (.func gf) #[] lb)
  (e:F.fn gf) (eg:∀args w,(callFunc gf args).run P w = .ok (.enter gf args) w)
  (h:∀fn,F.fn fn→CallsIn F (n-1) P gf (#[.func (.yield (w.heap.size+1)) #[] #[]]++lb) ((w.alloc (.deferred (some []))).alloc (.loop { state:=.ready,pending:=none,fn:=fn,tmps:=a.tmps,params:=c,assign:=assign,body:=body,defers:=w.heap.size }))
   (rangePost F n P (w.heap.size+1) Q { a with defers:=[{ target:=.collected w.heap.size,args:=#[] }]++a.defers })) :
  (Code.rangeFunc g c assign body).wpIn F n P Q a w:=by
 refine wpIn_rangeFunc fun fn f=>⟨_,_,_,{ target:=.fn (.func gf) lb,args:=#[.func (.yield (w.heap.size+1)) #[] #[]] },(w.alloc (.deferred (some []))).alloc (.loop { state:=.ready,pending:=none,fn:=fn,tmps:=a.tmps,params:=c,assign:=assign,body:=body,defers:=w.heap.size }),gf,_,_,by rw[d];exact run_enterLoop_outer _ _ _ _ _,?_,?_,?_,fun _=>h1,h fn f⟩
 ·simp only[resolve,hg];simp[go_sem]
 ·intro f' b;simp[Target.leads]at b;subst b;exact e
 ·simp[invoke,go_sem,eg]
theorem zpI{w:World}{base e sz:Nat}{v:Value}{n:Nat}{xs:List Value}(h:w.ownsRow base e sz v n xs):∀g,v.ownBlock=some g→g<w.heap.size:=by
 intro g hg;rcases h.2 with⟨rfl,rfl⟩|⟨g',cap,cur,rfl,_,h0,h1,h2,_⟩
 ·cases hg
 ·simp[Value.ownBlock]at hg;subst hg;exact(Array.getElem?_eq_some_iff.1 h0).1
theorem zfA(rs:zD)(k:Nat)(hk:k≤rs.length):(za0 rs k).map (·.2)=rs.reverse.take k:=by
 apply List.ext_getElem
 ·simp[za0,hk]
 ·intro i h1 h2;have hi:i<rs.length:=by simp[za0]at h1;omega
  simp[za0,loAt,hiAt,List.getD_eq_getElem?_getD,List.getElem_reverse,show rs.length-1-i<rs.length by omega]
theorem zlq{X:World}{v:Value}{l rs:zD}(h:X.ownsRow 0 214 2 v l.length (zn l))(a:∀i,i<rs.length→loAt rs i<18446744073709551616∧hiAt rs i<18446744073709551616)(b:∀x∈l,x∈rs):RR X v l:=by
 refine zf5.rr ⟨h,fun i hi=>?_⟩;have hx:(loAt l i,hiAt l i)∈l:=by
  have:l[i]?=some (loAt l i,hiAt l i):=by simp[loAt,hiAt,List.getD_eq_getElem?_getD,List.getElem?_eq_getElem hi]
  exact List.mem_of_getElem? this
 obtain⟨j,c⟩:=List.getElem?_of_mem (b _ hx);have d:j<rs.length:=(List.getElem?_eq_some_iff.1 c).1;have:=a j d;have e1:loAt rs j=loAt l i:=by unfold loAt at *;simp[List.getD_eq_getElem?_getD,c]
 have e2:hiAt rs j=hiAt l i:=by unfold hiAt at *;simp[List.getD_eq_getElem?_getD,c]
 omega
end Go.Proofs.YtddfdpbaiedcjaaGreatDoor
namespace Go.Proofs.YtddfdpbaiedcjaaGreatDoor
open Go.RowKit Go.Shelf
attribute [local go_sem] Oper.semAt_some
structure zlr(w:World)(rec:Loop)(pre:zD)(v:Value)(X:World):Prop where
 mod:Mod NoB w X
 bx:Boxed X w.heap.size 63 v
 own:X.ownsRow 0 214 2 v pre.length (zn pre)
 new:∀g,v.ownBlock=some g→w.heap.size≤g
 df:X.heap[w.heap.size+1]?=some (.deferred (some []))
 rc:X.heap[w.heap.size+2]?=some (.loop rec)
theorem zlr.own_from{w:World}{d:Loop}:OwnFrom (w.heap.size+3) (fun pre X=>∃v,zlr w d pre v X):=by
 rintro pre A B row ⟨v,h⟩ hg f;refine⟨v,?_⟩;have b:∀k,k<w.heap.size+3→some k≠row:=fun k hk e=>by have:=(f k e.symm).1;omega
 have l:Mod (fun k=>row=some k) A B:=(Mod.refl _ _).grown hg (fun k hk=>.inl hk);refine⟨h.mod.then l (fun i hi=>.inr (by have:=(f i hi).1;omega)),h.bx.kept hg (b _ (by omega)),l.owns h.own (fun g a hx=>?_),h.new,?_,?_⟩
 ·obtain⟨_,o,ho,j⟩:=f g hx;rcases h.own.2 with⟨e,_⟩|⟨g',cap,cur,e,_,c,_⟩
  ·rw[e]at a;cases a
  ·rw[e]at a;simp[Value.ownBlock]at a;subst a;rw[ho]at c;cases c;cases j
 ·exact(hg.block _ (Array.getElem?_eq_some_iff.1 h.df).1 (b _ (by omega))).trans h.df
 ·exact(hg.block _ (Array.getElem?_eq_some_iff.1 h.rc).1 (b _ (by omega))).trans h.rc
def zf6(rs:zD)(w:World)(e:Ending)(W':World):Prop :=
 ∃v,e = .returned v∧W'.ownsRow 0 214 2 v rs.length (zn rs.reverse)∧(∀g,v.ownBlock=some g→w.heap.size≤g)∧Mod NoB w W'
theorem zls(F:Fence)(n:Nat)(O:∀f,F.fn f)(W:F.round=none)(hn:7≤n)(rs:zD)(fl most b sB:Nat)(v:Value)(w:World)(h:zbz w b 0 v rs fl most)(am:∀i,i<rs.length→loAt rs i<18446744073709551616∧hiAt rs i<18446744073709551616)(ao:w.cell? ⟨sB,0,none⟩=some (.pointer (some ⟨b,0,none⟩))) :
  CallsIn F n Tryz.prog 195 #[.slice none 0 0,.func (.func 193) #[] #[.pointer (some ⟨sB,0,none⟩)]] w (zf6 rs w):=by
 obtain⟨a,cap,rfl,o1,o2,o3⟩:=zj h.own;have hbw:=zk h.cl;have hsw:=zk ao;have ap:∀g o,a=some ⟨g,o,none⟩→g<w.heap.size:=fun g o e=>zpI h.own g (by rw[e];rfl)
 have aH:RR w (.slice a rs.length cap) rs:=zf5.rr ⟨h.own,am⟩;have aI:=h.cl;have aW:=h.len;clear h;have h1:1≤n:=by omega
 refine callsIn_of_wp_marks Tryz.func195 rfl (O _) ?_ W;simp only[Tryz.ntmps195,List.size_toArray,List.length_cons,List.length_nil,Nat.reduceAdd,Nat.reduceSub,Array.replicate_succ,Array.replicate_zero,List.push_toArray,List.append_toArray,List.nil_append,List.cons_append];gi_wp2;refine zeE W h1 (gf:=193) (lb:=#[.pointer (some ⟨sB,0,none⟩)]) rfl (O _) (enters_of Tryz.func193 (by kernel_rfl) rfl) ?_;intro fn hf;generalize hrec:Loop.mk .ready none fn _ _ _ _ _=rec;have Y:(w.alloc (.cells #[.slice none 0 0] 63)).heap.size=w.heap.size+1:=by simp
 rw[Y]at hrec ⊢;have e12:w.heap.size+1+1=w.heap.size+2:=rfl;obtain⟨W1,r⟩:=nm (((w.alloc (.cells #[.slice none 0 0] 63)).alloc (.deferred (some []))).alloc (.loop rec));have m1:Mod NoB w W1:=by rw[←r];exact(((Mod.refl _ _).alloc _).alloc _).alloc _
 have aJ:W1.heap.size=w.heap.size+3:=by rw[←r];simp
 have bs:W1.cell? ⟨sB,0,none⟩=some (.pointer (some ⟨b,0,none⟩)):=m1.cell (a:=⟨sB,0,none⟩) (fun x=>x) ao;have bx:Boxed W1 w.heap.size 63 (.slice none 0 0):=by
  rw[←r];exact((Boxed.new w _ _).alloc _).alloc _
 have aK:W1.heap[w.heap.size+1]?=some (.deferred (some [])):=by
  rw[←r];have:=World.alloc_heap_new (w.alloc (.cells #[.slice none 0 0] 63)) (.deferred (some []));rw[Y]at this;exact(Below.heap_alloc _ _ _ (by simp)).trans this
 have aL:W1.heap[w.heap.size+2]?=some (.loop rec):=by
  rw[←r];have:=World.alloc_heap_new ((w.alloc (.cells #[.slice none 0 0] 63)).alloc (.deferred (some []))) (.loop rec);rw[World.size_alloc,Y]at this;exact this
 rw[r];have aM:zlr w rec [] (.slice none 0 0) W1:=⟨m1,bx,World.ownsRow_nil _ 0 _ 2,(fun g hg=>by cases hg),aK,aL⟩;clear r;have Z:=congrArg Loop.assign hrec.symm;dsimp only at Z;have aa:=congrArg Loop.body hrec.symm;dsimp only at aa;have ab:=congrArg Loop.tmps hrec.symm;dsimp only at ab;have aq:rec.params=#[7]:=by rw[←hrec]
 have ar:rec.state = .ready:=by rw[←hrec]
 have au:rec.pending=none:=by rw[←hrec]
 have av:=zb au;have aN:=zb Z;have aO:=zb aa;have aP:=zb ab;have aw:=zb aq;have ac:=zb ar;clear hrec Z aa ab aq ar au;refine(znG F (n-1) O W (by omega) (w.heap.size+2) sB b w.heap.size cap a rs
  (fun pre X=>∃v,zlr w rec pre v X)
  (fun _ _=>False) W1 ?hY ?hJ ?hJx bs (m1.cell (a:=⟨b,0,none⟩) (fun x=>x) aI) (aH.mod m1 (zaX.no _)) (by omega) (by omega) (fun g o e=>by have:=ap g o e;omega) ⟨_,aM⟩).mono ?post
 case hJ=>rw[aJ];exact zlr.own_from
 case hJx=>intro _ _ _ _ x;exact x.elim
 case hY =>
  rintro m pre x X ⟨v,z⟩ hlt;have hpl:pre.length≤1099511627776:=by omega
  have M:=zb z;have aQ:=(Array.getElem?_eq_some_iff.1 z.rc).1;refine⟨_,_,_,_,run_yield z.rc (by rw[aw.out];rfl),roundIn_of_wpIn (O _) ?_⟩;rw[aN.out,aO.out,aP.out,aw.out];unfold zqL;clear z;gi_wp2;have ax:(X.alloc (.cells #[.int .u64 (x.1:Int),.int .u64 (x.2:Int)] 214)).heap[w.heap.size+2]?=some (.loop rec):=(Below.heap_alloc _ _ _ aQ).trans M.out.rc;refine⟨_,run_beginRound ax ac.out,?_⟩;obtain⟨j,d⟩:∃j,(X.alloc (.cells #[.int .u64 (x.1:Int),.int .u64 (x.2:Int)] 214)).putObj (w.heap.size+2) (.loop { rec with state:=.busy })=j:=⟨_,rfl⟩;have m2:Mod (fun k=>k=w.heap.size∨k=w.heap.size+2∨v.ownBlock=some k) X j:=by
   rw[←d];exact((Mod.refl (fun k=>k=w.heap.size∨k=w.heap.size+2∨v.ownBlock=some k) _).alloc _).putObj (.inl (.inr (.inl rfl))) _
  have B:j.heap[w.heap.size+2]?=some (.loop { rec with state:=.busy }):=by
   rw[←d];exact World.putObj_heap_same (by simp;omega)
  have ad:j.heap[X.heap.size]?=some (.cells #[.int .u64 (x.1:Int),.int .u64 (x.2:Int)] 214 (0,0)):=by
   rw[←d];exact(World.putObj_heap_other (by omega)).trans (heap_alloc_new X _)
  have ae:∀k,k<X.heap.size→k≠w.heap.size+2→j.heap[k]?=X.heap[k]?:=fun k hk hn=>by
   rw[←d];exact(World.putObj_heap_other hn).trans (Below.heap_alloc _ _ _ hk)
  have ay:Mod (fun k=>k=w.heap.size+2) X j:=by
   rw[←d];exact((Mod.refl (fun k=>k=w.heap.size+2) X).alloc _).putObj (.inl rfl) _
  rw[d];have Q:Boxed j w.heap.size 63 v:=(ae _ (by omega) (by omega)).trans M.out.bx;have R:j.heap[w.heap.size+1]?=some (.deferred (some [])):=(ae _ (by omega) (by omega)).trans M.out.df;have A:j.ownsRow 0 214 2 v pre.length (zn pre):=ay.owns M.out.own (fun g hg e=>by
   have e:g=w.heap.size+2:=e;subst e;rcases M.out.own.2 with⟨e,_⟩|⟨g',cp,C,e,_,c,_⟩
   ·rw[e]at hg;cases hg
   ·rw[e]at hg;simp[Value.ownBlock]at hg;rw[hg,M.out.rc]at c;cases c)
  have af:=M.out.new;have D:∀k,v.ownBlock=some k→zd7 w.heap.size (w.heap.size+2) a X k:=fun k hk=>by
   refine .inr (.inr ⟨fun g o e=>by have:=ap g o e;have:=af k hk;omega,?_⟩);rcases M.out.own.2 with⟨e,_⟩|⟨g',cp,C,e,_,c,_⟩
   ·rw[e]at hk;cases hk
   ·rw[e]at hk;simp[Value.ownBlock]at hk;subst hk;exact⟨_,_,c⟩
  have hs2:X.heap.size≤j.heap.size:=m2.size;obtain⟨va,vc,rfl,_⟩:=zj A;obtain⟨N,E,ah,G,H,az⟩:=zjw j (.slice va pre.length vc) pre x.1 x.2 A (by omega);have S:∀k,k=w.heap.size∨k=w.heap.size+1∨k=w.heap.size+2→some k≠(Value.slice va pre.length vc).ownBlock:=fun k hk e=>by
   rcases A.2 with⟨s,_⟩|⟨g',cp,C,s,_,c,_⟩
   ·rw[s]at e;cases e
   ·rw[s]at e;simp[Value.ownBlock]at e;subst e;rcases hk with rfl|rfl|rfl
    ·rw[show j.heap[w.heap.size]?=_ from Q]at c;simp at c
    ·rw[R]at c;cases c
    ·rw[B]at c;cases c
  have I:=Q.kept H (S _ (.inl rfl));have ai:E.heap[w.heap.size+1]?=some (.deferred (some [])):=(H.block _ (Array.getElem?_eq_some_iff.1 R).1 (S _ (.inr (.inl rfl)))).trans R;have aj:E.heap[w.heap.size+2]?=some (.loop { rec with state:=.busy }):=(H.block _ (Array.getElem?_eq_some_iff.1 B).1 (S _ (.inr (.inr rfl)))).trans B;have m3:=m2.grown H (fun k hk=>.inl (.inr (.inr hk)));have m4:=m3.setCell (p:=⟨w.heap.size,0,none⟩) (.inl (.inl rfl)) N;have J:Boxed (E.setCell ⟨w.heap.size,0,none⟩ N) w.heap.size 63 N:=I.set N;have K:Mod (fun k=>k=w.heap.size) E (E.setCell ⟨w.heap.size,0,none⟩ N):=(Mod.refl (fun k=>k=w.heap.size) E).setCell (p:=⟨w.heap.size,0,none⟩) (.inl rfl) _;have T:(E.setCell ⟨w.heap.size,0,none⟩ N).heap[w.heap.size+2]?=some (.loop { rec with state:=.busy }):=(K.block _ (Array.getElem?_eq_some_iff.1 aj).1 (by omega)).trans aj;have U:(E.setCell ⟨w.heap.size,0,none⟩ N).heap[w.heap.size+1]?=some (.deferred (some [])):=(K.block _ (Array.getElem?_eq_some_iff.1 ai).1 (by omega)).trans ai;have l:(E.setCell ⟨w.heap.size,0,none⟩ N).ownsRow 0 214 2 N (pre++[x]).length (zn (pre++[x])):=K.owns G (fun g hg e=>by
   have e:g=w.heap.size:=e;subst e;rcases G.2 with⟨s,_⟩|⟨g',cp,C,s,_,c,_⟩
   ·rw[s]at hg;cases hg
   ·rw[s]at hg;simp[Value.ownBlock]at hg;rw[hg,show E.heap[w.heap.size]?=_ from I]at c;simp at c)
  have u:∀g,N.ownBlock=some g→w.heap.size≤g:=fun g hg=>by
   rcases az g hg with q|q
   ·exact af g q
   ·omega
  obtain⟨vb,vd,rfl,_⟩:=zj l;have y:(pre++[x]).length=pre.length+1:=by simp
  rw[y]at ah;have bxc:=I.cell;have bxf:=I.frozen;have V:=J.cell;have aX:=Q.cell;have r20:j.cell? ⟨X.heap.size,0,none⟩=some (.int .u64 (x.1:Int)):=za ad rfl;have r21:j.cell? ⟨X.heap.size,1,none⟩=some (.int .u64 (x.2:Int)):=za ad rfl;rw[y]at m4 J K T U l u V;obtain⟨X4,aR⟩:=nm (E.setCell ⟨w.heap.size,0,none⟩ (.slice vb (pre.length+1) vd));rw[aR]at m4 J T U l V;have aS:Hid (Mod (zd7 w.heap.size (w.heap.size+2) a X) X X4):=m4.mono (fun k hk=>.inl (by
   rcases hk with hk|hk|hk
   ·exact .inl hk
   ·exact .inr (.inl hk)
   ·exact D k hk))
  have ak:Hid (Mod NoB w X4):=M.out.mod.then m4 (fun k hk=>.inr (by
   rcases hk with hk|hk|hk
   ·omega
   ·omega
   ·exact af k hk))
  have hwX:=M.out.mod.size;have aA:=zb J;have al:=zb T;have aT:=zb U;have aB:=zb l;have aC:=zb u;clear m4 J K T U l u G H az S D ae ay m2 m3 B R aj ai Q I A d ad ax
  gi_wp2_with (gi_at_builtin;refine zdp rfl _ _ _ _ rfl _ _ _ rfl rfl ah ?_;clear ah)
  refine⟨_,_,run_endRound none al.out,aS.out.putObj (.inl (.inr (.inl rfl))) _,rfl,.slice vb (pre.length+1) vd,?_⟩;have aD:=(Array.getElem?_eq_some_iff.1 al.out).1;have mp:∀o,Mod (fun k=>k=w.heap.size+2) X4 (X4.putObj (w.heap.size+2) o):=fun o=>(Mod.refl (fun k=>k=w.heap.size+2) X4).putObj (.inl rfl) o
  have aU:∀g,(Value.slice vb (pre.length+1) vd).ownBlock=some g→¬g=w.heap.size+2:=fun g hg e=>by
   subst e;rcases aB.out.2 with⟨e,_⟩|⟨g',cp,C,e,_,c,_⟩
   ·rw[e]at hg;cases hg
   ·rw[e]at hg;simp[Value.ownBlock]at hg;rw[hg,al.out]at c;cases c
  refine⟨ak.out.putObj (.inr (by omega)) _,(World.putObj_heap_other (by omega)).trans aA.out,by rw[y];exact(mp _).owns aB.out aU,aC.out,(World.putObj_heap_other (by omega)).trans aT.out,?_⟩;rw[World.putObj_heap_same aD];have aE:=av.out;have aF:=ac.out;cases rec;simp only at aE aF;subst aE;subst aF;rfl
 case post =>
  rintro e X ⟨⟨v0,rfl⟩,⟨v,z⟩|⟨k,hk,hx⟩⟩
  ·have L:=run_endLoop (P:=Tryz.prog) z.rc (by rw[ac.out];simp);rw[av.out]at L;refine⟨none,_,L,?_⟩;clear L;obtain⟨j,d⟩:∃j,X.putObj (w.heap.size+2) (.loop { rec with state:=.exhausted,pending:=none })=j:=⟨_,rfl⟩;have hm:Mod (fun k=>k=w.heap.size+2) X j:=by rw[←d];exact(Mod.refl (fun k=>k=w.heap.size+2) _).putObj (.inl rfl) _
   have hb:j.cell? ⟨w.heap.size,0,none⟩=some v:=hm.cell (a:=⟨w.heap.size,0,none⟩) (by simp) z.bx.cell;have hd:j.heap[w.heap.size+1]?=some (.deferred (some [])):=hm.obj (by simp) z.df;have ho:=hm.owns z.own (fun g hg e=>by
    have e:g=w.heap.size+2:=e;subst e;rcases z.own.2 with⟨s,_⟩|⟨g',cp,C,s,_,c,_⟩
    ·rw[s]at hg;cases hg
    ·rw[s]at hg;simp[Value.ownBlock]at hg;rw[hg,z.rc]at c;cases c)
   have HX2:=zb d;have ak:Hid (Mod NoB w j):=zb (z.mod.then hm (fun i hi=>.inr (by omega)));have HO:=zb ho;have HN:=zb z.new;rw[d];clear hm z ho d;gi_wp2;refine⟨by simp,.inl ⟨_,_,rfl,run_takeDeferred hd,?_⟩⟩;have aV:(za0 rs rs.length).map (·.2)=rs.reverse:=by rw[zfA rs rs.length (Nat.le_refl _),List.take_of_length_le (by simp)]
   have B:rs.reverse.length=rs.length:=by simp
   rw[aV]at HO;refine⟨_,results_tmp (t:=4) rfl _ _ _,v,rfl,?_,HN.out,ak.out.putObj (.inr (by omega)) _⟩;have aG:=((Mod.refl (fun k=>k=w.heap.size+1) j).putObj (.inl rfl) (.deferred none)).owns HO.out (fun g hg e=>by
    have e:g=w.heap.size+1:=e;subst e;rcases HO.out.2 with⟨s,_⟩|⟨g',cp,C,s,_,c,_⟩
    ·rw[s]at hg;cases hg
    ·rw[s]at hg;simp[Value.ownBlock]at hg;rw[hg,hd]at c;cases c)
   rw[B]at aG;exact aG
  ·exact hx.elim
theorem zke(F:Fence)(n:Nat)(a:∀f,F.fn f)(c:F.round=none)(hn:8≤n)(rs:zD)(fl most b g:Nat)(v:Value)(w:World)(h:zbz w b 0 v rs fl most)(d:∀i,i<rs.length→loAt rs i<18446744073709551616∧hiAt rs i<18446744073709551616)(j:w.cell? ⟨g,0,none⟩=some (.pointer (some ⟨b,0,none⟩))) :
  CallsIn F n Tryz.prog 143 #[.func (.func 193) #[] #[.pointer (some ⟨g,0,none⟩)]] w (zf6 rs w):=by
 have k:=zls F (n-1) a c (by omega) rs fl most b g v w h d j;have K:=zb k;have h1:1≤n:=by omega
 clear h k;refine callsIn_of_wp Tryz.func143 rfl (a _) ?_ c;simp only[Tryz.ntmps143,List.size_toArray,List.length_cons,List.length_nil,Nat.reduceAdd,Nat.reduceSub,Array.replicate_succ,Array.replicate_zero,List.push_toArray,List.append_toArray,List.nil_append,List.cons_append]
 gi_wp2_with (gi_at_call 195;refine K.out.mono ?_;rintro e w' ⟨v',rfl,ho,l,hm⟩)
 go_ret;exact⟨v',rfl,ho,l,hm⟩
theorem zih(rs:zD)(fl most b c:Nat)(v:Value)(w:World)(h:zbz w b 0 v rs fl most)(a:∀i,i<rs.length→loAt rs i<18446744073709551616∧hiAt rs i<18446744073709551616)(d:w.cell? ⟨c,0,none⟩=some (.pointer (some ⟨b,0,none⟩))) :
  Calls Tryz.prog 143 #[.func (.func 193) #[] #[.pointer (some ⟨c,0,none⟩)]] w (zf6 rs w) :=
 (callsIn_wide (n:=8)).1 (zke Fence.wide 8 (fun _=>trivial) rfl (Nat.le_refl _) rs fl most b c v w h a d)
theorem zlt(b:Nat)(w:World):Calls Tryz.prog 141 #[.pointer (some ⟨b,0,none⟩)] w fun e w'=>e = .returned (.func (.func 193) #[] #[.pointer (some ⟨w.heap.size,0,none⟩)])∧w'=w.alloc (.cells #[.pointer (some ⟨b,0,none⟩)] 114) :=
 (callsIn_wide (n:=8)).1 (zpF Fence.wide 8 trivial rfl b w)
end Go.Proofs.YtddfdpbaiedcjaaGreatDoor
