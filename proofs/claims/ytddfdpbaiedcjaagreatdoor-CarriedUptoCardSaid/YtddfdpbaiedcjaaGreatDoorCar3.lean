/- A part of Carried's proof. Conditions: none. Part 3 of 13. -/
import Derived.Test.YtddfdpbaiedcjaaGreatDoorCar2
import Derived.Stop.Asserts
import Derived.RowKitTokens
set_option maxRecDepth 100000
set_option maxHeartbeats 16000000
set_option linter.all false
namespace Go.Proofs.YtddfdpbaiedcjaaGreatDoor
open Go.RowKit Go.Proofs.Tryz
theorem zkK(l:List UInt8):∀s:ByteArray,(l.map fun c=>((c.toNat:Nat):Int)).foldl (fun r n=>r.push (UInt8.ofNat n.toNat)) s=⟨s.data++l.toArray⟩:=by
 induction l with
 | nil=>intro s;simp
 | cons c l ih =>
  intro s;simp only[List.map_cons,List.foldl_cons,Int.toNat_natCast,UInt8.ofNat_toNat];rw[ih];simp[ByteArray.push]
variable{l:List UInt8}{v:Value}{w:World}
theorem zbu(h:BR w v l):(convert 60 9 v).run prog w = .ok (.string (zq l)) w:=by
 obtain⟨a,cap,rfl,h1,h2,h3⟩:=h;rw[run_convert_bytes_string w _ _ _ a l.length cap underlying60 underlying5 underlying9];cases a with
 | none =>
  have hl:l=[]:=by
   cases l with
   | nil=>rfl
   | cons c l =>
    obtain⟨g,o,e,_⟩:=h3 0 c rfl;cases e
  subst hl;rfl
 | some a =>
  have b:∀j u,(zP l)[j]?=some u→w.cell? (a.add j)=some u:=by
   intro j u d;simp only[zP,List.getElem?_map,Option.map_eq_some_iff]at d;obtain⟨c,hc,rfl⟩:=d;obtain⟨g,o,e,hh⟩:=h3 j c hc;cases e;rw[zU];exact hh
  have zmG:(loadCells a l.length).run prog w = .ok ((l.map fun c=>((c.toNat:Nat):Int)).map (Value.int .u8)).toArray w:=by
   have:=run_loadCells_list (P:=prog) (w:=w) a (zP l) b;rw[zan]at this;rw[this];simp[zP]
  rw[run_bytesToString w a l.length cap _ zmG,zkK];simp[zq]
def zao(bs:List UInt8)(pos:Nat):Option (Nat×Nat):=(zas bs pos).bind fun q=>if q.1<8 then some q else none
def zbv(bs:List UInt8)(pos:Nat):Option (List UInt8×Nat):=(zas bs pos).bind fun q=>if q.1≤bs.length-q.2 then some ((bs.drop q.2).take q.1,q.2+q.1)else none
variable{bs:List UInt8}{n p pos:Nat}
theorem zT(h:zas bs pos=some (n,p)):pos<p∧p≤bs.length∧n<4611686018427387904:=by
 unfold zas at h;cases hc:bs[pos]? with
 | none=>rw[hc]at h;cases h
 | some c =>
  rw[hc]at h;simp only at h;split at h
  ·rename_i hfit;simp only[Option.some.injEq,Prod.mk.injEq]at h;obtain⟨rfl,rfl⟩:=h;have hz1:1≤vsz c:=Nat.one_le_two_pow;have hcl:=c.toNat_lt;have hq:c.toNat / 64=0∨c.toNat / 64=1∨c.toNat / 64=2∨c.toNat / 64=3:=by omega
   have hz8:vsz c≤8:=by
    unfold vsz;rcases hq with e|e|e|e<;>rw[e]<;>decide
   refine⟨by omega,hfit,?_⟩;have h1:=zjQ c ((bs.drop (pos+1)).take (vsz c-1));have h2:((bs.drop (pos+1)).take (vsz c-1)).length≤7:=by rw[List.length_take];omega
   have h5:64*256 ^ ((bs.drop (pos+1)).take (vsz c-1)).length≤64*256 ^ 7:=Nat.mul_le_mul_left _ (Nat.pow_le_pow_right (by omega) h2);have h6:64*256 ^ 7=4611686018427387904:=by decide
   omega
  ·cases h
theorem zdf(rb pos:Nat)(v:Value)(bs:List UInt8)(w:World)(h:zcF w rb v pos)(hb:BR w v bs)(j:za2 (zdu rb) v)(hp:pos≤bs.length):Calls prog 178 #[.pointer (some ⟨rb,0,none⟩)] w (Rds w rb v ((zao bs pos).map fun q=>(.int .i64 (q.1:Int),q.2))):=by
 have hc:=zV rb pos v bs w h hb j hp;clear h hb j;cases hr:zas bs pos with
 | none =>
  rw[hr]at hc;have d:Hid (zao bs pos=none):=by show _=_;rw[zao,hr];rfl
  clear hr;go_enter func178,ntmps178;go_wp2_with (go_at_call 127;refine hc.mono ?_;rintro e k (⟨_,_,a,_⟩|⟨_,f,c⟩);cases a;unfold zaf at f;subst f);exact⟨rfl,.inr ⟨by rw[d.out];rfl,rfl,c⟩⟩
 | some q =>
  obtain⟨n,p⟩:=q;obtain⟨q1,q2,q3⟩:=zT hr;rw[hr]at hc;by_cases l:n<8
  ·have d:Hid (zao bs pos=some (n,p)):=by show _=_;rw[zao,hr];simp[l]
   have g:¬(8:Int)≤n:=by omega
   have e1:IntKind.i64.wrap (n:Int)=n:=IntWalk.i64_in _ (by omega);clear hr;go_enter func178,ntmps178;go_wp2_with fail;refine hc.mono ?_;rintro e k (⟨_,_,a,rfl,b,c⟩|⟨a,_⟩)
   ·simp only[Option.map_some,Option.some.injEq,Prod.mk.injEq]at a;obtain⟨rfl,rfl⟩:=a;have HA:=zb b;have i:=zb c;clear b c;go_wp2_with fail;go_ret;exact .inl ⟨_,_,by rw[d.out];rfl,rfl,HA.out,i.out⟩
   ·cases a
  ·have d:Hid (zao bs pos=none):=by show _=_;rw[zao,hr];simp[l]
   have g:(8:Int)≤n:=by omega
   clear hr;go_enter func178,ntmps178;go_wp2_with fail;refine hc.mono ?_;rintro e k (⟨_,_,a,rfl,b,c⟩|⟨a,_⟩)
   ·simp only[Option.map_some,Option.some.injEq,Prod.mk.injEq]at a;obtain⟨rfl,rfl⟩:=a;have i:=zb c;clear b c;go_wp2_with (go_at_call 128;refine(zbY _ _).mono ?_;rintro e w' ⟨f,rfl⟩;unfold zaf at f;subst f);exact⟨rfl,.inr ⟨by rw[d.out];rfl,rfl,i.out⟩⟩
   ·cases a
theorem zha(rb pos:Nat)(v:Value)(bs:List UInt8)(w:World)(h:zcF w rb v pos)(hb:BR w v bs)(k:za2 (zdu rb) v)(hp:pos≤bs.length):Calls prog 183 #[.pointer (some ⟨rb,0,none⟩)] w (Rds w rb v ((zbv bs pos).map fun q=>(.string (zq q.1),q.2))):=by
 have hc:=zV rb pos v bs w h hb k hp;have x:=zb hb;clear h hb;cases hr:zas bs pos with
 | none =>
  rw[hr]at hc;have g:Hid (zbv bs pos=none):=by show _=_;rw[zbv,hr];rfl
  clear hr k;go_enter func183,ntmps183;go_wp2_with (go_at_call 127;refine hc.mono ?_;rintro e l (⟨_,_,a,_⟩|⟨_,i,c⟩);cases a;unfold zaf at i;subst i);exact⟨rfl,.inr ⟨by rw[g.out];rfl,rfl,c⟩⟩
 | some q =>
  obtain⟨n,p⟩:=q;obtain⟨q1,q2,q3⟩:=zT hr;rw[hr]at hc;have y:=zb hr;have o:=zb k;clear hr k;by_cases d:n≤bs.length-p
  ·have g:Hid (zbv bs pos=some ((bs.drop p).take n,p+n)):=by show _=_;rw[zbv,y.out];simp[d]
   go_enter func183,ntmps183;go_wp2_with fail;refine hc.mono ?_;rintro e l (⟨_,_,a,rfl,b,c⟩|⟨a,_⟩)
   ·simp only[Option.map_some,Option.some.injEq,Prod.mk.injEq]at a;obtain⟨rfl,rfl⟩:=a;have m:=zgr rb n p (n:Int) rfl v bs l b (x.out.mod c o.out) o.out (by omega);have r:=zb c;clear b c;go_wp2_with fail;refine m.mono ?_;rintro e w2 ⟨sv,rfl,j,h2,z⟩;have s:=zbu j;have H2:=zb h2;have t:=zb z;obtain⟨a2,A,rfl,_⟩:=j;obtain⟨l2,f⟩:=nm ((bs.drop p).take n);rw[f]at s g;rw[f];clear h2 z m f;go_wp2_with fail;go_ret;exact .inl ⟨_,_,by rw[g.out];rfl,rfl,H2.out,r.out.trans t.out⟩
   ·cases a
  ·have g:Hid (zbv bs pos=none):=by show _=_;rw[zbv,y.out];simp[d]
   go_enter func183,ntmps183;go_wp2_with fail;refine hc.mono ?_;rintro e l (⟨_,_,a,rfl,b,c⟩|⟨a,_⟩)
   ·simp only[Option.map_some,Option.some.injEq,Prod.mk.injEq]at a;obtain⟨rfl,rfl⟩:=a;have m:=ziA rb n p (n:Int) rfl v bs l b (x.out.mod c o.out) (by omega) (by omega);have r:=zb c;clear b c;go_wp2_with (go_at_call 129;refine m.mono ?_;rintro e w' ⟨i,u⟩;unfold zaf at i;subst i);exact⟨rfl,.inr ⟨by rw[g.out];rfl,rfl,r.out.trans u⟩⟩
   ·cases a
def zbe(t:UInt8):Option Int :=
 if t=1 then some 1 else if t=2 then some 2 else if t=8∨t=9 then some 4 else if t=16 then some 5 else if t=17 then some 6 else if t=28 then some 8 else if t=36 then some 3 else if t=48 then some 7 else none
theorem zlY(t:UInt8)(w:World)(h:zbe t=none):Calls prog 130 #[.int .u8 (t.toNat:Int)] w fun e w'=>e = .returned (.tuple #[.int .i64 0,.bool false])∧w=w':=by
 have a:∀c:UInt8,c ∈ [1,2,8,9,16,17,28,36,48]→((t.toNat:Int)==(c.toNat:Int))=false:=by
  intro c hc;rw[beq_eq_false_iff_ne];intro he;have:t=c:=UInt8.toNat_inj.1 (by omega);subst this;simp only[List.mem_cons,List.not_mem_nil,or_false]at hc;rcases hc with rfl|rfl|rfl|rfl|rfl|rfl|rfl|rfl|rfl<;>simp[zbe]at h
 have h1:((t.toNat:Int)==1)=false:=a 1 (by simp);have h2:((t.toNat:Int)==2)=false:=a 2 (by simp);have h3:((t.toNat:Int)==8)=false:=a 8 (by simp);have h4:((t.toNat:Int)==9)=false:=a 9 (by simp);have h5:((t.toNat:Int)==16)=false:=a 16 (by simp);have h6:((t.toNat:Int)==17)=false:=a 17 (by simp);have h7:((t.toNat:Int)==28)=false:=a 28 (by simp);have h8:((t.toNat:Int)==36)=false:=a 36 (by simp);have h9:((t.toNat:Int)==48)=false:=a 48 (by simp);clear a h;go_enter func130,ntmps130;go_wp2_with fail;go_ret2;exact⟨rfl,rfl⟩
theorem zlZ(t:UInt8)(k:Int)(w:World)(h:zbe t=some k):Calls prog 130 #[.int .u8 (t.toNat:Int)] w fun e w'=>e = .returned (.tuple #[.int .i64 k,.bool true])∧w=w':=by
 have hc:t∈([1,2,8,9,16,17,28,36,48]:List UInt8):=by
  refine Decidable.byContradiction fun hc=>?_
  simp only[List.mem_cons,List.not_mem_nil,or_false,not_or]at hc;obtain⟨a1,a2,a3,a4,a5,a6,a7,a8,a9⟩:=hc;simp[zbe, *]at h
 simp only[List.mem_cons,List.not_mem_nil,or_false]at hc;rcases hc with rfl|rfl|rfl|rfl|rfl|rfl|rfl|rfl|rfl;all_goals
  simp[zbe]at h;subst h;simp only[UInt8.reduceToNat];go_enter func130,ntmps130;go_wp2_with fail;go_ret2;exact⟨rfl,rfl⟩
def Two(rb fb:Nat):Nat→Prop:=fun k=>k=rb∨k=fb
def zgs(w:World)(v:Value)(rs:zA):Prop:=w.ownsRow 0 214 2 v rs.length (zn rs)∧∀i,i<rs.length→loAt rs i<18446744073709551616∧hiAt rs i<18446744073709551616
theorem zgs.nil(w:World):zgs w (.slice none 0 0) []:=⟨World.ownsRow_nil w 0 _ 2,fun i hi=>absurd hi (Nat.not_lt_zero i)⟩
variable{S:Nat→Prop}{rs:zA}{w':World}
theorem zgs.mod(h:zgs w v rs)(m:Mod S w w')(hs:∀g,v.ownBlock=some g→¬S g):zgs w' v rs:=⟨m.owns h.1 hs,h.2⟩
theorem zgs.rr(h:zgs w v rs):RR w v rs:=by
 obtain⟨a,cap,rfl,h1,h2,h3⟩:=zi h.1;refine⟨a,cap,rfl,h1,h2,fun i hi=>?_⟩;obtain⟨g,rfl⟩:=h3 (by omega);have:=zaJ h.1 i hi;exact⟨g,0,rfl,by simpa using this.1,by simpa using this.2,h.2 i hi⟩
def zfA(w:World)(v:Value):Prop:=∀g o n c,v = .slice (some ⟨g,o,none⟩) n c→w.heap.size≤g
def f0(k:Int)(b:Bool):Frm:={ kind:=k,stream:=0,off:=0,rel:=0,lim:=0,fin:=b,id:=0,dl:=0,data:=[],rngs:=[] }
def RdF(w:World)(rb:Nat)(v:Value)(fb:Nat)(r:Option (Frm×Nat))(e:Ending)(w':World):Prop :=
 (∃f rv p,r=some (f,p)∧e = .returned (.tuple #[])∧zcF w' rb v p∧zh w' fb f rv∧zgs w' rv f.rngs∧zfA w rv∧Mod (Two rb fb) w w')∨(r=none∧e=zaf∧Mod (Two rb fb) w w')
variable{rb:Nat}
theorem zak{fb:Nat}(m:Mod (zdu rb) w w'):Mod (Two rb fb) w w':=m.mono (fun _ h=>.inl (.inl h))
theorem zfA.nil(w:World):zfA w (.slice none 0 0):=fun _ _ _ _ h=>by cases h
theorem read1(rb fb pos:Nat)(v:Value)(b:Bool)(w:World)(h:zcF w rb v pos)(hf:zh w fb (f0 1 b) (.slice none 0 0)):Calls prog 171 #[.pointer (some ⟨rb,0,none⟩),.pointer (some ⟨fb,0,none⟩)] w (RdF w rb v fb (some (f0 1 b,pos))):=by
 go_enter func171,ntmps171;go_wp2_with fail;exact bodyPost_end (results_none rfl _ _ _) rfl (.inl ⟨_,_,_,rfl,rfl,h,hf,zgs.nil w,zfA.nil w,Mod.refl _ _⟩)
variable{b i:Nat}{f:Frm}{rv:Value}
theorem zh.set{f':Frm}{rv':Value}(h:zh w b f rv)(he:(zj f rv).setIfInBounds i v=zj f' rv'):zh (w.setCell ⟨b,i,none⟩ v) b f' rv':=by
 unfold zh at h ⊢;rw[zc h,he]
theorem zaR(h:zas bs pos=some (n,p)):p≤bs.length:=(zT h).2.1
theorem zcM(h:zao bs pos=some (n,p)):p≤bs.length:=by
 unfold zao at h;cases hr:zas bs pos with
 | none=>rw[hr]at h;cases h
 | some q =>
  rw[hr]at h;simp only[Option.bind_some]at h;split at h
  ·cases h;exact zaR hr
  ·cases h
theorem zd1(h:zbv bs pos=some (l,p)):p≤bs.length:=by
 unfold zbv at h;cases hr:zas bs pos with
 | none=>rw[hr]at h;cases h
 | some q =>
  rw[hr]at h;have:=zaR hr;simp only[Option.bind_some]at h;split at h
  ·cases h;omega
  ·cases h
def rd3(b:Bool)(bs:List UInt8)(pos:Nat):Option (Frm×Nat) :=
 (zao bs pos).bind fun(x1,p1)=>(zas bs p1).bind fun(x2,p2)=>(zas bs p2).bind fun(x3,p3)=>some ({ f0 3 b with stream:=(x1:Int),off:=x2,rel:=x3 },p3)
theorem read3(rb fb pos:Nat)(v:Value)(bs:List UInt8)(b:Bool)(w:World)(h:zcF w rb v pos)(hb:BR w v bs)(J:za2 (Two rb fb) v)(hp:pos≤bs.length)(hf:zh w fb (f0 3 b) (.slice none 0 0))(q:fb≠rb):Calls prog 177 #[.pointer (some ⟨rb,0,none⟩),.pointer (some ⟨fb,0,none⟩)] w (RdF w rb v fb (rd3 b bs pos)):=by
 have r:za2 (zdu rb) v:=fun g o n c e a=>J g o n c e (.inl a)
 have W0:w=w:=rfl;have D:=zb (Mod.refl (zdu rb) w);have E:=zb hb;have Hf:=zb hf;have s:=zb r;have t:=zb q;clear hb J hf r q W0;have c1:=zdf rb pos v bs w h (E.out) s.out hp;cases hr1:zao bs pos with
 | none =>
  rw[hr1]at c1;have u:Hid (rd3 b bs pos=none):=by
   show _=_;unfold rd3;simp only[hr1,Option.bind_some,Option.bind_none]
  clear hr1;go_enter func177,ntmps177;go_wp2_with (go_at_call 178;refine c1.mono ?_;rintro e w' (⟨_,_,a,_⟩|⟨_,d,x⟩);cases a;unfold zaf at d;subst d);exact⟨rfl,.inr ⟨u.out,rfl,zak (x)⟩⟩
 | some q1 =>
  obtain⟨y,p1⟩:=q1;rw[hr1]at c1;have F:p1≤bs.length:=zcM hr1;have f:=zb hr1;clear hr1;go_enter func177,ntmps177;go_wp2_with fail;refine c1.mono ?_;rintro e w1 (⟨_,_,a,rfl,h1,m1⟩|⟨a,_⟩);rotate_left
  ·cases a
  simp only[Option.map_some,Option.some.injEq,Prod.mk.injEq]at a;obtain⟨rfl,rfl⟩:=a;have l:=zb (D.out.trans m1);clear c1 m1;have c2:=zV rb p1 v bs w1 h1 (E.out.mod l.out s.out) s.out F;cases hr2:zas bs p1 with
  | none =>
   rw[hr2]at c2;have u:Hid (rd3 b bs pos=none):=by
    show _=_;unfold rd3;simp only[f.out,hr2,Option.bind_some,Option.bind_none]
   clear hr2;go_wp2_with (go_at_call 127;refine c2.mono ?_;rintro e w' (⟨_,_,a,_⟩|⟨_,d,x⟩);cases a;unfold zaf at d;subst d);exact⟨rfl,.inr ⟨u.out,rfl,zak (l.out.trans x)⟩⟩
  | some q2 =>
   obtain⟨B,p2⟩:=q2;rw[hr2]at c2;have G:p2≤bs.length:=zaR hr2;have z:=zb hr2;clear hr2;go_wp2_with fail;refine c2.mono ?_;rintro e w2 (⟨_,_,a,rfl,h2,K⟩|⟨a,_⟩);rotate_left
   ·cases a
   simp only[Option.map_some,Option.some.injEq,Prod.mk.injEq]at a;obtain⟨rfl,rfl⟩:=a;have m:=zb (l.out.trans K);clear c2 K;have c3:=zV rb p2 v bs w2 h2 (E.out.mod m.out s.out) s.out G;cases hr3:zas bs p2 with
   | none =>
    rw[hr3]at c3;have u:Hid (rd3 b bs pos=none):=by
     show _=_;unfold rd3;simp only[f.out,z.out,hr3,Option.bind_some,Option.bind_none]
    clear hr3;go_wp2_with (go_at_call 127;refine c3.mono ?_;rintro e w' (⟨_,_,a,_⟩|⟨_,d,x⟩);cases a;unfold zaf at d;subst d);exact⟨rfl,.inr ⟨u.out,rfl,zak (m.out.trans x)⟩⟩
   | some q3 =>
    obtain⟨H,p3⟩:=q3;rw[hr3]at c3;have hp3:p3≤bs.length:=zaR hr3;have I:=zb hr3;clear hr3;go_wp2_with fail;refine c3.mono ?_;rintro e w3 (⟨_,_,a,rfl,h3,L⟩|⟨a,_⟩);rotate_left
    ·cases a
    simp only[Option.map_some,Option.some.injEq,Prod.mk.injEq]at a;obtain⟨rfl,rfl⟩:=a;have A:=zb (m.out.trans L);clear c3 L;have HH:=zb h3;have C:=Hf.out.mod A.out t.out;obtain⟨k0,k1,k2,k3,k4,k5,k6,k7,k8,k9⟩:=C.cells;have hfz:∀j,w3.frozen? ⟨fb,j,none⟩=false:=fun j=>zf C
    have HF:=zb C;clear C h3;go_wp2_with fail;refine bodyPost_end (results_none rfl _ _ _) rfl (.inl ⟨{ f0 3 b with stream:=(y:Int),off:=B,rel:=H },.slice none 0 0,p3,?_,rfl,?_,?_,zgs.nil _,zfA.nil w,(((((((zak A.out)).setCell (p:=⟨fb,1,none⟩) (.inl (.inr rfl)) _)).setCell (p:=⟨fb,2,none⟩) (.inl (.inr rfl)) _)).setCell (p:=⟨fb,3,none⟩) (.inl (.inr rfl)) _)⟩)
    ·unfold rd3;simp only[f.out,z.out,I.out,Option.bind_some]
    ·exact HH.out.mod ((((Mod.refl (fun k=>k=fb) _).setCell (p:=⟨fb,1,none⟩) (.inl rfl) _).setCell (p:=⟨fb,2,none⟩) (.inl rfl) _).setCell (p:=⟨fb,3,none⟩) (.inl rfl) _) (fun e=>t.out e.symm)
    ·exact(((HF.out).set (i:=1) (v:=.int .i64 (y:Int)) (f':={ f0 3 b with stream:=(y:Int) }) (rv':=.slice none 0 0) rfl).set (i:=2) (v:=.int .u64 (B:Int)) (f':={ f0 3 b with stream:=(y:Int),off:=B }) (rv':=.slice none 0 0) rfl).set (i:=3) (v:=.int .u64 (H:Int)) (f':={ f0 3 b with stream:=(y:Int),off:=B,rel:=H }) (rv':=.slice none 0 0) rfl
def rd4(b:Bool)(bs:List UInt8)(pos:Nat):Option (Frm×Nat) :=
 (zao bs pos).bind fun(x1,p1)=>(zas bs p1).bind fun(x2,p2)=>(zbv bs p2).bind fun(x3,p3)=>some ({ f0 4 b with stream:=(x1:Int),off:=x2,data:=x3 },p3)
theorem read4(rb fb pos:Nat)(v:Value)(bs:List UInt8)(b:Bool)(w:World)(h:zcF w rb v pos)(hb:BR w v bs)(J:za2 (Two rb fb) v)(hp:pos≤bs.length)(hf:zh w fb (f0 4 b) (.slice none 0 0))(q:fb≠rb):Calls prog 182 #[.pointer (some ⟨rb,0,none⟩),.pointer (some ⟨fb,0,none⟩)] w (RdF w rb v fb (rd4 b bs pos)):=by
 have r:za2 (zdu rb) v:=fun g o n c e a=>J g o n c e (.inl a)
 have W0:w=w:=rfl;have D:=zb (Mod.refl (zdu rb) w);have E:=zb hb;have Hf:=zb hf;have s:=zb r;have t:=zb q;clear hb J hf r q W0;have c1:=zdf rb pos v bs w h (E.out) s.out hp;cases hr1:zao bs pos with
 | none =>
  rw[hr1]at c1;have u:Hid (rd4 b bs pos=none):=by
   show _=_;unfold rd4;simp only[hr1,Option.bind_some,Option.bind_none]
  clear hr1;go_enter func182,ntmps182;go_wp2_with (go_at_call 178;refine c1.mono ?_;rintro e w' (⟨_,_,a,_⟩|⟨_,d,x⟩);cases a;unfold zaf at d;subst d);exact⟨rfl,.inr ⟨u.out,rfl,zak (x)⟩⟩
 | some q1 =>
  obtain⟨y,p1⟩:=q1;rw[hr1]at c1;have F:p1≤bs.length:=zcM hr1;have f:=zb hr1;clear hr1;go_enter func182,ntmps182;go_wp2_with fail;refine c1.mono ?_;rintro e w1 (⟨_,_,a,rfl,h1,m1⟩|⟨a,_⟩);rotate_left
  ·cases a
  simp only[Option.map_some,Option.some.injEq,Prod.mk.injEq]at a;obtain⟨rfl,rfl⟩:=a;have l:=zb (D.out.trans m1);clear c1 m1;have c2:=zV rb p1 v bs w1 h1 (E.out.mod l.out s.out) s.out F;cases hr2:zas bs p1 with
  | none =>
   rw[hr2]at c2;have u:Hid (rd4 b bs pos=none):=by
    show _=_;unfold rd4;simp only[f.out,hr2,Option.bind_some,Option.bind_none]
   clear hr2;go_wp2_with (go_at_call 127;refine c2.mono ?_;rintro e w' (⟨_,_,a,_⟩|⟨_,d,x⟩);cases a;unfold zaf at d;subst d);exact⟨rfl,.inr ⟨u.out,rfl,zak (l.out.trans x)⟩⟩
  | some q2 =>
   obtain⟨B,p2⟩:=q2;rw[hr2]at c2;have G:p2≤bs.length:=zaR hr2;have z:=zb hr2;clear hr2;go_wp2_with fail;refine c2.mono ?_;rintro e w2 (⟨_,_,a,rfl,h2,K⟩|⟨a,_⟩);rotate_left
   ·cases a
   simp only[Option.map_some,Option.some.injEq,Prod.mk.injEq]at a;obtain⟨rfl,rfl⟩:=a;have m:=zb (l.out.trans K);clear c2 K;have c3:=zha rb p2 v bs w2 h2 (E.out.mod m.out s.out) s.out G;cases hr3:zbv bs p2 with
   | none =>
    rw[hr3]at c3;have u:Hid (rd4 b bs pos=none):=by
     show _=_;unfold rd4;simp only[f.out,z.out,hr3,Option.bind_some,Option.bind_none]
    clear hr3;go_wp2_with (go_at_call 183;refine c3.mono ?_;rintro e w' (⟨_,_,a,_⟩|⟨_,d,x⟩);cases a;unfold zaf at d;subst d);exact⟨rfl,.inr ⟨u.out,rfl,zak (m.out.trans x)⟩⟩
   | some q3 =>
    obtain⟨H,p3⟩:=q3;rw[hr3]at c3;have hp3:p3≤bs.length:=zd1 hr3;have I:=zb hr3;clear hr3;go_wp2_with fail;refine c3.mono ?_;rintro e w3 (⟨_,_,a,rfl,h3,L⟩|⟨a,_⟩);rotate_left
    ·cases a
    simp only[Option.map_some,Option.some.injEq,Prod.mk.injEq]at a;obtain⟨rfl,rfl⟩:=a;have A:=zb (m.out.trans L);clear c3 L;have HH:=zb h3;have C:=Hf.out.mod A.out t.out;obtain⟨k0,k1,k2,k3,k4,k5,k6,k7,k8,k9⟩:=C.cells;have hfz:∀j,w3.frozen? ⟨fb,j,none⟩=false:=fun j=>zf C
    have HF:=zb C;clear C h3;go_wp2_with fail;refine bodyPost_end (results_none rfl _ _ _) rfl (.inl ⟨{ f0 4 b with stream:=(y:Int),off:=B,data:=H },.slice none 0 0,p3,?_,rfl,?_,?_,zgs.nil _,zfA.nil w,(((((((zak A.out)).setCell (p:=⟨fb,1,none⟩) (.inl (.inr rfl)) _)).setCell (p:=⟨fb,2,none⟩) (.inl (.inr rfl)) _)).setCell (p:=⟨fb,8,none⟩) (.inl (.inr rfl)) _)⟩)
    ·unfold rd4;simp only[f.out,z.out,I.out,Option.bind_some]
    ·exact HH.out.mod ((((Mod.refl (fun k=>k=fb) _).setCell (p:=⟨fb,1,none⟩) (.inl rfl) _).setCell (p:=⟨fb,2,none⟩) (.inl rfl) _).setCell (p:=⟨fb,8,none⟩) (.inl rfl) _) (fun e=>t.out e.symm)
    ·exact(((HF.out).set (i:=1) (v:=.int .i64 (y:Int)) (f':={ f0 4 b with stream:=(y:Int) }) (rv':=.slice none 0 0) rfl).set (i:=2) (v:=.int .u64 (B:Int)) (f':={ f0 4 b with stream:=(y:Int),off:=B }) (rv':=.slice none 0 0) rfl).set (i:=8) (v:=.string (zq H)) (f':={ f0 4 b with stream:=(y:Int),off:=B,data:=H }) (rv':=.slice none 0 0) rfl
def rd6(b:Bool)(bs:List UInt8)(pos:Nat):Option (Frm×Nat) :=
 (zao bs pos).bind fun(x1,p1)=>(zas bs p1).bind fun(x2,p2)=>some ({ f0 6 b with stream:=(x1:Int),lim:=x2 },p2)
theorem read6(rb fb pos:Nat)(v:Value)(bs:List UInt8)(b:Bool)(w:World)(h:zcF w rb v pos)(hb:BR w v bs)(E:za2 (Two rb fb) v)(hp:pos≤bs.length)(hf:zh w fb (f0 6 b) (.slice none 0 0))(f:fb≠rb):Calls prog 188 #[.pointer (some ⟨rb,0,none⟩),.pointer (some ⟨fb,0,none⟩)] w (RdF w rb v fb (rd6 b bs pos)):=by
 have l:za2 (zdu rb) v:=fun g o n c e a=>E g o n c e (.inl a)
 have W0:w=w:=rfl;have x:=zb (Mod.refl (zdu rb) w);have F:=zb hb;have Hf:=zb hf;have y:=zb l;have m:=zb f;clear hb E hf l f W0;have c1:=zdf rb pos v bs w h (F.out) y.out hp;cases hr1:zao bs pos with
 | none =>
  rw[hr1]at c1;have z:Hid (rd6 b bs pos=none):=by
   show _=_;unfold rd6;simp only[hr1,Option.bind_some,Option.bind_none]
  clear hr1;go_enter func188,ntmps188;go_wp2_with (go_at_call 178;refine c1.mono ?_;rintro e w' (⟨_,_,a,_⟩|⟨_,q,A⟩);cases a;unfold zaf at q;subst q);exact⟨rfl,.inr ⟨z.out,rfl,zak (A)⟩⟩
 | some q1 =>
  obtain⟨t,p1⟩:=q1;rw[hr1]at c1;have B:p1≤bs.length:=zcM hr1;have r:=zb hr1;clear hr1;go_enter func188,ntmps188;go_wp2_with fail;refine c1.mono ?_;rintro e w1 (⟨_,_,a,rfl,h1,m1⟩|⟨a,_⟩);rotate_left
  ·cases a
  simp only[Option.map_some,Option.some.injEq,Prod.mk.injEq]at a;obtain⟨rfl,rfl⟩:=a;have d:=zb (x.out.trans m1);clear c1 m1;have c2:=zV rb p1 v bs w1 h1 (F.out.mod d.out y.out) y.out B;cases hr2:zas bs p1 with
  | none =>
   rw[hr2]at c2;have z:Hid (rd6 b bs pos=none):=by
    show _=_;unfold rd6;simp only[r.out,hr2,Option.bind_some,Option.bind_none]
   clear hr2;go_wp2_with (go_at_call 127;refine c2.mono ?_;rintro e w' (⟨_,_,a,_⟩|⟨_,q,A⟩);cases a;unfold zaf at q;subst q);exact⟨rfl,.inr ⟨z.out,rfl,zak (d.out.trans A)⟩⟩
  | some q2 =>
   obtain⟨C,p2⟩:=q2;rw[hr2]at c2;have hp2:p2≤bs.length:=zaR hr2;have D:=zb hr2;clear hr2;go_wp2_with fail;refine c2.mono ?_;rintro e w2 (⟨_,_,a,rfl,h2,G⟩|⟨a,_⟩);rotate_left
   ·cases a
   simp only[Option.map_some,Option.some.injEq,Prod.mk.injEq]at a;obtain⟨rfl,rfl⟩:=a;have s:=zb (d.out.trans G);clear c2 G;have HH:=zb h2;have u:=Hf.out.mod s.out m.out;obtain⟨k0,k1,k2,k3,k4,k5,k6,k7,k8,k9⟩:=u.cells;have hfz:∀j,w2.frozen? ⟨fb,j,none⟩=false:=fun j=>zf u
   have HF:=zb u;clear u h2;go_wp2_with fail;refine bodyPost_end (results_none rfl _ _ _) rfl (.inl ⟨{ f0 6 b with stream:=(t:Int),lim:=C },.slice none 0 0,p2,?_,rfl,?_,?_,zgs.nil _,zfA.nil w,(((((zak s.out)).setCell (p:=⟨fb,1,none⟩) (.inl (.inr rfl)) _)).setCell (p:=⟨fb,4,none⟩) (.inl (.inr rfl)) _)⟩)
   ·unfold rd6;simp only[r.out,D.out,Option.bind_some]
   ·exact HH.out.mod (((Mod.refl (fun k=>k=fb) _).setCell (p:=⟨fb,1,none⟩) (.inl rfl) _).setCell (p:=⟨fb,4,none⟩) (.inl rfl) _) (fun e=>m.out e.symm)
   ·exact((HF.out).set (i:=1) (v:=.int .i64 (t:Int)) (f':={ f0 6 b with stream:=(t:Int) }) (rv':=.slice none 0 0) rfl).set (i:=4) (v:=.int .u64 (C:Int)) (f':={ f0 6 b with stream:=(t:Int),lim:=C }) (rv':=.slice none 0 0) rfl
def rd7(b:Bool)(bs:List UInt8)(pos:Nat):Option (Frm×Nat) :=
 (zas bs pos).bind fun(x1,p1)=>(zas bs p1).bind fun(x2,p2)=>(zbv bs p2).bind fun(x3,p3)=>some ({ f0 7 b with id:=x1,dl:=x2,data:=x3 },p3)
theorem read7(rb fb pos:Nat)(v:Value)(bs:List UInt8)(b:Bool)(w:World)(h:zcF w rb v pos)(hb:BR w v bs)(J:za2 (Two rb fb) v)(hp:pos≤bs.length)(hf:zh w fb (f0 7 b) (.slice none 0 0))(q:fb≠rb):Calls prog 190 #[.pointer (some ⟨rb,0,none⟩),.pointer (some ⟨fb,0,none⟩)] w (RdF w rb v fb (rd7 b bs pos)):=by
 have r:za2 (zdu rb) v:=fun g o n c e a=>J g o n c e (.inl a)
 have W0:w=w:=rfl;have D:=zb (Mod.refl (zdu rb) w);have E:=zb hb;have Hf:=zb hf;have s:=zb r;have t:=zb q;clear hb J hf r q W0;have c1:=zV rb pos v bs w h (E.out) s.out hp;cases hr1:zas bs pos with
 | none =>
  rw[hr1]at c1;have u:Hid (rd7 b bs pos=none):=by
   show _=_;unfold rd7;simp only[hr1,Option.bind_some,Option.bind_none]
  clear hr1;go_enter func190,ntmps190;go_wp2_with (go_at_call 127;refine c1.mono ?_;rintro e w' (⟨_,_,a,_⟩|⟨_,d,x⟩);cases a;unfold zaf at d;subst d);exact⟨rfl,.inr ⟨u.out,rfl,zak (x)⟩⟩
 | some q1 =>
  obtain⟨y,p1⟩:=q1;rw[hr1]at c1;have F:p1≤bs.length:=zaR hr1;have f:=zb hr1;clear hr1;go_enter func190,ntmps190;go_wp2_with fail;refine c1.mono ?_;rintro e w1 (⟨_,_,a,rfl,h1,m1⟩|⟨a,_⟩);rotate_left
  ·cases a
  simp only[Option.map_some,Option.some.injEq,Prod.mk.injEq]at a;obtain⟨rfl,rfl⟩:=a;have l:=zb (D.out.trans m1);clear c1 m1;have c2:=zV rb p1 v bs w1 h1 (E.out.mod l.out s.out) s.out F;cases hr2:zas bs p1 with
  | none =>
   rw[hr2]at c2;have u:Hid (rd7 b bs pos=none):=by
    show _=_;unfold rd7;simp only[f.out,hr2,Option.bind_some,Option.bind_none]
   clear hr2;go_wp2_with (go_at_call 127;refine c2.mono ?_;rintro e w' (⟨_,_,a,_⟩|⟨_,d,x⟩);cases a;unfold zaf at d;subst d);exact⟨rfl,.inr ⟨u.out,rfl,zak (l.out.trans x)⟩⟩
  | some q2 =>
   obtain⟨B,p2⟩:=q2;rw[hr2]at c2;have G:p2≤bs.length:=zaR hr2;have z:=zb hr2;clear hr2;go_wp2_with fail;refine c2.mono ?_;rintro e w2 (⟨_,_,a,rfl,h2,K⟩|⟨a,_⟩);rotate_left
   ·cases a
   simp only[Option.map_some,Option.some.injEq,Prod.mk.injEq]at a;obtain⟨rfl,rfl⟩:=a;have m:=zb (l.out.trans K);clear c2 K;have c3:=zha rb p2 v bs w2 h2 (E.out.mod m.out s.out) s.out G;cases hr3:zbv bs p2 with
   | none =>
    rw[hr3]at c3;have u:Hid (rd7 b bs pos=none):=by
     show _=_;unfold rd7;simp only[f.out,z.out,hr3,Option.bind_some,Option.bind_none]
    clear hr3;go_wp2_with (go_at_call 183;refine c3.mono ?_;rintro e w' (⟨_,_,a,_⟩|⟨_,d,x⟩);cases a;unfold zaf at d;subst d);exact⟨rfl,.inr ⟨u.out,rfl,zak (m.out.trans x)⟩⟩
   | some q3 =>
    obtain⟨H,p3⟩:=q3;rw[hr3]at c3;have hp3:p3≤bs.length:=zd1 hr3;have I:=zb hr3;clear hr3;go_wp2_with fail;refine c3.mono ?_;rintro e w3 (⟨_,_,a,rfl,h3,L⟩|⟨a,_⟩);rotate_left
    ·cases a
    simp only[Option.map_some,Option.some.injEq,Prod.mk.injEq]at a;obtain⟨rfl,rfl⟩:=a;have A:=zb (m.out.trans L);clear c3 L;have HH:=zb h3;have C:=Hf.out.mod A.out t.out;obtain⟨k0,k1,k2,k3,k4,k5,k6,k7,k8,k9⟩:=C.cells;have hfz:∀j,w3.frozen? ⟨fb,j,none⟩=false:=fun j=>zf C
    have HF:=zb C;clear C h3;go_wp2_with fail;refine bodyPost_end (results_none rfl _ _ _) rfl (.inl ⟨{ f0 7 b with id:=y,dl:=B,data:=H },.slice none 0 0,p3,?_,rfl,?_,?_,zgs.nil _,zfA.nil w,(((((((zak A.out)).setCell (p:=⟨fb,6,none⟩) (.inl (.inr rfl)) _)).setCell (p:=⟨fb,7,none⟩) (.inl (.inr rfl)) _)).setCell (p:=⟨fb,8,none⟩) (.inl (.inr rfl)) _)⟩)
    ·unfold rd7;simp only[f.out,z.out,I.out,Option.bind_some]
    ·exact HH.out.mod ((((Mod.refl (fun k=>k=fb) _).setCell (p:=⟨fb,6,none⟩) (.inl rfl) _).setCell (p:=⟨fb,7,none⟩) (.inl rfl) _).setCell (p:=⟨fb,8,none⟩) (.inl rfl) _) (fun e=>t.out e.symm)
    ·exact(((HF.out).set (i:=6) (v:=.int .u64 (y:Int)) (f':={ f0 7 b with id:=y }) (rv':=.slice none 0 0) rfl).set (i:=7) (v:=.int .u64 (B:Int)) (f':={ f0 7 b with id:=y,dl:=B }) (rv':=.slice none 0 0) rfl).set (i:=8) (v:=.string (zq H)) (f':={ f0 7 b with id:=y,dl:=B,data:=H }) (rv':=.slice none 0 0) rfl
def zbF(k:Int)(b:Bool)(bs:List UInt8)(pos:Nat):Option (Frm×Nat):=(zas bs pos).bind fun(x1,p1)=>some ({ f0 k b with lim:=x1 },p1)
theorem zjR(rb fb t pos:Nat)(k:Int)(v:Value)(bs:List UInt8)(b:Bool)(w:World)(h:zcF w rb v pos)(hb:BR w v bs)(u:za2 (Two rb fb) v)(hp:pos≤bs.length)(hf:zh w fb (f0 k b) (.slice none 0 0))(d:fb≠rb)
  (hab:w.cell? ⟨t,0,none⟩=some (.func (.func 186) #[] #[])) :
  Calls prog 214 #[.pointer (some ⟨rb,0,none⟩),.pointer (some ⟨fb,0,none⟩),.pointer (some ⟨t,0,none⟩)] w (RdF w rb v fb (zbF k b bs pos)):=by
 have f:za2 (zdu rb) v:=fun g o n c e a=>u g o n c e (.inl a)
 have c1:=zV rb pos v bs w h hb f hp;have Hf:=zb hf;have l:=zb d;clear hb u hf f d h;cases hr1:zas bs pos with
 | none =>
  rw[hr1]at c1;have HR:Hid (zbF k b bs pos=none):=by show _=_;unfold zbF;rw[hr1];rfl
  clear hr1;go_enter func214,ntmps214;go_wp2_with (first|(go_at_call 186;refine(zeK _ _).mono ?_;rintro e w' ⟨rfl,rfl⟩)|(go_at_call 127;refine c1.mono ?_;rintro e w' (⟨_,_,a,_⟩|⟨_,x,hm⟩);cases a;unfold zaf at x;subst x));exact⟨rfl,.inr ⟨HR.out,rfl,zak hm⟩⟩
 | some q1 =>
  obtain⟨q,p1⟩:=q1;rw[hr1]at c1;have r:=zb hr1;clear hr1;go_enter func214,ntmps214;go_wp2_with (go_at_call 186;refine(zeK _ _).mono ?_;rintro e w' ⟨rfl,rfl⟩);refine c1.mono ?_;rintro e w1 (⟨_,_,a,rfl,h1,m1⟩|⟨a,_⟩);rotate_left
  ·cases a
  simp only[Option.map_some,Option.some.injEq,Prod.mk.injEq]at a;obtain⟨rfl,rfl⟩:=a;have s:=zb m1;have HH:=zb h1;have m:=Hf.out.mod m1 l.out;obtain⟨k0,k1,k2,k3,k4,k5,k6,k7,k8,k9⟩:=m.cells;have hfz:∀j,w1.frozen? ⟨fb,j,none⟩=false:=fun j=>zf m
  have HF:=zb m;clear m h1 c1 m1;go_wp2_with fail;refine bodyPost_end (results_none rfl _ _ _) rfl (.inl ⟨{ f0 k b with lim:=q },.slice none 0 0,p1,?_,rfl,?_,?_,zgs.nil _,zfA.nil w,((zak s.out).setCell (p:=⟨fb,4,none⟩) (.inl (.inr rfl)) _)⟩)
  ·unfold zbF;simp only[r.out,Option.bind_some]
  ·exact HH.out.mod ((Mod.refl (fun k=>k=fb) _).setCell (p:=⟨fb,4,none⟩) (.inl rfl) _) (fun e=>l.out e.symm)
  ·exact(HF.out).set (i:=4) (v:=.int .u64 (q:Int)) (f':={ f0 k b with lim:=q }) (rv':=.slice none 0 0) rfl
def zc6(bs:List UInt8):Nat→Nat→Nat→Nat→Nat→zA→Option (zA×Nat)
 | 0,_,_,_,_,_=>none
 | fuel+1,hi,n,size,pos,acc =>
  if hi<size then none
  else if n=0 then some (acc++[(hi-size,hi)],pos)
  else(zas bs pos).bind fun a=>(zas bs a.2).bind fun b =>
   if hi-size<2∨hi-size-2<a.1 then none else zc6 bs fuel (hi-size-2-a.1) (n-1) b.1 b.2 (acc++[(hi-size,hi)])
def rd2(b:Bool)(bs:List UInt8)(pos:Nat):Option (Frm×Nat) :=
 (zas bs pos).bind fun a=>(zas bs a.2).bind fun c=>(zas bs c.2).bind fun d =>
  (zc6 bs (bs.length+1) a.1 c.1 d.1 d.2 []).bind fun r=>some ({ f0 2 b with rngs:=r.1 },r.2)
theorem zkL:(prog.info? 214).map (fun i=>(i.zero,i.size,i.bytes))=some (some (.agg #[.int .u64 0,.int .u64 0]),2,16):=by kernel_rfl
theorem zjS(w:World)(v:Value)(rs:zA)(lo hi:Nat)(h:w.ownsRow 0 214 2 v rs.length (zn rs))(hl:rs.length≤1099511627776):∃v' w',(∀ty,(Builtin.append_ #[63,63] ty #[v,.slice (some ⟨w.heap.size,0,none⟩) 1 1]).run prog (w.alloc (.cells #[.int .u64 (lo:Int),.int .u64 (hi:Int)] 214)) = .ok v' w') ∧
   w'.ownsRow 0 214 2 v' (rs++[(lo,hi)]).length (zn (rs++[(lo,hi)]))∧w.grownBy w' v.ownBlock∧zaH w v v':=by
 obtain⟨i,b,hz,c,d⟩:=info_parts zkL;have a:∀(j:Nat) u,(zn [(lo,hi)])[j]?=some u→(w.alloc (.cells #[.int .u64 (lo:Int),.int .u64 (hi:Int)] 214)).cell? ((⟨w.heap.size,0,none⟩:Addr).add j)=some u:=by
  intro j u hj;rw[zU];refine za (heap_alloc_new w _) ?_;rw[Nat.zero_add,←Array.getElem?_toList];exact hj
 obtain⟨v',w',h1,h2,h3,h4,h5⟩:=zau (P:=prog) (w.alloc (.cells #[.int .u64 (lo:Int),.int .u64 (hi:Int)] 214)) 63 214 i (.agg #[.int .u64 0,.int .u64 0]) 2 16 underlying63 b hz c d rfl (by decide) v rs.length (zn rs) (World.ownsRow.alloc h _)
  ⟨w.heap.size,0,none⟩ 1 1 (zn [(lo,hi)]) rfl a (by intro u e;simp[zn]at e;rcases e with rfl|rfl<;>rfl) (by unfold maxLen;omega) (by omega)
 refine⟨v',w',h1,?_,?_,?_⟩
 ·rw[List.length_append,zax];exact h2
 ·exact⟨h3.os,h3.tape,h3.output,Nat.le_trans (by simp) h3.size,fun k hk hn=>(h3.block k (by simp;omega) hn).trans (Below.heap_alloc w _ k hk)⟩
 ·intro k hk;rcases h4 k hk with x|x
  ·exact .inl x
  ·exact .inr (by simp at x;omega)
end Go.Proofs.YtddfdpbaiedcjaaGreatDoor
namespace Go.Proofs.YtddfdpbaiedcjaaGreatDoor
open Go.RowKit Go.Proofs.Tryz Go.Shelf
attribute [local go_sem] Oper.semAt_some
variable{P:Program}{Q:Exit→Act→World→Prop}{n:Nat}{ops:Array Oper}{w w1:World}
theorem zdx{F:Fence}{rest:List Oper}{o:Oper}{a:Act}(d:o.guard=none)(s x:Operand)(t u:TypeId)
  (e:o.op = .call { callee:=.builtin .append,args:=#[s,x],argTypes:=#[t,u] }) (g i v':Value) (hs:a.eval s=g) (hx:a.eval x=i)
  (happ:∀ty,(Builtin.append_ #[t,u] ty #[g,i]).run P w = .ok v' w1) (h:wpListIn F n P ops Q rest (a.put o.dst v') w1):wpListIn F n P ops Q (o::rest) a w:=by
 refine wpListIn_plain d fun K hK=>?_
 have b:=happ o.type;unfold Oper.wpIn;refine⟨by simp[Oper.about,e,resolve,Target.leads,Sem.run_pure],?_⟩;rw[Oper.semAt_plain F _ _ (by rw[e];intro c f;cases f)];simp[execOp,e,resolve,invoke,builtin,hs,hx,b,Result.andThen];exact hK _ _ h
variable{S:Nat→Prop}{w':World}
theorem Mod.putObj(h:Mod S w w'){l:Nat}(hl:S l∨w.heap.size≤l)(o:Obj):Mod S w (w'.putObj l o) :=
 ⟨h.os,h.tape,h.output,by simpa using h.size,fun i hi a=>(World.putObj_heap_other (fun e=>by
  subst e;rcases hl with x|x
  ·exact a x
  ·omega)).trans (h.block i hi a)⟩
theorem zeM{F:Fence}{g:Operand}{c:Array Tmp}{assign body:Code}{a:Act}(d:F.round=none)(h1:1≤n){gf:Nat}{lb:Array Value}(hg:a.eval g = .func (.func gf) #[] lb)
  (e:F.fn gf) (eg:∀args w,(callFunc gf args).run P w = .ok (.enter gf args) w)
  (h:∀fn,F.fn fn→CallsIn F (n-1) P gf (#[.func (.yield (w.heap.size+1)) #[] #[]]++lb) ((w.alloc (.deferred (some []))).alloc (.loop { state:=.ready,pending:=none,fn:=fn,tmps:=a.tmps,params:=c,assign:=assign,body:=body,defers:=w.heap.size }))
   (rangePost F n P (w.heap.size+1) Q { a with defers:=[{ target:=.collected w.heap.size,args:=#[] }]++a.defers })) :
  (Code.rangeFunc g c assign body).wpIn F n P Q a w:=by
 refine wpIn_rangeFunc fun fn f=>⟨_,_,_,{ target:=.fn (.func gf) lb,args:=#[.func (.yield (w.heap.size+1)) #[] #[]] },(w.alloc (.deferred (some []))).alloc (.loop { state:=.ready,pending:=none,fn:=fn,tmps:=a.tmps,params:=c,assign:=assign,body:=body,defers:=w.heap.size }),gf,_,_,by rw[d];exact run_enterLoop_outer _ _ _ _ _,?_,?_,?_,fun _=>h1,h fn f⟩
 ·simp only[resolve,hg];simp[go_sem]
 ·intro f' b;simp[Target.leads]at b;subst b;exact e
 ·simp[invoke,go_sem,eg]
variable{base e sz:Nat}{v:Value}{xs:List Value}
theorem zqE(h:w.ownsRow base e sz v n xs):∀g,v.ownBlock=some g→g<w.heap.size:=by
 intro g hg;rcases h.2 with⟨rfl,rfl⟩|⟨g',cap,cur,rfl,_,h0,h1,h2,_⟩
 ·cases hg
 ·simp[Value.ownBlock]at hg;subst hg;exact(Array.getElem?_eq_some_iff.1 h0).1
theorem zfR(rs:zA)(k:Nat)(hk:k≤rs.length):(za3 rs k).map (·.2)=rs.reverse.take k:=by
 apply List.ext_getElem
 ·simp[za3,hk]
 ·intro i h1 h2;have hi:i<rs.length:=by simp[za3]at h1;omega
  simp[za3,loAt,hiAt,List.getD_eq_getElem?_getD,List.getElem_reverse,show rs.length-1-i<rs.length by omega]
variable{X:World}{rs:zA}
theorem zl0{l:zA}(h:X.ownsRow 0 214 2 v l.length (zn l))(a:∀i,i<rs.length→loAt rs i<18446744073709551616∧hiAt rs i<18446744073709551616)(b:∀x∈l,x∈rs):RR X v l:=by
 refine zgs.rr ⟨h,fun i hi=>?_⟩;have hx:(loAt l i,hiAt l i)∈l:=by
  have:l[i]?=some (loAt l i,hiAt l i):=by simp[loAt,hiAt,List.getD_eq_getElem?_getD,List.getElem?_eq_getElem hi]
  exact List.mem_of_getElem? this
 obtain⟨j,c⟩:=List.getElem?_of_mem (b _ hx);have d:j<rs.length:=(List.getElem?_eq_some_iff.1 c).1;have:=a j d;have e1:loAt rs j=loAt l i:=by unfold loAt at *;simp[List.getD_eq_getElem?_getD,c]
 have e2:hiAt rs j=hiAt l i:=by unfold hiAt at *;simp[List.getD_eq_getElem?_getD,c]
 omega
end Go.Proofs.YtddfdpbaiedcjaaGreatDoor
namespace Go.Proofs.YtddfdpbaiedcjaaGreatDoor
open Go.RowKit Go.Proofs.Tryz Go.Shelf
attribute [local go_sem] Oper.semAt_some
structure zl1(w:World)(rec:Loop)(pre:zA)(v:Value)(X:World):Prop where
 mod:Mod NoB w X
 bx:Boxed X w.heap.size 63 v
 own:X.ownsRow 0 214 2 v pre.length (zn pre)
 new:∀g,v.ownBlock=some g→w.heap.size≤g
 df:X.heap[w.heap.size+1]?=some (.deferred (some []))
 rc:X.heap[w.heap.size+2]?=some (.loop rec)
variable{w:World}
theorem zl1.own_from{d:Loop}:OwnFrom (w.heap.size+3) (fun pre X=>∃v,zl1 w d pre v X):=by
 rintro pre A B row ⟨v,h⟩ hg f;refine⟨v,?_⟩;have b:∀k,k<w.heap.size+3→some k≠row:=fun k hk e=>by have:=(f k e.symm).1;omega
 have l:Mod (fun k=>row=some k) A B:=(Mod.refl _ _).grown hg (fun k hk=>.inl hk);refine⟨h.mod.then l (fun i hi=>.inr (by have:=(f i hi).1;omega)),h.bx.kept hg (b _ (by omega)),l.owns h.own (fun g a hx=>?_),h.new,?_,?_⟩
 ·obtain⟨_,o,ho,j⟩:=f g hx;rcases h.own.2 with⟨e,_⟩|⟨g',cap,cur,e,_,c,_⟩
  ·rw[e]at a;cases a
  ·rw[e]at a;simp[Value.ownBlock]at a;subst a;rw[ho]at c;cases c;cases j
 ·exact(hg.block _ (Array.getElem?_eq_some_iff.1 h.df).1 (b _ (by omega))).trans h.df
 ·exact(hg.block _ (Array.getElem?_eq_some_iff.1 h.rc).1 (b _ (by omega))).trans h.rc
def zgt(rs:zA)(w:World)(e:Ending)(W':World):Prop :=
 ∃v,e = .returned v∧W'.ownsRow 0 214 2 v rs.length (zn rs.reverse)∧(∀g,v.ownBlock=some g→w.heap.size≤g)∧Mod NoB w W'
theorem zl2(F:Fence)(n:Nat)(O:∀f,F.fn f)(W:F.round=none)(hn:7≤n)(rs:zA)(fl most b sB:Nat)(v:Value)(w:World)(h:zbA w b 0 v rs fl most)(am:∀i,i<rs.length→loAt rs i<18446744073709551616∧hiAt rs i<18446744073709551616)(an:w.cell? ⟨sB,0,none⟩=some (.pointer (some ⟨b,0,none⟩))):CallsIn F n prog 195 #[.slice none 0 0,.func (.func 193) #[] #[.pointer (some ⟨sB,0,none⟩)]] w (zgt rs w):=by
 obtain⟨a,cap,rfl,o1,o2,o3⟩:=zi h.own;have hbw:=zk h.cl;have hsw:=zk an;have ao:∀g o,a=some ⟨g,o,none⟩→g<w.heap.size:=fun g o e=>zqE h.own g (by rw[e];rfl)
 have aG:RR w (.slice a rs.length cap) rs:=zgs.rr ⟨h.own,am⟩;have aH:=h.cl;have aV:=h.len;clear h;have h1:1≤n:=by omega
 refine callsIn_of_wp_marks func195 rfl (O _) ?_ W;simp only[ntmps195,List.size_toArray,List.length_cons,List.length_nil,Nat.reduceAdd,Nat.reduceSub,Array.replicate_succ,Array.replicate_zero,List.push_toArray,List.append_toArray,List.nil_append,List.cons_append];gi_wp2;refine zeM W h1 (gf:=193) (lb:=#[.pointer (some ⟨sB,0,none⟩)]) rfl (O _) (enters_of func193 (by kernel_rfl) rfl) ?_;intro fn hf;generalize hrec:Loop.mk .ready none fn _ _ _ _ _=rec;have Y:(w.alloc (.cells #[.slice none 0 0] 63)).heap.size=w.heap.size+1:=by simp
 rw[Y]at hrec ⊢;have e12:w.heap.size+1+1=w.heap.size+2:=rfl;obtain⟨W1,r⟩:=nm (((w.alloc (.cells #[.slice none 0 0] 63)).alloc (.deferred (some []))).alloc (.loop rec));have m1:Mod NoB w W1:=by rw[←r];exact(((Mod.refl _ _).alloc _).alloc _).alloc _
 have aI:W1.heap.size=w.heap.size+3:=by rw[←r];simp
 have bs:=m1.cell (a:=⟨sB,0,none⟩) id an;have bx:Boxed W1 w.heap.size 63 (.slice none 0 0):=by
  rw[←r];exact((Boxed.new w _ _).alloc _).alloc _
 have aJ:W1.heap[w.heap.size+1]?=some (.deferred (some [])):=by
  rw[←r];have:=World.alloc_heap_new (w.alloc (.cells #[.slice none 0 0] 63)) (.deferred (some []));rw[Y]at this;exact(Below.heap_alloc _ _ _ (by simp)).trans this
 have aK:W1.heap[w.heap.size+2]?=some (.loop rec):=by
  rw[←r];have:=World.alloc_heap_new ((w.alloc (.cells #[.slice none 0 0] 63)).alloc (.deferred (some []))) (.loop rec);rw[World.size_alloc,Y]at this;exact this
 rw[r];have aL:zl1 w rec [] (.slice none 0 0) W1:=⟨m1,bx,World.ownsRow_nil _ 0 _ 2,(fun g hg=>by cases hg),aJ,aK⟩;clear r;have Z:=congrArg Loop.assign hrec.symm;dsimp only at Z;have aa:=congrArg Loop.body hrec.symm;dsimp only at aa;have ab:=congrArg Loop.tmps hrec.symm;dsimp only at ab;have ap:rec.params=#[7]:=by rw[←hrec]
 have aq:rec.state = .ready:=by rw[←hrec]
 have ar:rec.pending=none:=by rw[←hrec]
 have au:=zb ar;have aM:=zb Z;have aN:=zb aa;have aO:=zb ab;have av:=zb ap;have ac:=zb aq;clear hrec Z aa ab ap aq ar;refine(zoo F (n-1) O W (by omega) (w.heap.size+2) sB b w.heap.size cap a rs
  (fun pre X=>∃v,zl1 w rec pre v X)
  (fun _ _=>False) W1 ?hY ?hJ ?hJx bs (m1.cell (a:=⟨b,0,none⟩) id aH) (aG.mod m1 (za2.no _)) (by omega) (by omega) (fun g o e=>by have:=ao g o e;omega) ⟨_,aL⟩).mono ?post
 case hJ=>rw[aI];exact zl1.own_from
 case hJx=>intro _ _ _ _ x;exact x.elim
 case hY =>
  rintro m pre x X ⟨v,z⟩ hlt;have hpl:pre.length≤1099511627776:=by omega
  have M:=zb z;have aP:=(Array.getElem?_eq_some_iff.1 z.rc).1;refine⟨_,_,_,_,run_yield z.rc (by rw[av.out];rfl),roundIn_of_wpIn (O _) ?_⟩;rw[aM.out,aN.out,aO.out,av.out];unfold zrI;clear z;gi_wp2;have aw:(X.alloc (.cells #[.int .u64 (x.1:Int),.int .u64 (x.2:Int)] 214)).heap[w.heap.size+2]?=some (.loop rec):=(Below.heap_alloc _ _ _ aP).trans M.out.rc;refine⟨_,run_beginRound aw ac.out,?_⟩;obtain⟨j,d⟩:∃j,(X.alloc (.cells #[.int .u64 (x.1:Int),.int .u64 (x.2:Int)] 214)).putObj (w.heap.size+2) (.loop { rec with state:=.busy })=j:=⟨_,rfl⟩;have m2:Mod (fun k=>k=w.heap.size∨k=w.heap.size+2∨v.ownBlock=some k) X j:=by
   rw[←d];exact((Mod.refl (fun k=>k=w.heap.size∨k=w.heap.size+2∨v.ownBlock=some k) _).alloc _).putObj (.inl (.inr (.inl rfl))) _
  have B:j.heap[w.heap.size+2]?=some (.loop { rec with state:=.busy }):=by
   rw[←d];exact World.putObj_heap_same (by simp;omega)
  have ad:j.heap[X.heap.size]?=some (.cells #[.int .u64 (x.1:Int),.int .u64 (x.2:Int)] 214 (0,0)):=by
   rw[←d];exact(World.putObj_heap_other (by omega)).trans (heap_alloc_new X _)
  have ae:∀k,k<X.heap.size→k≠w.heap.size+2→j.heap[k]?=X.heap[k]?:=fun k hk hn=>by
   rw[←d];exact(World.putObj_heap_other hn).trans (Below.heap_alloc _ _ _ hk)
  have ax:Mod (fun k=>k=w.heap.size+2) X j:=by
   rw[←d];exact((Mod.refl (fun k=>k=w.heap.size+2) X).alloc _).putObj (.inl rfl) _
  rw[d];have Q:Boxed j w.heap.size 63 v:=(ae _ (by omega) (by omega)).trans M.out.bx;have R:j.heap[w.heap.size+1]?=some (.deferred (some [])):=(ae _ (by omega) (by omega)).trans M.out.df;have A:j.ownsRow 0 214 2 v pre.length (zn pre):=ax.owns M.out.own (fun g hg e=>by
   have e:g=w.heap.size+2:=e;subst e;rcases M.out.own.2 with⟨e,_⟩|⟨g',cp,C,e,_,c,_⟩
   ·rw[e]at hg;cases hg
   ·rw[e]at hg;simp[Value.ownBlock]at hg;rw[hg,M.out.rc]at c;cases c)
  have af:=M.out.new;have D:∀k,v.ownBlock=some k→zeg w.heap.size (w.heap.size+2) a X k:=fun k hk=>by
   refine .inr (.inr ⟨fun g o e=>by have:=ao g o e;have:=af k hk;omega,?_⟩);rcases M.out.own.2 with⟨e,_⟩|⟨g',cp,C,e,_,c,_⟩
   ·rw[e]at hk;cases hk
   ·rw[e]at hk;simp[Value.ownBlock]at hk;subst hk;exact⟨_,_,c⟩
  have hs2:X.heap.size≤j.heap.size:=m2.size;obtain⟨va,vc,rfl,_⟩:=zi A;obtain⟨N,E,ah,G,H,ay⟩:=zjS j (.slice va pre.length vc) pre x.1 x.2 A (by omega);have S:∀k,k=w.heap.size∨k=w.heap.size+1∨k=w.heap.size+2→some k≠(Value.slice va pre.length vc).ownBlock:=fun k hk e=>by
   rcases A.2 with⟨s,_⟩|⟨g',cp,C,s,_,c,_⟩
   ·rw[s]at e;cases e
   ·rw[s]at e;simp[Value.ownBlock]at e;subst e;rcases hk with rfl|rfl|rfl
    ·rw[show j.heap[w.heap.size]?=_ from Q]at c;simp at c
    ·rw[R]at c;cases c
    ·rw[B]at c;cases c
  have I:=Q.kept H (S _ (.inl rfl));have ai:E.heap[w.heap.size+1]?=some (.deferred (some [])):=(H.block _ (Array.getElem?_eq_some_iff.1 R).1 (S _ (.inr (.inl rfl)))).trans R;have aj:E.heap[w.heap.size+2]?=some (.loop { rec with state:=.busy }):=(H.block _ (Array.getElem?_eq_some_iff.1 B).1 (S _ (.inr (.inr rfl)))).trans B;have m3:=m2.grown H (fun k hk=>.inl (.inr (.inr hk)));have m4:=m3.setCell (p:=⟨w.heap.size,0,none⟩) (.inl (.inl rfl)) N;have J:Boxed (E.setCell ⟨w.heap.size,0,none⟩ N) w.heap.size 63 N:=I.set N;have K:Mod (fun k=>k=w.heap.size) E (E.setCell ⟨w.heap.size,0,none⟩ N):=(Mod.refl (fun k=>k=w.heap.size) E).setCell (p:=⟨w.heap.size,0,none⟩) (.inl rfl) _;have T:(E.setCell ⟨w.heap.size,0,none⟩ N).heap[w.heap.size+2]?=some (.loop { rec with state:=.busy }):=(K.block _ (Array.getElem?_eq_some_iff.1 aj).1 (by omega)).trans aj;have U:(E.setCell ⟨w.heap.size,0,none⟩ N).heap[w.heap.size+1]?=some (.deferred (some [])):=(K.block _ (Array.getElem?_eq_some_iff.1 ai).1 (by omega)).trans ai;have l:(E.setCell ⟨w.heap.size,0,none⟩ N).ownsRow 0 214 2 N (pre++[x]).length (zn (pre++[x])):=K.owns G (fun g hg e=>by
   have e:g=w.heap.size:=e;subst e;rcases G.2 with⟨s,_⟩|⟨g',cp,C,s,_,c,_⟩
   ·rw[s]at hg;cases hg
   ·rw[s]at hg;simp[Value.ownBlock]at hg;rw[hg,show E.heap[w.heap.size]?=_ from I]at c;simp at c)
  have u:∀g,N.ownBlock=some g→w.heap.size≤g:=fun g hg=>by
   rcases ay g hg with q|q
   ·exact af g q
   ·omega
  obtain⟨vb,vd,rfl,_⟩:=zi l;have y:(pre++[x]).length=pre.length+1:=by simp
  rw[y]at ah;have bxc:=I.cell;have bxf:=I.frozen;have V:=J.cell;have aW:=Q.cell;have r20:j.cell? ⟨X.heap.size,0,none⟩=some (.int .u64 (x.1:Int)):=za ad rfl;have r21:j.cell? ⟨X.heap.size,1,none⟩=some (.int .u64 (x.2:Int)):=za ad rfl;rw[y]at m4 J K T U l u V;obtain⟨X4,aQ⟩:=nm (E.setCell ⟨w.heap.size,0,none⟩ (.slice vb (pre.length+1) vd));rw[aQ]at m4 J T U l V;have aR:Hid (Mod (zeg w.heap.size (w.heap.size+2) a X) X X4):=m4.mono (fun k hk=>.inl (by
   rcases hk with hk|hk|hk
   ·exact .inl hk
   ·exact .inr (.inl hk)
   ·exact D k hk))
  have ak:Hid (Mod NoB w X4):=M.out.mod.then m4 (fun k hk=>.inr (by
   rcases hk with hk|hk|hk
   ·omega
   ·omega
   ·exact af k hk))
  have hwX:=M.out.mod.size;have az:=zb J;have al:=zb T;have aS:=zb U;have aA:=zb l;have aB:=zb u;clear m4 J K T U l u G H ay S D ae ax m2 m3 B R aj ai Q I A d ad aw
  gi_wp2_with (gi_at_builtin;refine zdx rfl _ _ _ _ rfl _ _ _ rfl rfl ah ?_;clear ah)
  refine⟨_,_,run_endRound none al.out,aR.out.putObj (.inl (.inr (.inl rfl))) _,rfl,.slice vb (pre.length+1) vd,?_⟩;have aC:=(Array.getElem?_eq_some_iff.1 al.out).1;have mp:∀o,Mod (fun k=>k=w.heap.size+2) X4 (X4.putObj (w.heap.size+2) o):=fun o=>(Mod.refl (fun k=>k=w.heap.size+2) X4).putObj (.inl rfl) o
  have aT:∀g,(Value.slice vb (pre.length+1) vd).ownBlock=some g→¬g=w.heap.size+2:=fun g hg e=>by
   subst e;rcases aA.out.2 with⟨e,_⟩|⟨g',cp,C,e,_,c,_⟩
   ·rw[e]at hg;cases hg
   ·rw[e]at hg;simp[Value.ownBlock]at hg;rw[hg,al.out]at c;cases c
  refine⟨ak.out.putObj (.inr (by omega)) _,(World.putObj_heap_other (by omega)).trans az.out,by rw[y];exact(mp _).owns aA.out aT,aB.out,(World.putObj_heap_other (by omega)).trans aS.out,?_⟩;rw[World.putObj_heap_same aC];have aD:=au.out;have aE:=ac.out;cases rec;simp only at aD aE;subst aD;subst aE;rfl
 case post =>
  rintro e X ⟨⟨v0,rfl⟩,⟨v,z⟩|⟨k,hk,hx⟩⟩
  ·have L:=run_endLoop (P:=prog) z.rc (by rw[ac.out];simp);rw[au.out]at L;refine⟨none,_,L,?_⟩;clear L;obtain⟨j,d⟩:∃j,X.putObj (w.heap.size+2) (.loop { rec with state:=.exhausted,pending:=none })=j:=⟨_,rfl⟩;have hm:Mod (fun k=>k=w.heap.size+2) X j:=by rw[←d];exact(Mod.refl (fun k=>k=w.heap.size+2) _).putObj (.inl rfl) _
   have hb:=hm.cell (a:=⟨w.heap.size,0,none⟩) (by simp) z.bx.cell;have hd:j.heap[w.heap.size+1]?=some (.deferred (some [])):=hm.obj (by simp) z.df;have ho:=hm.owns z.own (fun g hg e=>by
    have e:g=w.heap.size+2:=e;subst e;rcases z.own.2 with⟨s,_⟩|⟨g',cp,C,s,_,c,_⟩
    ·rw[s]at hg;cases hg
    ·rw[s]at hg;simp[Value.ownBlock]at hg;rw[hg,z.rc]at c;cases c)
   have HX2:=zb d;have ak:Hid (Mod NoB w j):=zb (z.mod.then hm (fun i hi=>.inr (by omega)));have HO:=zb ho;have HN:=zb z.new;rw[d];clear hm z ho d;gi_wp2;refine⟨by simp,.inl ⟨_,_,rfl,run_takeDeferred hd,?_⟩⟩;have aU:(za3 rs rs.length).map (·.2)=rs.reverse:=by rw[zfR rs rs.length (Nat.le_refl _),List.take_of_length_le (by simp)]
   have B:rs.reverse.length=rs.length:=by simp
   rw[aU]at HO;refine⟨_,results_tmp (t:=4) rfl _ _ _,v,rfl,?_,HN.out,ak.out.putObj (.inr (by omega)) _⟩;have aF:=((Mod.refl (fun k=>k=w.heap.size+1) j).putObj (.inl rfl) (.deferred none)).owns HO.out (fun g hg e=>by
    have e:g=w.heap.size+1:=e;subst e;rcases HO.out.2 with⟨s,_⟩|⟨g',cp,C,s,_,c,_⟩
    ·rw[s]at hg;cases hg
    ·rw[s]at hg;simp[Value.ownBlock]at hg;rw[hg,hd]at c;cases c)
   rw[B]at aF;exact aF
  ·exact hx.elim
theorem zkM(F:Fence)(n:Nat)(a:∀f,F.fn f)(c:F.round=none)(hn:8≤n)(rs:zA)(fl most b g:Nat)(v:Value)(w:World)(h:zbA w b 0 v rs fl most)(d:∀i,i<rs.length→loAt rs i<18446744073709551616∧hiAt rs i<18446744073709551616)(j:w.cell? ⟨g,0,none⟩=some (.pointer (some ⟨b,0,none⟩))):CallsIn F n prog 143 #[.func (.func 193) #[] #[.pointer (some ⟨g,0,none⟩)]] w (zgt rs w):=by
 have k:=zl2 F (n-1) a c (by omega) rs fl most b g v w h d j;have K:=zb k;have h1:1≤n:=by omega
 clear h k;refine callsIn_of_wp func143 rfl (a _) ?_ c;simp only[ntmps143,List.size_toArray,List.length_cons,List.length_nil,Nat.reduceAdd,Nat.reduceSub,Array.replicate_succ,Array.replicate_zero,List.push_toArray,List.append_toArray,List.nil_append,List.cons_append]
 gi_wp2_with (gi_at_call 195;refine K.out.mono ?_;rintro e w' ⟨v',rfl,ho,l,hm⟩)
 go_ret;exact⟨v',rfl,ho,l,hm⟩
theorem ziB(rs:zA)(fl most b c:Nat)(v:Value)(w:World)(h:zbA w b 0 v rs fl most)(a:∀i,i<rs.length→loAt rs i<18446744073709551616∧hiAt rs i<18446744073709551616)(d:w.cell? ⟨c,0,none⟩=some (.pointer (some ⟨b,0,none⟩))):Calls prog 143 #[.func (.func 193) #[] #[.pointer (some ⟨c,0,none⟩)]] w (zgt rs w) :=
 (callsIn_wide (n:=8)).1 (zkM Fence.wide 8 (fun _=>trivial) rfl (Nat.le_refl _) rs fl most b c v w h a d)
theorem zl3(b:Nat)(w:World):Calls prog 141 #[.pointer (some ⟨b,0,none⟩)] w fun e w'=>e = .returned (.func (.func 193) #[] #[.pointer (some ⟨w.heap.size,0,none⟩)])∧w'=w.alloc (.cells #[.pointer (some ⟨b,0,none⟩)] 114) :=
 (callsIn_wide (n:=8)).1 (zqB Fence.wide 8 trivial rfl b w)
end Go.Proofs.YtddfdpbaiedcjaaGreatDoor
namespace Go.Proofs.YtddfdpbaiedcjaaGreatDoor
open Go.RowKit Go.Proofs.Tryz
def zhg(w:World)(rb:Nat):Nat:=match w.cell? ⟨rb,1,none⟩with
 | some (.int _ n)=>n.toNat
 | _=>0
variable{pos rb:Nat}{v:Value}{w:World}
theorem zeA(h:zcF w rb v pos):zhg w rb=pos:=by
 unfold zhg;rw[h.c1];simp
def zqM(w wr:World)(rb fb:Nat)(v:Value)(b:Bool)(bs:List UInt8)(hi n size:Nat)(R:Option (zA×Nat)):Prop :=
 ∃fuel pos acc rv,zcF wr rb v pos∧zh wr fb { f0 2 b with rngs:=acc } rv∧wr.ownsRow 0 214 2 rv acc.length (zn acc)∧(∀g,rv.ownBlock=some g→w.heap.size≤g) ∧
  (∀i,i<acc.length→loAt acc i<18446744073709551616∧hiAt acc i<18446744073709551616)∧pos≤bs.length∧bs.length-pos<fuel∧acc.length≤pos∧Mod (Two rb fb) w wr ∧
  hi<4611686018427387904∧n<4611686018427387904∧size<4611686018427387904∧zc6 bs fuel hi n size pos acc=R
variable{hi lo:Nat}
theorem ziJ{a:zA}(h:∀i,i<a.length→loAt a i<18446744073709551616∧hiAt a i<18446744073709551616)(h1:lo<18446744073709551616)(h2:hi<18446744073709551616):∀i,i<(a++[(lo,hi)]).length→loAt (a++[(lo,hi)]) i<18446744073709551616∧hiAt (a++[(lo,hi)]) i<18446744073709551616:=by
 intro i c;by_cases b:i<a.length
 ·have:=h i b;unfold loAt hiAt at this ⊢;rw[List.getD_eq_getElem?_getD,List.getElem?_append_left b,←List.getD_eq_getElem?_getD];exact this
 ·have:i=a.length:=by simp at c;omega
  subst this;simp[loAt,hiAt,h1,h2]
variable{e g m n o sz:Nat}{xs:List Value}
theorem zl5{c:Nat}(h:w.ownsRow 0 e sz v n xs)(a:v = .slice (some ⟨g,o,none⟩) m c):v.ownBlock=some g:=by
 rcases h.2 with⟨rfl,_⟩|⟨g',cap,cur,rfl,_⟩
 ·cases a
 ·cases a;rfl
variable{b:Nat}{f:Frm}{rv:Value}
theorem zdA(h:w.ownsRow 0 214 2 v n xs)(hf:zh w b f rv):¬v.ownBlock=some b:=by
 intro hb;rcases h.2 with⟨rfl,_⟩|⟨g,cap,cur,rfl,_,hg,_⟩
 ·cases hb
 ·simp[Value.ownBlock]at hb;subst hb;unfold zh at hf;rw[hg]at hf;simp at hf
variable{v':Value}
theorem zc7(h:w.ownsRow 0 214 2 v n xs)(hf:zcF w b v' pos):¬v.ownBlock=some b:=by
 intro hb;rcases h.2 with⟨rfl,_⟩|⟨g,cap,cur,rfl,_,hg,_⟩
 ·cases hb
 ·simp[Value.ownBlock]at hb;subst hb;unfold zcF at hf;rw[hg]at hf;simp at hf
theorem ziK(rb fb pos:Nat)(v:Value)(bs:List UInt8)(b:Bool)(w:World)(h:zcF w rb v pos)(hb:BR w v bs)(hv:za2 (Two rb fb) v)(hp:pos≤bs.length)(hbl:bs.length≤1099511627776)(hf:zh w fb (f0 2 b) (.slice none 0 0))(aj:fb≠rb):Calls prog 174 #[.pointer (some ⟨rb,0,none⟩),.pointer (some ⟨fb,0,none⟩)] w (RdF w rb v fb (rd2 b bs pos)):=by
 have ak:za2 (zdu rb) v:=fun g o n c e d=>hv g o n c e (.inl d)
 have aA:=zb (Mod.refl (zdu rb) w);have Hb:=zb hb;have Hf:=zb hf;have V:=zb ak;have al:=zb hv;have W:=zb aj;clear hb hv hf ak aj;have c1:=zV rb pos v bs w h (Hb.out) V.out hp;cases hr1:zas bs pos with
 | none =>
  rw[hr1]at c1;have t:Hid (rd2 b bs pos=none):=by
   show _=_;unfold rd2;simp only[hr1,Option.bind_some,Option.bind_none]
  clear hr1;go_enter func174,ntmps174;go_wp2_with (go_at_call 127;refine c1.mono ?_;rintro e w' (⟨_,_,d,_⟩|⟨_,l,A⟩);cases d;unfold zaf at l;subst l);exact⟨rfl,.inr ⟨t.out,rfl,zak (A)⟩⟩
 | some q1 =>
  obtain⟨x1,p1⟩:=q1;rw[hr1]at c1;have aB:p1≤bs.length:=zaR hr1;have am:x1<4611686018427387904:=(zT hr1).2.2;have X:=zb hr1;clear hr1;go_enter func174,ntmps174;go_wp2_with fail;refine c1.mono ?_;rintro e w1 (⟨_,_,d,rfl,h1,m1⟩|⟨d,_⟩);rotate_left
  ·cases d
  simp only[Option.map_some,Option.some.injEq,Prod.mk.injEq]at d;obtain⟨rfl,rfl⟩:=d;have Y:=zb (aA.out.trans m1);clear c1 m1;have c2:=zV rb p1 v bs w1 h1 (Hb.out.mod Y.out V.out) V.out aB;cases hr2:zas bs p1 with
  | none =>
   rw[hr2]at c2;have t:Hid (rd2 b bs pos=none):=by
    show _=_;unfold rd2;simp only[X.out,hr2,Option.bind_some,Option.bind_none]
   clear hr2;go_wp2_with (go_at_call 127;refine c2.mono ?_;rintro e w' (⟨_,_,d,_⟩|⟨_,l,A⟩);cases d;unfold zaf at l;subst l);exact⟨rfl,.inr ⟨t.out,rfl,zak (Y.out.trans A)⟩⟩
  | some q2 =>
   obtain⟨x2,p2⟩:=q2;rw[hr2]at c2;have aC:p2≤bs.length:=zaR hr2;have an:x2<4611686018427387904:=(zT hr2).2.2;have ao:=zb hr2;clear hr2;go_wp2_with fail;refine c2.mono ?_;rintro e w2 (⟨_,_,d,rfl,h2,m2⟩|⟨d,_⟩);rotate_left
   ·cases d
   simp only[Option.map_some,Option.some.injEq,Prod.mk.injEq]at d;obtain⟨rfl,rfl⟩:=d;have Z:=zb (Y.out.trans m2);clear c2 m2;have c3:=zV rb p2 v bs w2 h2 (Hb.out.mod Z.out V.out) V.out aC;cases hr3:zas bs p2 with
   | none =>
    rw[hr3]at c3;have t:Hid (rd2 b bs pos=none):=by
     show _=_;unfold rd2;simp only[X.out,ao.out,hr3,Option.bind_some,Option.bind_none]
    clear hr3;go_wp2_with (go_at_call 127;refine c3.mono ?_;rintro e w' (⟨_,_,d,_⟩|⟨_,l,A⟩);cases d;unfold zaf at l;subst l);exact⟨rfl,.inr ⟨t.out,rfl,zak (Z.out.trans A)⟩⟩
   | some q3 =>
    obtain⟨x3,p3⟩:=q3;rw[hr3]at c3;have aD:p3≤bs.length:=zaR hr3;have ap:x3<4611686018427387904:=(zT hr3).2.2;have aE:=zb hr3;clear hr3;go_wp2_with fail;refine c3.mono ?_;rintro e w3 (⟨_,_,d,rfl,h3,m3⟩|⟨d,_⟩);rotate_left
    ·cases d
    simp only[Option.map_some,Option.some.injEq,Prod.mk.injEq]at d;obtain⟨rfl,rfl⟩:=d;have aq:=zb (Z.out.trans m3);clear c3 m3;obtain⟨R,D⟩:=nm (zc6 bs (bs.length+1) x1 x2 x3 p3 []);have hA:zqM w w3 rb fb v b bs x1 x2 x3 R:=⟨bs.length+1,p3,[],.slice none 0 0,h3,Hf.out.mod aq.out W.out,World.ownsRow_nil w3 0 _ 2,(fun g hg=>by cases hg),(fun i hi=>absurd hi (Nat.not_lt_zero i)),aD,by omega,Nat.zero_le _,zak aq.out,am,an,ap,D⟩;have HA:=zb hA;have B:Hid (rd2 b bs pos=R.bind fun r=>some ({ f0 2 b with rngs:=r.1 },r.2)):=by
     show _=_;unfold rd2;simp only[X.out,ao.out,aE.out,Option.bind_some,D]
    clear hA D h3 h2 h1 h am an ap;go_wp2_with fail
    go_loopw [4,5,6,7,8] (fun hi n size _ _ wr=>∃hi' n' size':Nat,hi = .int .u64 hi'∧n = .int .u64 n'∧size = .int .u64 size'∧zqM w wr rb fb v b bs hi' n' size' R) (fun _ _ _ _ _ wr=>bs.length-zhg wr rb)
    case atStart=>exact⟨x1,x2,x3,rfl,rfl,rfl,HA.out⟩
    case round =>
     obtain⟨hi,n,size,rfl,rfl,rfl,fuel,q,a,rv,E,x,m,F,aa,hq,hfu,hal,A,b1,b2,b3,D⟩:=hrel;obtain⟨fuel,rfl⟩:∃f,fuel=f+1:=⟨fuel-1,by omega⟩;unfold zc6 at D;have aF:=zb E;have Hfr:=zb x;have aM:=zb m;have P:=zb F;have aG:=zb aa;have Hm:=zb A;by_cases d1:hi<size
     ·rw[if_pos d1]at D;have t:Hid (rd2 b bs pos=none):=by show _=_;rw[B.out,←D];rfl
      clear D E x m F aa A;go_wp2_with (go_at_call 128;refine(zbY _ _).mono ?_;rintro e w' ⟨l,rfl⟩;unfold zaf at l;subst l);exact⟨rfl,.inr ⟨t.out,rfl,Hm.out⟩⟩
     ·rw[if_neg d1]at D;have z1:IntKind.u64.wrap ((hi:Int)-size)=((hi-size:Nat):Int):=by rw[IntKind.wrap_u64];omega
      obtain⟨lo,ab⟩:=nm (hi-size);rw[ab]at z1 D;have hlh:lo≤hi:=by omega
      obtain⟨k0,k1,k2,k3,k4,k5,k6,k7,k8,k9⟩:=x.cells;have hfz:∀j,wr.frozen? ⟨fb,j,none⟩=false:=fun j=>zf x
      obtain⟨v2,W2,hr2,G,ar,au⟩:=zjS wr rv a lo hi m (by omega);obtain⟨ra,rc,rfl,_⟩:=zi m;have av:=zb D;have ac:¬(Value.slice ra a.length rc).ownBlock=some fb:=zdA m x;have ad:¬(Value.slice ra a.length rc).ownBlock=some rb:=zc7 m E;have mg:Mod (fun k=>(Value.slice ra a.length rc).ownBlock=some k) wr W2:=(Mod.refl _ _).grown ar (fun k hk=>.inl hk);have z:=x.mod mg ac;have Q:=E.mod mg ad;have c9':=z.cells.2.2.2.2.2.2.2.2.2;have aN:∀j,W2.frozen? ⟨fb,j,none⟩=false:=fun j=>zf z
      obtain⟨a2,c2,rfl,_⟩:=zi G;have H:=zb G;have S:=zb z;have aw:=zb Q;have aH:=zb mg;have ax:=zb au;have Hlo:=zb ab;clear D E x m F aa A G ar au mg z Q ab;obtain⟨W3,ae⟩:=nm (W2.setCell ⟨fb,9,none⟩ (.slice a2 (a.length+1) c2));have I:(a++[(lo,hi)]).length=a.length+1:=by simp
      have M:Mod (fun k=>k=fb) W2 W3:=by rw[←ae];exact(Mod.refl (fun k=>k=fb) W2).setCell (p:=⟨fb,9,none⟩) (.inl rfl) _
      have J:=zb (aw.out.mod M (fun e=>W.out e.symm));have T:Hid (zh W3 fb { f0 2 b with rngs:=a++[(lo,hi)] } (.slice a2 (a.length+1) c2)):=by
       show zh _ _ _ _;rw[←ae];exact S.out.set rfl
      have s:Hid (W3.ownsRow 0 214 2 (.slice a2 (a.length+1) c2) (a++[(lo,hi)]).length (zn (a++[(lo,hi)]))):=by
       show World.ownsRow _ _ _ _ _ _ _;have:=M.owns H.out (fun g hg e=>zdA H.out S.out (by rw[hg,e]));rw[I]at this ⊢;exact this
      have N:Hid (Mod (Two rb fb) w W3):=(Hm.out.then aH.out (fun i hi=>.inr (P.out i hi))).then M (fun i hi=>.inl (.inr hi));have K:Hid (∀g,(Value.slice a2 (a.length+1) c2).ownBlock=some g→w.heap.size≤g):=by
       intro g hg;have aI:zaH wr (Value.slice ra a.length rc) (.slice a2 (a.length+1) c2):=by rw[←I];exact ax.out
       rcases aI g hg with h1|h1
       ·exact P.out g h1
       ·have:=Hm.out.size;omega
      have U:=zb (ziJ aG.out (show lo<18446744073709551616 by omega) (show hi<18446744073709551616 by omega));have ay:BR W3 v bs:=Hb.out.mod N.out al.out;have C:=zV rb q v bs W3 J.out ay V.out hq;clear M I ay;by_cases hn:n=0
      ·have t:Hid (rd2 b bs pos=some ({ f0 2 b with rngs:=a++[(lo,hi)] },q)):=by
        show _=_;have:=av.out;rw[if_pos hn]at this;rw[B.out,←this];rfl
       have aJ:((n:Int)==0)=true:=by simp[hn]
       clear hn C;go_wp2_with (at_builtin;refine zl rfl _ _ _ _ rfl _ _ _ rfl rfl hr2 ?_);refine bodyPost_ret (results_none rfl _ _ _) rfl (.inl ⟨_,_,q,t.out,rfl,J.out,T.out,?_,?_,N.out⟩)
       ·exact⟨s.out,U.out⟩
       ·intro g o n' c' e;cases e;exact K.out g (zl5 s.out rfl)
      ·have aJ:((n:Int)==0)=false:=by rw[beq_eq_false_iff_ne];omega
       have z2:IntKind.u64.wrap ((n:Int)-1)=((n-1:Nat):Int):=by rw[IntKind.wrap_u64];omega
       have u:=av.out;rw[if_neg hn]at u;have u:=zb u;cases hg1:zas bs q with
       | none =>
        rw[hg1]at C;have t:Hid (rd2 b bs pos=none):=by
         show _=_;have:=u.out;rw[hg1]at this;rw[B.out,←this];rfl
        clear hg1 hn;go_wp2_with (first|(at_builtin;refine zl rfl _ _ _ _ rfl _ _ _ rfl rfl hr2 ?_)|(go_at_call 127;refine C.mono ?_;rintro e w' (⟨_,_,d,_⟩|⟨_,l,A⟩);cases d;unfold zaf at l;subst l));exact⟨rfl,.inr ⟨t.out,rfl,N.out.then (zak A) (fun i hi=>.inl hi)⟩⟩
       | some q1 =>
        obtain⟨y,p4⟩:=q1;obtain⟨u1,u2,u3⟩:=zT hg1;rw[hg1]at C;have O:=zb hg1;clear hg1 hn;go_wp2_with (at_builtin;refine zl rfl _ _ _ _ rfl _ _ _ rfl rfl hr2 ?_);refine C.mono ?_;rintro e w4 (⟨_,_,d,rfl,h4,m4⟩|⟨d,_⟩);rotate_left
        ·cases d
        simp only[Option.map_some,Option.some.injEq,Prod.mk.injEq]at d;obtain⟨rfl,rfl⟩:=d;have af:=zb (N.out.then (zak (fb:=fb) m4) (fun i hi=>.inl hi));have L:=zV rb p4 v bs w4 h4 (Hb.out.mod af.out al.out) V.out u2;have aK:=zb m4;clear C m4 h4 ae;cases hg2:zas bs p4 with
        | none =>
         rw[hg2]at L;have t:Hid (rd2 b bs pos=none):=by
          show _=_;have:=u.out;rw[O.out,Option.bind_some,hg2]at this;rw[B.out,←this];rfl
         clear hg2;go_wp2_with (go_at_call 127;refine L.mono ?_;rintro e w' (⟨_,_,d,_⟩|⟨_,l,A⟩);cases d;unfold zaf at l;subst l);exact⟨rfl,.inr ⟨t.out,rfl,af.out.then (zak A) (fun i hi=>.inl hi)⟩⟩
        | some q2 =>
         obtain⟨size',p5⟩:=q2;obtain⟨u4,u5,u6⟩:=zT hg2;rw[hg2]at L;have ah:=zb hg2;clear hg2;go_wp2_with fail;refine L.mono ?_;rintro e w5 (⟨_,_,d,rfl,h5,m5⟩|⟨d,_⟩);rotate_left
         ·cases d
         simp only[Option.map_some,Option.some.injEq,Prod.mk.injEq]at d;obtain⟨rfl,rfl⟩:=d;have ai:=zb (af.out.then (zak (fb:=fb) m5) (fun i hi=>.inl hi));have az:=zb (aK.out.trans m5);have H5:=zb h5;clear L m5 h5;by_cases d2:lo<2
         ·have t:Hid (rd2 b bs pos=none):=by
           show _=_;have:=u.out;rw[O.out,Option.bind_some,ah.out,Option.bind_some,if_pos (.inl d2)]at this;rw[B.out,←this];rfl
          have e2:decide ((lo:Int)<2)=true:=by simp;omega
          go_wp2_with (go_at_call 128;refine(zbY _ _).mono ?_;rintro e w' ⟨l,rfl⟩;unfold zaf at l;subst l);exact⟨rfl,.inr ⟨t.out,rfl,ai.out⟩⟩
         ·have e2:decide ((lo:Int)<2)=false:=by simp;omega
          have z3:IntKind.u64.wrap ((lo:Int)-2)=((lo-2:Nat):Int):=by rw[IntKind.wrap_u64];omega
          have Hd2:=zb d2;by_cases d3:lo-2<y
          ·have t:Hid (rd2 b bs pos=none):=by
            show _=_;have:=u.out;rw[O.out,Option.bind_some,ah.out,Option.bind_some,if_pos (.inr d3)]at this;rw[B.out,←this];rfl
           have e3:decide (lo-2<y)=true:=by simpa using d3
           clear d2;go_wp2_with (go_at_call 128;refine(zbY _ _).mono ?_;rintro e w' ⟨l,rfl⟩;unfold zaf at l;subst l);exact⟨rfl,.inr ⟨t.out,rfl,ai.out⟩⟩
          ·have e3:decide (lo-2<y)=false:=by simpa using d3
           have z4:IntKind.u64.wrap (((lo-2:Nat):Int)-y)=((lo-2-y:Nat):Int):=by rw[IntKind.wrap_u64];omega
           have aL:Hid (zqM w w5 rb fb v b bs (lo-2-y) (n-1) size' R):=by
            refine⟨fuel,p5,a++[(lo,hi)],.slice a2 (a.length+1) c2,H5.out,T.out.mod az.out W.out,az.out.owns s.out (fun g hg e=>zc7 s.out J.out (by rw[hg,e])),K.out,U.out,u5,by omega,by simp;omega,ai.out,by omega,by omega,u6,?_⟩;have:=u.out;rw[O.out,Option.bind_some,ah.out,Option.bind_some,if_neg (by omega)]at this;exact this
           have HP:Hid (zhg w5 rb=p5∧zhg wr rb=q):=⟨zeA H5.out,zeA aF.out⟩;clear d2;go_wp2_with fail;go_roundw
           case rel=>exact⟨lo-2-y,n-1,size',by rfl,by rfl,rfl,aL.out⟩
           case measure =>
            rw[HP.out.1,HP.out.2];omega
def zH(k:Int)(b:Bool)(bs:List UInt8)(pos:Nat):Option (Frm×Nat) :=
 if k=1 then some (f0 1 b,pos)
 else if k=2 then rd2 b bs pos
 else if k=3 then rd3 b bs pos
 else if k=4 then rd4 b bs pos
 else if k=5 then zbF 5 b bs pos
 else if k=6 then rd6 b bs pos
 else if k=7 then rd7 b bs pos
 else zbF 8 b bs pos
def zdB(k:Int)(b:Bool)(bs:List UInt8)(v:Value)(w:World)(e:Ending)(w':World):Prop :=
 ∃cb wv F caps G,e = .returned (.pointer (some ⟨cb,0,none⟩))∧zbM w' cb wv (.func (.func F) #[] caps) (.func (.func G) #[] #[])∧zex F∧zex G∧Mod NoB w w'∧w.heap.size≤cb ∧
  (∀rb fb pos,zcF w' rb v pos→BR w' v bs→za2 (Two rb fb) v→pos≤bs.length→bs.length≤1099511627776→zh w' fb (f0 k b) (.slice none 0 0)→fb≠rb→Calls prog F (#[.pointer (some ⟨rb,0,none⟩),.pointer (some ⟨fb,0,none⟩)]++caps) w' (RdF w' rb v fb (zH k b bs pos))) ∧
  (∀Y bf f rv,zh Y bf f rv→RR Y rv f.rngs→f.kind=k→f.rngs.length≤1099511627776→f.data.length≤35184372088832→zaC f=true→Calls prog G #[.pointer (some ⟨bf,0,none⟩)] Y (zok Y (zK f)))
theorem zjW:zex 214:=zaO func214 (by kernel_rfl) rfl
theorem zoJ:zex 188:=zaO func188 (by kernel_rfl) rfl
theorem zoK:zex 190:=zaO func190 (by kernel_rfl) rfl
theorem zoL:zex 171:=zaO func171 (by kernel_rfl) rfl
theorem zoM:zex 177:=zaO func177 (by kernel_rfl) rfl
theorem zoN:zex 182:=zaO func182 (by kernel_rfl) rfl
theorem zoO:zex 174:=zaO func174 (by kernel_rfl) rfl
theorem zoP(b:Bool)(bs:List UInt8)(v:Value)(w:World):Calls prog 131 #[.int .i64 1] w (zdB 1 b bs v w):=by
 refine(of_1 w).mono ?_;rintro e w' ⟨cb,rfl,hc,hm,hb⟩;refine⟨cb,_,171,#[],172,rfl,hc,zoL,zbt,hm,hb,fun rb fb pos h hb hv hp hl hf hne=>by rw[show zH 1 b bs pos=some (f0 1 b,pos)by simp[zH]];exact read1 rb fb pos v b w' h hf,fun Y bf f rv hf hr hk hn hd hq=>?_⟩;rw[show zK f=(true)by simp[zK,hk]];exact zaM _ Y
theorem zoQ(b:Bool)(bs:List UInt8)(v:Value)(w:World):Calls prog 131 #[.int .i64 2] w (zdB 2 b bs v w):=by
 refine(of_2 w).mono ?_;rintro e w' ⟨cb,rfl,hc,hm,hb⟩;refine⟨cb,_,174,#[],175,rfl,hc,zoO,zjP,hm,hb,fun rb fb pos h hb hv hp hl hf a=>by rw[show zH 2 b bs pos=rd2 b bs pos by simp[zH]];exact ziK rb fb pos v bs b w' h hb hv hp hl hf a,fun Y bf f rv hf hr hk hn hd hq=>?_⟩;rw[show zK f=(zaw f.rngs)by simp[zK,hk]];exact zef bf f rv Y hf hr hn
theorem zoR(b:Bool)(bs:List UInt8)(v:Value)(w:World):Calls prog 131 #[.int .i64 3] w (zdB 3 b bs v w):=by
 refine(of_3 w).mono ?_;rintro e w' ⟨cb,rfl,hc,hm,hb⟩;refine⟨cb,_,177,#[],179,rfl,hc,zoM,zjN,hm,hb,fun rb fb pos h hb hv hp hl hf a=>by rw[show zH 3 b bs pos=rd3 b bs pos by simp[zH]];exact read3 rb fb pos v bs b w' h hb hv hp hf a,fun Y bf f rv hf hr hk hn hd hq=>?_⟩;rw[show zK f=(decide (f.rel≤f.off))by simp[zK,hk]];exact zqa bf f rv Y hf
theorem zoS(b:Bool)(bs:List UInt8)(v:Value)(w:World):Calls prog 131 #[.int .i64 4] w (zdB 4 b bs v w):=by
 refine(of_4 w).mono ?_;rintro e w' ⟨cb,rfl,hc,hm,hb⟩;refine⟨cb,_,182,#[],184,rfl,hc,zoN,zjO,hm,hb,fun rb fb pos h hb hv hp hl hf a=>by rw[show zH 4 b bs pos=rd4 b bs pos by simp[zH]];exact read4 rb fb pos v bs b w' h hb hv hp hf a,fun Y bf f rv hf hr hk hn hd hq=>?_⟩;rw[show zK f=(decide (f.data.length+f.off≤4611686018427387903))by simp[zK,hk]];exact zqb bf f rv Y hf (zcL hq).1 (by omega)
theorem zoT(b:Bool)(bs:List UInt8)(v:Value)(w:World):Calls prog 131 #[.int .i64 5] w (zdB 5 b bs v w):=by
 refine(of_5 w).mono ?_;rintro e w' ⟨cb,tb,ab,rfl,hc,a,hm,hb,_,_⟩;refine⟨cb,_,_,_,172,rfl,hc,zjW,zbt,hm,hb,fun rb fb pos h hb hv hp hl hf c=>by rw[show zH 5 b bs pos=zbF 5 b bs pos by simp[zH]];exact zjR rb fb ab pos 5 v bs b w' h hb hv hp hf c a.2,fun Y bf f rv hf hr hk hn hd hq=>?_⟩;rw[show zK f=(true)by simp[zK,hk]];exact zaM _ Y
theorem zoU(b:Bool)(bs:List UInt8)(v:Value)(w:World):Calls prog 131 #[.int .i64 6] w (zdB 6 b bs v w):=by
 refine(of_6 w).mono ?_;rintro e w' ⟨cb,rfl,hc,hm,hb⟩;refine⟨cb,_,188,#[],172,rfl,hc,zoJ,zbt,hm,hb,fun rb fb pos h hb hv hp hl hf a=>by rw[show zH 6 b bs pos=rd6 b bs pos by simp[zH]];exact read6 rb fb pos v bs b w' h hb hv hp hf a,fun Y bf f rv hf hr hk hn hd hq=>?_⟩;rw[show zK f=(true)by simp[zK,hk]];exact zaM _ Y
theorem zoV(b:Bool)(bs:List UInt8)(v:Value)(w:World):Calls prog 131 #[.int .i64 7] w (zdB 7 b bs v w):=by
 refine(of_7 w).mono ?_;rintro e w' ⟨cb,rfl,hc,hm,hb⟩;refine⟨cb,_,190,#[],172,rfl,hc,zoK,zbt,hm,hb,fun rb fb pos h hb hv hp hl hf a=>by rw[show zH 7 b bs pos=rd7 b bs pos by simp[zH]];exact read7 rb fb pos v bs b w' h hb hv hp hf a,fun Y bf f rv hf hr hk hn hd hq=>?_⟩;rw[show zK f=(true)by simp[zK,hk]];exact zaM _ Y
theorem zoW(b:Bool)(bs:List UInt8)(v:Value)(w:World):Calls prog 131 #[.int .i64 8] w (zdB 8 b bs v w):=by
 refine(of_8 w).mono ?_;rintro e w' ⟨cb,tb,ab,rfl,hc,a,hm,hb,_,_⟩;refine⟨cb,_,_,_,172,rfl,hc,zjW,zbt,hm,hb,fun rb fb pos h hb hv hp hl hf c=>by rw[show zH 8 b bs pos=zbF 8 b bs pos by simp[zH]];exact zjR rb fb ab pos 8 v bs b w' h hb hv hp hf c a.2,fun Y bf f rv hf hr hk hn hd hq=>?_⟩;rw[show zK f=(true)by simp[zK,hk]];exact zaM _ Y
theorem zkP(t:UInt8)(k:Int)(hk:zbe t=some k)(b:Bool)(bs:List UInt8)(v:Value)(w:World):Calls prog 131 #[.int .i64 k] w (zdB k b bs v w):=by
 have a:k=1∨k=2∨k=3∨k=4∨k=5∨k=6∨k=7∨k=8:=by
  unfold zbe at hk;repeat' split at hk
  all_goals simp at hk
  all_goals omega
 rcases a with rfl|rfl|rfl|rfl|rfl|rfl|rfl|rfl
 ·exact zoP b bs v w
 ·exact zoQ b bs v w
 ·exact zoR b bs v w
 ·exact zoS b bs v w
 ·exact zoT b bs v w
 ·exact zoU b bs v w
 ·exact zoV b bs v w
 ·exact zoW b bs v w
def za0(fs:List (Frm×Value)):List Value:=fs.flatMap fun x=>(zj x.1 x.2).toList
theorem zgB(a b:List (Frm×Value)):za0 (a++b)=za0 a++za0 b:=by simp[za0]
theorem zgC(fs:List (Frm×Value)):(za0 fs).length=fs.length*10:=by
 induction fs with
 | nil=>rfl
 | cons x fs ih =>
  have:za0 (x::fs)=(zj x.1 x.2).toList++za0 fs:=rfl;rw[this,List.length_append,ih];simp[zj];omega
theorem zhh(fs:List (Frm×Value)):∀i x,fs[i]?=some x→∀j u,(zj x.1 x.2)[j]?=some u→(za0 fs)[i*10+j]?=some u:=by
 induction fs with
 | nil=>intro i x h;simp at h
 | cons y fs ih =>
  intro i x h j u a;have hl:((zj y.1 y.2).toList).length=10:=rfl;have e:za0 (y::fs)=(zj y.1 y.2).toList++za0 fs:=rfl;cases i with
  | zero =>
   simp only[List.getElem?_cons_zero,Option.some.injEq]at h;subst h;have hj:j<10:=(Array.getElem?_eq_some_iff.1 a).1;rw[e,Nat.zero_mul,Nat.zero_add,List.getElem?_append_left (by omega),Array.getElem?_toList];exact a
  | succ i =>
   simp only[List.getElem?_cons_succ]at h;rw[e,show(i+1)*10+j=10+(i*10+j)by omega,List.getElem?_append_right (by omega),hl,Nat.add_sub_cancel_left];exact ih i x h j u a
def zis(w:World)(v:Value)(fs:List (Frm×Value)):Prop:=w.ownsRow 0 65 10 v fs.length (za0 fs)∧∀x∈fs,zgs w x.2 x.1.rngs
theorem zis.frs{fs:List (Frm×Value)}(h:zis w v fs):zet w v fs:=by
 obtain⟨a,cap,rfl,h1,h2,h3⟩:=zi h.1;refine⟨a,cap,rfl,h1,h2,fun i fr hi=>⟨?_,(h.2 fr (List.mem_of_getElem? hi)).rr⟩⟩;have hlt:i<fs.length:=(List.getElem?_eq_some_iff.1 hi).1;obtain⟨g,rfl⟩:=h3 (by omega);refine⟨g,0,rfl,fun j x hx=>?_⟩;have:=h.1.cells (g:=g) rfl _ _ (zhh fs i fr hi j x hx);rw[zU]at this;rw[Nat.zero_add]at this
 rwa [Nat.zero_add]
theorem zkQ:(prog.info? 65).map (fun i=>(i.zero,i.size,i.bytes))=some (some (.agg #[.int .i64 0,.int .i64 0,.int .u64 0,.int .u64 0,.int .u64 0,.bool false,.int .u64 0,.int .u64 0,.string ⟨#[]⟩,.slice none 0 0]),10,104):=by kernel_rfl
theorem ziL(f:Frm)(a:Option Addr)(n c:Nat):∀u∈(zj f (.slice a n c)).toList,u.oneCell'=true:=by
 intro u b;simp[zj]at b;rcases b with rfl|rfl|rfl|rfl|rfl|rfl|rfl|rfl|rfl|rfl<;>rfl
theorem zjX(w:World)(v:Value)(fs:List (Frm×Value))(f:Frm)(a:Option Addr)(n c:Nat)(h:w.ownsRow 0 65 10 v fs.length (za0 fs))(hl:fs.length≤1099511627776):∃v' w',(∀ty,(Builtin.append_ #[54,54] ty #[v,.slice (some ⟨w.heap.size,0,none⟩) 1 1]).run prog (w.alloc (.cells (zj f (.slice a n c)) 65)) = .ok v' w') ∧
   w'.ownsRow 0 65 10 v' (fs.length+1) (za0 (fs++[(f,.slice a n c)]))∧w.grownBy w' v.ownBlock∧zaH w v v':=by
 obtain⟨i,d,hz,e,g⟩:=info_parts zkQ;have l:za0 [(f,.slice a n c)]=(zj f (.slice a n c)).toList:=by simp[za0]
 have b:∀(j:Nat) u,(za0 [(f,.slice a n c)])[j]?=some u→(w.alloc (.cells (zj f (.slice a n c)) 65)).cell? ((⟨w.heap.size,0,none⟩:Addr).add j)=some u:=by
  intro j u hj;rw[zU];refine za (heap_alloc_new w _) ?_;rw[Nat.zero_add,←Array.getElem?_toList,←l];exact hj
 obtain⟨v',w',h1,h2,h3,h4,h5⟩:=zau (P:=prog) (w.alloc (.cells (zj f (.slice a n c)) 65)) 54 65 i _ 10 104 underlying54 d hz e g rfl (by decide) v fs.length (za0 fs) (World.ownsRow.alloc h _)
  ⟨w.heap.size,0,none⟩ 1 1 (za0 [(f,.slice a n c)]) (by rw[zgC];rfl) b (by rw[l];exact ziL f a n c) (by unfold maxLen;omega) (by omega)
 refine⟨v',w',h1,?_,?_,?_⟩
 ·rw[zgB];exact h2
 ·exact⟨h3.os,h3.tape,h3.output,Nat.le_trans (by simp) h3.size,fun k hk hn=>(h3.block k (by simp;omega) hn).trans (Below.heap_alloc w _ k hk)⟩
 ·intro k hk;rcases h4 k hk with x|x
  ·exact .inl x
  ·exact .inr (by simp at x;omega)
def FinD(G:World→Prop):Exit→Act→World→Prop:=fun b a w'=>(b = .normal∨b = .ret)∧a.defers=[]∧G w'
theorem zkR(a b c:Value)(w:World):CallsD prog 126 #[a,b,c] .returning w fun e u' w'=>e = .returned (.tuple #[])∧u' = .returning∧w'=w:=by
 refine callsD_of_wpS func126 rfl fun d cs f=>?_
 apply wpS_seq;apply wpS_region;simp[wpOpsS,go_sem,recoverD,f,ntmps126,Exit.thenS];rw[show #[a,b,c]++((Array.replicate 19 undef).setIfInBounds 3 Value.nilIface).setIfInBounds 0 Value.nilIface=(#[a,b,c,.nilIface,undef,undef,.nilIface,undef,undef,undef,undef,undef,undef,undef,undef,undef,undef,undef,undef,undef,undef,undef]:Array Value)from by kernel_rfl];refine wpS_of_wp (wp_mono (Q:=FinD (fun w'=>w'=w)) ?_ ?_)
 ·go_wp2_with fail;exact⟨by first|exact .inl rfl|exact .inr rfl,rfl,rfl⟩
 ·rintro e a w' ⟨he,hd,rfl⟩;have hc:({ d with mode:=.returning }:Frame)=d:=by
   cases d;simp at f;simp[f]
  rcases he with rfl|rfl;all_goals exact⟨hd,_,by rw[hc],_,results_none rfl _ _ _,rfl,rfl,rfl⟩
def zqd(w:World)(a eb at_:Nat)(w':World):Prop :=
 w'.heap[a]?=some (.cells #[.int .u64 0,.slice none 0 0] 56 (0,0)) ∧
 (∃fa,w'.heap[eb]?=some (.cells #[.iface 162 (.pointer (some ⟨fa,0,none⟩))] 98 (0,0))∧w'.heap[fa]?=some (.cells #[.int .i64 8,.int .i64 (at_:Int)] 167 (0,0))∧w.heap.size≤fa) ∧
 Mod (fun k=>k=a∨k=eb) w w'
theorem ziM(d b eb at_:Nat)(q h r:Value)(c:List PanicEntry)(w:World)(ha:w.cell? ⟨d,0,none⟩=some (.int .i64 (at_:Int)))(g:w.heap[b]?=some (.cells #[q,h] 56 (0,0)))(f:w.heap[eb]?=some (.cells #[r] 98 (0,0)))(l:b≠eb):CallsD prog 126 #[.pointer (some ⟨d,0,none⟩),.pointer (some ⟨b,0,none⟩),.pointer (some ⟨eb,0,none⟩)] (.panicking ({ v:=.iface 230 (.agg #[]),recovered:=false }::c)) w fun e u' w' =>
   e = .returned (.tuple #[])∧u' = .panicking ({ v:=.iface 230 (.agg #[]),recovered:=true }::c)∧zqd w b eb at_ w':=by
 refine callsD_of_wpS func126 rfl fun c₀ cs s=>?_
 have Hp:=zb g;have He:=zb f;have hpl:=zk (za (o:=0) g rfl);have hel:=zk (za (o:=0) f rfl);have hal:=zk ha;have p0:w.cell? ⟨b,0,none⟩=some q:=za (o:=0) g rfl;have p1:w.cell? ⟨b,1,none⟩=some h:=za (o:=1) g rfl;have q0:w.cell? ⟨eb,0,none⟩=some r:=za (o:=0) f rfl;have hta:∀w,(Instr.typeAssert (.iface 230 (.agg #[])) 20 230 true).run prog w = .ok (.tuple #[.agg #[],.bool true]) w:=fun _=>by kernel_rfl
 have pz:∀j,w.frozen? ⟨b,j,none⟩=false:=fun j=>zf g
 have qz:∀j,w.frozen? ⟨eb,j,none⟩=false:=fun j=>zf f
 apply wpS_seq;apply wpS_region;simp[wpOpsS,go_sem,recoverD,s,ntmps126,Exit.thenS];rw[show #[Value.pointer (some ⟨d,0,none⟩),Value.pointer (some ⟨b,0,none⟩),Value.pointer (some ⟨eb,0,none⟩)]++((Array.replicate 19 undef).setIfInBounds 3 (Value.iface 230 (.agg #[]))).setIfInBounds 0 (Value.iface 230 (.agg #[]))=(#[.pointer (some ⟨d,0,none⟩),.pointer (some ⟨b,0,none⟩),.pointer (some ⟨eb,0,none⟩),.iface 230 (.agg #[]),undef,undef,.iface 230 (.agg #[]),undef,undef,undef,undef,undef,undef,undef,undef,undef,undef,undef,undef,undef,undef,undef]:Array Value)from by kernel_rfl];refine wpS_of_wp (wp_mono (Q:=FinD (zqd w b eb at_)) ?_ ?_)
 ·clear g f s;go_wp2_with fail;refine⟨.inl rfl,rfl,?_⟩;obtain⟨W,m⟩:=nm (((w.setCell ⟨b,0,none⟩ (.int .u64 0)).setCell ⟨b,1,none⟩ (.slice none 0 0)).setCell ⟨eb,0,none⟩ (.iface 162 (.pointer (some ⟨w.heap.size+1,0,none⟩))));rw[m];have mW:Mod (fun k=>k=b∨k=eb) w W:=by
   rw[←m];exact(((Mod.refl (fun k=>k=b∨k=eb) w).setCell (p:=⟨b,0,none⟩) (.inl (.inl rfl)) _).setCell (p:=⟨b,1,none⟩) (.inl (.inl rfl)) _).setCell (p:=⟨eb,0,none⟩) (.inl (.inr rfl)) _
  have o1:=zc (i:=1) (v:=.slice none 0 0) (zc (i:=0) (v:=.int .u64 0) Hp.out);have oP:W.heap[b]?=some (.cells #[.int .u64 0,.slice none 0 0] 56 (0,0)):=by
   rw[←m];exact(((Mod.refl (fun k=>k=eb) _).setCell (p:=⟨eb,0,none⟩) (.inl rfl) _).obj l o1).trans (by simp)
  have oE:W.heap[eb]?=some (.cells #[.iface 162 (.pointer (some ⟨w.heap.size+1,0,none⟩))] 98 (0,0)):=by
   rw[←m];have e1:=(((Mod.refl (fun k=>k=b) w).setCell (p:=⟨b,0,none⟩) (.inl rfl) (.int .u64 0)).setCell (p:=⟨b,1,none⟩) (.inl rfl) (.slice none 0 0)).obj (fun e=>l e.symm) He.out;exact(zc (i:=0) e1).trans (by simp)
  have hs:W.heap.size=w.heap.size:=by rw[←m];simp[World.setCell]
  have n:Mod NoB W ((W.alloc (.cells #[] 230)).alloc (.cells #[.int .i64 8,.int .i64 (at_:Int)] 167)):=((Mod.refl _ _).alloc _).alloc _;refine⟨n.obj (fun x=>x) oP,⟨w.heap.size+1,n.obj (fun x=>x) oE,?_,by omega⟩,mW.then n (fun _ x=>x.elim)⟩;have:(W.alloc (.cells #[] 230)).heap.size=w.heap.size+1:=by simp[hs]
  rw[←this];exact heap_alloc_new _ _
 ·rintro e a w' ⟨f,hd,hg⟩;rcases f with rfl|rfl;all_goals exact⟨hd,_,rfl,_,results_none rfl _ _ _,rfl,rfl,hg⟩
def byteAt(bs:List UInt8)(i:Nat):Nat:=(bs.getD i 0).toNat
def be4(bs:List UInt8)(n:Nat):Nat:=byteAt bs n*16777216+byteAt bs (n+1)*65536+byteAt bs (n+2)*256+byteAt bs (n+3)
inductive zit where
 | sum:zit
 | bad (at_:Nat):zit
 | ok (num:Nat) (fs:List Frm):zit
def za8(bs:List UInt8)(pos:Nat):Option (Frm×Nat) :=
 match bs[pos]? with
 | none=>none
 | some t=>(zbe t).bind fun k=>(zH k (decide (t=9)) bs (pos+1)).bind fun r=>if zS r.1=true then some r else none
def zc8(bs:List UInt8):Nat→Nat→Nat→List Frm→zit
 | 0,_,pos,_=>.bad pos
 | fuel+1,num,pos,acc =>
  if pos<bs.length then
   match za8 bs pos with
   | none=>.bad pos
   | some r=>zc8 bs fuel num r.2 (acc++[r.1])
  else .ok num acc
def zaE(bs:List UInt8):zit :=
 match zas bs 0 with
 | none=>.bad 0
 | some q=>if q.2=bs.length then .bad 0 else zc8 bs (bs.length+1) q.1 q.2 []
def dec(bs:List UInt8):zit :=
 if bs.length<4 then .sum
 else if be4 bs (bs.length-4)=crc (bs.take (bs.length-4))then zaE (bs.take (bs.length-4))else .sum
theorem zhi(bs:List UInt8):∀fuel hi n size pos acc r,pos≤bs.length→zc6 bs fuel hi n size pos acc=some r→pos≤r.2∧r.2≤bs.length∧r.1.length≤acc.length+(r.2-pos)+1
 | 0,_,_,_,_,_,_,_,h=>by cases h
 | fuel+1,hi,n,size,pos,acc,r,hp,h=>by
  unfold zc6 at h;split at h
  ·cases h
  ·split at h
   ·cases h;simp;exact hp
   ·cases h1:zas bs pos with
    | none=>rw[h1]at h;cases h
    | some q1 =>
     obtain⟨g,p1⟩:=q1;obtain⟨a1,a2,_⟩:=zT h1;rw[h1]at h;simp only[Option.bind_some]at h;cases h2:zas bs p1 with
     | none=>rw[h2]at h;cases h
     | some q2 =>
      obtain⟨s,p2⟩:=q2;obtain⟨b1,b2,_⟩:=zT h2;rw[h2]at h;simp only[Option.bind_some]at h;split at h
      ·cases h
      ·obtain⟨c1,c2,c3⟩:=zhi bs fuel _ _ _ _ _ _ b2 h;simp only[List.length_append,List.length_cons,List.length_nil]at c3;exact⟨by omega,c2,by omega⟩
variable{bs l:List UInt8}{p:Nat}
theorem zhj(h:zbv bs pos=some (l,p)):pos≤p∧p≤bs.length∧l.length≤bs.length:=by
 have he:=zd1 h;unfold zbv at h;cases hr:zas bs pos with
 | none=>rw[hr]at h;cases h
 | some q =>
  obtain⟨n,p1⟩:=q;rw[hr]at h;obtain⟨a1,a2,_⟩:=zT hr;simp only[Option.bind_some]at h;split at h
  ·cases h;refine⟨by omega,he,?_⟩;simp;omega
  ·cases h
theorem zdh(h:zao bs pos=some (n,p)):pos≤p∧p≤bs.length:=by
 unfold zao at h;cases hr:zas bs pos with
 | none=>rw[hr]at h;cases h
 | some q =>
  rw[hr]at h;have:=zT hr;simp only[Option.bind_some]at h;split at h
  ·cases h;exact⟨by omega,this.2.1⟩
  ·cases h
def Read(bs:List UInt8)(pos:Nat)(k:Int)(f:Frm)(p:Nat):Prop:=f.kind=k∧pos≤p∧p≤bs.length∧f.data.length≤bs.length∧f.rngs.length≤bs.length+1
theorem zeP{t:UInt8}{k:Int}{b:Bool}(hk:zbe t=some k)(hp:pos≤bs.length)(h:zH k b bs pos=some (f,p)):Read bs pos k f p:=by
 have j:k=1∨k=2∨k=3∨k=4∨k=5∨k=6∨k=7∨k=8:=by
  unfold zbe at hk;repeat' split at hk
  all_goals simp at hk
  all_goals omega
 rcases j with rfl|rfl|rfl|rfl|rfl|rfl|rfl|rfl
 ·rw[show zH 1 b bs pos=some (f0 1 b,pos)by simp[zH]]at h;cases h;exact⟨rfl,Nat.le_refl _,hp,Nat.zero_le _,Nat.zero_le _⟩
 ·rw[show zH 2 b bs pos=rd2 b bs pos by simp[zH],rd2,Option.bind_eq_some_iff]at h;obtain⟨⟨e,p1⟩,a,h⟩:=h;rw[Option.bind_eq_some_iff]at h;obtain⟨⟨i,p2⟩,c,h⟩:=h;rw[Option.bind_eq_some_iff]at h;obtain⟨⟨g,p3⟩,d,h⟩:=h;rw[Option.bind_eq_some_iff]at h;obtain⟨r,e4,h⟩:=h;cases h;have:=zT a;have:=zT c;have:=zT d;simp only at *;obtain⟨c1,c2,c3⟩:=zhi bs _ _ _ _ _ _ _ (zT d).2.1 e4;refine⟨rfl,by omega,c2,Nat.zero_le _,?_⟩;show r.1.length≤_;simp only[List.length_nil]at c3;omega
 ·rw[show zH 3 b bs pos=rd3 b bs pos by simp[zH],rd3,Option.bind_eq_some_iff]at h;obtain⟨⟨e,p1⟩,a,h⟩:=h;rw[Option.bind_eq_some_iff]at h;obtain⟨⟨i,p2⟩,c,h⟩:=h;rw[Option.bind_eq_some_iff]at h;obtain⟨⟨g,p3⟩,d,h⟩:=h;cases h;have:=zdh a;have:=zT c;have:=zT d;simp only at *;exact⟨rfl,by omega,by omega,Nat.zero_le _,Nat.zero_le _⟩
 ·rw[show zH 4 b bs pos=rd4 b bs pos by simp[zH],rd4,Option.bind_eq_some_iff]at h;obtain⟨⟨e,p1⟩,a,h⟩:=h;rw[Option.bind_eq_some_iff]at h;obtain⟨⟨i,p2⟩,c,h⟩:=h;rw[Option.bind_eq_some_iff]at h;obtain⟨⟨g,p3⟩,d,h⟩:=h;cases h;have:=zdh a;have:=zT c;have:=zhj d;simp only at *;exact⟨rfl,by omega,by omega,by show g.length≤_;omega,Nat.zero_le _⟩
 ·rw[show zH 5 b bs pos=zbF 5 b bs pos by simp[zH],zbF,Option.bind_eq_some_iff]at h;obtain⟨⟨e,p1⟩,a,h⟩:=h;cases h;have:=zT a;simp only at *;exact⟨rfl,by omega,by omega,Nat.zero_le _,Nat.zero_le _⟩
 ·rw[show zH 6 b bs pos=rd6 b bs pos by simp[zH],rd6,Option.bind_eq_some_iff]at h;obtain⟨⟨e,p1⟩,a,h⟩:=h;rw[Option.bind_eq_some_iff]at h;obtain⟨⟨i,p2⟩,c,h⟩:=h;cases h;have:=zdh a;have:=zT c;simp only at *;exact⟨rfl,by omega,by omega,Nat.zero_le _,Nat.zero_le _⟩
 ·rw[show zH 7 b bs pos=rd7 b bs pos by simp[zH],rd7,Option.bind_eq_some_iff]at h;obtain⟨⟨e,p1⟩,a,h⟩:=h;rw[Option.bind_eq_some_iff]at h;obtain⟨⟨i,p2⟩,c,h⟩:=h;rw[Option.bind_eq_some_iff]at h;obtain⟨⟨g,p3⟩,d,h⟩:=h;cases h;have:=zT a;have:=zT c;have:=zhj d;simp only at *;exact⟨rfl,by omega,by omega,by show g.length≤_;omega,Nat.zero_le _⟩
 ·rw[show zH 8 b bs pos=zbF 8 b bs pos by simp[zH],zbF,Option.bind_eq_some_iff]at h;obtain⟨⟨e,p1⟩,a,h⟩:=h;cases h;have:=zT a;simp only at *;exact⟨rfl,by omega,by omega,Nat.zero_le _,Nat.zero_le _⟩
def zlO(w:World)(pb a:Nat)(fv:Value):Prop:=w.heap[pb]?=some (.cells #[.int .u64 (a:Int),fv] 56 (0,0))
def zoX(w:World)(eb:Nat)(v:Value):Prop:=w.heap[eb]?=some (.cells #[v] 98 (0,0))
def zal(w:World)(r:zit)(e:Ending)(w':World):Prop :=
 Mod NoB w w'∧match r with
 | .sum=>e = .returned (.tuple #[.agg #[.int .u64 0,.slice none 0 0],.iface 57 (.int .i64 7)])
 | .bad at_=>∃fa,e = .returned (.tuple #[.agg #[.int .u64 0,.slice none 0 0],.iface 162 (.pointer (some ⟨fa,0,none⟩))])∧w'.heap[fa]?=some (.cells #[.int .i64 8,.int .i64 (at_:Int)] 167 (0,0))∧w.heap.size≤fa
 | .ok num fs=>∃fv rvs,e = .returned (.tuple #[.agg #[.int .u64 (num:Int),fv],.nilIface])∧zis w' fv rvs∧rvs.map (·.1)=fs∧(∀g,fv.ownBlock=some g→w.heap.size≤g)∧∀x∈rvs,∀g,x.2.ownBlock=some g→w.heap.size≤g
theorem zcm(tmps:Array Value)(w:World)(a eb:Nat)(n fv ev:Value)(h2:tmps.getD 2 undef = .pointer (some ⟨a,0,none⟩))(h3:tmps.getD 3 undef = .pointer (some ⟨eb,0,none⟩))
  (c0:w.cell? ⟨a,0,none⟩=some n) (c1:w.cell? ⟨a,1,none⟩=some fv) (c2:w.cell? ⟨eb,0,none⟩=some ev) :
  (results f74 tmps).run prog w = .ok (.tuple #[.agg #[n,fv],ev]) w:=by
 have b:tmps[2]?.getD undef = .pointer (some ⟨a,0,none⟩):=by rw[←h2];simp
 have c:tmps[3]?.getD undef = .pointer (some ⟨eb,0,none⟩):=by rw[←h3];simp
 simp[results,results74,go_sem,b,c,c0,c1,c2]
theorem zl6(v:Value)(bs:List UInt8)(w:World)(hb:BR w v bs)(hs:bs.length<4):Calls prog 74 #[v] w (zal w .sum):=by
 obtain⟨a,cap,rfl,h1,h2,h3⟩:=hb;unfold maxLen at h2;have z1:IntKind.i64.wrap ((bs.length:Int)-4)=(bs.length:Int)-4:=IntWalk.i64_in _ (by omega);have d:(bs.length:Int)-4<0:=by omega
 clear h3
 go_enter_defers func74,ntmps74
 go_wp2_with fail;refine⟨_,zcm _ _ _ _ _ _ _ rfl rfl (by simp) (by simp) (by simp),((Mod.refl _ _).alloc _).alloc _,rfl⟩
theorem zd4(a b:Nat)(ha:a<4294967296)(hb:b<4294967296):bits .or .u32 (a:Int) (b:Int)=((a ||| b:Nat):Int):=by
 have hx:a ||| b<2 ^ 32:=Nat.or_lt_two_pow (by omega) (by omega);have h1:(BitVec.ofInt 32 (a:Int)).toNat=a:=by
  rw[BitVec.ofInt_natCast,BitVec.toNat_ofNat];exact Nat.mod_eq_of_lt (by omega)
 have h2:(BitVec.ofInt 32 (b:Int)).toNat=b:=by
  rw[BitVec.ofInt_natCast,BitVec.toNat_ofNat];exact Nat.mod_eq_of_lt (by omega)
 show IntKind.u32.wrap ((BitVec.ofInt 32 (a:Int) ||| BitVec.ofInt 32 (b:Int)).toNat:Int)=_;rw[BitVec.toNat_or,h1,h2,zbG];omega
theorem zl7(a b i:Nat)(h:b<2 ^ i):a*2 ^ i ||| b=a*2 ^ i+b:=by
 have:=Nat.two_pow_add_eq_or_of_lt h a;rw[Nat.mul_comm]at this;exact this.symm
theorem or_be(a b c d:Nat)(h0:a<256)(h1:b<256)(h2:c<256)(h3:d<256):bits .or .u32 ((a:Int)*16777216) ((b:Int)*65536)=(a:Int)*16777216+(b:Int)*65536 ∧
  bits .or .u32 ((a:Int)*16777216+(b:Int)*65536) ((c:Int)*256)=(a:Int)*16777216+(b:Int)*65536+(c:Int)*256 ∧
  bits .or .u32 ((a:Int)*16777216+(b:Int)*65536+(c:Int)*256) (d:Int)=(a:Int)*16777216+(b:Int)*65536+(c:Int)*256+(d:Int):=by
 refine⟨?_,?_,?_⟩
 ·have:=zd4 (a*16777216) (b*65536) (by omega) (by omega);rw[zl7 a (b*65536) 24 (by omega)]at this;rw[show(a:Int)*16777216=((a*16777216:Nat):Int)by omega,show(b:Int)*65536=((b*65536:Nat):Int)by omega,this];omega
 ·have:=zd4 (a*16777216+b*65536) (c*256) (by omega) (by omega);have e:a*16777216+b*65536=(a*256+b)*2 ^ 16:=by omega
  rw[e,zl7 _ (c*256) 16 (by omega),←e]at this;rw[show(a:Int)*16777216+(b:Int)*65536=((a*16777216+b*65536:Nat):Int)by omega,show(c:Int)*256=((c*256:Nat):Int)by omega,this];omega
 ·have:=zd4 (a*16777216+b*65536+c*256) d (by omega) (by omega);have e:a*16777216+b*65536+c*256=(a*65536+b*256+c)*2 ^ 8:=by omega
  rw[e,zl7 _ d 8 (by omega),←e]at this;rw[show(a:Int)*16777216+(b:Int)*65536+(c:Int)*256=((a*16777216+b*65536+c*256:Nat):Int)by omega,this];omega
variable{a:Option Addr}{cap:Nat}
theorem BR.pre(h:BR w (.slice a bs.length cap) bs)(hn:n≤bs.length):BR w (.slice a n cap) (bs.take n):=by
 obtain⟨a',d,hv,h1,h2,h3⟩:=h;cases hv;have hl:(bs.take n).length=n:=by simp;omega
 refine⟨a,cap,by rw[hl],by omega,h2,fun i c hi=>?_⟩;have b:i<n:=by
  have:=(List.getElem?_eq_some_iff.1 hi).1;omega
 rw[List.getElem?_take,if_pos b]at hi;exact h3 i c hi
variable{i:Nat}
theorem BR.byte{l:Nat}(h:BR w (.slice a l cap) bs)(hi:i<bs.length):∃g o,a=some ⟨g,o,none⟩∧w.cell? ⟨g,o+i,none⟩=some (.int .u8 (byteAt bs i:Int)):=by
 obtain⟨a',b,hv,h1,h2,h3⟩:=h;cases hv;have:=h3 i bs[i] (List.getElem?_eq_getElem hi);unfold byteAt;rw[List.getD_eq_getElem?_getD,List.getElem?_eq_getElem hi];exact this
theorem zbx(bs:List UInt8)(i:Nat):byteAt bs i<256:=by
 unfold byteAt;have:=(bs.getD i 0).toNat_lt;omega
theorem zqN(v:Value)(bs:List UInt8)(n:Nat)(w:World)(hb:BR w v bs)(B:Tab w)(C:bs.length=n+4)(f:be4 bs n≠crc (bs.take n)):Calls prog 74 #[v] w (zal w .sum):=by
 obtain⟨a,cap,rfl,h1,h2,h3⟩:=id hb;unfold maxLen at h2;rw[C]at h1 hb ⊢;have b:BR w (.slice a bs.length cap) bs:=by rw[C];exact hb
 obtain⟨g,o,rfl,D⟩:=b.byte (i:=n) (by omega);obtain⟨_,_,e,k1⟩:=b.byte (i:=n+1) (by omega);cases e;obtain⟨_,_,e,k2⟩:=b.byte (i:=n+2) (by omega);cases e;obtain⟨_,_,e,k3⟩:=b.byte (i:=n+3) (by omega);cases e;have hgl:=zk D;have c:=b.pre (n:=n) (by omega);have d:=fun w' (m:Mod NoB w w')=>ziw (.slice (some ⟨g,o,none⟩) n cap) (bs.take n) w' (c.mod m (za2.no _)) (B.mod m (fun x=>x))
 have t:=zfO (bs.take n);obtain⟨s,h⟩:=nm (crc (bs.take n));rw[h]at d f t;have E:=zbx bs n;have F:=zbx bs (n+1);have G:=zbx bs (n+2);have H:=zbx bs (n+3);unfold be4 at f;obtain⟨l,I⟩:=nm (byteAt bs n);obtain⟨q,J⟩:=nm (byteAt bs (n+1));obtain⟨r,K⟩:=nm (byteAt bs (n+2));obtain⟨L,M⟩:=nm (byteAt bs (n+3));rw[I]at D E f;rw[J]at k1 F f;rw[K]at k2 G f;rw[M]at k3 H f;obtain⟨o1,o2,o3⟩:=or_be l q r L E F G H;have z1:IntKind.i64.wrap (((n+4:Nat):Int)-4)=(n:Int):=by rw[show((n+4:Nat):Int)-4=n by omega];exact IntWalk.i64_in _ (by omega)
 have z2:IntKind.i64.wrap ((n:Int)+1)=(n:Int)+1:=IntWalk.i64_in _ (by omega);have z3:IntKind.i64.wrap ((n:Int)+2)=(n:Int)+2:=IntWalk.i64_in _ (by omega);have z4:IntKind.i64.wrap ((n:Int)+3)=(n:Int)+3:=IntWalk.i64_in _ (by omega);have t2:((n:Int)+1).toNat=n+1:=by omega
 have t3:((n:Int)+2).toNat=n+2:=by omega
 have t4:((n:Int)+3).toNat=n+3:=by omega
 have y0:IntKind.u32.wrap ((l:Int)*16777216)=(l:Int)*16777216:=by rw[zbG];omega
 have y1:IntKind.u32.wrap ((q:Int)*65536)=(q:Int)*65536:=by rw[zbG];omega
 have y2:IntKind.u32.wrap ((r:Int)*256)=(r:Int)*256:=by rw[zbG];omega
 have hq:((l:Int)*16777216+(q:Int)*65536+(r:Int)*256+(L:Int) != (s:Int))=true:=by rw[bne_iff_ne];omega
 clear h3 hb b B c I J K M h f
 go_enter_defers func74,ntmps74
 go_wp2_with (go_at_call 125;refine(d _ (((Mod.refl _ _).alloc _).alloc _)).mono ?_;rintro e w' ⟨rfl,rfl⟩);go_quiet (fail);go_wp2_with fail;have N:Mod NoB w (((w.alloc (.cells #[.int .u64 0,.slice none 0 0] 56)).alloc (.cells #[.nilIface] 98)).drewN nq):=(((Mod.refl _ _).alloc _).alloc _).drewN _;obtain⟨X,y⟩:=nm (((w.alloc (.cells #[.int .u64 0,.slice none 0 0] 56)).alloc (.cells #[.nilIface] 98)).drewN nq);have oP:X.heap[w.heap.size]?=some (.cells #[.int .u64 0,.slice none 0 0] 56 (0,0)):=by
  rw[←y];exact(((Mod.refl NoB _).alloc (.cells #[.nilIface] 98)).drewN nq).obj (fun x=>x) (heap_alloc_new w _)
 have oE:X.heap[w.heap.size+1]?=some (.cells #[.nilIface] 98 (0,0)):=by
  rw[←y];have e:(w.alloc (.cells #[.int .u64 0,.slice none 0 0] 56)).heap.size=w.heap.size+1:=by simp
  rw[←e];exact((Mod.refl NoB _).drewN nq).obj (fun x=>x) (heap_alloc_new _ _)
 rw[y]at N ⊢;have z:=zc (i:=1) (v:=.slice none 0 0) (zc (i:=0) (v:=.int .u64 0) oP);have mE:Mod (fun k=>k=w.heap.size) X ((X.setCell ⟨w.heap.size,0,none⟩ (.int .u64 0)).setCell ⟨w.heap.size,1,none⟩ (.slice none 0 0)):=((Mod.refl (fun k=>k=w.heap.size) X).setCell (p:=⟨w.heap.size,0,none⟩) (.inl rfl) _).setCell (p:=⟨w.heap.size,1,none⟩) (.inl rfl) _;have A:=zc (i:=0) (v:=.iface 57 (.int .i64 7)) (mE.obj (by show ¬w.heap.size+1=w.heap.size;omega) oE);have mL:∀u,Mod (fun k=>k=w.heap.size+1) ((X.setCell ⟨w.heap.size,0,none⟩ (.int .u64 0)).setCell ⟨w.heap.size,1,none⟩ (.slice none 0 0)) (((X.setCell ⟨w.heap.size,0,none⟩ (.int .u64 0)).setCell ⟨w.heap.size,1,none⟩ (.slice none 0 0)).setCell ⟨w.heap.size+1,0,none⟩ u):=fun u=>(Mod.refl (fun k=>k=w.heap.size+1) _).setCell (p:=⟨w.heap.size+1,0,none⟩) (.inl rfl) u
 have j:=(mL (.iface 57 (.int .i64 7))).obj (by show ¬w.heap.size=w.heap.size+1;omega) z;refine⟨_,zcm _ _ _ _ _ _ _ rfl rfl (za j rfl) (za j rfl) (za A rfl),((N.setCell (p:=⟨w.heap.size,0,none⟩) (.inr (Nat.le_refl _)) _).setCell (p:=⟨w.heap.size,1,none⟩) (.inr (Nat.le_refl _)) _).setCell (p:=⟨w.heap.size+1,0,none⟩) (.inr (Nat.le_succ _)) _,rfl⟩
theorem zkS(r:zit)(w W:World)(tmps:Array Value)(a eb b at_:Nat)(h fv j:Value)(h2:tmps.getD 2 undef = .pointer (some ⟨a,0,none⟩))(h3:tmps.getD 3 undef = .pointer (some ⟨eb,0,none⟩))(k:Mod NoB w W)
  (hp:W.heap[a]?=some (.cells #[h,fv] 56 (0,0))) (he:W.heap[eb]?=some (.cells #[j] 98 (0,0))) (ha:W.cell? ⟨b,0,none⟩=some (.int .i64 (at_:Int))) (c:a≠eb) (d:w.heap.size≤a) (g:w.heap.size≤eb) (hr:r = .bad at_) :
  bodyPostD prog f74 (zal w r) (Exit.panic [{ v:=.iface 230 (.agg #[]),recovered:=false }]) { tmps:=tmps,defers:=[{ target:=.fn (.func 126) #[.pointer (some ⟨b,0,none⟩),.pointer (some ⟨a,0,none⟩),.pointer (some ⟨eb,0,none⟩)],args:=#[] }] } W:=by
 subst hr;refine leaves_cons (f:=126) (args:=#[.pointer (some ⟨b,0,none⟩),.pointer (some ⟨a,0,none⟩),.pointer (some ⟨eb,0,none⟩)]) (by simp) (by simp[go_sem]) ?_;refine(ziM b a eb at_ h fv j [] W ha hp he c).mono ?_;rintro e u' w'' ⟨rfl,rfl,c1,⟨fa,c2,c3,c4⟩,c5⟩;show Leaves prog f74 tmps (zal w (.bad at_)) [] .returning w'';refine⟨_,zcm _ _ _ _ _ _ _ h2 h3 (za c1 rfl) (za c1 rfl) (za c2 rfl),?_,fa,rfl,c3,?_⟩
 ·refine k.then c5 ?_;rintro i (rfl|rfl)
  ·exact .inr d
  ·exact .inr g
 ·exact Nat.le_trans k.size c4
theorem zqO(r:zit)(w W:World)(tmps:Array Value)(k eb h:Nat)(a b c:Value)(fv:Value)(d:List (Frm×Value))(h2:tmps.getD 2 undef = .pointer (some ⟨k,0,none⟩))(h3:tmps.getD 3 undef = .pointer (some ⟨eb,0,none⟩))(hm:Mod NoB w W)
  (l:zlO W k h fv) (he:zoX W eb .nilIface) (hf:zis W fv d) (i:∀g,fv.ownBlock=some g→w.heap.size≤g) (j:∀x∈d,∀g,x.2.ownBlock=some g→w.heap.size≤g) (hr:r = .ok h (d.map (·.1))) :
  bodyPostD prog f74 (zal w r) Exit.ret { tmps:=tmps,defers:=[{ target:=.fn (.func 126) #[a,b,c],args:=#[] }] } W:=by
 subst hr;refine leaves_cons (f:=126) (args:=#[a,b,c]) (by simp) (by simp[go_sem]) ?_;refine(zkR a b c W).mono ?_;rintro e u' w'' ⟨rfl,rfl,rfl⟩;show Leaves prog f74 tmps (zal w (.ok h (d.map (·.1)))) [] .returning w'';exact⟨_,zcm _ _ _ _ _ _ _ h2 h3 (za l rfl) (za l rfl) (za he rfl),hm,fv,d,rfl,hf,rfl,i,j⟩
variable{base:Nat}
theorem ziN(h:w.ownsRow base e sz v n xs):∀g,v.ownBlock=some g→g<w.heap.size:=by
 intro g hg;rcases h.2 with⟨rfl,rfl⟩|⟨g',cap,cur,rfl,_,h0,h1,h2,_⟩
 ·cases hg
 ·simp[Value.ownBlock]at hg;subst hg;exact(Array.getElem?_eq_some_iff.1 h0).1
variable{T:Nat}{cs:Array Value}{fz:Nat×Nat}
theorem zar(h:w.ownsRow base e sz v n xs)(a:w.heap[b]?=some (.cells cs T fz))(hT:T≠e):¬v.ownBlock=some b:=by
 intro hb;rcases h.2 with⟨rfl,_⟩|⟨g,cap,cur,rfl,_,hg,_⟩
 ·cases hb
 ·simp[Value.ownBlock]at hb;subst hb;rw[hg]at a;simp at a;exact hT a.2.1.symm
theorem zhk{b1 b2 f b n':Nat}{c:List Value}(h:w.ownsRow b1 e sz v n xs)(h':w.ownsRow b2 f b v' n' c)(d:f≠e)(hg:v.ownBlock=some g)(a:v'.ownBlock=some g):False:=by
 rcases h'.2 with⟨rfl,_⟩|⟨g',cap,cur,rfl,_,ho,_⟩
 ·cases a
 ·simp[Value.ownBlock]at a;subst a;exact zar h ho d hg
variable{W:World}
theorem zl8(h:w.ownsRow base e sz v n xs)(hn:zfA W v):∀g,v.ownBlock=some g→W.heap.size≤g:=by
 intro g hg;rcases h.2 with⟨rfl,_⟩|⟨g',cap,cur,rfl,_⟩
 ·cases hg
 ·simp[Value.ownBlock]at hg;subst hg;exact hn _ _ _ _ rfl
def zqe(w:World)(ab at_:Nat):Prop:=w.heap[ab]?=some (.cells #[.int .i64 (at_:Int)] 3 (0,0))
def zqP(w wr:World)(v:Value)(bs:List UInt8)(a:Nat)(R:zit):Prop :=
 ∃fuel pos fv rvs at_,zcF wr (w.heap.size+1+1) v pos∧zlO wr w.heap.size a fv∧zoX wr (w.heap.size+1) .nilIface∧zqe wr (w.heap.size+1+1+1) at_∧zis wr fv rvs∧(∀g,fv.ownBlock=some g→w.heap.size≤g)∧(∀x∈rvs,∀g,x.2.ownBlock=some g→w.heap.size≤g) ∧
  pos≤bs.length∧bs.length-pos<fuel∧rvs.length≤pos∧Mod NoB w wr∧zc8 bs fuel a pos (rvs.map (·.1))=R
def RA(w:World):Nat→Prop:=fun k=>k=w.heap.size+1+1∨k=w.heap.size+1+1+1
variable{S:Nat→Prop}{w':World}
theorem zis.mod{fs:List (Frm×Value)}(h:zis w v fs)(m:Mod S w w')(c:∀i,S i→w.heap.size≤i∨∃cs T fz,w.heap[i]?=some (.cells cs T fz)∧T≠65∧T≠214):zis w' v fs:=by
 refine⟨m.owns h.1 (fun g hg a=>?_),fun x a=>(h.2 x a).mod m (fun g hg b=>?_)⟩
 ·rcases c g a with h1|⟨cs,T,fz,h1,h2,_⟩
  ·have:=ziN h.1 g hg;omega
  ·exact zar h.1 h1 h2 hg
 ·rcases c g b with h1|⟨cs,T,fz,h1,_,h2⟩
  ·have:=ziN (h.2 x a).1 g hg;omega
  ·exact zar (h.2 x a).1 h1 h2 hg
structure DecIn(w W:World)(v:Value):Prop where
 rd:zcF W (w.heap.size+1+1) v 0
 pk:zlO W w.heap.size 0 (.slice none 0 0)
 er:zoX W (w.heap.size+1) .nilIface
 at_:zqe W (w.heap.size+1+1+1) 0
 mod:Mod NoB w W
theorem decin(w:World)(a:Nat)(v:Value):DecIn w (((((w.alloc (.cells #[.int .u64 0,.slice none 0 0] 56)).alloc (.cells #[.nilIface] 98)).drewN a).alloc (.cells #[v,.int .i64 0] 229)).alloc (.cells #[.int .i64 0] 3)) v:=by
 have e1:(w.alloc (.cells #[.int .u64 0,.slice none 0 0] 56)).heap.size=w.heap.size+1:=by simp
 have e2:(((w.alloc (.cells #[.int .u64 0,.slice none 0 0] 56)).alloc (.cells #[.nilIface] 98)).drewN a).heap.size=w.heap.size+1+1:=by simp
 have e3:((((w.alloc (.cells #[.int .u64 0,.slice none 0 0] 56)).alloc (.cells #[.nilIface] 98)).drewN a).alloc (.cells #[v,.int .i64 0] 229)).heap.size=w.heap.size+1+1+1:=by simp
 refine⟨?_,?_,?_,?_,((((Mod.refl _ _).alloc _).alloc _).drewN _).alloc _ |>.alloc _⟩
 ·unfold zcF;rw[←e2];exact((Mod.refl NoB _).alloc _).obj (fun x=>x) (heap_alloc_new _ _)
 ·exact(((((Mod.refl NoB _).alloc _).drewN a).alloc _).alloc _).obj (fun x=>x) (heap_alloc_new w _)
 ·unfold zoX;rw[←e1];exact((((Mod.refl NoB _).drewN a).alloc _).alloc _).obj (fun x=>x) (heap_alloc_new _ _)
 ·unfold zqe;rw[←e3];exact heap_alloc_new _ _
theorem zoY(v:Value)(bs:List UInt8)(n:Nat)(w:World)(hb:BR w v bs)(ht:Tab w)(hn:bs.length=n+4)(hs:be4 bs n=crc (bs.take n))(bJ:n<1099511627776):Calls prog 74 #[v] w (zal w (zaE (bs.take n))):=by
 obtain⟨a,cap,rfl,h1,h2,h3⟩:=id hb;unfold maxLen at h2;rw[hn]at h1 hb ⊢;have A:BR w (.slice a bs.length cap) bs:=by rw[hn];exact hb
 obtain⟨g,o,rfl,k0⟩:=A.byte (i:=n) (by omega);obtain⟨_,_,e,k1⟩:=A.byte (i:=n+1) (by omega);cases e;obtain⟨_,_,e,k2⟩:=A.byte (i:=n+2) (by omega);cases e;obtain⟨_,_,e,k3⟩:=A.byte (i:=n+3) (by omega);cases e;have bn:=zk k0;have O:=A.pre (n:=n) (by omega);have P:=fun w' (m:Mod NoB w w')=>ziw (.slice (some ⟨g,o,none⟩) n cap) (bs.take n) w' (O.mod m (za2.no _)) (ht.mod m (fun x=>x))
 have bo:=zfO (bs.take n);obtain⟨s,aO⟩:=nm (crc (bs.take n));rw[aO]at P hs bo;have b0:=zbx bs n;have b1:=zbx bs (n+1);have b2:=zbx bs (n+2);have b3:=zbx bs (n+3);unfold be4 at hs;obtain⟨x0,e0⟩:=nm (byteAt bs n);obtain⟨x1,e1⟩:=nm (byteAt bs (n+1));obtain⟨x2,e2⟩:=nm (byteAt bs (n+2));obtain⟨x3,e3⟩:=nm (byteAt bs (n+3));rw[e0]at k0 b0 hs;rw[e1]at k1 b1 hs;rw[e2]at k2 b2 hs;rw[e3]at k3 b3 hs;obtain⟨o1,o2,o3⟩:=or_be x0 x1 x2 x3 b0 b1 b2 b3;have z1:IntKind.i64.wrap (((n+4:Nat):Int)-4)=(n:Int):=by rw[show((n+4:Nat):Int)-4=n by omega];exact IntWalk.i64_in _ (by omega)
 have z2:IntKind.i64.wrap ((n:Int)+1)=(n:Int)+1:=IntWalk.i64_in _ (by omega);have z3:IntKind.i64.wrap ((n:Int)+2)=(n:Int)+2:=IntWalk.i64_in _ (by omega);have z4:IntKind.i64.wrap ((n:Int)+3)=(n:Int)+3:=IntWalk.i64_in _ (by omega);have t2:((n:Int)+1).toNat=n+1:=by omega
 have t3:((n:Int)+2).toNat=n+2:=by omega
 have t4:((n:Int)+3).toNat=n+3:=by omega
 have y0:IntKind.u32.wrap ((x0:Int)*16777216)=(x0:Int)*16777216:=by rw[zbG];omega
 have y1:IntKind.u32.wrap ((x1:Int)*65536)=(x1:Int)*65536:=by rw[zbG];omega
 have y2:IntKind.u32.wrap ((x2:Int)*256)=(x2:Int)*256:=by rw[zbG];omega
 have hq:((x0:Int)*16777216+(x1:Int)*65536+(x2:Int)*256+(x3:Int) != (s:Int))=false:=by rw[bne_eq_false_iff_eq];omega
 have I:=zb O;clear h3 hb A ht O e0 e1 e2 e3 aO hs;have aP:(bs.take n).length=n:=by simp;omega
 obtain⟨l,aQ⟩:=nm (bs.take n);rw[aQ]at I aP ⊢;clear aQ hn;subst aP
 go_enter_defers func74,ntmps74
 go_wp2_with (go_at_call 125;refine(P _ (((Mod.refl _ _).alloc _).alloc _)).mono ?_;rintro e w' ⟨rfl,rfl⟩);go_quiet (fail);have hD:=decin w nq (.slice (some ⟨g,o,none⟩) l.length cap);obtain⟨W,hW⟩:=nm (((((w.alloc (.cells #[.int .u64 0,.slice none 0 0] 56)).alloc (.cells #[.nilIface] 98)).drewN nq).alloc (.cells #[.slice (some ⟨g,o,none⟩) l.length cap,.int .i64 0] 229)).alloc (.cells #[.int .i64 0] 3));rw[hW]at hD;have HW:=zb hW;clear hW;have HD:=zb hD;have hgw:g<w.heap.size:=bn;have Q:∀b,w.heap.size≤b→za2 (zdu b) (.slice (some ⟨g,o,none⟩) l.length cap):=fun b A g' o' n' c' e d=>by
  cases e;have:g=b:=d;omega
 have aR:=zb Q;have T:=zV (w.heap.size+1+1) 0 (.slice (some ⟨g,o,none⟩) l.length cap) l W hD.rd (I.out.mod hD.mod (za2.no _)) (Q _ (by omega)) (Nat.zero_le _);clear hD Q P k0 k1 k2 k3 o1 o2 o3 t2 t3 t4 y0 y1 y2 b0 b1 b2 b3;go_wp2_with fail;rw[HW.out];have hk:∀tmps r W' at_ num fv,tmps.getD 2 undef = .pointer (some ⟨w.heap.size,0,none⟩)→tmps.getD 3 undef = .pointer (some ⟨w.heap.size+1,0,none⟩)→Mod NoB w W'→zlO W' w.heap.size num fv→zoX W' (w.heap.size+1) .nilIface→zqe W' (w.heap.size+1+1+1) at_→r = .bad at_ →
   bodyPostD prog f74 (zal w r) (Exit.panic [{ v:=.iface 230 (.agg #[]),recovered:=false }]) { tmps:=tmps,defers:=[{ target:=.fn (.func 126) #[.pointer (some ⟨w.heap.size+1+1+1,0,none⟩),.pointer (some ⟨w.heap.size,0,none⟩),.pointer (some ⟨w.heap.size+1,0,none⟩)],args:=#[] }] } W' :=
  fun tmps r W' at_ num fv e2 e3 hm hp z ha hr=>zkS r w W' tmps _ _ _ at_ _ fv _ e2 e3 hm hp z (za ha rfl) (by omega) (Nat.le_refl _) (by omega) hr
 have Hk:=zb hk;clear hk HW;cases hr0:zas l 0 with
 | none =>
  rw[hr0]at T;have U:Hid (zaE l = .bad 0):=by show _=_;unfold zaE;rw[hr0]
  clear hr0;refine T.mono ?_;rintro e w1 (⟨_,_,d,_⟩|⟨_,z,hm⟩)
  ·cases d
  unfold zaf at z;subst z;have am:Mod (zdu (w.heap.size+1+1)) W w1:=hm;exact Hk.out _ _ w1 0 0 _ rfl rfl (HD.out.mod.then am (fun i hi=>.inr (by cases hi;omega))) (am.obj (by show ¬w.heap.size=w.heap.size+1+1;omega) HD.out.pk) (am.obj (by show ¬w.heap.size+1=w.heap.size+1+1;omega) HD.out.er) (am.obj (by show ¬w.heap.size+1+1+1=w.heap.size+1+1;omega) HD.out.at_) U.out
 | some q0 =>
  obtain⟨num,p0⟩:=q0;rw[hr0]at T;obtain⟨u1,u2,u3⟩:=zT hr0;have ay:=zb hr0;clear hr0;refine T.mono ?_;rintro e w1 (⟨_,_,d,rfl,aS,m1⟩|⟨d,_⟩);rotate_left
  ·cases d
  simp only[Option.map_some,Option.some.injEq,Prod.mk.injEq]at d;obtain⟨rfl,rfl⟩:=d;have t:zlO w1 w.heap.size 0 (.slice none 0 0):=m1.obj (by show ¬w.heap.size=w.heap.size+1+1;omega) HD.out.pk;have bp:w1.cell? ⟨w.heap.size,0,none⟩=some (.int .u64 0):=za t rfl;have fp:w1.frozen? ⟨w.heap.size,0,none⟩=false:=zf t;obtain⟨X,hX⟩:=nm (w1.setCell ⟨w.heap.size,0,none⟩ (.int .u64 (num:Int)));have mX:Mod (fun k=>k=w.heap.size) w1 X:=by rw[←hX];exact(Mod.refl (fun k=>k=w.heap.size) w1).setCell (p:=⟨w.heap.size,0,none⟩) (.inl rfl) _
  have pX:zlO X w.heap.size num (.slice none 0 0):=by
   unfold zlO;rw[←hX,zc t];simp
  have rX:zcF X (w.heap.size+1+1) (.slice (some ⟨g,o,none⟩) l.length cap) p0:=aS.mod mX (by show ¬w.heap.size+1+1=w.heap.size;omega);have eX:zoX X (w.heap.size+1) .nilIface:=mX.obj (by show ¬w.heap.size+1=w.heap.size;omega) (m1.obj (by show ¬w.heap.size+1=w.heap.size+1+1;omega) HD.out.er);have aX:zqe X (w.heap.size+1+1+1) 0:=mX.obj (by show ¬w.heap.size+1+1+1=w.heap.size;omega) (m1.obj (by show ¬w.heap.size+1+1+1=w.heap.size+1+1;omega) HD.out.at_);have aT:Mod NoB w X:=(HD.out.mod.then m1 (fun i hi=>.inr (by cases hi;omega))).then mX (fun i hi=>.inr (by cases hi;omega));have bq:=rX.c1;have az:=zb pX;have aU:=zb rX;have aA:=zb eX;have aB:=zb aX;have aC:=zb aT;clear t mX pX rX eX aX aT aS m1 T;by_cases B:p0=l.length
  ·have U:Hid (zaE l = .bad 0):=by show _=_;unfold zaE;rw[ay.out];simp only[if_pos B]
   have e1:(p0==l.length)=true:=by simp[B]
   have bt:((p0:Int)==(l.length:Int))=true:=by simp[B]
   clear B;go_wp2_with (go_at_call 128;refine(zbY _ _).mono ?_;rintro e w' ⟨z,rfl⟩;unfold zaf at z;subst z);exact Hk.out _ _ X 0 num _ rfl rfl aC.out az.out aA.out aB.out U.out
  ·have e1:(p0==l.length)=false:=by simpa using B
   have bt:((p0:Int)==(l.length:Int))=false:=by rw[beq_eq_false_iff_ne];omega
   obtain⟨R,V⟩:=nm (zc8 l (l.length+1) num p0 []);have U:Hid (zaE l=R):=by show _=_;unfold zaE;rw[ay.out];simp only[if_neg B];exact V
   have aV:=U;have HA:Hid (zqP w X (.slice (some ⟨g,o,none⟩) l.length cap) l num R):=⟨l.length+1,p0,.slice none 0 0,[],0,aU.out,az.out,aA.out,aB.out,⟨World.ownsRow_nil X 0 _ 10,fun x d=>by cases d⟩,(fun g hg=>by cases hg),(fun x d=>by cases d),u2,by omega,Nat.zero_le _,aC.out,V⟩;clear V U ay B az aU aA aB aC;go_wp2_with fail
   go_loopw [8,9,10,11,12] (fun _ _ _ _ _ wr=>zqP w wr (.slice (some ⟨g,o,none⟩) l.length cap) l num R) (fun _ _ _ _ _ wr=>l.length-zhg wr (w.heap.size+1+1))
   case atStart=>exact HA.out
   case round =>
    obtain⟨fuel,pos,fv,q,at_,Y,t,aa,C,an,aD,aE,bK,hfu,hrl,hm,V⟩:=hrel;obtain⟨fuel,rfl⟩:∃f,fuel=f+1:=⟨fuel-1,by omega⟩;unfold zc8 at V;have bq:=Y.c1;have ao:=zb Y;have ap:=zb t;have ab:=zb aa;have aW:=zb C;have L:=zb an;have aY:=zb aD;have aZ:=zb aE;have Hm:=zb hm;have hsz:=hm.size;have hws:w.heap.size+1+1+1<wr.heap.size:=(Array.getElem?_eq_some_iff.1 C).1;by_cases ac:pos<l.length
    ·rw[if_pos ac]at V;have U:=zb V;have ca:wr.cell? ⟨w.heap.size+1+1+1,0,none⟩=some (.int .i64 (at_:Int)):=za C rfl;have fzA:wr.frozen? ⟨w.heap.size+1+1+1,0,none⟩=false:=zf C;obtain⟨W1,aF⟩:=nm (wr.setCell ⟨w.heap.size+1+1+1,0,none⟩ (.int .i64 (pos:Int)));have m1:Mod (RA w) wr W1:=by rw[←aF];exact(Mod.refl (RA w) wr).setCell (p:=⟨w.heap.size+1+1+1,0,none⟩) (.inl (.inr rfl)) _
     have a0:Mod (zdu (w.heap.size+1+1+1)) wr W1:=by rw[←aF];exact(Mod.refl (zdu (w.heap.size+1+1+1)) wr).setCell (p:=⟨w.heap.size+1+1+1,0,none⟩) (.inl rfl) _
     have a1:zqe W1 (w.heap.size+1+1+1) pos:=by
      unfold zqe;rw[←aF,zc C];simp
     have r1:=Y.mod a0 (by show ¬w.heap.size+1+1=w.heap.size+1+1+1;omega);have a3:Mod NoB w W1:=hm.then m1 (fun i hi=>.inr (by rcases hi with rfl|rfl<;>omega));have aG:=zgr (w.heap.size+1+1) 1 pos 1 rfl (.slice (some ⟨g,o,none⟩) l.length cap) l W1 r1 (I.out.mod a3 (za2.no _)) (aR.out _ (by omega)) (by omega);obtain⟨tb,aH⟩:∃c,l[pos]?=some c:=⟨l[pos],List.getElem?_eq_getElem ac⟩;have a4:(l.drop pos).take 1=[tb]:=by
      rw[List.take_one,List.head?_drop,aH];rfl
     rw[a4]at aG;have aq:=zb aH;have M1:=zb m1;have A1:=zb a1;have sW1:=m1.size;have cr2:=r1.c1;have ad:za8 l pos=none→∀tmps W',tmps.getD 2 undef = .pointer (some ⟨w.heap.size,0,none⟩)→tmps.getD 3 undef = .pointer (some ⟨w.heap.size+1,0,none⟩)→Mod (RA w) wr W'→Mod (zdu (w.heap.size+1+1)) W1 W' →
       bodyPostD prog f74 (zal w (zaE l)) (Exit.panic [{ v:=.iface 230 (.agg #[]),recovered:=false }]) { tmps:=tmps,defers:=[{ target:=.fn (.func 126) #[.pointer (some ⟨w.heap.size+1+1+1,0,none⟩),.pointer (some ⟨w.heap.size,0,none⟩),.pointer (some ⟨w.heap.size+1,0,none⟩)],args:=#[] }] } W':=by
      intro u tmps W' e2 e3 mA mB;refine Hk.out tmps (zaE l) W' pos num fv e2 e3 (Hm.out.then mA (fun i hi=>.inr (by rcases hi with rfl|rfl<;>omega))) (mA.obj (fun d=>by rcases d with d|d<;>omega) ap.out) (mA.obj (fun d=>by rcases d with d|d<;>omega) ab.out) (mB.obj (fun d=>by have:w.heap.size+1+1+1=w.heap.size+1+1:=d;omega) A1.out) ?_;have:=U.out;rw[u]at this;rw[aV.out];exact this.symm
     have D:=zb ad;clear V Y t aa C an aD aE hm m1 a0 a1 r1 a3 aH a4 ad;go_wp2_with fail;refine aG.mono ?_;rintro e w2 ⟨sv,rfl,bu,a5,m2⟩;obtain⟨a2,c2,rfl,_,_,a6⟩:=bu;obtain⟨g2,o2,rfl,ct⟩:=a6 0 tb rfl;simp only[Nat.add_zero]at ct;have M2:Hid (Mod (RA w) wr w2):=M1.out.then m2 (fun i hi=>.inl (.inl hi));have N2:=zb m2;have H2:=zb a5;have s2:=m2.size;clear a6 aG a5 m2;cases hkd:zbe tb with
     | none =>
      have u:Hid (za8 l pos=none):=by
       show _=_;unfold za8;rw[aq.out];simp only[hkd,Option.bind_none]
      have ar:=fun w=>zlY tb w hkd
      clear hkd;go_wp2_with (first|(go_at_call 130;refine(ar _).mono ?_;rintro e w' ⟨rfl,rfl⟩)|(go_at_call 128;refine(zbY _ _).mono ?_;rintro e w' ⟨z,rfl⟩;unfold zaf at z;subst z));show bodyPostD prog f74 (zal w (zaE l)) (Exit.panic _) _ _;exact D.out u.out _ w2 (by rfl) (by rfl) M2.out N2.out
     | some k =>
      have ar:=fun w=>zlZ tb k w hkd
      have au:=zb hkd;have a7:((tb.toNat:Int)==9)=decide (tb=9):=by
       rw[Bool.eq_iff_iff,beq_iff_eq,decide_eq_true_eq];constructor
       ·intro h;exact UInt8.toNat_inj.1 (by show _=9;omega)
       ·rintro rfl;rfl
      obtain⟨b9,ae⟩:=nm (decide (tb=9));rw[ae]at a7;have aI:=zb ae;obtain⟨W3,af⟩:=nm (w2.alloc (.cells #[.int .i64 k,.int .i64 0,.int .u64 0,.int .u64 0,.int .u64 0,.bool b9,.int .u64 0,.int .u64 0,.string ⟨#[]⟩,.slice none 0 0] 65));have m3:Mod NoB w2 W3:=by rw[←af];exact(Mod.refl _ _).alloc _
      have f3:zh W3 w2.heap.size (f0 k b9) (.slice none 0 0):=by rw[←af];exact heap_alloc_new w2 _
      have aw:=zkP tb k hkd b9 l (.slice (some ⟨g,o,none⟩) l.length cap) W3;have M3:=zb m3;have F3:=zb f3;have z3':W3.heap.size=w2.heap.size+1:=by rw[←af];simp
      have bv:=zb af;clear hkd ae m3 f3 af;go_wp2_with (go_at_call 130;refine(ar _).mono ?_;rintro e w' ⟨rfl,rfl⟩);rw[bv.out];refine aw.mono ?_;rintro e w4 ⟨cb,wv,F,a8,G,rfl,aJ,gF,gG,m4,hcb,ah,J⟩;have s3:=M3.out.size;have bw:=aJ.2.1;have N4:Hid (Mod (zdu (w.heap.size+1+1)) W1 w4):=(N2.out.then M3.out (fun i hi=>hi.elim)).then m4 (fun i hi=>hi.elim);have M4:Hid (Mod (RA w) wr w4):=(M2.out.then M3.out (fun i hi=>hi.elim)).then m4 (fun i hi=>hi.elim);have F4:=F3.out.mod m4 (fun x=>x);have R4:zcF w4 (w.heap.size+1+1) (.slice (some ⟨g,o,none⟩) l.length cap) (pos+1):=(H2.out.mod M3.out (fun x=>x)).mod m4 (fun x=>x);have a9:Mod NoB w w4:=Hm.out.then M4.out (fun i hi=>.inr (by rcases hi with rfl|rfl<;>omega));have ax:=ah (w.heap.size+1+1) w2.heap.size (pos+1) R4 (I.out.mod a9 (za2.no _)) (fun g' o' n' c' e d=>by cases e;rcases d with d|d<;>omega) (by omega) (by omega) F4 (by omega);have bz:=zb aJ;have bA:=zb J;have bB:=zb gG;have bC:∀args w,(callFunc F args).run prog w = .ok (.enter F args) w:=gF;have s4:=m4.size;clear aw aJ m4 ah J gF gG F4 R4 a9 ar a7;go_wp2_with fail;refine ax.mono ?_;rintro e w5 (⟨f,rv,p,E,rfl,h5,av,aK,ai,m5⟩|⟨E,z,m5⟩)
      ·have M5:Hid (Mod (RA w) wr w5):=M4.out.then m5 (fun i hi=>by
        rcases hi with hi|hi
        ·exact .inl (.inl hi)
        ·exact .inr (by omega))
       have N5:Hid (Mod (zdu (w.heap.size+1+1)) W1 w5):=N4.out.then m5 (fun i hi=>by
        rcases hi with hi|hi
        ·exact .inl hi
        ·have:=N2.out.size;exact .inr (by omega))
       obtain⟨d1,d2,d3,d4,d5⟩:=zeP au.out (by omega) E;have ba:zbM w5 cb wv (.func (.func F) #[] a8) (.func (.func G) #[] #[]):=bz.out.mod m5 (by rintro(hi|hi)<;>omega);have M:=zg8 w2.heap.size cb f rv wv _ G (zK f) w5 av ba bB.out (fun w' m hq=>bA.out w' w2.heap.size f rv (av.mod m (fun x=>x)) (aK.rr.mod m (za2.no _)) d1 (by omega) (by omega) hq);rw[show(zaC f&&zbB f&&zK f)=zS f from rfl]at M;have bD:=zb av;have bE:=zb aK;have bF:=zb ai;have H5:=zb h5;have s5:=m5.size;clear ax ba av aK ai h5 m5 bC bw d1;cases hsf:zS f with
       | false =>
        rw[hsf]at M;have u:Hid (za8 l pos=none):=by
         show _=_;unfold za8;rw[aq.out];simp only[au.out,Option.bind_some,aI.out,E,hsf];rfl
        clear E hsf;go_wp2_with (first|(go_at_call 132;refine M.mono ?_;rintro e H ⟨rfl,m6⟩;have M6:=zb m6;clear m6)|(go_at_call 128;refine(zbY _ _).mono ?_;rintro e w' ⟨z,rfl⟩;unfold zaf at z;subst z));show bodyPostD prog f74 (zal w (zaE l)) (Exit.panic _) _ _;exact D.out u.out _ H (by rfl) (by rfl) (M5.out.then M6.out (fun i hi=>hi.elim)) (N5.out.then M6.out (fun i hi=>hi.elim))
       | true =>
        rw[hsf]at M;have u:Hid (za8 l pos=some (f,p)):=by
         show _=_;unfold za8;rw[aq.out];simp only[au.out,Option.bind_some,aI.out,E,hsf];rfl
        clear E hsf;go_wp2_with fail;refine M.mono ?_;rintro e H ⟨rfl,m6⟩;have M6:Hid (Mod (RA w) wr H):=M5.out.then m6 (fun i hi=>hi.elim);have bb:Hid (Mod NoB w5 H):=m6;have N6:Hid (Mod (zdu (w.heap.size+1+1)) W1 H):=N5.out.then m6 (fun i hi=>hi.elim);have f6:=bD.out.mod m6 (fun x=>x);have o6:=bE.out.mod m6 (fun _ _ x=>x);have p6:zlO H w.heap.size num fv:=M6.out.obj (fun d=>by rcases d with d|d<;>omega) ap.out;have aj:zis H fv q:=L.out.mod M6.out (fun i hi=>.inr (by
         rcases hi with rfl|rfl
         ·exact⟨_,_,_,ao.out,by decide,by decide⟩
         ·exact⟨_,_,_,aW.out,by decide,by decide⟩))
        obtain⟨ra,rc,rfl,_⟩:=zi o6.1;obtain⟨k0,k1,k2,k3,k4,k5,k6,k7,k8,k9⟩:=f6.cells;obtain⟨v7,W7,bc,ak,be,bf⟩:=zjX H fv q f ra f.rngs.length rc aj.1 (by omega);obtain⟨y,fc,rfl,_⟩:=zi aj.1;have cp6:H.cell? ⟨w.heap.size,1,none⟩=some (.slice y q.length fc):=za p6 rfl;obtain⟨W8,bh⟩:=nm (W7.setCell ⟨w.heap.size,1,none⟩ v7);have m7:Mod (fun k=>(Value.slice y q.length fc).ownBlock=some k) H W7:=(Mod.refl _ _).grown be (fun k hk=>.inl hk);have p7:zlO W7 w.heap.size num (.slice y q.length fc):=m7.obj (fun d=>zar aj.1 p6 (by decide) d) p6;have cp7:W7.cell? ⟨w.heap.size,1,none⟩=some (.slice y q.length fc):=za p7 rfl;have fp7:W7.frozen? ⟨w.heap.size,1,none⟩=false:=zf p7;obtain⟨va,vc,rfl,_⟩:=zi ak;have aL:=zb o6;have aM:=zb p7;have K:=zb aj;have N:=zb m7;have al:=zb ak;have bi:=zb bf;have HF6:=zb f6;clear M m6 f6 o6 p6 aj p7 m7 ak bf be;unfold zj at bc;go_wp2_with (at_builtin;refine zl rfl _ _ _ _ rfl _ _ _ rfl rfl bc ?_);have m8:Mod (fun k=>k=w.heap.size) W7 W8:=by rw[←bh];exact(Mod.refl (fun k=>k=w.heap.size) W7).setCell (p:=⟨w.heap.size,1,none⟩) (.inl rfl) _
        have aN:zqP w W8 (.slice (some ⟨g,o,none⟩) l.length cap) l num R:=by
         have bj:∀i,(Value.slice y q.length fc).ownBlock=some i→w.heap.size≤i:=fun i hi=>aY.out i hi
         have q1:¬(Value.slice y q.length fc).ownBlock=some (w.heap.size+1+1):=fun d=>zar L.out.1 ao.out (by decide) d
         have q2:¬(Value.slice y q.length fc).ownBlock=some (w.heap.size+1):=fun d=>zar L.out.1 ab.out (by decide) d
         have q3:¬(Value.slice y q.length fc).ownBlock=some (w.heap.size+1+1+1):=fun d=>zar L.out.1 aW.out (by decide) d
         have bG:zoX H (w.heap.size+1) .nilIface:=M6.out.obj (fun d=>by rcases d with d|d<;>omega) ab.out;have bH:zqe H (w.heap.size+1+1+1) pos:=N6.out.obj (fun d=>by have:w.heap.size+1+1+1=w.heap.size+1+1:=d;omega) A1.out;have rd6:zcF H (w.heap.size+1+1) (.slice (some ⟨g,o,none⟩) l.length cap) p:=H5.out.mod (Mod.refl NoB w5) (fun x=>x) |>.mod (S:=NoB) bb.out (fun x=>x);refine⟨fuel,p,.slice va (q.length+1) vc,q++[(f,.slice ra f.rngs.length rc)],pos,?_,?_,?_,?_,⟨?_,?_⟩,?_,?_,d3,by omega,?_,?_,?_⟩
         ·exact(rd6.mod N.out q1).mod m8 (by show ¬w.heap.size+1+1=w.heap.size;omega)
         ·unfold zlO;rw[←bh,zc aM.out];simp
         ·exact m8.obj (by show ¬w.heap.size+1=w.heap.size;omega) (N.out.obj q2 bG)
         ·exact m8.obj (by show ¬w.heap.size+1+1+1=w.heap.size;omega) (N.out.obj q3 bH)
         ·have:=m8.owns al.out (fun i hi d=>zar al.out aM.out (by decide) (by rw[hi,d]));simpa using this
         ·intro x d;have bk:zgs H x.2 x.1.rngs∧∀i,x.2.ownBlock=some i→¬(Value.slice y q.length fc).ownBlock=some i:=by
           rcases List.mem_append.1 d with h1|h1
           ·refine⟨K.out.2 x h1,fun i hi hj=>?_⟩;exact zhk K.out.1 (K.out.2 x h1).1 (by decide) hj hi
           ·simp only[List.mem_singleton]at h1;subst h1;exact⟨aL.out,fun i hi hj=>zhk K.out.1 aL.out.1 (by decide) hj hi⟩
          have h7:=bk.1.mod N.out bk.2;exact h7.mod m8 (fun i hi hj=>zar h7.1 aM.out (by decide) (by rw[hi];exact congrArg some hj))
         ·intro i hi;rcases bi.out i hi with h1|h1
          ·exact bj i h1
          ·have:=M6.out.size;omega
         ·intro x d i hi;rcases List.mem_append.1 d with h1|h1
          ·exact aZ.out x h1 i hi
          ·simp only[List.mem_singleton]at h1;subst h1;have:=zl8 aL.out.1 bF.out i hi;omega
         ·simp only[List.length_append,List.length_cons,List.length_nil];omega
         ·exact((Hm.out.then M6.out (fun i hi=>.inr (by rcases hi with rfl|rfl<;>omega))).then N.out (fun i hi=>.inr (bj i hi))).then m8 (fun i hi=>.inr (by cases hi;omega))
         ·have:=U.out;rw[u.out]at this;simpa using this
        have HP:Hid (zhg W8 (w.heap.size+1+1)=p∧zhg wr (w.heap.size+1+1)=pos):=by
         obtain⟨_,p',_,_,_,hr8,_,_,_,_,_,_,_,_,_,_,_⟩:=id aN;refine⟨?_,zeA ao.out⟩;have rd6:zcF H (w.heap.size+1+1) (.slice (some ⟨g,o,none⟩) l.length cap) p:=H5.out.mod (S:=NoB) bb.out (fun x=>x);have q1:¬(Value.slice y q.length fc).ownBlock=some (w.heap.size+1+1):=fun d=>zar L.out.1 ao.out (by decide) d
         exact zeA ((rd6.mod N.out q1).mod m8 (by show ¬w.heap.size+1+1=w.heap.size;omega))
        have bm:=zb aN;have bI:=zb ac;clear aN m8 ac;go_roundw
        case rel=>exact bm.out
        case measure =>
         have:=bI.out;rw[HP.out.1,HP.out.2];omega
      ·have N5:Hid (Mod (zdu (w.heap.size+1+1)) W1 w5):=N4.out.then m5 (fun i hi=>by
        rcases hi with hi|hi
        ·exact .inl hi
        ·have:=N2.out.size;exact .inr (by omega))
       have M5:Hid (Mod (RA w) wr w5):=M4.out.then m5 (fun i hi=>by
        rcases hi with hi|hi
        ·exact .inl (.inl hi)
        ·exact .inr (by omega))
       have u:Hid (za8 l pos=none):=by
        show _=_;unfold za8;rw[aq.out];simp only[au.out,Option.bind_some,aI.out,E,Option.bind_none]
       unfold zaf at z;subst z;show bodyPostD prog f74 (zal w (zaE l)) (Exit.panic _) _ _;exact D.out u.out _ w5 (by rfl) (by rfl) M5.out N5.out
    ·rw[if_neg ac]at V;have U:Hid (zaE l = .ok num (q.map (·.1))):=by show _=_;rw[aV.out];exact V.symm
     have bp:wr.cell? ⟨w.heap.size,0,none⟩=some (.int .u64 (num:Int)):=za t rfl;have ce0:wr.cell? ⟨w.heap.size+1,0,none⟩=some .nilIface:=za aa rfl;obtain⟨y,fc,rfl,_⟩:=zi an.1;have cp1:wr.cell? ⟨w.heap.size,1,none⟩=some (.slice y q.length fc):=za t rfl;have f0':∀j,wr.frozen? ⟨w.heap.size,j,none⟩=false:=fun j=>zf t
     have f1':∀j,wr.frozen? ⟨w.heap.size+1,j,none⟩=false:=fun j=>zf aa
     clear V Y t aa C an aD aE hm;go_wp2_with fail;obtain⟨Z,hZ⟩:=nm (((wr.setCell ⟨w.heap.size,0,none⟩ (.int .u64 (num:Int))).setCell ⟨w.heap.size,1,none⟩ (.slice y q.length fc)).setCell ⟨w.heap.size+1,0,none⟩ .nilIface);rw[hZ];have mZ:Mod (fun k=>k=w.heap.size∨k=w.heap.size+1) wr Z:=by
      rw[←hZ];exact(((Mod.refl (fun k=>k=w.heap.size∨k=w.heap.size+1) wr).setCell (p:=⟨w.heap.size,0,none⟩) (.inl (.inl rfl)) _).setCell (p:=⟨w.heap.size,1,none⟩) (.inl (.inl rfl)) _).setCell (p:=⟨w.heap.size+1,0,none⟩) (.inl (.inr rfl)) _
     have o1:=zc (i:=1) (v:=.slice y q.length fc) (zc (i:=0) (v:=.int .u64 (num:Int)) ap.out);have pZ:zlO Z w.heap.size num (.slice y q.length fc):=by
      unfold zlO;rw[←hZ];exact(((Mod.refl (fun k=>k=w.heap.size+1) _).setCell (p:=⟨w.heap.size+1,0,none⟩) (.inl rfl) _).obj (by show ¬w.heap.size=w.heap.size+1;omega) o1).trans (by simp)
     have eZ:zoX Z (w.heap.size+1) .nilIface:=by
      unfold zoX;rw[←hZ];have e1:=(((Mod.refl (fun k=>k=w.heap.size) wr).setCell (p:=⟨w.heap.size,0,none⟩) (.inl rfl) (.int .u64 (num:Int))).setCell (p:=⟨w.heap.size,1,none⟩) (.inl rfl) (.slice y q.length fc)).obj (by show ¬w.heap.size+1=w.heap.size;omega) ab.out;exact(zc (i:=0) e1).trans (by simp)
     refine zqO (zaE l) w Z _ w.heap.size (w.heap.size+1) num _ _ _ (.slice y q.length fc) q (by rfl) (by rfl) (Hm.out.then mZ (fun i hi=>.inr (by rcases hi with rfl|rfl<;>omega))) pZ eZ ?_ aY.out aZ.out U.out;exact L.out.mod mZ (fun i hi=>.inr (by
      rcases hi with rfl|rfl
      ·exact⟨_,_,_,ap.out,by decide,by decide⟩
      ·exact⟨_,_,_,ab.out,by decide,by decide⟩))
theorem zcn(v:Value)(bs:List UInt8)(w:World)(hb:BR w v bs)(b:Tab w)(hl:bs.length<1099511627776):Calls prog 74 #[v] w (zal w (dec bs)):=by
 unfold dec;by_cases h4:bs.length<4
 ·rw[if_pos h4];exact zl6 v bs w hb h4
 ·rw[if_neg h4];obtain⟨n,c⟩:∃n,bs.length=n+4:=⟨bs.length-4,by omega⟩;rw[show bs.length-4=n by omega];by_cases a:be4 bs n=crc (bs.take n)
  ·rw[if_pos a];exact zoY v bs n w hb b c a (by omega)
  ·rw[if_neg a];exact zqN v bs n w hb b c a
end Go.Proofs.YtddfdpbaiedcjaaGreatDoor
namespace Go.Proofs.YtddfdpbaiedcjaaGreatDoor
open Go.RowKit Go.Proofs.Tryz Go.Extern.Stop Go.Stop Go.Extern
theorem zfV(t:Addr)(w:World):(ReflectliteValue.unpack (.iface 164 (.pointer (some t)))).run prog w
  = .ok (.agg #[.pointer (some ⟨2,164,none⟩),.pointer (some ⟨w.heap.size,0,none⟩),.int .u64 150]) (w.alloc (.cells #[.pointer (some t)] 164)):=by kernel_rfl
theorem zl9 (a : Addr) (w : World) : (ReflectliteValue.methodAny (ReflectliteValue.valueError "reflectlite.Value.Type" 0) (fun t _ _ _ => ReflectliteType.toType t) #[.agg #[.pointer (some ⟨2, 164, none⟩), .pointer (some a), .int .u64 150]]).run prog w
  = .ok (.iface 286 (.agg #[.pointer (some ⟨2,164,none⟩)])) w:=by kernel_rfl
theorem zma(w:World):((ReflectliteType.abiMethod fun t=>(fun a:Nat=>Value.int IntKind.u8 (a:Int)) <$> Rtype.kind t) #[.pointer (some ⟨2,164,none⟩)]).run prog w = .ok (.int .u8 22) w:=by kernel_rfl
theorem zjY(w:World):((ReflectliteType.abiMethod fun t=>(fun a:Nat=>Value.int IntKind.u8 (a:Int)) <$> Rtype.kind t) #[.pointer (some ⟨2,162,none⟩)]).run prog w = .ok (.int .u8 22) w:=by kernel_rfl
theorem zjZ(a:Addr)(w:World):(ReflectliteValue.parts (.agg #[.pointer (some ⟨2,164,none⟩),.pointer (some a),.int .u64 150])).run prog w = .ok (some (164,a,150)) w:=by kernel_rfl
theorem zmb(w:World):(ReflectliteType.method ReflectliteType.elem #[.agg #[.pointer (some ⟨2,164,none⟩)]]).run prog w = .ok (.iface 286 (.agg #[.pointer (some ⟨2,162,none⟩)])) w:=by kernel_rfl
theorem zmc (w : World) : (ReflectliteType.relation "Implements" ReflectliteType.implements_ #[.agg #[.pointer (some ⟨2, 162, none⟩)], .iface 286 (.agg #[.pointer (some ⟨2, 98, none⟩)])]).run prog w = .ok (.bool true) w := by kernel_rfl
theorem zmd(w:World):(Rtype.elem? 164).run prog w = .ok (some 162) w:=by kernel_rfl
theorem zkT(t:Addr)(w:World):(ReflectliteValue.unpack (.iface 168 (.pointer (some t)))).run prog w
  = .ok (.agg #[.pointer (some ⟨2,168,none⟩),.pointer (some ⟨w.heap.size,0,none⟩),.int .u64 150]) (w.alloc (.cells #[.pointer (some t)] 168)):=by kernel_rfl
theorem zqQ (a : Addr) (w : World) : (ReflectliteValue.methodAny (ReflectliteValue.valueError "reflectlite.Value.Type" 0) (fun t _ _ _ => ReflectliteType.toType t) #[.agg #[.pointer (some ⟨2, 168, none⟩), .pointer (some a), .int .u64 150]]).run prog w
  = .ok (.iface 286 (.agg #[.pointer (some ⟨2,168,none⟩)])) w:=by kernel_rfl
theorem zqR(w:World):((ReflectliteType.abiMethod fun t=>(fun a:Nat=>Value.int IntKind.u8 (a:Int)) <$> Rtype.kind t) #[.pointer (some ⟨2,168,none⟩)]).run prog w = .ok (.int .u8 22) w:=by kernel_rfl
theorem zoZ(w:World):((ReflectliteType.abiMethod fun t=>(fun a:Nat=>Value.int IntKind.u8 (a:Int)) <$> Rtype.kind t) #[.pointer (some ⟨2,57,none⟩)]).run prog w = .ok (.int .u8 2) w:=by kernel_rfl
theorem zj0(a:Addr)(w:World):(ReflectliteValue.parts (.agg #[.pointer (some ⟨2,168,none⟩),.pointer (some a),.int .u64 150])).run prog w = .ok (some (168,a,150)) w:=by kernel_rfl
theorem zqS(w:World):(ReflectliteType.method ReflectliteType.elem #[.agg #[.pointer (some ⟨2,168,none⟩)]]).run prog w = .ok (.iface 286 (.agg #[.pointer (some ⟨2,57,none⟩)])) w:=by kernel_rfl
theorem zqT (w : World) : (ReflectliteType.relation "Implements" ReflectliteType.implements_ #[.agg #[.pointer (some ⟨2, 57, none⟩)], .iface 286 (.agg #[.pointer (some ⟨2, 98, none⟩)])]).run prog w = .ok (.bool true) w := by kernel_rfl
theorem zme(w:World):(Rtype.elem? 168).run prog w = .ok (some 57) w:=by kernel_rfl
theorem zmf (h : Value) (w : World) : (Go.method 451 286 (.agg #[h]) "Kind").run prog w = .ok (234, h) w := by kernel_rfl
theorem zmg (h : Value) (w : World) : (Go.method 451 286 (.agg #[h]) "Elem").run prog w = .ok (252, .agg #[h]) w := by kernel_rfl
theorem zmh (h : Value) (w : World) : (Go.method 451 286 (.agg #[h]) "Implements").run prog w = .ok (253, .agg #[h]) w := by kernel_rfl
theorem zqU (h : Value) (w : World) : (Go.method 451 286 (.agg #[h]) "AssignableTo").run prog w = .ok (250, .agg #[h]) w := by kernel_rfl
theorem m_cmp (h : Value) (w : World) : (Go.method 451 286 (.agg #[h]) "Comparable").run prog w = .ok (251, .agg #[h]) w := by kernel_rfl
theorem zo0(v:Value)(w:World):(ReflectliteType.typeOf #[.iface 162 v]).run prog w = .ok (.iface 286 (.agg #[.pointer (some ⟨2,162,none⟩)])) w:=by kernel_rfl
theorem zeB(v:Value)(w:World):(ReflectliteType.typeOf #[.iface 57 v]).run prog w = .ok (.iface 286 (.agg #[.pointer (some ⟨2,57,none⟩)])) w:=by kernel_rfl
theorem asg_FF (w : World) : (ReflectliteType.relation "AssignableTo" ReflectliteType.assignableTo #[.agg #[.pointer (some ⟨2, 162, none⟩)], .iface 286 (.agg #[.pointer (some ⟨2, 162, none⟩)])]).run prog w = .ok (.bool true) w := by kernel_rfl
theorem asg_EF (w : World) : (ReflectliteType.relation "AssignableTo" ReflectliteType.assignableTo #[.agg #[.pointer (some ⟨2, 57, none⟩)], .iface 286 (.agg #[.pointer (some ⟨2, 162, none⟩)])]).run prog w = .ok (.bool false) w := by kernel_rfl
theorem asg_EE (w : World) : (ReflectliteType.relation "AssignableTo" ReflectliteType.assignableTo #[.agg #[.pointer (some ⟨2, 57, none⟩)], .iface 286 (.agg #[.pointer (some ⟨2, 57, none⟩)])]).run prog w = .ok (.bool true) w := by kernel_rfl
theorem zmi(e:Addr)(w:World):(ReflectliteValue.unpack (.iface 162 (.pointer (some e)))).run prog w
  = .ok (.agg #[.pointer (some ⟨2,162,none⟩),.pointer (some ⟨w.heap.size,0,none⟩),.int .u64 150]) (w.alloc (.cells #[.pointer (some e)] 162)):=by kernel_rfl
theorem zmj(n:Int)(w:World):(ReflectliteValue.unpack (.iface 57 (.int .i64 n))).run prog w
  = .ok (.agg #[.pointer (some ⟨2,57,none⟩),.pointer (some ⟨w.heap.size,0,none⟩),.int .u64 130]) (w.alloc (.cells #[.int .i64 n] 57)):=by kernel_rfl
theorem rlm(z:Sem Value)(f:TypeId→Addr→Nat→Nat→Sem Value)(v:Value):ReflectliteValue.method z f #[v]=(do match ←ReflectliteValue.parts v with|none=>z|some (t,a,fl)=>f t a fl (fl % 32)):=rfl
theorem rls(v x:Value):ReflectliteValue.set #[v,x]=(do
  let (some (dst,a,fl),some (src,b,_)):=(←ReflectliteValue.parts v,←ReflectliteValue.parts x)
   | unsupported (.noEntry "extern/(internal/reflectlite.Value).Set.zeroValue")
  if fl / ReflectliteValue.flagAddr % 2 == 0 then unsupported (.noEntry "extern/(internal/reflectlite.Value).Set.unaddressable")
  let val ←loadVar src b
  if ←Rtype.directlyAssignable dst src then storeVar dst a val
  else if ←Rtype.implements dst src then
   if (←Rtype.kind src)==20 then
    match val with
    | .nilIface => unsupported (.noEntry "extern/reflectlite: a nil value of one interface type handed on as a value of another")
    | _=>storeVar dst a val
   else storeVar dst a (.iface src val)
  else panicString ("reflectlite.Set: value of type " ++ (← Rtype.spelt src) ++ " is not assignable to type " ++ (← Rtype.spelt dst))
  pure (.tuple #[])):=rfl
theorem zj1(a p:Addr)(W:World)(ha:W.cell? a=some (.pointer (some p))):(ReflectliteValue.method (ReflectliteValue.valueError "reflectlite.Value.IsNil" 0) ReflectliteValue.isNil #[.agg #[.pointer (some ⟨2, 164, none⟩), .pointer (some a), .int .u64 150]]).run prog W = .ok (.bool false) W := by
 rw[rlm];simp only[Sem.run_bind,zjZ,Result.andThen];simp[ReflectliteValue.isNil,loadVar,isAgg,underlying,underlying164,ha,Result.andThen]
theorem vF_mk(p:Addr)(w:World):(ReflectliteValue.mk 162 p ReflectliteValue.flagAddr).run prog w = .ok (.agg #[.pointer (some ⟨2,162,none⟩),.pointer (some p),.int .u64 406]) w:=by kernel_rfl
theorem zo1(a p:Addr)(W:World)(ha:W.cell? a=some (.pointer (some p))):(ReflectliteValue.method (ReflectliteValue.valueError "reflectlite.Value.Elem" 0) ReflectliteValue.elem #[.agg #[.pointer (some ⟨2, 164, none⟩), .pointer (some a), .int .u64 150]]).run prog W
   = .ok (.agg #[.pointer (some ⟨2,162,none⟩),.pointer (some p),.int .u64 406]) W:=by
 rw[rlm];simp only[Sem.run_bind,zjZ,Result.andThen];simp[ReflectliteValue.elem,loadVar,isAgg,underlying,underlying164,ha,Result.andThen,zmd,vF_mk]
theorem zmk(a:Addr)(w:World):(ReflectliteValue.parts (.agg #[.pointer (some ⟨2,162,none⟩),.pointer (some a),.int .u64 406])).run prog w = .ok (some (162,a,406)) w:=by kernel_rfl
theorem zml(a:Addr)(w:World):(ReflectliteValue.parts (.agg #[.pointer (some ⟨2,162,none⟩),.pointer (some a),.int .u64 150])).run prog w = .ok (some (162,a,150)) w:=by kernel_rfl
theorem zmm(w:World):(Rtype.directlyAssignable 162 162).run prog w = .ok true w:=by kernel_rfl
theorem vF_set(a b:Addr)(e:Addr)(old:Value)(W:World)(hb:W.cell? b=some (.pointer (some e)))(ht:W.cell? a=some old)(hf:W.frozen? a=false):(ReflectliteValue.set #[.agg #[.pointer (some ⟨2,162,none⟩),.pointer (some a),.int .u64 406],.agg #[.pointer (some ⟨2,162,none⟩),.pointer (some b),.int .u64 150]]).run prog W
   = .ok (.tuple #[]) (W.setCell a (.pointer (some e))):=by
 rw[rls];simp only[Sem.run_bind,zmk,zml,Result.andThen];simp[ReflectliteValue.flagAddr,loadVar,isAgg,underlying,underlying162,hb,Result.andThen,zmm,storeVar,Value.cells,storeCells,Addr.add];rw[run_store prog W a _ _ (by rfl)];simp[ht,hf]
theorem zo2(a p:Addr)(W:World)(ha:W.cell? a=some (.pointer (some p))):(ReflectliteValue.method (ReflectliteValue.valueError "reflectlite.Value.IsNil" 0) ReflectliteValue.isNil #[.agg #[.pointer (some ⟨2, 168, none⟩), .pointer (some a), .int .u64 150]]).run prog W = .ok (.bool false) W := by
 rw[rlm];simp only[Sem.run_bind,zj0,Result.andThen];simp[ReflectliteValue.isNil,loadVar,isAgg,underlying,underlying168,ha,Result.andThen]
theorem vE_mk(p:Addr)(w:World):(ReflectliteValue.mk 57 p ReflectliteValue.flagAddr).run prog w = .ok (.agg #[.pointer (some ⟨2,57,none⟩),.pointer (some p),.int .u64 386]) w:=by kernel_rfl
theorem zo3(a p:Addr)(W:World)(ha:W.cell? a=some (.pointer (some p))):(ReflectliteValue.method (ReflectliteValue.valueError "reflectlite.Value.Elem" 0) ReflectliteValue.elem #[.agg #[.pointer (some ⟨2, 168, none⟩), .pointer (some a), .int .u64 150]]).run prog W
   = .ok (.agg #[.pointer (some ⟨2,57,none⟩),.pointer (some p),.int .u64 386]) W:=by
 rw[rlm];simp only[Sem.run_bind,zj0,Result.andThen];simp[ReflectliteValue.elem,loadVar,isAgg,underlying,underlying168,ha,Result.andThen,zme,vE_mk]
theorem zmn(a:Addr)(w:World):(ReflectliteValue.parts (.agg #[.pointer (some ⟨2,57,none⟩),.pointer (some a),.int .u64 386])).run prog w = .ok (some (57,a,386)) w:=by kernel_rfl
theorem zmo(a:Addr)(w:World):(ReflectliteValue.parts (.agg #[.pointer (some ⟨2,57,none⟩),.pointer (some a),.int .u64 130])).run prog w = .ok (some (57,a,130)) w:=by kernel_rfl
theorem zmp(w:World):(Rtype.directlyAssignable 57 57).run prog w = .ok true w:=by kernel_rfl
theorem vE_set(a b:Addr)(e:Int)(old:Value)(W:World)(hb:W.cell? b=some (.int .i64 e))(ht:W.cell? a=some old)(hf:W.frozen? a=false):(ReflectliteValue.set #[.agg #[.pointer (some ⟨2,57,none⟩),.pointer (some a),.int .u64 386],.agg #[.pointer (some ⟨2,57,none⟩),.pointer (some b),.int .u64 130]]).run prog W
   = .ok (.tuple #[]) (W.setCell a (.int .i64 e)):=by
 rw[rls];simp only[Sem.run_bind,zmn,zmo,Result.andThen];simp[ReflectliteValue.flagAddr,loadVar,isAgg,underlying,underlying57,hb,Result.andThen,zmp,storeVar,Value.cells,storeCells,Addr.add];rw[run_store prog W a _ _ (by rfl)];simp[ht,hf]
def zei(w:World):Prop:=w.cell? ⟨0,0,none⟩=some (.iface 286 (.agg #[.pointer (some ⟨2,98,none⟩)]))
theorem as_FF(e:Addr)(t:Addr)(old:Value)(w:World)(hg:zei w)(a:w.cell? t=some old)(c:w.frozen? t=false):Calls prog 75 #[.iface 162 (.pointer (some e)),.iface 164 (.pointer (some t))] w fun ev w'=>ev = .returned (.bool true)∧w'=((((w.alloc (.cells #[.pointer (some t)] 164)).alloc (.cells #[.pointer (some ⟨2,164,none⟩),.pointer (some ⟨w.heap.size,0,none⟩),.int .u64 150] 247)).alloc (.cells #[.pointer (some ⟨2,164,none⟩),.pointer (some ⟨w.heap.size,0,none⟩),.int .u64 150] 247)).alloc (.cells #[.pointer (some e)] 162)).setCell t (.pointer (some e)):=by
 unfold zei at hg;have h6 := @run_callFunc_extern prog 133 _ (fun args=>ReflectliteValue.unpack (args.getD 0 (.tuple #[]))) func133 (by kernel_rfl) (by kernel_rfl) (by kernel_rfl) (by kernel_rfl);have h7 := @run_callFunc_extern prog 134 _ (ReflectliteValue.methodAny (ReflectliteValue.valueError "reflectlite.Value.Type" 0) (fun t _ _ _ => ReflectliteType.toType t)) func134 (by kernel_rfl) (by kernel_rfl) (by kernel_rfl) (by kernel_rfl);have h8 := @run_callFunc_extern prog 135 _ (ReflectliteValue.method (ReflectliteValue.valueError "reflectlite.Value.IsNil" 0) ReflectliteValue.isNil) func135 (by kernel_rfl) (by kernel_rfl) (by kernel_rfl) (by kernel_rfl);have h27 := @run_callFunc_extern prog 234 _ (ReflectliteType.abiMethod fun t=>do pure (.int .u8 (←Rtype.kind t))) func234 (by kernel_rfl) (by kernel_rfl) (by kernel_rfl) (by kernel_rfl);have h37 := @run_callFunc_extern prog 252 _ (ReflectliteType.method ReflectliteType.elem) func252 (by kernel_rfl) (by kernel_rfl) (by kernel_rfl) (by kernel_rfl);have h38 := @run_callFunc_extern prog 253 _ (ReflectliteType.relation "Implements" ReflectliteType.implements_) func253 (by kernel_rfl) (by kernel_rfl) (by kernel_rfl) (by kernel_rfl);have h10 := @run_callFunc_extern prog 137 _ ReflectliteType.typeOf func137 (by kernel_rfl) (by kernel_rfl) (by kernel_rfl) (by kernel_rfl);have h35 := @run_callFunc_extern prog 250 _ (ReflectliteType.relation "AssignableTo" ReflectliteType.assignableTo) func250 (by kernel_rfl) (by kernel_rfl) (by kernel_rfl) (by kernel_rfl);have h11 := @run_callFunc_extern prog 191 _ (ReflectliteValue.method (ReflectliteValue.valueError "reflectlite.Value.Elem" 0) ReflectliteValue.elem) func191 (by kernel_rfl) (by kernel_rfl) (by kernel_rfl) (by kernel_rfl);have h12 := @run_callFunc_extern prog 192 _ ReflectliteValue.set func192 (by kernel_rfl) (by kernel_rfl) (by kernel_rfl) (by kernel_rfl);have tO:=zo0;have mA:=zqU;have a25:=asg_FF;have v25:=zmi;have f6:=zfV;have f7:=zl9;have mK:=zmf;have mE:=zmg;have mI:=zmh;have k27:=zma;have k25:=zjY;have e27:=zmb;have i25:=zmc;have n8:=zj1 ⟨w.heap.size,0,none⟩ t ((w.alloc (.cells #[.pointer (some t)] 164)).alloc (.cells #[.pointer (some ⟨2,164,none⟩),.pointer (some ⟨w.heap.size,0,none⟩),.int .u64 150] 247)) (by simp);have d:0<w.heap.size:=by
  rcases Nat.eq_zero_or_pos w.heap.size with h0|h
  ·simp[World.cell?,h0]at hg
  ·exact h
 have hg2:((w.alloc (.cells #[.pointer (some t)] 164)).alloc (.cells #[.pointer (some ⟨2,164,none⟩),.pointer (some ⟨w.heap.size,0,none⟩),.int .u64 150] 247)).cell? ⟨0,0,none⟩=some (.iface 286 (.agg #[.pointer (some ⟨2,98,none⟩)])):=by
  rw[World.cell?_alloc_lt _ _ ⟨0,0,none⟩ (by simp),World.cell?_alloc_lt _ _ ⟨0,0,none⟩ d];exact hg
 have b:t.block<w.heap.size:=by
  rcases Nat.lt_or_ge t.block w.heap.size with h|h
  ·exact h
  ·simp[World.cell?,Array.getElem?_eq_none h]at a
 have el:=zo1 ⟨w.heap.size,0,none⟩ t (((w.alloc (.cells #[.pointer (some t)] 164)).alloc (.cells #[.pointer (some ⟨2,164,none⟩),.pointer (some ⟨w.heap.size,0,none⟩),.int .u64 150] 247)).alloc (.cells #[.pointer (some ⟨2,164,none⟩),.pointer (some ⟨w.heap.size,0,none⟩),.int .u64 150] 247)) (by rw[World.cell?_alloc_lt _ _ ⟨w.heap.size,0,none⟩ (by simp;omega)];simp);have st:=vF_set t ⟨w.heap.size+1+1+1,0,none⟩ e old ((((w.alloc (.cells #[.pointer (some t)] 164)).alloc (.cells #[.pointer (some ⟨2,164,none⟩),.pointer (some ⟨w.heap.size,0,none⟩),.int .u64 150] 247)).alloc (.cells #[.pointer (some ⟨2,164,none⟩),.pointer (some ⟨w.heap.size,0,none⟩),.int .u64 150] 247)).alloc (.cells #[.pointer (some e)] 162))
  (by rw[World.cell?_alloc_at _ _ _ _ (by simp)];rfl)
  (by rw[World.cell?_alloc_lt _ _ t (by simp;omega),World.cell?_alloc_lt _ _ t (by simp;omega),World.cell?_alloc_lt _ _ t (by simp;omega),World.cell?_alloc_lt _ _ t b];exact a)
  (by rw[World.frozen?_alloc_old _ _ t (by simp;omega),World.frozen?_alloc_old _ _ t (by simp;omega),World.frozen?_alloc_old _ _ t (by simp;omega),World.frozen?_alloc_old _ _ t (Nat.ne_of_lt b)];exact c)
 go_enter func75,ntmps75;go_wp2;refine wp_loop_rounds 1 ?_;rw[rounds_succ];go_wp2;go_ret;exact⟨rfl,rfl⟩
theorem as_EE(e:Int)(t:Addr)(old:Value)(w:World)(hg:zei w)(a:w.cell? t=some old)(c:w.frozen? t=false):Calls prog 75 #[.iface 57 (.int .i64 e),.iface 168 (.pointer (some t))] w fun ev w'=>ev = .returned (.bool true)∧w'=((((w.alloc (.cells #[.pointer (some t)] 168)).alloc (.cells #[.pointer (some ⟨2,168,none⟩),.pointer (some ⟨w.heap.size,0,none⟩),.int .u64 150] 247)).alloc (.cells #[.pointer (some ⟨2,168,none⟩),.pointer (some ⟨w.heap.size,0,none⟩),.int .u64 150] 247)).alloc (.cells #[.int .i64 e] 57)).setCell t (.int .i64 e):=by
 unfold zei at hg;have h6 := @run_callFunc_extern prog 133 _ (fun args=>ReflectliteValue.unpack (args.getD 0 (.tuple #[]))) func133 (by kernel_rfl) (by kernel_rfl) (by kernel_rfl) (by kernel_rfl);have h7 := @run_callFunc_extern prog 134 _ (ReflectliteValue.methodAny (ReflectliteValue.valueError "reflectlite.Value.Type" 0) (fun t _ _ _ => ReflectliteType.toType t)) func134 (by kernel_rfl) (by kernel_rfl) (by kernel_rfl) (by kernel_rfl);have h8 := @run_callFunc_extern prog 135 _ (ReflectliteValue.method (ReflectliteValue.valueError "reflectlite.Value.IsNil" 0) ReflectliteValue.isNil) func135 (by kernel_rfl) (by kernel_rfl) (by kernel_rfl) (by kernel_rfl);have h27 := @run_callFunc_extern prog 234 _ (ReflectliteType.abiMethod fun t=>do pure (.int .u8 (←Rtype.kind t))) func234 (by kernel_rfl) (by kernel_rfl) (by kernel_rfl) (by kernel_rfl);have h37 := @run_callFunc_extern prog 252 _ (ReflectliteType.method ReflectliteType.elem) func252 (by kernel_rfl) (by kernel_rfl) (by kernel_rfl) (by kernel_rfl);have h38 := @run_callFunc_extern prog 253 _ (ReflectliteType.relation "Implements" ReflectliteType.implements_) func253 (by kernel_rfl) (by kernel_rfl) (by kernel_rfl) (by kernel_rfl);have h10 := @run_callFunc_extern prog 137 _ ReflectliteType.typeOf func137 (by kernel_rfl) (by kernel_rfl) (by kernel_rfl) (by kernel_rfl);have h35 := @run_callFunc_extern prog 250 _ (ReflectliteType.relation "AssignableTo" ReflectliteType.assignableTo) func250 (by kernel_rfl) (by kernel_rfl) (by kernel_rfl) (by kernel_rfl);have h11 := @run_callFunc_extern prog 191 _ (ReflectliteValue.method (ReflectliteValue.valueError "reflectlite.Value.Elem" 0) ReflectliteValue.elem) func191 (by kernel_rfl) (by kernel_rfl) (by kernel_rfl) (by kernel_rfl);have h12 := @run_callFunc_extern prog 192 _ ReflectliteValue.set func192 (by kernel_rfl) (by kernel_rfl) (by kernel_rfl) (by kernel_rfl);have tO:=zeB;have mA:=zqU;have a25:=asg_EE;have v25:=zmj;have f6:=zkT;have f7:=zqQ;have mK:=zmf;have mE:=zmg;have mI:=zmh;have k27:=zqR;have k25:=zoZ;have e27:=zqS;have i25:=zqT;have n8:=zo2 ⟨w.heap.size,0,none⟩ t ((w.alloc (.cells #[.pointer (some t)] 168)).alloc (.cells #[.pointer (some ⟨2,168,none⟩),.pointer (some ⟨w.heap.size,0,none⟩),.int .u64 150] 247)) (by simp);have d:0<w.heap.size:=by
  rcases Nat.eq_zero_or_pos w.heap.size with h0|h
  ·simp[World.cell?,h0]at hg
  ·exact h
 have hg2:((w.alloc (.cells #[.pointer (some t)] 168)).alloc (.cells #[.pointer (some ⟨2,168,none⟩),.pointer (some ⟨w.heap.size,0,none⟩),.int .u64 150] 247)).cell? ⟨0,0,none⟩=some (.iface 286 (.agg #[.pointer (some ⟨2,98,none⟩)])):=by
  rw[World.cell?_alloc_lt _ _ ⟨0,0,none⟩ (by simp),World.cell?_alloc_lt _ _ ⟨0,0,none⟩ d];exact hg
 have b:t.block<w.heap.size:=by
  rcases Nat.lt_or_ge t.block w.heap.size with h|h
  ·exact h
  ·simp[World.cell?,Array.getElem?_eq_none h]at a
 have el:=zo3 ⟨w.heap.size,0,none⟩ t (((w.alloc (.cells #[.pointer (some t)] 168)).alloc (.cells #[.pointer (some ⟨2,168,none⟩),.pointer (some ⟨w.heap.size,0,none⟩),.int .u64 150] 247)).alloc (.cells #[.pointer (some ⟨2,168,none⟩),.pointer (some ⟨w.heap.size,0,none⟩),.int .u64 150] 247)) (by rw[World.cell?_alloc_lt _ _ ⟨w.heap.size,0,none⟩ (by simp;omega)];simp);have st:=vE_set t ⟨w.heap.size+1+1+1,0,none⟩ e old ((((w.alloc (.cells #[.pointer (some t)] 168)).alloc (.cells #[.pointer (some ⟨2,168,none⟩),.pointer (some ⟨w.heap.size,0,none⟩),.int .u64 150] 247)).alloc (.cells #[.pointer (some ⟨2,168,none⟩),.pointer (some ⟨w.heap.size,0,none⟩),.int .u64 150] 247)).alloc (.cells #[.int .i64 e] 57))
  (by rw[World.cell?_alloc_at _ _ _ _ (by simp)];rfl)
  (by rw[World.cell?_alloc_lt _ _ t (by simp;omega),World.cell?_alloc_lt _ _ t (by simp;omega),World.cell?_alloc_lt _ _ t (by simp;omega),World.cell?_alloc_lt _ _ t b];exact a)
  (by rw[World.frozen?_alloc_old _ _ t (by simp;omega),World.frozen?_alloc_old _ _ t (by simp;omega),World.frozen?_alloc_old _ _ t (by simp;omega),World.frozen?_alloc_old _ _ t (Nat.ne_of_lt b)];exact c)
 go_enter func75,ntmps75;go_wp2;refine wp_loop_rounds 1 ?_;rw[rounds_succ];go_wp2;go_ret;exact⟨rfl,rfl⟩
theorem zqV(n:Int)(w:World):(Instr.typeAssert (.iface 57 (.int .i64 n)) 98 290 true).run prog w = .ok (.tuple #[.nilIface,.bool false]) w:=run_typeAssert_lacksB underlying290 (by kernel_rfl) (by kernel_rfl) _ _ w
theorem zqW(n:Int)(w:World):(Instr.typeAssert (.iface 57 (.int .i64 n)) 98 293 true).run prog w = .ok (.tuple #[.nilIface,.bool false]) w:=run_typeAssert_lacksB underlying293 (by kernel_rfl) (by kernel_rfl) _ _ w
theorem zqX(n:Int)(w:World):(Instr.typeAssert (.iface 57 (.int .i64 n)) 98 294 true).run prog w = .ok (.tuple #[.nilIface,.bool false]) w:=run_typeAssert_lacksB underlying294 (by kernel_rfl) (by kernel_rfl) _ _ w
theorem zqY(p:Addr)(w:World):(Instr.typeAssert (.iface 162 (.pointer (some p))) 98 297 true).run prog w = .ok (.tuple #[.nilIface,.bool false]) w:=run_typeAssert_lacksB underlying297 (by kernel_rfl) (by kernel_rfl) _ _ w
theorem zqZ(p:Addr)(w:World):(Instr.typeAssert (.iface 162 (.pointer (some p))) 98 293 true).run prog w = .ok (.tuple #[.iface 162 (.pointer (some p)),.bool true]) w:=run_typeAssert_hasB underlying293 (by kernel_rfl) _ _ w
theorem zo4 (p : Addr) (w : World) : (Go.method 451 162 (.pointer (some p)) "Unwrap").run prog w = .ok (240, .pointer (some p)) w := by kernel_rfl
theorem eq_FE(p:Addr)(n:Int)(w:World):(binOp .eql 98 (.iface 162 (.pointer (some p))) (.iface 57 (.int .i64 n))).run prog w = .ok (.bool false) w:=run_eql_iface_types _ _ _ _ underlying98 (by decide) w
theorem eq_EE(n:Int)(w:World):(binOp .eql 98 (.iface 57 (.int .i64 n)) (.iface 57 (.int .i64 n))).run prog w = .ok (.bool true) w:=by
 have a:(prog.info? 57).map (·.comparable)=some true:=by kernel_rfl
 obtain⟨i,hi,hc⟩:=Option.map_eq_some_iff.1 a;have h:∀d,(Op.equalIn (d+2) 98 (.iface 57 (.int .i64 n)) (.iface 57 (.int .i64 n))).run prog w = .ok true w:=fun d=>by simp[Op.equalIn,run_underlying underlying98,run_underlying underlying57,typeInfo,hi,hc]
 simp only[binOp];simp[Op.equal,Op.maxDepth,h 9998]
theorem zqf (w : World) : (ReflectliteType.method (fun t => do Rtype.noPackHeld "Comparable" t; (fun a => Value.bool a.comparable) <$> typeInfo t) #[.agg #[.pointer (some ⟨2, 57, none⟩)]]).run prog w = .ok (.bool true) w := by kernel_rfl
theorem as_EF(n:Int)(t:Addr)(old:Value)(w:World)(hg:zei w)(ht0:w.cell? t=some old):Calls prog 75 #[.iface 57 (.int .i64 n),.iface 164 (.pointer (some t))] w fun ev w'=>ev = .returned (.bool false)∧w'=(((w.alloc (.cells #[.pointer (some t)] 164)).alloc (.cells #[.pointer (some ⟨2,164,none⟩),.pointer (some ⟨w.heap.size,0,none⟩),.int .u64 150] 247)).alloc (.cells #[.pointer (some ⟨2,164,none⟩),.pointer (some ⟨w.heap.size,0,none⟩),.int .u64 150] 247)):=by
 unfold zei at hg;have h6 := @run_callFunc_extern prog 133 _ (fun args=>ReflectliteValue.unpack (args.getD 0 (.tuple #[]))) func133 (by kernel_rfl) (by kernel_rfl) (by kernel_rfl) (by kernel_rfl);have h7 := @run_callFunc_extern prog 134 _ (ReflectliteValue.methodAny (ReflectliteValue.valueError "reflectlite.Value.Type" 0) (fun t _ _ _ => ReflectliteType.toType t)) func134 (by kernel_rfl) (by kernel_rfl) (by kernel_rfl) (by kernel_rfl);have h8 := @run_callFunc_extern prog 135 _ (ReflectliteValue.method (ReflectliteValue.valueError "reflectlite.Value.IsNil" 0) ReflectliteValue.isNil) func135 (by kernel_rfl) (by kernel_rfl) (by kernel_rfl) (by kernel_rfl);have h27 := @run_callFunc_extern prog 234 _ (ReflectliteType.abiMethod fun t=>do pure (.int .u8 (←Rtype.kind t))) func234 (by kernel_rfl) (by kernel_rfl) (by kernel_rfl) (by kernel_rfl);have h37 := @run_callFunc_extern prog 252 _ (ReflectliteType.method ReflectliteType.elem) func252 (by kernel_rfl) (by kernel_rfl) (by kernel_rfl) (by kernel_rfl);have h38 := @run_callFunc_extern prog 253 _ (ReflectliteType.relation "Implements" ReflectliteType.implements_) func253 (by kernel_rfl) (by kernel_rfl) (by kernel_rfl) (by kernel_rfl);have h10 := @run_callFunc_extern prog 137 _ ReflectliteType.typeOf func137 (by kernel_rfl) (by kernel_rfl) (by kernel_rfl) (by kernel_rfl);have h35 := @run_callFunc_extern prog 250 _ (ReflectliteType.relation "AssignableTo" ReflectliteType.assignableTo) func250 (by kernel_rfl) (by kernel_rfl) (by kernel_rfl) (by kernel_rfl);have h11 := @run_callFunc_extern prog 191 _ (ReflectliteValue.method (ReflectliteValue.valueError "reflectlite.Value.Elem" 0) ReflectliteValue.elem) func191 (by kernel_rfl) (by kernel_rfl) (by kernel_rfl) (by kernel_rfl);have h12 := @run_callFunc_extern prog 192 _ ReflectliteValue.set func192 (by kernel_rfl) (by kernel_rfl) (by kernel_rfl) (by kernel_rfl);have tO:=zeB;have mA:=zqU;have a25:=asg_EF;have f6:=zfV;have f7:=zl9;have mK:=zmf;have mE:=zmg;have mI:=zmh;have k27:=zma;have k25:=zjY;have e27:=zmb;have i25:=zmc;have x1:=zqV;have x2:=zqW;have x3:=zqX;have n8:=zj1 ⟨w.heap.size,0,none⟩ t ((w.alloc (.cells #[.pointer (some t)] 164)).alloc (.cells #[.pointer (some ⟨2,164,none⟩),.pointer (some ⟨w.heap.size,0,none⟩),.int .u64 150] 247)) (by simp);have a:0<w.heap.size:=by
  rcases Nat.eq_zero_or_pos w.heap.size with h0|h
  ·simp[World.cell?,h0]at hg
  ·exact h
 have hg2:((w.alloc (.cells #[.pointer (some t)] 164)).alloc (.cells #[.pointer (some ⟨2,164,none⟩),.pointer (some ⟨w.heap.size,0,none⟩),.int .u64 150] 247)).cell? ⟨0,0,none⟩=some (.iface 286 (.agg #[.pointer (some ⟨2,98,none⟩)])):=by
  rw[World.cell?_alloc_lt _ _ ⟨0,0,none⟩ (by simp),World.cell?_alloc_lt _ _ ⟨0,0,none⟩ a];exact hg
 go_enter func75,ntmps75;go_wp2;refine wp_loop_rounds 1 ?_;rw[rounds_succ];go_wp2;go_ret;exact⟨rfl,rfl⟩
theorem is_EE(n:Int)(w:World):Calls prog 76 #[.iface 57 (.int .i64 n),.iface 57 (.int .i64 n)] w fun ev w'=>ev = .returned (.bool true)∧w=w':=by
 have h10 := @run_callFunc_extern prog 137 _ ReflectliteType.typeOf func137 (by kernel_rfl) (by kernel_rfl) (by kernel_rfl) (by kernel_rfl);have h36 := @run_callFunc_extern prog 251 _ (ReflectliteType.method (fun t => do Rtype.noPackHeld "Comparable" t; pure (.bool (← typeInfo t).comparable))) func251 (by kernel_rfl) (by kernel_rfl) (by kernel_rfl) (by kernel_rfl);have tO:=zeB;have mC:=m_cmp;have cE:=zqf;have q1:=eq_EE;go_enter func76,ntmps76;go_wp2;refine wp_loop_rounds 1 ?_;rw[rounds_succ];go_wp2;go_ret;exact⟨rfl,rfl⟩
theorem is_FE(p:Nat)(n:Int)(w:World)(hc:w.cell? ⟨p,0,none⟩=some (.int .i64 n)):Calls prog 76 #[.iface 162 (.pointer (some ⟨p,0,none⟩)),.iface 57 (.int .i64 n)] w fun ev w'=>ev = .returned (.bool true)∧w=w':=by
 have h10 := @run_callFunc_extern prog 137 _ ReflectliteType.typeOf func137 (by kernel_rfl) (by kernel_rfl) (by kernel_rfl) (by kernel_rfl);have h36 := @run_callFunc_extern prog 251 _ (ReflectliteType.method (fun t => do Rtype.noPackHeld "Comparable" t; pure (.bool (← typeInfo t).comparable))) func251 (by kernel_rfl) (by kernel_rfl) (by kernel_rfl) (by kernel_rfl);have tO:=zeB;have mC:=m_cmp;have cE:=zqf;have q1:=eq_EE;have q2:=eq_FE;have x1:=zqY;have x2:=zqZ;have mU:=zo4;go_enter func76,ntmps76;go_wp2;refine wp_loop_rounds 2 ?_;rw[rounds_succ];go_wp2;rw[rounds_succ];go_wp2;go_ret;exact⟨rfl,rfl⟩
end Go.Proofs.YtddfdpbaiedcjaaGreatDoor
