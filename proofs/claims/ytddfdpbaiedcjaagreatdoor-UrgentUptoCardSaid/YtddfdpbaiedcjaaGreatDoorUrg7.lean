/- A part of Urgent's proof. Conditions: none. Part 7 of 32. -/
import Derived.Test.YtddfdpbaiedcjaaGreatDoorUrg4
set_option maxRecDepth 100000
set_option maxHeartbeats 16000000
set_option linter.all false
namespace Go.Proofs.YtddfdpbaiedcjaaGreatDoor
open Go.RowKit
def zgV(w:World)(rb:Nat):Nat:=match w.cell? ⟨rb,1,none⟩with
 | some (.int _ n)=>n.toNat
 | _=>0
theorem zes{w:World}{rb pos:Nat}{v:Value}(h:zcv w rb v pos):zgV w rb=pos:=by
 unfold zgV;rw[h.c1];simp
def zpQ(w wr:World)(rb fb:Nat)(v:Value)(b:Bool)(bs:List UInt8)(hi n size:Nat)(R:Option (zD×Nat)):Prop :=
 ∃fuel pos acc rv,zcv wr rb v pos∧zi wr fb { f0 2 b with rngs:=acc } rv∧wr.ownsRow 0 214 2 rv acc.length (zn acc)∧(∀g,rv.ownBlock=some g→w.heap.size≤g) ∧
  (∀i,i<acc.length→loAt acc i<18446744073709551616∧hiAt acc i<18446744073709551616)∧pos≤bs.length∧bs.length-pos<fuel∧acc.length≤pos∧Mod (Two rb fb) w wr ∧
  hi<4611686018427387904∧n<4611686018427387904∧size<4611686018427387904∧zcX bs fuel hi n size pos acc=R
theorem ziq{a:zD}{lo hi:Nat}(h:∀i,i<a.length→loAt a i<18446744073709551616∧hiAt a i<18446744073709551616)(h1:lo<18446744073709551616)(h2:hi<18446744073709551616) :
  ∀i,i<(a++[(lo,hi)]).length→loAt (a++[(lo,hi)]) i<18446744073709551616∧hiAt (a++[(lo,hi)]) i<18446744073709551616:=by
 intro i c;by_cases b:i<a.length
 ·have:=h i b;unfold loAt hiAt at this ⊢;rw[List.getD_eq_getElem?_getD,List.getElem?_append_left b,←List.getD_eq_getElem?_getD];exact this
 ·have:i=a.length:=by simp at c;omega
  subst this;simp[loAt,hiAt,h1,h2]
theorem zlv{w:World}{e sz:Nat}{v:Value}{n m c g o:Nat}{xs:List Value}(h:w.ownsRow 0 e sz v n xs)(a:v = .slice (some ⟨g,o,none⟩) m c):v.ownBlock=some g:=by
 rcases h.2 with⟨rfl,_⟩|⟨g',cap,cur,rfl,_⟩
 ·cases a
 ·cases a;rfl
theorem zdr{w:World}{v:Value}{n b:Nat}{xs:List Value}{f:Frm}{rv:Value}(h:w.ownsRow 0 214 2 v n xs)(a:zi w b f rv):¬v.ownBlock=some b:=by
 intro hb;rcases h.2 with⟨rfl,_⟩|⟨g,cap,cur,rfl,_,hg,_⟩
 ·cases hb
 ·simp[Value.ownBlock]at hb;subst hb;unfold zi at a;rw[hg]at a;simp at a
theorem zcY{w:World}{v v':Value}{n b pos:Nat}{xs:List Value}(h:w.ownsRow 0 214 2 v n xs)(a:zcv w b v' pos):¬v.ownBlock=some b:=by
 intro hb;rcases h.2 with⟨rfl,_⟩|⟨g,cap,cur,rfl,_,hg,_⟩
 ·cases hb
 ·simp[Value.ownBlock]at hb;subst hb;unfold zcv at a;rw[hg]at a;simp at a
theorem zir(rb fb pos:Nat)(v:Value)(bs:List UInt8)(b:Bool)(w:World)(h:zcv w rb v pos)(hb:BR w v bs)(hv:zaX (Two rb fb) v)(hp:pos≤bs.length)(hbl:bs.length≤1099511627776)(hf:zi w fb (f0 2 b) (.slice none 0 0))(ak:fb≠rb) :
  Calls Tryz.prog 174 #[.pointer (some ⟨rb,0,none⟩),.pointer (some ⟨fb,0,none⟩)] w (RdF w rb v fb (rd2 b bs pos)):=by
 have al:zaX (zdm rb) v:=fun g o n c e d=>hv g o n c e (.inl d)
 have aC:=zb (Mod.refl (zdm rb) w);have Hb:=zb hb;have Hf:=zb hf;have W:=zb al;have am:=zb hv;have X:=zb ak;clear hb hv hf al ak;have c1:=zU rb pos v bs w h (Hb.out) W.out hp;cases hr1:zaq bs pos with
 | none =>
  rw[hr1]at c1;have t:Hid (rd2 b bs pos=none):=by
   show _=_;unfold rd2;simp only[hr1,Option.bind_some,Option.bind_none]
  clear hr1;go_enter Tryz.func174,Tryz.ntmps174;go_wp2_with (go_at_call 127;refine c1.mono ?_;rintro e w' (⟨_,_,d,_⟩|⟨_,l,B⟩);cases d;unfold zac at l;subst l);exact⟨rfl,.inr ⟨t.out,rfl,zah (B)⟩⟩
 | some q1 =>
  obtain⟨x1,p1⟩:=q1;rw[hr1]at c1;have aD:p1≤bs.length:=zaP hr1;have ao:x1<4611686018427387904:=(zR hr1).2.2;have Y:=zb hr1;clear hr1;go_enter Tryz.func174,Tryz.ntmps174;go_wp2_with fail;refine c1.mono ?_;rintro e w1 (⟨_,_,d,rfl,h1,m1⟩|⟨d,_⟩);rotate_left
  ·cases d
  simp only[Option.map_some,Option.some.injEq,Prod.mk.injEq]at d;obtain⟨rfl,rfl⟩:=d;have Z:=zb (aC.out.trans m1);clear c1 m1;have c2:=zU rb p1 v bs w1 h1 (Hb.out.mod Z.out W.out) W.out aD;cases hr2:zaq bs p1 with
  | none =>
   rw[hr2]at c2;have t:Hid (rd2 b bs pos=none):=by
    show _=_;unfold rd2;simp only[Y.out,hr2,Option.bind_some,Option.bind_none]
   clear hr2;go_wp2_with (go_at_call 127;refine c2.mono ?_;rintro e w' (⟨_,_,d,_⟩|⟨_,l,B⟩);cases d;unfold zac at l;subst l);exact⟨rfl,.inr ⟨t.out,rfl,zah (Z.out.trans B)⟩⟩
  | some q2 =>
   obtain⟨x2,p2⟩:=q2;rw[hr2]at c2;have aE:p2≤bs.length:=zaP hr2;have ap:x2<4611686018427387904:=(zR hr2).2.2;have aq:=zb hr2;clear hr2;go_wp2_with fail;refine c2.mono ?_;rintro e w2 (⟨_,_,d,rfl,h2,m2⟩|⟨d,_⟩);rotate_left
   ·cases d
   simp only[Option.map_some,Option.some.injEq,Prod.mk.injEq]at d;obtain⟨rfl,rfl⟩:=d;have aa:=zb (Z.out.trans m2);clear c2 m2;have c3:=zU rb p2 v bs w2 h2 (Hb.out.mod aa.out W.out) W.out aE;cases hr3:zaq bs p2 with
   | none =>
    rw[hr3]at c3;have t:Hid (rd2 b bs pos=none):=by
     show _=_;unfold rd2;simp only[Y.out,aq.out,hr3,Option.bind_some,Option.bind_none]
    clear hr3;go_wp2_with (go_at_call 127;refine c3.mono ?_;rintro e w' (⟨_,_,d,_⟩|⟨_,l,B⟩);cases d;unfold zac at l;subst l);exact⟨rfl,.inr ⟨t.out,rfl,zah (aa.out.trans B)⟩⟩
   | some q3 =>
    obtain⟨x3,p3⟩:=q3;rw[hr3]at c3;have aF:p3≤bs.length:=zaP hr3;have ar:x3<4611686018427387904:=(zR hr3).2.2;have aG:=zb hr3;clear hr3;go_wp2_with fail;refine c3.mono ?_;rintro e w3 (⟨_,_,d,rfl,h3,m3⟩|⟨d,_⟩);rotate_left
    ·cases d
    simp only[Option.map_some,Option.some.injEq,Prod.mk.injEq]at d;obtain⟨rfl,rfl⟩:=d;have au:=zb (aa.out.trans m3);clear c3 m3;obtain⟨R,E⟩:=nm (zcX bs (bs.length+1) x1 x2 x3 p3 []);have hA:zpQ w w3 rb fb v b bs x1 x2 x3 R:=⟨bs.length+1,p3,[],.slice none 0 0,h3,Hf.out.mod au.out X.out,World.ownsRow_nil w3 0 _ 2,(fun g hg=>by cases hg),(fun i hi=>absurd hi (Nat.not_lt_zero i)),aF,by omega,Nat.zero_le _,zah au.out,ao,ap,ar,E⟩;have HA:=zb hA;have C:Hid (rd2 b bs pos=R.bind fun r=>some ({ f0 2 b with rngs:=r.1 },r.2)):=by
     show _=_;unfold rd2;simp only[Y.out,aq.out,aG.out,Option.bind_some,E]
    clear hA E h3 h2 h1 h ao ap ar;go_wp2_with fail
    go_loopw [4,5,6,7,8] (fun hi n size _ _ wr=>∃hi' n' size':Nat,hi = .int .u64 hi'∧n = .int .u64 n'∧size = .int .u64 size'∧zpQ w wr rb fb v b bs hi' n' size' R) (fun _ _ _ _ _ wr=>bs.length-zgV wr rb)
    case atStart=>exact⟨x1,x2,x3,rfl,rfl,rfl,HA.out⟩
    case round =>
     obtain⟨hi,n,size,rfl,rfl,rfl,z,q,a,rv,F,x,m,G,ab,hq,hfu,hal,B,b1,b2,b3,E⟩:=hrel;obtain⟨z,rfl⟩:∃f,z=f+1:=⟨z-1,by omega⟩;unfold zcX at E;have aH:=zb F;have Hfr:=zb x;have aO:=zb m;have Q:=zb G;have aI:=zb ab;have Hm:=zb B;by_cases d1:hi<size
     ·rw[if_pos d1]at E;have t:Hid (rd2 b bs pos=none):=by show _=_;rw[C.out,←E];rfl
      clear E F x m G ab B;go_wp2_with (go_at_call 128;refine(zbY _ _).mono ?_;rintro e w' ⟨l,rfl⟩;unfold zac at l;subst l);exact⟨rfl,.inr ⟨t.out,rfl,Hm.out⟩⟩
     ·rw[if_neg d1]at E;have z1:IntKind.u64.wrap ((hi:Int)-size)=((hi-size:Nat):Int):=by rw[IntKind.wrap_u64];omega
      obtain⟨lo,ac⟩:=nm (hi-size);rw[ac]at z1 E;have hlh:lo≤hi:=by omega
      obtain⟨k0,k1,k2,k3,k4,k5,k6,k7,k8,k9⟩:=x.cells;have hfz:∀j,wr.frozen? ⟨fb,j,none⟩=false:=fun j=>zd x
      obtain⟨v2,W2,hr2,H,av,aw⟩:=zjw wr rv a lo hi m (by omega);obtain⟨ra,rc,rfl,_⟩:=zj m;have ax:=zb E;have ad:¬(Value.slice ra a.length rc).ownBlock=some fb:=zdr m x;have ae:¬(Value.slice ra a.length rc).ownBlock=some rb:=zcY m F;have mg:Mod (fun k=>(Value.slice ra a.length rc).ownBlock=some k) wr W2:=(Mod.refl _ _).grown av (fun k hk=>.inl hk);have A:=x.mod mg ad;have S:=F.mod mg ae;have c9':=A.cells.2.2.2.2.2.2.2.2.2;have aP:∀j,W2.frozen? ⟨fb,j,none⟩=false:=fun j=>zd A
      obtain⟨a2,c2,rfl,_⟩:=zj H;have I:=zb H;have T:=zb A;have ay:=zb S;have aJ:=zb mg;have az:=zb aw;have Hlo:=zb ac;clear E F x m G ab B H av aw mg A S ac;obtain⟨W3,af⟩:=nm (W2.setCell ⟨fb,9,none⟩ (.slice a2 (a.length+1) c2));have J:(a++[(lo,hi)]).length=a.length+1:=by simp
      have N:Mod (fun k=>k=fb) W2 W3:=by rw[←af];exact(Mod.refl (fun k=>k=fb) W2).setCell (p:=⟨fb,9,none⟩) (.inl rfl) _
      have K:=zb (ay.out.mod N (fun e=>X.out e.symm));have U:Hid (zi W3 fb { f0 2 b with rngs:=a++[(lo,hi)] } (.slice a2 (a.length+1) c2)):=by
       show zi _ _ _ _;rw[←af];exact T.out.set rfl
      have s:Hid (W3.ownsRow 0 214 2 (.slice a2 (a.length+1) c2) (a++[(lo,hi)]).length (zn (a++[(lo,hi)]))):=by
       show World.ownsRow _ _ _ _ _ _ _;have:=N.owns I.out (fun g hg e=>zdr I.out T.out (by rw[hg,e]));rw[J]at this ⊢;exact this
      have O:Hid (Mod (Two rb fb) w W3):=(Hm.out.then aJ.out (fun i hi=>.inr (Q.out i hi))).then N (fun i hi=>.inl (.inr hi));have L:Hid (∀g,(Value.slice a2 (a.length+1) c2).ownBlock=some g→w.heap.size≤g):=by
       intro g hg;have aK:zaG wr (Value.slice ra a.length rc) (.slice a2 (a.length+1) c2):=by rw[←J];exact az.out
       rcases aK g hg with h1|h1
       ·exact Q.out g h1
       ·have:=Hm.out.size;omega
      have V:=zb (ziq aI.out (show lo<18446744073709551616 by omega) (show hi<18446744073709551616 by omega));have aA:BR W3 v bs:=Hb.out.mod O.out am.out;have D:=zU rb q v bs W3 K.out aA W.out hq;clear N J aA;by_cases hn:n=0
      ·have t:Hid (rd2 b bs pos=some ({ f0 2 b with rngs:=a++[(lo,hi)] },q)):=by
        show _=_;have:=ax.out;rw[if_pos hn]at this;rw[C.out,←this];rfl
       have aL:((n:Int)==0)=true:=by simp[hn]
       clear hn D;go_wp2_with (at_builtin;refine zm rfl _ _ _ _ rfl _ _ _ rfl rfl hr2 ?_);refine bodyPost_ret (results_none rfl _ _ _) rfl (.inl ⟨_,_,q,t.out,rfl,K.out,U.out,?_,?_,O.out⟩)
       ·exact⟨s.out,V.out⟩
       ·intro g o n' c' e;cases e;exact L.out g (zlv s.out rfl)
      ·have aL:((n:Int)==0)=false:=by rw[beq_eq_false_iff_ne];omega
       have z2:IntKind.u64.wrap ((n:Int)-1)=((n-1:Nat):Int):=by rw[IntKind.wrap_u64];omega
       have u:=ax.out;rw[if_neg hn]at u;have u:=zb u;cases hg1:zaq bs q with
       | none =>
        rw[hg1]at D;have t:Hid (rd2 b bs pos=none):=by
         show _=_;have:=u.out;rw[hg1]at this;rw[C.out,←this];rfl
        clear hg1 hn;go_wp2_with (first|(at_builtin;refine zm rfl _ _ _ _ rfl _ _ _ rfl rfl hr2 ?_)|(go_at_call 127;refine D.mono ?_;rintro e w' (⟨_,_,d,_⟩|⟨_,l,B⟩);cases d;unfold zac at l;subst l));exact⟨rfl,.inr ⟨t.out,rfl,O.out.then (zah B) (fun i hi=>.inl hi)⟩⟩
       | some q1 =>
        obtain⟨y,p4⟩:=q1;obtain⟨u1,u2,u3⟩:=zR hg1;rw[hg1]at D;have P:=zb hg1;clear hg1 hn;go_wp2_with (at_builtin;refine zm rfl _ _ _ _ rfl _ _ _ rfl rfl hr2 ?_);refine D.mono ?_;rintro e w4 (⟨_,_,d,rfl,h4,m4⟩|⟨d,_⟩);rotate_left
        ·cases d
        simp only[Option.map_some,Option.some.injEq,Prod.mk.injEq]at d;obtain⟨rfl,rfl⟩:=d;have ah:=zb (O.out.then (zah (fb:=fb) m4) (fun i hi=>.inl hi));have M:=zU rb p4 v bs w4 h4 (Hb.out.mod ah.out am.out) W.out u2;have aM:=zb m4;clear D m4 h4 af;cases hg2:zaq bs p4 with
        | none =>
         rw[hg2]at M;have t:Hid (rd2 b bs pos=none):=by
          show _=_;have:=u.out;rw[P.out,Option.bind_some,hg2]at this;rw[C.out,←this];rfl
         clear hg2;go_wp2_with (go_at_call 127;refine M.mono ?_;rintro e w' (⟨_,_,d,_⟩|⟨_,l,B⟩);cases d;unfold zac at l;subst l);exact⟨rfl,.inr ⟨t.out,rfl,ah.out.then (zah B) (fun i hi=>.inl hi)⟩⟩
        | some q2 =>
         obtain⟨size',p5⟩:=q2;obtain⟨u4,u5,u6⟩:=zR hg2;rw[hg2]at M;have ai:=zb hg2;clear hg2;go_wp2_with fail;refine M.mono ?_;rintro e w5 (⟨_,_,d,rfl,h5,m5⟩|⟨d,_⟩);rotate_left
         ·cases d
         simp only[Option.map_some,Option.some.injEq,Prod.mk.injEq]at d;obtain⟨rfl,rfl⟩:=d;have aj:=zb (ah.out.then (zah (fb:=fb) m5) (fun i hi=>.inl hi));have aB:=zb (aM.out.trans m5);have H5:=zb h5;clear M m5 h5;by_cases d2:lo<2
         ·have t:Hid (rd2 b bs pos=none):=by
           show _=_;have:=u.out;rw[P.out,Option.bind_some,ai.out,Option.bind_some,if_pos (.inl d2)]at this;rw[C.out,←this];rfl
          have e2:decide ((lo:Int)<2)=true:=by simp;omega
          go_wp2_with (go_at_call 128;refine(zbY _ _).mono ?_;rintro e w' ⟨l,rfl⟩;unfold zac at l;subst l);exact⟨rfl,.inr ⟨t.out,rfl,aj.out⟩⟩
         ·have e2:decide ((lo:Int)<2)=false:=by simp;omega
          have z3:IntKind.u64.wrap ((lo:Int)-2)=((lo-2:Nat):Int):=by rw[IntKind.wrap_u64];omega
          have Hd2:=zb d2;by_cases d3:lo-2<y
          ·have t:Hid (rd2 b bs pos=none):=by
            show _=_;have:=u.out;rw[P.out,Option.bind_some,ai.out,Option.bind_some,if_pos (.inr d3)]at this;rw[C.out,←this];rfl
           have e3:decide (lo-2<y)=true:=by simpa using d3
           clear d2;go_wp2_with (go_at_call 128;refine(zbY _ _).mono ?_;rintro e w' ⟨l,rfl⟩;unfold zac at l;subst l);exact⟨rfl,.inr ⟨t.out,rfl,aj.out⟩⟩
          ·have e3:decide (lo-2<y)=false:=by simpa using d3
           have z4:IntKind.u64.wrap (((lo-2:Nat):Int)-y)=((lo-2-y:Nat):Int):=by rw[IntKind.wrap_u64];omega
           have aN:Hid (zpQ w w5 rb fb v b bs (lo-2-y) (n-1) size' R):=by
            refine⟨z,p5,a++[(lo,hi)],.slice a2 (a.length+1) c2,H5.out,U.out.mod aB.out X.out,aB.out.owns s.out (fun g hg e=>zcY s.out K.out (by rw[hg,e])),L.out,V.out,u5,by omega,by simp;omega,aj.out,by omega,by omega,u6,?_⟩;have:=u.out;rw[P.out,Option.bind_some,ai.out,Option.bind_some,if_neg (by omega)]at this;exact this
           have HP:Hid (zgV w5 rb=p5∧zgV wr rb=q):=⟨zes H5.out,zes aH.out⟩;clear d2;go_wp2_with fail;go_roundw
           case rel=>exact⟨lo-2-y,n-1,size',by rfl,by rfl,rfl,aN.out⟩
           case measure =>
            rw[HP.out.1,HP.out.2];omega
def zG(k:Int)(b:Bool)(bs:List UInt8)(pos:Nat):Option (Frm×Nat) :=
 if k=1 then some (f0 1 b,pos)
 else if k=2 then rd2 b bs pos
 else if k=3 then rd3 b bs pos
 else if k=4 then rd4 b bs pos
 else if k=5 then zbE 5 b bs pos
 else if k=6 then rd6 b bs pos
 else if k=7 then rd7 b bs pos
 else zbE 8 b bs pos
def zds(k:Int)(b:Bool)(bs:List UInt8)(v:Value)(w:World)(e:Ending)(w':World):Prop :=
 ∃cb wv F caps G,e = .returned (.pointer (some ⟨cb,0,none⟩))∧zbM w' cb wv (.func (.func F) #[] caps) (.func (.func G) #[] #[])∧zeq F∧zeq G∧Mod NoB w w'∧w.heap.size≤cb ∧
  (∀rb fb pos,zcv w' rb v pos→BR w' v bs→zaX (Two rb fb) v→pos≤bs.length→bs.length≤1099511627776→zi w' fb (f0 k b) (.slice none 0 0)→fb≠rb→Calls Tryz.prog F (#[.pointer (some ⟨rb,0,none⟩),.pointer (some ⟨fb,0,none⟩)]++caps) w' (RdF w' rb v fb (zG k b bs pos))) ∧
  (∀Y bf f rv,zi Y bf f rv→RR Y rv f.rngs→f.kind=k→f.rngs.length≤1099511627776→f.data.length≤35184372088832→zaz f=true→Calls Tryz.prog G #[.pointer (some ⟨bf,0,none⟩)] Y (Says Y (zK f)))
theorem zjA:zeq 214:=zaM Tryz.func214 (by kernel_rfl) rfl
theorem zn1:zeq 188:=zaM Tryz.func188 (by kernel_rfl) rfl
theorem zn2:zeq 190:=zaM Tryz.func190 (by kernel_rfl) rfl
theorem zn3:zeq 171:=zaM Tryz.func171 (by kernel_rfl) rfl
theorem zn4:zeq 177:=zaM Tryz.func177 (by kernel_rfl) rfl
theorem zn5:zeq 182:=zaM Tryz.func182 (by kernel_rfl) rfl
theorem zn6:zeq 174:=zaM Tryz.func174 (by kernel_rfl) rfl
theorem zn7(b:Bool)(bs:List UInt8)(v:Value)(w:World):Calls Tryz.prog 131 #[.int .i64 1] w (zds 1 b bs v w):=by
 refine(of_1 w).mono ?_;rintro e w' ⟨cb,rfl,hc,hm,hb⟩;refine⟨cb,_,171,#[],172,rfl,hc,zn3,zbr,hm,hb,fun rb fb pos h hb hv hp hl a hne=>by rw[show zG 1 b bs pos=some (f0 1 b,pos)by simp[zG]];exact read1 rb fb pos v b w' h a,fun Y bf f rv a hr hk hn hd hq=>?_⟩;rw[show zK f=(true)by simp[zK,hk]];exact zaL _ Y
theorem zn8(b:Bool)(bs:List UInt8)(v:Value)(w:World):Calls Tryz.prog 131 #[.int .i64 2] w (zds 2 b bs v w):=by
 refine(of_2 w).mono ?_;rintro e w' ⟨cb,rfl,hc,hm,hb⟩;refine⟨cb,_,174,#[],175,rfl,hc,zn6,zjt,hm,hb,fun rb fb pos h hb hv hp hl a c=>by rw[show zG 2 b bs pos=rd2 b bs pos by simp[zG]];exact zir rb fb pos v bs b w' h hb hv hp hl a c,fun Y bf f rv a hr hk hn hd hq=>?_⟩;rw[show zK f=(zav f.rngs)by simp[zK,hk]];exact zd6 bf f rv Y a hr hn
theorem zn9(b:Bool)(bs:List UInt8)(v:Value)(w:World):Calls Tryz.prog 131 #[.int .i64 3] w (zds 3 b bs v w):=by
 refine(of_3 w).mono ?_;rintro e w' ⟨cb,rfl,hc,hm,hb⟩;refine⟨cb,_,177,#[],179,rfl,hc,zn4,zjr,hm,hb,fun rb fb pos h hb hv hp hl a c=>by rw[show zG 3 b bs pos=rd3 b bs pos by simp[zG]];exact read3 rb fb pos v bs b w' h hb hv hp a c,fun Y bf f rv a hr hk hn hd hq=>?_⟩;rw[show zK f=(decide (f.rel≤f.off))by simp[zK,hk]];exact zpe bf f rv Y a
theorem zoa(b:Bool)(bs:List UInt8)(v:Value)(w:World):Calls Tryz.prog 131 #[.int .i64 4] w (zds 4 b bs v w):=by
 refine(of_4 w).mono ?_;rintro e w' ⟨cb,rfl,hc,hm,hb⟩;refine⟨cb,_,182,#[],184,rfl,hc,zn5,zjs,hm,hb,fun rb fb pos h hb hv hp hl a c=>by rw[show zG 4 b bs pos=rd4 b bs pos by simp[zG]];exact read4 rb fb pos v bs b w' h hb hv hp a c,fun Y bf f rv a hr hk hn hd hq=>?_⟩;rw[show zK f=(decide (f.data.length+f.off≤4611686018427387903))by simp[zK,hk]];exact zpf bf f rv Y a (zcB hq).1 (by omega)
theorem zob(b:Bool)(bs:List UInt8)(v:Value)(w:World):Calls Tryz.prog 131 #[.int .i64 5] w (zds 5 b bs v w):=by
 refine(of_5 w).mono ?_;rintro e w' ⟨cb,tb,ab,rfl,hc,a,hm,hb,_,_⟩;refine⟨cb,_,_,_,172,rfl,hc,zjA,zbr,hm,hb,fun rb fb pos h hb hv hp hl d c=>by rw[show zG 5 b bs pos=zbE 5 b bs pos by simp[zG]];exact zjv rb fb ab pos 5 v bs b w' h hb hv hp d c a.2,fun Y bf f rv d hr hk hn hd hq=>?_⟩;rw[show zK f=(true)by simp[zK,hk]];exact zaL _ Y
theorem zoc(b:Bool)(bs:List UInt8)(v:Value)(w:World):Calls Tryz.prog 131 #[.int .i64 6] w (zds 6 b bs v w):=by
 refine(of_6 w).mono ?_;rintro e w' ⟨cb,rfl,hc,hm,hb⟩;refine⟨cb,_,188,#[],172,rfl,hc,zn1,zbr,hm,hb,fun rb fb pos h hb hv hp hl c a=>by rw[show zG 6 b bs pos=rd6 b bs pos by simp[zG]];exact read6 rb fb pos v bs b w' h hb hv hp c a,fun Y bf f rv c hr hk hn hd hq=>?_⟩;rw[show zK f=(true)by simp[zK,hk]];exact zaL _ Y
theorem zod(b:Bool)(bs:List UInt8)(v:Value)(w:World):Calls Tryz.prog 131 #[.int .i64 7] w (zds 7 b bs v w):=by
 refine(of_7 w).mono ?_;rintro e w' ⟨cb,rfl,hc,hm,hb⟩;refine⟨cb,_,190,#[],172,rfl,hc,zn2,zbr,hm,hb,fun rb fb pos h hb hv hp hl c a=>by rw[show zG 7 b bs pos=rd7 b bs pos by simp[zG]];exact read7 rb fb pos v bs b w' h hb hv hp c a,fun Y bf f rv c hr hk hn hd hq=>?_⟩;rw[show zK f=(true)by simp[zK,hk]];exact zaL _ Y
theorem zoe(b:Bool)(bs:List UInt8)(v:Value)(w:World):Calls Tryz.prog 131 #[.int .i64 8] w (zds 8 b bs v w):=by
 refine(of_8 w).mono ?_;rintro e w' ⟨cb,tb,ab,rfl,hc,a,hm,hb,_,_⟩;refine⟨cb,_,_,_,172,rfl,hc,zjA,zbr,hm,hb,fun rb fb pos h hb hv hp hl d c=>by rw[show zG 8 b bs pos=zbE 8 b bs pos by simp[zG]];exact zjv rb fb ab pos 8 v bs b w' h hb hv hp d c a.2,fun Y bf f rv d hr hk hn hd hq=>?_⟩;rw[show zK f=(true)by simp[zK,hk]];exact zaL _ Y
theorem zkh(t:UInt8)(k:Int)(hk:zbb t=some k)(b:Bool)(bs:List UInt8)(v:Value)(w:World):Calls Tryz.prog 131 #[.int .i64 k] w (zds k b bs v w):=by
 have a:k=1∨k=2∨k=3∨k=4∨k=5∨k=6∨k=7∨k=8:=by
  unfold zbb at hk;repeat' split at hk
  all_goals simp at hk
  all_goals omega
 rcases a with rfl|rfl|rfl|rfl|rfl|rfl|rfl|rfl
 ·exact zn7 b bs v w
 ·exact zn8 b bs v w
 ·exact zn9 b bs v w
 ·exact zoa b bs v w
 ·exact zob b bs v w
 ·exact zoc b bs v w
 ·exact zod b bs v w
 ·exact zoe b bs v w
def zaY(fs:List (Frm×Value)):List Value:=fs.flatMap fun x=>(zh x.1 x.2).toList
theorem zge(a b:List (Frm×Value)):zaY (a++b)=zaY a++zaY b:=by simp[zaY]
theorem zgf(fs:List (Frm×Value)):(zaY fs).length=fs.length*10:=by
 induction fs with
 | nil=>rfl
 | cons x fs ih =>
  have:zaY (x::fs)=(zh x.1 x.2).toList++zaY fs:=rfl;rw[this,List.length_append,ih];simp[zh];omega
theorem zgW(fs:List (Frm×Value)):∀i x,fs[i]?=some x→∀j u,(zh x.1 x.2)[j]?=some u→(zaY fs)[i*10+j]?=some u:=by
 induction fs with
 | nil=>intro i x h;simp at h
 | cons y fs ih =>
  intro i x h j u a;have hl:((zh y.1 y.2).toList).length=10:=rfl;have e:zaY (y::fs)=(zh y.1 y.2).toList++zaY fs:=rfl;cases i with
  | zero =>
   simp only[List.getElem?_cons_zero,Option.some.injEq]at h;subst h;have hj:j<10:=(Array.getElem?_eq_some_iff.1 a).1;rw[e,Nat.zero_mul,Nat.zero_add,List.getElem?_append_left (by omega),Array.getElem?_toList];exact a
  | succ i =>
   simp only[List.getElem?_cons_succ]at h;rw[e,show(i+1)*10+j=10+(i*10+j)by omega,List.getElem?_append_right (by omega),hl,Nat.add_sub_cancel_left];exact ih i x h j u a
def zh9(w:World)(v:Value)(fs:List (Frm×Value)):Prop:=w.ownsRow 0 65 10 v fs.length (zaY fs)∧∀x∈fs,zf5 w x.2 x.1.rngs
theorem zh9.frs{w:World}{v:Value}{fs:List (Frm×Value)}(h:zh9 w v fs):zc5 w v fs:=by
 obtain⟨a,cap,rfl,h1,h2,h3⟩:=zj h.1;refine⟨a,cap,rfl,h1,h2,fun i fr hi=>⟨?_,(h.2 fr (List.mem_of_getElem? hi)).rr⟩⟩;have hlt:i<fs.length:=(List.getElem?_eq_some_iff.1 hi).1;obtain⟨g,rfl⟩:=h3 (by omega);refine⟨g,0,rfl,fun j x hx=>?_⟩;have:=h.1.cells (g:=g) rfl _ _ (zgW fs i fr hi j x hx);rw[addr_add]at this;rw[Nat.zero_add]at this
 rwa [Nat.zero_add]
theorem zki:(Tryz.prog.info? 65).map (fun i=>(i.zero,i.size,i.bytes))=some (some (.agg #[.int .i64 0,.int .i64 0,.int .u64 0,.int .u64 0,.int .u64 0,.bool false,.int .u64 0,.int .u64 0,.string ⟨#[]⟩,.slice none 0 0]),10,104):=by kernel_rfl
theorem zis(f:Frm)(a:Option Addr)(n c:Nat):∀u∈(zh f (.slice a n c)).toList,u.oneCell'=true:=by
 intro u b;simp[zh]at b;rcases b with rfl|rfl|rfl|rfl|rfl|rfl|rfl|rfl|rfl|rfl<;>rfl
theorem zjB(w:World)(v:Value)(fs:List (Frm×Value))(f:Frm)(a:Option Addr)(n c:Nat)(h:w.ownsRow 0 65 10 v fs.length (zaY fs))(hl:fs.length≤1099511627776) :
  ∃v' w',(∀ty,(Builtin.append_ #[54,54] ty #[v,.slice (some ⟨w.heap.size,0,none⟩) 1 1]).run Tryz.prog (w.alloc (.cells (zh f (.slice a n c)) 65)) = .ok v' w') ∧
   w'.ownsRow 0 65 10 v' (fs.length+1) (zaY (fs++[(f,.slice a n c)]))∧w.grownBy w' v.ownBlock∧zaG w v v':=by
 obtain⟨i,d,hz,e,g⟩:=info_parts zki;have l:zaY [(f,.slice a n c)]=(zh f (.slice a n c)).toList:=by simp[zaY]
 have b:∀(j:Nat) u,(zaY [(f,.slice a n c)])[j]?=some u→(w.alloc (.cells (zh f (.slice a n c)) 65)).cell? ((⟨w.heap.size,0,none⟩:Addr).add j)=some u:=by
  intro j u hj;rw[addr_add];refine za (heap_alloc_new w _) ?_;rw[Nat.zero_add,←Array.getElem?_toList,←l];exact hj
 obtain⟨v',w',h1,h2,h3,h4,h5⟩:=zas (P:=Tryz.prog) (w.alloc (.cells (zh f (.slice a n c)) 65)) 54 65 i _ 10 104 Tryz.underlying54 d hz e g rfl (by decide) v fs.length (zaY fs) (World.ownsRow.alloc h _)
  ⟨w.heap.size,0,none⟩ 1 1 (zaY [(f,.slice a n c)]) (by rw[zgf];rfl) b (by rw[l];exact zis f a n c) (by unfold maxLen;omega) (by omega)
 refine⟨v',w',h1,?_,?_,?_⟩
 ·rw[zge];exact h2
 ·exact⟨h3.os,h3.tape,h3.output,Nat.le_trans (by simp) h3.size,fun k hk hn=>(h3.block k (by simp;omega) hn).trans (Below.heap_alloc w _ k hk)⟩
 ·intro k hk;rcases h4 k hk with x|x
  ·exact .inl x
  ·exact .inr (by simp at x;omega)
def FinD(G:World→Prop):Exit→Act→World→Prop:=fun b a w'=>(b = .normal∨b = .ret)∧a.defers=[]∧G w'
theorem zkj(a b c:Value)(w:World) :
  CallsD Tryz.prog 126 #[a,b,c] .returning w fun e u' w'=>e = .returned (.tuple #[])∧u' = .returning∧w'=w:=by
 refine callsD_of_wpS Tryz.func126 rfl fun d cs f=>?_
 apply wpS_seq;apply wpS_region;simp[wpOpsS,go_sem,recoverD,f,Tryz.ntmps126,Exit.thenS];rw[show #[a,b,c]++((Array.replicate 19 undef).setIfInBounds 3 Value.nilIface).setIfInBounds 0 Value.nilIface=(#[a,b,c,.nilIface,undef,undef,.nilIface,undef,undef,undef,undef,undef,undef,undef,undef,undef,undef,undef,undef,undef,undef,undef]:Array Value)from by kernel_rfl];refine wpS_of_wp (wp_mono (Q:=FinD (fun w'=>w'=w)) ?_ ?_)
 ·go_wp2_with fail;exact⟨by first|exact .inl rfl|exact .inr rfl,rfl,rfl⟩
 ·rintro e a w' ⟨he,hd,rfl⟩;have hc:({ d with mode:=.returning }:Frame)=d:=by
   cases d;simp at f;simp[f]
  rcases he with rfl|rfl;all_goals exact⟨hd,_,by rw[hc],_,results_none rfl _ _ _,rfl,rfl,rfl⟩
def zph(w:World)(a eb at_:Nat)(w':World):Prop :=
 w'.heap[a]?=some (.cells #[.int .u64 0,.slice none 0 0] 56 (0,0)) ∧
 (∃fa,w'.heap[eb]?=some (.cells #[.iface 162 (.pointer (some ⟨fa,0,none⟩))] 98 (0,0))∧w'.heap[fa]?=some (.cells #[.int .i64 8,.int .i64 (at_:Int)] 167 (0,0))∧w.heap.size≤fa) ∧
 Mod (fun k=>k=a∨k=eb) w w'
theorem zit(d b eb at_:Nat)(q h e0:Value)(c:List PanicEntry)(w:World)(ha:w.cell? ⟨d,0,none⟩=some (.int .i64 (at_:Int)))(g:w.heap[b]?=some (.cells #[q,h] 56 (0,0)))(f:w.heap[eb]?=some (.cells #[e0] 98 (0,0)))(l:b≠eb) :
  CallsD Tryz.prog 126 #[.pointer (some ⟨d,0,none⟩),.pointer (some ⟨b,0,none⟩),.pointer (some ⟨eb,0,none⟩)] (.panicking ({ v:=.iface 230 (.agg #[]),recovered:=false }::c)) w fun e u' w' =>
   e = .returned (.tuple #[])∧u' = .panicking ({ v:=.iface 230 (.agg #[]),recovered:=true }::c)∧zph w b eb at_ w':=by
 refine callsD_of_wpS Tryz.func126 rfl fun c₀ cs r=>?_
 have Hp:=zb g;have He:=zb f;have hpl:=zk (za (o:=0) g rfl);have hel:=zk (za (o:=0) f rfl);have hal:=zk ha;have p0:w.cell? ⟨b,0,none⟩=some q:=za (o:=0) g rfl;have p1:w.cell? ⟨b,1,none⟩=some h:=za (o:=1) g rfl;have q0:w.cell? ⟨eb,0,none⟩=some e0:=za (o:=0) f rfl;have hta:∀w,(Instr.typeAssert (.iface 230 (.agg #[])) 20 230 true).run Tryz.prog w = .ok (.tuple #[.agg #[],.bool true]) w:=fun _=>by kernel_rfl
 have pz:∀j,w.frozen? ⟨b,j,none⟩=false:=fun j=>zd g
 have qz:∀j,w.frozen? ⟨eb,j,none⟩=false:=fun j=>zd f
 apply wpS_seq;apply wpS_region;simp[wpOpsS,go_sem,recoverD,r,Tryz.ntmps126,Exit.thenS];rw[show #[Value.pointer (some ⟨d,0,none⟩),Value.pointer (some ⟨b,0,none⟩),Value.pointer (some ⟨eb,0,none⟩)]++((Array.replicate 19 undef).setIfInBounds 3 (Value.iface 230 (.agg #[]))).setIfInBounds 0 (Value.iface 230 (.agg #[]))=(#[.pointer (some ⟨d,0,none⟩),.pointer (some ⟨b,0,none⟩),.pointer (some ⟨eb,0,none⟩),.iface 230 (.agg #[]),undef,undef,.iface 230 (.agg #[]),undef,undef,undef,undef,undef,undef,undef,undef,undef,undef,undef,undef,undef,undef,undef]:Array Value)from by kernel_rfl];refine wpS_of_wp (wp_mono (Q:=FinD (zph w b eb at_)) ?_ ?_)
 ·clear g f r;go_wp2_with fail;refine⟨.inl rfl,rfl,?_⟩;obtain⟨W,m⟩:=nm (((w.setCell ⟨b,0,none⟩ (.int .u64 0)).setCell ⟨b,1,none⟩ (.slice none 0 0)).setCell ⟨eb,0,none⟩ (.iface 162 (.pointer (some ⟨w.heap.size+1,0,none⟩))));rw[m];have mW:Mod (fun k=>k=b∨k=eb) w W:=by
   rw[←m];exact(((Mod.refl (fun k=>k=b∨k=eb) w).setCell (p:=⟨b,0,none⟩) (.inl (.inl rfl)) _).setCell (p:=⟨b,1,none⟩) (.inl (.inl rfl)) _).setCell (p:=⟨eb,0,none⟩) (.inl (.inr rfl)) _
  have o1:=zc (i:=1) (v:=.slice none 0 0) (zc (i:=0) (v:=.int .u64 0) Hp.out);have oP:W.heap[b]?=some (.cells #[.int .u64 0,.slice none 0 0] 56 (0,0)):=by
   rw[←m];exact(((Mod.refl (fun k=>k=eb) _).setCell (p:=⟨eb,0,none⟩) (.inl rfl) _).obj l o1).trans (by simp)
  have oE:W.heap[eb]?=some (.cells #[.iface 162 (.pointer (some ⟨w.heap.size+1,0,none⟩))] 98 (0,0)):=by
   rw[←m];have e1:=(((Mod.refl (fun k=>k=b) w).setCell (p:=⟨b,0,none⟩) (.inl rfl) (.int .u64 0)).setCell (p:=⟨b,1,none⟩) (.inl rfl) (.slice none 0 0)).obj (fun e=>l e.symm) He.out;exact(zc (i:=0) e1).trans (by simp)
  have hs:W.heap.size=w.heap.size:=by rw[←m];simp[World.setCell]
  have n:Mod NoB W ((W.alloc (.cells #[] 230)).alloc (.cells #[.int .i64 8,.int .i64 (at_:Int)] 167)):=((Mod.refl _ _).alloc _).alloc _;refine⟨n.obj (fun x=>x) oP,⟨w.heap.size+1,n.obj (fun x=>x) oE,?_,by omega⟩,mW.then n (fun _ x=>x.elim)⟩;have:(W.alloc (.cells #[] 230)).heap.size=w.heap.size+1:=by simp[hs]
  rw[←this];exact heap_alloc_new _ _
 ·rintro e a w' ⟨f,hd,hg⟩;rcases f with rfl|rfl;all_goals exact⟨hd,_,rfl,_,results_none rfl _ _ _,rfl,rfl,hg⟩
def byteAt(bs:List UInt8)(i:Nat):Nat:=(bs.getD i 0).toNat
def be4(bs:List UInt8)(n:Nat):Nat:=byteAt bs n*16777216+byteAt bs (n+1)*65536+byteAt bs (n+2)*256+byteAt bs (n+3)
inductive zgX where
 | sum:zgX
 | bad (at_:Nat):zgX
 | ok (num:Nat) (fs:List Frm):zgX
def za5(bs:List UInt8)(pos:Nat):Option (Frm×Nat) :=
 match bs[pos]? with
 | none=>none
 | some t=>(zbb t).bind fun k=>(zG k (decide (t=9)) bs (pos+1)).bind fun r=>if zT r.1=true then some r else none
def zcZ(bs:List UInt8):Nat→Nat→Nat→List Frm→zgX
 | 0,_,pos,_=>.bad pos
 | fuel+1,num,pos,acc =>
  if pos<bs.length then
   match za5 bs pos with
   | none=>.bad pos
   | some r=>zcZ bs fuel num r.2 (acc++[r.1])
  else .ok num acc
def zaC(bs:List UInt8):zgX :=
 match zaq bs 0 with
 | none=>.bad 0
 | some q=>if q.2=bs.length then .bad 0 else zcZ bs (bs.length+1) q.1 q.2 []
def dec(bs:List UInt8):zgX :=
 if bs.length<4 then .sum
 else if be4 bs (bs.length-4)=crc (bs.take (bs.length-4))then zaC (bs.take (bs.length-4))else .sum
theorem zgY(bs:List UInt8):∀fuel hi n size pos acc r,pos≤bs.length→zcX bs fuel hi n size pos acc=some r→pos≤r.2∧r.2≤bs.length∧r.1.length≤acc.length+(r.2-pos)+1
 | 0,_,_,_,_,_,_,_,h=>by cases h
 | fuel+1,hi,n,size,pos,acc,r,hp,h=>by
  unfold zcX at h;split at h
  ·cases h
  ·split at h
   ·cases h;simp;exact hp
   ·cases h1:zaq bs pos with
    | none=>rw[h1]at h;cases h
    | some q1 =>
     obtain⟨g,p1⟩:=q1;obtain⟨a1,a2,_⟩:=zR h1;rw[h1]at h;simp only[Option.bind_some]at h;cases h2:zaq bs p1 with
     | none=>rw[h2]at h;cases h
     | some q2 =>
      obtain⟨s,p2⟩:=q2;obtain⟨b1,b2,_⟩:=zR h2;rw[h2]at h;simp only[Option.bind_some]at h;split at h
      ·cases h
      ·obtain⟨c1,c2,c3⟩:=zgY bs fuel _ _ _ _ _ _ b2 h;simp only[List.length_append,List.length_cons,List.length_nil]at c3;exact⟨by omega,c2,by omega⟩
theorem zgZ{bs l:List UInt8}{pos p:Nat}(h:zbv bs pos=some (l,p)):pos≤p∧p≤bs.length∧l.length≤bs.length:=by
 have he:=zdS h;unfold zbv at h;cases hr:zaq bs pos with
 | none=>rw[hr]at h;cases h
 | some q =>
  obtain⟨n,p1⟩:=q;rw[hr]at h;obtain⟨a1,a2,_⟩:=zR hr;simp only[Option.bind_some]at h;split at h
  ·cases h;refine⟨by omega,he,?_⟩;simp;omega
  ·cases h
theorem zc9{bs:List UInt8}{pos n p:Nat}(h:zam bs pos=some (n,p)):pos≤p∧p≤bs.length:=by
 unfold zam at h;cases hr:zaq bs pos with
 | none=>rw[hr]at h;cases h
 | some q =>
  rw[hr]at h;have:=zR hr;simp only[Option.bind_some]at h;split at h
  ·cases h;exact⟨by omega,this.2.1⟩
  ·cases h
def Read(bs:List UInt8)(pos:Nat)(k:Int)(f:Frm)(p:Nat):Prop:=f.kind=k∧pos≤p∧p≤bs.length∧f.data.length≤bs.length∧f.rngs.length≤bs.length+1
theorem zeH{bs:List UInt8}{pos p:Nat}{t:UInt8}{k:Int}{b:Bool}{f:Frm}(hk:zbb t=some k)(hp:pos≤bs.length)(h:zG k b bs pos=some (f,p)):Read bs pos k f p:=by
 have j:k=1∨k=2∨k=3∨k=4∨k=5∨k=6∨k=7∨k=8:=by
  unfold zbb at hk;repeat' split at hk
  all_goals simp at hk
  all_goals omega
 rcases j with rfl|rfl|rfl|rfl|rfl|rfl|rfl|rfl
 ·rw[show zG 1 b bs pos=some (f0 1 b,pos)by simp[zG]]at h;cases h;exact⟨rfl,Nat.le_refl _,hp,Nat.zero_le _,Nat.zero_le _⟩
 ·rw[show zG 2 b bs pos=rd2 b bs pos by simp[zG],rd2,Option.bind_eq_some_iff]at h;obtain⟨⟨e,p1⟩,a,h⟩:=h;rw[Option.bind_eq_some_iff]at h;obtain⟨⟨i,p2⟩,c,h⟩:=h;rw[Option.bind_eq_some_iff]at h;obtain⟨⟨g,p3⟩,d,h⟩:=h;rw[Option.bind_eq_some_iff]at h;obtain⟨r,e4,h⟩:=h;cases h;have:=zR a;have:=zR c;have:=zR d;simp only at *;obtain⟨c1,c2,c3⟩:=zgY bs _ _ _ _ _ _ _ (zR d).2.1 e4;refine⟨rfl,by omega,c2,Nat.zero_le _,?_⟩;show r.1.length≤_;simp only[List.length_nil]at c3;omega
 ·rw[show zG 3 b bs pos=rd3 b bs pos by simp[zG],rd3,Option.bind_eq_some_iff]at h;obtain⟨⟨e,p1⟩,a,h⟩:=h;rw[Option.bind_eq_some_iff]at h;obtain⟨⟨i,p2⟩,c,h⟩:=h;rw[Option.bind_eq_some_iff]at h;obtain⟨⟨g,p3⟩,d,h⟩:=h;cases h;have:=zc9 a;have:=zR c;have:=zR d;simp only at *;exact⟨rfl,by omega,by omega,Nat.zero_le _,Nat.zero_le _⟩
 ·rw[show zG 4 b bs pos=rd4 b bs pos by simp[zG],rd4,Option.bind_eq_some_iff]at h;obtain⟨⟨e,p1⟩,a,h⟩:=h;rw[Option.bind_eq_some_iff]at h;obtain⟨⟨i,p2⟩,c,h⟩:=h;rw[Option.bind_eq_some_iff]at h;obtain⟨⟨g,p3⟩,d,h⟩:=h;cases h;have:=zc9 a;have:=zR c;have:=zgZ d;simp only at *;exact⟨rfl,by omega,by omega,by show g.length≤_;omega,Nat.zero_le _⟩
 ·rw[show zG 5 b bs pos=zbE 5 b bs pos by simp[zG],zbE,Option.bind_eq_some_iff]at h;obtain⟨⟨e,p1⟩,a,h⟩:=h;cases h;have:=zR a;simp only at *;exact⟨rfl,by omega,by omega,Nat.zero_le _,Nat.zero_le _⟩
 ·rw[show zG 6 b bs pos=rd6 b bs pos by simp[zG],rd6,Option.bind_eq_some_iff]at h;obtain⟨⟨e,p1⟩,a,h⟩:=h;rw[Option.bind_eq_some_iff]at h;obtain⟨⟨i,p2⟩,c,h⟩:=h;cases h;have:=zc9 a;have:=zR c;simp only at *;exact⟨rfl,by omega,by omega,Nat.zero_le _,Nat.zero_le _⟩
 ·rw[show zG 7 b bs pos=rd7 b bs pos by simp[zG],rd7,Option.bind_eq_some_iff]at h;obtain⟨⟨e,p1⟩,a,h⟩:=h;rw[Option.bind_eq_some_iff]at h;obtain⟨⟨i,p2⟩,c,h⟩:=h;rw[Option.bind_eq_some_iff]at h;obtain⟨⟨g,p3⟩,d,h⟩:=h;cases h;have:=zR a;have:=zR c;have:=zgZ d;simp only at *;exact⟨rfl,by omega,by omega,by show g.length≤_;omega,Nat.zero_le _⟩
 ·rw[show zG 8 b bs pos=zbE 8 b bs pos by simp[zG],zbE,Option.bind_eq_some_iff]at h;obtain⟨⟨e,p1⟩,a,h⟩:=h;cases h;have:=zR a;simp only at *;exact⟨rfl,by omega,by omega,Nat.zero_le _,Nat.zero_le _⟩
def zlc(w:World)(pb a:Nat)(fv:Value):Prop:=w.heap[pb]?=some (.cells #[.int .u64 (a:Int),fv] 56 (0,0))
def zof(w:World)(eb:Nat)(v:Value):Prop:=w.heap[eb]?=some (.cells #[v] 98 (0,0))
def zai(w:World)(r:zgX)(e:Ending)(w':World):Prop :=
 Mod NoB w w'∧match r with
 | .sum=>e = .returned (.tuple #[.agg #[.int .u64 0,.slice none 0 0],.iface 57 (.int .i64 7)])
 | .bad at_=>∃fa,e = .returned (.tuple #[.agg #[.int .u64 0,.slice none 0 0],.iface 162 (.pointer (some ⟨fa,0,none⟩))])∧w'.heap[fa]?=some (.cells #[.int .i64 8,.int .i64 (at_:Int)] 167 (0,0))∧w.heap.size≤fa
 | .ok num fs=>∃fv rvs,e = .returned (.tuple #[.agg #[.int .u64 (num:Int),fv],.nilIface])∧zh9 w' fv rvs∧rvs.map (·.1)=fs∧(∀g,fv.ownBlock=some g→w.heap.size≤g)∧∀x∈rvs,∀g,x.2.ownBlock=some g→w.heap.size≤g
theorem zch(tmps:Array Value)(w:World)(a eb:Nat)(n fv ev:Value)(h2:tmps.getD 2 undef = .pointer (some ⟨a,0,none⟩))(h3:tmps.getD 3 undef = .pointer (some ⟨eb,0,none⟩))
  (c0:w.cell? ⟨a,0,none⟩=some n) (c1:w.cell? ⟨a,1,none⟩=some fv) (c2:w.cell? ⟨eb,0,none⟩=some ev) :
  (results Tryz.f74 tmps).run Tryz.prog w = .ok (.tuple #[.agg #[n,fv],ev]) w:=by
 have b:tmps[2]?.getD undef = .pointer (some ⟨a,0,none⟩):=by rw[←h2];simp
 have c:tmps[3]?.getD undef = .pointer (some ⟨eb,0,none⟩):=by rw[←h3];simp
 simp[results,Tryz.results74,go_sem,b,c,c0,c1,c2]
theorem zlw(v:Value)(bs:List UInt8)(w:World)(hb:BR w v bs)(hs:bs.length<4) :
  Calls Tryz.prog 74 #[v] w (zai w .sum):=by
 obtain⟨a,cap,rfl,h1,h2,h3⟩:=hb;unfold maxLen at h2;have z1:IntKind.i64.wrap ((bs.length:Int)-4)=(bs.length:Int)-4:=IntWalk.i64_in _ (by omega);have d:(bs.length:Int)-4<0:=by omega
 clear h3
 go_enter_defers Tryz.func74,Tryz.ntmps74
 go_wp2_with fail;refine⟨_,zch _ _ _ _ _ _ _ rfl rfl (by simp) (by simp) (by simp),((Mod.refl _ _).alloc _).alloc _,rfl⟩
theorem zdV(a b:Nat)(ha:a<4294967296)(hb:b<4294967296):bits .or .u32 (a:Int) (b:Int)=((a ||| b:Nat):Int):=by
 have hx:a ||| b<2 ^ 32:=Nat.or_lt_two_pow (by omega) (by omega);have h1:(BitVec.ofInt 32 (a:Int)).toNat=a:=by
  rw[BitVec.ofInt_natCast,BitVec.toNat_ofNat];exact Nat.mod_eq_of_lt (by omega)
 have h2:(BitVec.ofInt 32 (b:Int)).toNat=b:=by
  rw[BitVec.ofInt_natCast,BitVec.toNat_ofNat];exact Nat.mod_eq_of_lt (by omega)
 show IntKind.u32.wrap ((BitVec.ofInt 32 (a:Int) ||| BitVec.ofInt 32 (b:Int)).toNat:Int)=_;rw[BitVec.toNat_or,h1,h2,zbF];omega
theorem zlx(a b i:Nat)(h:b<2 ^ i):a*2 ^ i ||| b=a*2 ^ i+b:=by
 have:=Nat.two_pow_add_eq_or_of_lt h a;rw[Nat.mul_comm]at this;exact this.symm
theorem or_be(a b c d:Nat)(h0:a<256)(h1:b<256)(h2:c<256)(h3:d<256) :
  bits .or .u32 ((a:Int)*16777216) ((b:Int)*65536)=(a:Int)*16777216+(b:Int)*65536 ∧
  bits .or .u32 ((a:Int)*16777216+(b:Int)*65536) ((c:Int)*256)=(a:Int)*16777216+(b:Int)*65536+(c:Int)*256 ∧
  bits .or .u32 ((a:Int)*16777216+(b:Int)*65536+(c:Int)*256) (d:Int)=(a:Int)*16777216+(b:Int)*65536+(c:Int)*256+(d:Int):=by
 refine⟨?_,?_,?_⟩
 ·have:=zdV (a*16777216) (b*65536) (by omega) (by omega);rw[zlx a (b*65536) 24 (by omega)]at this;rw[show(a:Int)*16777216=((a*16777216:Nat):Int)by omega,show(b:Int)*65536=((b*65536:Nat):Int)by omega,this];omega
 ·have:=zdV (a*16777216+b*65536) (c*256) (by omega) (by omega);have e:a*16777216+b*65536=(a*256+b)*2 ^ 16:=by omega
  rw[e,zlx _ (c*256) 16 (by omega),←e]at this;rw[show(a:Int)*16777216+(b:Int)*65536=((a*16777216+b*65536:Nat):Int)by omega,show(c:Int)*256=((c*256:Nat):Int)by omega,this];omega
 ·have:=zdV (a*16777216+b*65536+c*256) d (by omega) (by omega);have e:a*16777216+b*65536+c*256=(a*65536+b*256+c)*2 ^ 8:=by omega
  rw[e,zlx _ d 8 (by omega),←e]at this;rw[show(a:Int)*16777216+(b:Int)*65536+(c:Int)*256=((a*16777216+b*65536+c*256:Nat):Int)by omega,this];omega
theorem BR.pre{w:World}{a:Option Addr}{cap n:Nat}{bs:List UInt8}(h:BR w (.slice a bs.length cap) bs)(hn:n≤bs.length):BR w (.slice a n cap) (bs.take n):=by
 obtain⟨a',d,hv,h1,h2,h3⟩:=h;cases hv;have hl:(bs.take n).length=n:=by simp;omega
 refine⟨a,cap,by rw[hl],by omega,h2,fun i c hi=>?_⟩;have b:i<n:=by
  have:=(List.getElem?_eq_some_iff.1 hi).1;omega
 rw[List.getElem?_take,if_pos b]at hi;exact h3 i c hi
theorem BR.byte{w:World}{a:Option Addr}{l cap:Nat}{bs:List UInt8}(h:BR w (.slice a l cap) bs){i:Nat}(hi:i<bs.length):∃g o,a=some ⟨g,o,none⟩∧w.cell? ⟨g,o+i,none⟩=some (.int .u8 (byteAt bs i:Int)):=by
 obtain⟨a',b,hv,h1,h2,h3⟩:=h;cases hv;have:=h3 i bs[i] (List.getElem?_eq_getElem hi);unfold byteAt;rw[List.getD_eq_getElem?_getD,List.getElem?_eq_getElem hi];exact this
theorem zbx(bs:List UInt8)(i:Nat):byteAt bs i<256:=by
 unfold byteAt;have:=(bs.getD i 0).toNat_lt;omega
theorem zpR(v:Value)(bs:List UInt8)(n:Nat)(w:World)(hb:BR w v bs)(A:Tab w)(B:bs.length=n+4)(hs:be4 bs n≠crc (bs.take n)) :
  Calls Tryz.prog 74 #[v] w (zai w .sum):=by
 obtain⟨a,cap,rfl,h1,h2,h3⟩:=id hb;unfold maxLen at h2;rw[B]at h1 hb ⊢;have b:BR w (.slice a bs.length cap) bs:=by rw[B];exact hb
 obtain⟨g,o,rfl,C⟩:=b.byte (i:=n) (by omega);obtain⟨_,_,e,k1⟩:=b.byte (i:=n+1) (by omega);cases e;obtain⟨_,_,e,k2⟩:=b.byte (i:=n+2) (by omega);cases e;obtain⟨_,_,e,k3⟩:=b.byte (i:=n+3) (by omega);cases e;have hgl:=zk C;have c:=b.pre (n:=n) (by omega);have d:=fun w' (m:Mod NoB w w')=>zic (.slice (some ⟨g,o,none⟩) n cap) (bs.take n) w' (c.mod m (zaX.no _)) (A.mod m (fun x=>x))
 have r:=zjn (bs.take n);obtain⟨s,f⟩:=nm (crc (bs.take n));rw[f]at d hs r;have D:=zbx bs n;have E:=zbx bs (n+1);have F:=zbx bs (n+2);have G:=zbx bs (n+3);unfold be4 at hs;obtain⟨j,e0⟩:=nm (byteAt bs n);obtain⟨l,H⟩:=nm (byteAt bs (n+1));obtain⟨q,I⟩:=nm (byteAt bs (n+2));obtain⟨J,K⟩:=nm (byteAt bs (n+3));rw[e0]at C D hs;rw[H]at k1 E hs;rw[I]at k2 F hs;rw[K]at k3 G hs;obtain⟨o1,o2,o3⟩:=or_be j l q J D E F G;have z1:IntKind.i64.wrap (((n+4:Nat):Int)-4)=(n:Int):=by rw[show((n+4:Nat):Int)-4=n by omega];exact IntWalk.i64_in _ (by omega)
 have z2:IntKind.i64.wrap ((n:Int)+1)=(n:Int)+1:=IntWalk.i64_in _ (by omega);have z3:IntKind.i64.wrap ((n:Int)+2)=(n:Int)+2:=IntWalk.i64_in _ (by omega);have z4:IntKind.i64.wrap ((n:Int)+3)=(n:Int)+3:=IntWalk.i64_in _ (by omega);have t2:((n:Int)+1).toNat=n+1:=by omega
 have t3:((n:Int)+2).toNat=n+2:=by omega
 have t4:((n:Int)+3).toNat=n+3:=by omega
 have y0:IntKind.u32.wrap ((j:Int)*16777216)=(j:Int)*16777216:=by rw[zbF];omega
 have y1:IntKind.u32.wrap ((l:Int)*65536)=(l:Int)*65536:=by rw[zbF];omega
 have y2:IntKind.u32.wrap ((q:Int)*256)=(q:Int)*256:=by rw[zbF];omega
 have hq:((j:Int)*16777216+(l:Int)*65536+(q:Int)*256+(J:Int) != (s:Int))=true:=by rw[bne_iff_ne];omega
 clear h3 hb b A c e0 H I K f hs
 go_enter_defers Tryz.func74,Tryz.ntmps74
 go_wp2_with (go_at_call 125;refine(d _ (((Mod.refl _ _).alloc _).alloc _)).mono ?_;rintro e w' ⟨rfl,rfl⟩);go_quiet (fail);go_wp2_with fail;have L:Mod NoB w (((w.alloc (.cells #[.int .u64 0,.slice none 0 0] 56)).alloc (.cells #[.nilIface] 98)).drewN nq):=(((Mod.refl _ _).alloc _).alloc _).drewN _;obtain⟨X,t⟩:=nm (((w.alloc (.cells #[.int .u64 0,.slice none 0 0] 56)).alloc (.cells #[.nilIface] 98)).drewN nq);have oP:X.heap[w.heap.size]?=some (.cells #[.int .u64 0,.slice none 0 0] 56 (0,0)):=by
  rw[←t];exact(((Mod.refl NoB _).alloc (.cells #[.nilIface] 98)).drewN nq).obj (fun x=>x) (heap_alloc_new w _)
 have oE:X.heap[w.heap.size+1]?=some (.cells #[.nilIface] 98 (0,0)):=by
  rw[←t];have e:(w.alloc (.cells #[.int .u64 0,.slice none 0 0] 56)).heap.size=w.heap.size+1:=by simp
  rw[←e];exact((Mod.refl NoB _).drewN nq).obj (fun x=>x) (heap_alloc_new _ _)
 rw[t]at L ⊢;have y:=zc (i:=1) (v:=.slice none 0 0) (zc (i:=0) (v:=.int .u64 0) oP);have mE:Mod (fun k=>k=w.heap.size) X ((X.setCell ⟨w.heap.size,0,none⟩ (.int .u64 0)).setCell ⟨w.heap.size,1,none⟩ (.slice none 0 0)):=((Mod.refl (fun k=>k=w.heap.size) X).setCell (p:=⟨w.heap.size,0,none⟩) (.inl rfl) _).setCell (p:=⟨w.heap.size,1,none⟩) (.inl rfl) _;have z:=zc (i:=0) (v:=.iface 57 (.int .i64 7)) (mE.obj (by show ¬w.heap.size+1=w.heap.size;omega) oE);have mL:∀u,Mod (fun k=>k=w.heap.size+1) ((X.setCell ⟨w.heap.size,0,none⟩ (.int .u64 0)).setCell ⟨w.heap.size,1,none⟩ (.slice none 0 0)) (((X.setCell ⟨w.heap.size,0,none⟩ (.int .u64 0)).setCell ⟨w.heap.size,1,none⟩ (.slice none 0 0)).setCell ⟨w.heap.size+1,0,none⟩ u):=fun u=>(Mod.refl (fun k=>k=w.heap.size+1) _).setCell (p:=⟨w.heap.size+1,0,none⟩) (.inl rfl) u
 have h:=(mL (.iface 57 (.int .i64 7))).obj (by show ¬w.heap.size=w.heap.size+1;omega) y;refine⟨_,zch _ _ _ _ _ _ _ rfl rfl (za h rfl) (za h rfl) (za z rfl),((L.setCell (p:=⟨w.heap.size,0,none⟩) (.inr (Nat.le_refl _)) _).setCell (p:=⟨w.heap.size,1,none⟩) (.inr (Nat.le_refl _)) _).setCell (p:=⟨w.heap.size+1,0,none⟩) (.inr (Nat.le_succ _)) _,rfl⟩
theorem zkk(r:zgX)(w W:World)(tmps:Array Value)(a eb b at_:Nat)(h fv e0:Value)(h2:tmps.getD 2 undef = .pointer (some ⟨a,0,none⟩))(h3:tmps.getD 3 undef = .pointer (some ⟨eb,0,none⟩))(j:Mod NoB w W)
  (hp:W.heap[a]?=some (.cells #[h,fv] 56 (0,0))) (he:W.heap[eb]?=some (.cells #[e0] 98 (0,0))) (ha:W.cell? ⟨b,0,none⟩=some (.int .i64 (at_:Int))) (c:a≠eb) (d:w.heap.size≤a) (g:w.heap.size≤eb) (hr:r = .bad at_) :
  bodyPostD Tryz.prog Tryz.f74 (zai w r) (Exit.panic [{ v:=.iface 230 (.agg #[]),recovered:=false }]) { tmps:=tmps,defers:=[{ target:=.fn (.func 126) #[.pointer (some ⟨b,0,none⟩),.pointer (some ⟨a,0,none⟩),.pointer (some ⟨eb,0,none⟩)],args:=#[] }] } W:=by
 subst hr;refine leaves_cons (f:=126) (args:=#[.pointer (some ⟨b,0,none⟩),.pointer (some ⟨a,0,none⟩),.pointer (some ⟨eb,0,none⟩)]) (by simp) (by simp[go_sem]) ?_;refine(zit b a eb at_ h fv e0 [] W ha hp he c).mono ?_;rintro e u' w'' ⟨rfl,rfl,c1,⟨fa,c2,c3,c4⟩,c5⟩;show Leaves Tryz.prog Tryz.f74 tmps (zai w (.bad at_)) [] .returning w'';refine⟨_,zch _ _ _ _ _ _ _ h2 h3 (za c1 rfl) (za c1 rfl) (za c2 rfl),?_,fa,rfl,c3,?_⟩
 ·refine j.then c5 ?_;rintro i (rfl|rfl)
  ·exact .inr d
  ·exact .inr g
 ·exact Nat.le_trans j.size c4
theorem zpS(r:zgX)(w W:World)(tmps:Array Value)(k eb h:Nat)(a b c:Value)(fv:Value)(d:List (Frm×Value))(h2:tmps.getD 2 undef = .pointer (some ⟨k,0,none⟩))(h3:tmps.getD 3 undef = .pointer (some ⟨eb,0,none⟩))(hm:Mod NoB w W)
  (l:zlc W k h fv) (he:zof W eb .nilIface) (hf:zh9 W fv d) (i:∀g,fv.ownBlock=some g→w.heap.size≤g) (j:∀x∈d,∀g,x.2.ownBlock=some g→w.heap.size≤g) (hr:r = .ok h (d.map (·.1))) :
  bodyPostD Tryz.prog Tryz.f74 (zai w r) Exit.ret { tmps:=tmps,defers:=[{ target:=.fn (.func 126) #[a,b,c],args:=#[] }] } W:=by
 subst hr;refine leaves_cons (f:=126) (args:=#[a,b,c]) (by simp) (by simp[go_sem]) ?_;refine(zkj a b c W).mono ?_;rintro e u' w'' ⟨rfl,rfl,rfl⟩;show Leaves Tryz.prog Tryz.f74 tmps (zai w (.ok h (d.map (·.1)))) [] .returning w'';exact⟨_,zch _ _ _ _ _ _ _ h2 h3 (za l rfl) (za l rfl) (za he rfl),hm,fv,d,rfl,hf,rfl,i,j⟩
end Go.Proofs.YtddfdpbaiedcjaaGreatDoor
