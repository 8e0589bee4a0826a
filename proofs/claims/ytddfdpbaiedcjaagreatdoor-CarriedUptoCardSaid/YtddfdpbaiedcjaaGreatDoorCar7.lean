/- A part of Carried's proof. Conditions: none. Part 7 of 13. -/
import Derived.Test.YtddfdpbaiedcjaaGreatDoorCar6
set_option maxRecDepth 100000
set_option maxHeartbeats 16000000
set_option linter.all false
namespace Go.Proofs.YtddfdpbaiedcjaaGreatDoor
open Go.RowKit Go.Proofs.Tryz
def zdE:Nat→List Nat→Nat→Nat→List Nat
 | 0,l,_,_=>l
 | f+1,l,i,n =>
  if 2*i+1<n then
   if 2*i+2<n∧l.getD (2*i+2) 0<l.getD (2*i+1) 0 then
    if l.getD (2*i+2) 0<l.getD i 0 then zdE f (zcp l i (2*i+2)) (2*i+2) n else l
   else if l.getD (2*i+1) 0<l.getD i 0 then zdE f (zcp l i (2*i+1)) (2*i+1) n else l
  else l
variable{i:Nat}
theorem zdF{l:List Nat}(h:i<l.length):l[i]?=some (l.getD i 0):=by
 rw[List.getD_eq_getElem?_getD,List.getElem?_eq_getElem h];rfl
theorem zel(l:List Nat)(i k:Nat):(zcp l i k).length=l.length:=by simp[zcp]
structure zdG(sb:Nat)(fn:Nat→Value)(l0:List Nat)(n g cap:Nat)(W0:World)(i:Nat)(l:List Nat)(W:World):Prop where
 h:zam sb fn l g cap W
 m:Mod (fun q=>q=g) W0 W
 len:l.length=l0.length
 f:∃f,n≤i+f∧zdE f l i n=zdE n l0 0 n
variable{W W0:World}{cap g n sb:Nat}{fn:Nat→Value}
theorem zdG.leave{a:List Nat}{l:List Nat}(h:zdG sb fn a n g cap W0 i l W)(hn:¬2*i+1<n):zdE n a 0 n=l:=by
 obtain⟨f,h1,h2⟩:=h.f;rw[←h2];cases f with
 | zero=>rfl
 | succ f =>
  unfold zdE;rw[if_neg hn]
variable{j:Nat}
theorem zdG.stop{b:List Nat}{l:List Nat}(h:zdG sb fn b n g cap W0 i l W)(hn:2*i+1<n)(a:j=if 2*i+2<n∧l.getD (2*i+2) 0<l.getD (2*i+1) 0 then 2*i+2 else 2*i+1)(hl:¬l.getD j 0<l.getD i 0):zdE n b 0 n=l:=by
 obtain⟨f,h1,h2⟩:=h.f;rw[←h2];cases f with
 | zero=>rfl
 | succ f =>
  unfold zdE;rw[if_pos hn];split at a
  ·rw[if_pos (by assumption),←a,if_neg hl]
  ·rw[if_neg (by assumption),←a,if_neg hl]
variable{W':World}
theorem zdG.next{b:List Nat}{l:List Nat}(h:zdG sb fn b n g cap W0 i l W)(hn:2*i+1<n)(a:j=if 2*i+2<n∧l.getD (2*i+2) 0<l.getD (2*i+1) 0 then 2*i+2 else 2*i+1)(hl:l.getD j 0<l.getD i 0)
  (hh:zam sb fn (zcp l i j) g cap W') (hm:Mod (fun q=>q=g) W W'):zdG sb fn b n g cap W0 j (zcp l i j) W':=by
 obtain⟨f,h1,h2⟩:=h.f;refine⟨hh,h.m.trans hm,by rw[zel];exact h.len,?_⟩;cases f with
 | zero=>omega
 | succ f =>
  refine⟨f,by split at a<;>omega,?_⟩;rw[←h2]
  conv=>rhs;unfold zdE
  rw[if_pos hn];split at a
  ·rw[if_pos (by assumption),←a,if_pos hl]
  ·rw[if_neg (by assumption),←a,if_pos hl]
theorem zmM{l:List Nat}(h:zam sb fn l g cap W)(n:Nat)(hn:n≤l.length):Calls prog 200 #[hI sb,.int .i64 0,.int .i64 (n:Int)] W fun e W'=>(∃b,e = .returned (.bool b))∧zam sb fn (zdE n l 0 n) g cap W'∧Mod (fun q=>q=g) W W':=by
 have hs:=h.small;have HH:Hid (zdG sb fn l n g cap W 0 l W):=⟨h,Mod.refl _ _,rfl,n,by omega,rfl⟩;obtain⟨R,Y⟩:=nm (zdE n l 0 n);rw[Y];have X:=zb Y;clear h Y;unfold hI;go_enter func200,ntmps200;go_wp2_with fail
 go_loopw [7] (fun Z wr=>∃(i:Nat) (j:List Nat),Z = .int .i64 (i:Int)∧i≤n∧Hid (zdG sb fn l n g cap W i j wr)) (fun Z _=>n-(intOf Z).toNat)
 case atStart=>exact⟨0,l,rfl,by omega,HH⟩
 case round =>
  obtain⟨i,j,rfl,hi,c⟩:=hrel;obtain⟨p,I⟩:∃p:Nat,2*i+1=p:=⟨_,rfl⟩;obtain⟨w,J⟩:∃w:Nat,2*i+2=w:=⟨_,rfl⟩;have q1:IntKind.i64.wrap (2*(i:Int))=2*(i:Int):=IntWalk.i64_in _ (by omega);have q2:IntKind.i64.wrap (2*(i:Int)+1)=(p:Int):=by rw[IntWalk.i64_in _ (by omega)];omega
  have q3:IntKind.i64.wrap ((p:Int)+1)=(w:Int):=by rw[IntWalk.i64_in _ (by omega)];omega
  have D:=c.out.len;by_cases h1:p<n
  ·have C:2*i+1<n:=by omega
   have s:=zb C;have gi:=zdF (l:=j) (i:=i) (by omega);have g1:=zdF (l:=j) (i:=p) (by omega);have N:=zb D;obtain⟨x,hx⟩:=nm (j.getD i 0);obtain⟨y1,K⟩:=nm (j.getD p 0);obtain⟨y2,O⟩:=nm (j.getD w 0);rw[hx]at gi;rw[K]at g1;have t:=zb I;have u:=zb J;have L:=zb hx;have r:=zb K;have v:=zb O;clear D;have hm:=zhs c.out.h.c0;have d1:¬(n:Int)≤p:=by omega
   have d2:¬(p:Int)<0:=by omega
   clear I J C hx K O;by_cases h2:w<n
   ·have g2:=zdF (l:=j) (i:=w) (by have:=N.out;omega);rw[v.out]at g2;have M:=zcP c.out.h g2 g1;have d3:(w:Int)<n:=by omega
    by_cases h3:y2<y1
    ·rw[decide_eq_true h3]at M;have KL:=zb M;have H3:=zb h3;clear M h3;go_upto_region 8 with(go_at_call 245;refine KL.out.mono ?_;rintro e w2 ⟨rfl,P⟩;have y:=zb P;clear P);have z:=c.out.h.mod y.out (fun x=>x) (fun x=>x);have A:=zhs z.c0;have a:=zcP z g2 gi;have E:w=if 2*i+2<n∧j.getD (2*i+2) 0<j.getD (2*i+1) 0 then 2*i+2 else 2*i+1:=by
      rw[u.out,t.out,r.out];rw[v.out,if_pos ⟨h2,H3.out⟩]
     have F:=zb E;clear E z hm;by_cases h4:y2<x
     ·rw[decide_eq_true h4]at a;have d:=zb a;have B:=zb h4;clear a h4;go_upto_region 9 with(go_at_call 245;refine d.out.mono ?_;rintro e Q ⟨rfl,k⟩;have o:=zb (y.out.trans k);clear k);have f:=c.out.h.mod o.out (fun x=>x) (fun x=>x);have S:=zj5 f.c0;have G:=zdD f gi g2;have T:=zb G;clear G f A;go_wp2_with (go_at_call 248;refine T.out.mono ?_;rintro e w4 ⟨rfl,h4,H⟩;have U:=zb h4;have V:=zb H;clear h4 H);go_roundw
      case rel=>exact⟨w,zcp j i w,rfl,by omega,zb (c.out.next s.out F.out (by rw[L.out,v.out];exact B.out) U.out ((o.out.mono (fun _ x=>x.elim)).trans V.out))⟩
      case measure =>
       have a1:=t.out;have a2:=u.out;simp[intOf];omega
     ·rw[decide_eq_false h4]at a;have d:=zb a;have B:=zb h4;clear a h4;go_wp2_with (go_at_call 245;refine d.out.mono ?_;rintro e Q ⟨rfl,k⟩;have o:=zb (y.out.trans k);clear k);all_goals
       go_ret;have e:=c.out.stop s.out F.out (by rw[L.out,v.out];exact B.out);rw[X.out]at e;exact⟨⟨_,rfl⟩,by rw[e];exact c.out.h.mod o.out (fun x=>x) (fun x=>x),c.out.m.trans (o.out.mono (fun _ x=>x.elim))⟩
    ·rw[decide_eq_false h3]at M;have KL:=zb M;have H3:=zb h3;clear M h3;go_upto_region 8 with(go_at_call 245;refine KL.out.mono ?_;rintro e w2 ⟨rfl,P⟩;have y:=zb P;clear P);have z:=c.out.h.mod y.out (fun x=>x) (fun x=>x);have A:=zhs z.c0;have a:=zcP z g1 gi;have E:p=if 2*i+2<n∧j.getD (2*i+2) 0<j.getD (2*i+1) 0 then 2*i+2 else 2*i+1:=by
      rw[u.out,t.out,r.out];rw[v.out,if_neg (fun x=>H3.out x.2)]
     have F:=zb E;clear E z hm;by_cases h4:y1<x
     ·rw[decide_eq_true h4]at a;have d:=zb a;have B:=zb h4;clear a h4;go_upto_region 9 with(go_at_call 245;refine d.out.mono ?_;rintro e Q ⟨rfl,k⟩;have o:=zb (y.out.trans k);clear k);have f:=c.out.h.mod o.out (fun x=>x) (fun x=>x);have S:=zj5 f.c0;have G:=zdD f gi g1;have T:=zb G;clear G f A;go_wp2_with (go_at_call 248;refine T.out.mono ?_;rintro e w4 ⟨rfl,h4,H⟩;have U:=zb h4;have V:=zb H;clear h4 H);go_roundw
      case rel=>exact⟨p,zcp j i p,rfl,by omega,zb (c.out.next s.out F.out (by rw[L.out,r.out];exact B.out) U.out ((o.out.mono (fun _ x=>x.elim)).trans V.out))⟩
      case measure =>
       have a1:=t.out;have a2:=u.out;simp[intOf];omega
     ·rw[decide_eq_false h4]at a;have d:=zb a;have B:=zb h4;clear a h4;go_wp2_with (go_at_call 245;refine d.out.mono ?_;rintro e Q ⟨rfl,k⟩;have o:=zb (y.out.trans k);clear k);all_goals
       go_ret;have e:=c.out.stop s.out F.out (by rw[L.out,r.out];exact B.out);rw[X.out]at e;exact⟨⟨_,rfl⟩,by rw[e];exact c.out.h.mod o.out (fun x=>x) (fun x=>x),c.out.m.trans (o.out.mono (fun _ x=>x.elim))⟩
   ·have d3:¬(w:Int)<n:=by omega
    clear v;go_upto_region 8 with fail;have y:Hid (Mod NoB wr wr):=zb (Mod.refl _ _);have z:=c.out.h.mod y.out (fun x=>x) (fun x=>x);have A:=zhs z.c0;have a:=zcP z g1 gi;have E:p=if 2*i+2<n∧j.getD (2*i+2) 0<j.getD (2*i+1) 0 then 2*i+2 else 2*i+1:=by
     rw[u.out,t.out,r.out];rw[if_neg (fun x=>h2 x.1)]
    have F:=zb E;clear E z hm;by_cases h4:y1<x
    ·rw[decide_eq_true h4]at a;have d:=zb a;have B:=zb h4;clear a h4;go_upto_region 9 with(go_at_call 245;refine d.out.mono ?_;rintro e Q ⟨rfl,k⟩;have o:=zb (y.out.trans k);clear k);have f:=c.out.h.mod o.out (fun x=>x) (fun x=>x);have S:=zj5 f.c0;have G:=zdD f gi g1;have T:=zb G;clear G f A;go_wp2_with (go_at_call 248;refine T.out.mono ?_;rintro e w4 ⟨rfl,h4,H⟩;have U:=zb h4;have V:=zb H;clear h4 H);go_roundw
     case rel=>exact⟨p,zcp j i p,rfl,by omega,zb (c.out.next s.out F.out (by rw[L.out,r.out];exact B.out) U.out ((o.out.mono (fun _ x=>x.elim)).trans V.out))⟩
     case measure =>
      have a1:=t.out;have a2:=u.out;simp[intOf];omega
    ·rw[decide_eq_false h4]at a;have d:=zb a;have B:=zb h4;clear a h4;go_wp2_with (go_at_call 245;refine d.out.mono ?_;rintro e Q ⟨rfl,k⟩;have o:=zb (y.out.trans k);clear k);all_goals
      go_ret;have e:=c.out.stop s.out F.out (by rw[L.out,r.out];exact B.out);rw[X.out]at e;exact⟨⟨_,rfl⟩,by rw[e];exact c.out.h.mod o.out (fun x=>x) (fun x=>x),c.out.m.trans (o.out.mono (fun _ x=>x.elim))⟩
  ·have d1:(n:Int)≤p:=by omega
   have C:¬2*i+1<n:=by omega
   have HF:zam sb fn R g cap wr:=by
    rw[←X.out,c.out.leave C];exact c.out.h
   have aa:=zb HF;clear I J HF;go_wp2_with fail;all_goals
    go_ret;exact⟨⟨_,rfl⟩,aa.out,c.out.m⟩
theorem zmN{l o:List Nat}{c:Nat}(h:zam sb fn l g cap W)(h1:1≤l.length)(f:zdE (l.length-1) (zcp l 0 (l.length-1)) 0 (l.length-1)=o++[c]):Calls prog 151 #[hI sb] W fun e W'=>e = .returned (.iface 266 (.agg #[.int .i64 (c:Int),fn c]))∧zam sb fn o g cap W'∧Mod (fun q=>q=sb∨q=g) W W':=by
 have hs:=h.small;obtain⟨n,j⟩:∃n,l.length=n+1:=⟨l.length-1,by omega⟩;have a:l.length-1=n:=by omega
 rw[a]at f;have p:=hmLen h.c0;have b:=zj5 h.c0;have k:=zgF (some ⟨g,0,none⟩) l.length cap W;have d:=zdD h (zdF (l:=l) (i:=0) (by omega)) (zdF (l:=l) (i:=n) (by omega));have q1:IntKind.i64.wrap (((n+1:Nat):Int)-1)=(n:Int):=by rw[IntWalk.i64_in _ (by omega)];omega
 have q2:wrap64 (n:Int)=(n:Int):=IntWalk.wrap64_in _ (by omega);have r:(zcp l 0 n).length=n+1:=by rw[zel,j]
 rw[j]at p b k d;rw[show((0:Nat):Int)=0 from rfl]at d;have KL:=zb k;have KS:=zb d;have HP:=zb f;have E1:=zb r;clear h k d f j a r;unfold hI;go_enter func151,ntmps151;go_upto_region 3 with(first|(go_at_call 150;refine KL.out.mono ?_;rintro e w2 ⟨rfl,rfl⟩)|(go_at_call 248;refine KS.out.mono ?_;rintro e w3 ⟨rfl,h3,s⟩;have H3:=zb h3;have M3:=zb s;clear h3 s));have m:=zmM H3.out n (by rw[E1.out];omega);rw[HP.out]at m;have t:=zb m;unfold hI at t;clear m p b;go_upto_region 4 with(go_at_call 200;refine t.out.mono ?_;rintro e w4 ⟨⟨rb,rfl⟩,h4,u⟩;have H4:=zb h4;have M4:=zb u;clear h4 u);have hmp:=hmPop sb w4;have v:=zmL H4.out;have KP:=zb v;clear v;go_wp2_with (go_at_call 246;refine KP.out.mono ?_;rintro e w5 ⟨rfl,w,y⟩;have H5:=zb w;have M5:=zb y;clear w y);go_ret;exact⟨rfl,H5.out,((M3.out.trans M4.out).mono (fun _ x=>.inl (.inr x))).trans (M5.out.mono (fun _ x=>.inl (.inl x)))⟩
theorem zaN(p:Nat→Bool)(n:Nat):zab n p (zaQ p n):=by
 have a:=List.findIdx_le_length (xs:=List.range n) (p:=p);rw[List.length_range]at a;refine⟨a,fun h=>?_,fun h=>?_⟩
 ·have:=List.not_of_lt_findIdx (p:=p) (xs:=List.range n) (i:=zaQ p n-1) (by unfold zaQ at h ⊢;omega);simpa using this
 ·have:=List.findIdx_getElem (xs:=List.range n) (p:=p) (w:=by rw[List.length_range];exact h);simpa [zaQ]using this
structure zaI.Ok(s:zaI):Prop where
 wf:WF s.rs
 hi:∀j,j<s.rs.length→hiAt s.rs j≤zD
 fl:s.fl≤zD
 most:1≤s.most∧s.most≤1099511627776
 rl:s.rs.length≤s.most
variable{hi m:Nat}{rs:zA}
theorem zeT{m1 a B:Nat}(h1:m1≤a)(h2:a≤rs.length)(b:∀j,j<rs.length→hiAt rs j≤B)(hb:hi≤B):∀i,i<(zbg rs m hi m1 a).length→hiAt (zbg rs m hi m1 a) i≤B:=by
 intro i hl;rw[zb0 rs m hi m1 a h1 h2]at hl;rcases Nat.lt_trichotomy i m1 with hc|hc|hc
 ·rw[(zcY rs m hi m1 a i h1 h2 hc).2];exact b i (by omega)
 ·subst hc;rw[(zeR rs m hi i a h1 h2).2];unfold zeh;split
  ·have:=b (a-1) (by omega);exact Nat.max_le.2 ⟨hb,this⟩
  ·exact hb
 ·rw[(zb1 rs m hi m1 a i h1 h2 hc).2];exact b _ (by omega)
theorem zq4(h:WF rs)(k:Nat):WF (rs.drop k):=by
 refine⟨fun i hi=>?_,fun i j hij hj=>?_⟩
 ·rw[(zbQ rs k i).1,(zbQ rs k i).2];exact h.1 _ (by rw[List.length_drop]at hi;omega)
 ·rw[(zbQ rs k i).2,(zbQ rs k j).1];exact h.2 _ _ (by omega) (by rw[List.length_drop]at hj;omega)
variable{s:zaI}
theorem zaI.Ok.add(h:s.Ok)(lo:Nat)(i:hi≤zD):(s.add lo hi).Ok:=by
 have hb:hi<18446744073709551616:=by unfold zD at i;omega
 unfold zaI.add;split
 ·exact h
 ·rename_i hin;have s1:=zaN (zdz s.rs (max lo s.fl)) s.rs.length;have s2:=zaN (zay s.rs hi) s.rs.length;have d:=zbL h.wf (by omega) s1 s2;have e:=zgE h.wf (by omega) hb s1 s2;have hl:=zb0 s.rs (max lo s.fl) hi _ _ d s2.1;have f:=zeT (m:=max lo s.fl) d s2.1 h.hi i;have g:=h.rl;have k:=h.most;have hs2:=s2.1;have hL:(zbg s.rs (max lo s.fl) hi (zaQ (zdz s.rs (max lo s.fl)) s.rs.length) (zaQ (zay s.rs hi) s.rs.length)).length≤s.rs.length+1:=by
   rw[hl];omega
  split
  ·rename_i hgt;refine⟨zq4 e 1,fun j hj=>?_,?_,k,?_⟩
   ·rw[(zbQ _ 1 j).2];exact f _ (by rw[List.length_drop]at hj;omega)
   ·have a:=e.2 0 1 (by omega) (by omega);have b:=e.1 1 (by omega);have c:=f 1 (by omega);show _+1≤zD;omega
   ·rw[List.length_drop];exact Nat.le_trans (Nat.sub_le_of_le_add hL) g
  ·rename_i hgt;exact⟨e,f,h.fl,k,Nat.le_of_not_lt hgt⟩
structure WS.Ok(x:WS):Prop where
 sent:x.sent.Ok
 came:x.came.Ok
 cut:x.keep≤x.final∧x.final≤zD∧x.keep≤zD
 len:x.b.length≤1048576
 credit:x.credit≤zD
 high:x.high≤x.b.length
structure CS.Ok(c:CS):Prop where
 mtu:c.mtu≤65536
 win:c.window≤4096
 tot:c.total≤4096
 grant:c.grant≤zD
 credit:c.credit≤zD
 ws:∀k,k<8→(c.ws k).Ok
 rs:∀k,k<8→((c.rs k).used≤zD∧(c.rs k).grant≤zD)∧((c.rs k).hopes=true→(c.rs k).used≤2305843009213693951)
 waits:∀f∈c.waits,f.Fits
variable{c:CS}
theorem CS.Ok.ctl(h:c.Ok):CtlOk c :=
 ⟨h.win,h.tot,h.grant,fun k hk=>(h.rs k hk).1,fun k hk q=>by have:=(h.rs k hk).2 q;have:=h.win;unfold zD;omega,fun k hk=>⟨(h.ws k hk).cut.1,(h.ws k hk).cut.2.1⟩⟩
theorem zkY{f:Nat→WS}{B:Nat}:∀n,(∀k,k<n→(f k).high≤B)→zG f n≤n*B:=by
 intro n
 induction n with
 | zero=>intro _;simp[zG]
 | succ n ih =>
  intro h;have h1:=ih (fun k hk=>h k (by omega));have h2:=h n (by omega);have:zG f (n+1)=zG f n+(f n).high:=rfl;rw[this,Nat.add_mul];omega
variable{k:Nat}
theorem CS.Ok.by_(h:c.Ok)(hk:k<8):ziW c k:=by
 have w:=h.ws k hk;have hi:=w.high;have hl:=w.len;refine⟨hk,w.cut.2.2,hl,w.credit,by unfold zD;omega,h.credit,?_,w.sent.wf,fun j hj=>by have:=w.sent.hi j hj;unfold zD at this;omega,w.sent.fl,w.sent.most,Nat.le_trans w.sent.rl w.sent.most.2⟩;have:=zkY (f:=c.ws) (B:=1048576) 8 (fun k hk=>by have a:=(h.ws k hk).high;have b:=(h.ws k hk).len;omega);show zG c.ws 8≤zD;unfold zD;omega
def CS.put(c:CS)(d:Drf):Nat→Bool×CS×Drf
 | 0=>((c.control d).isSome,((c.control d).getD (c,d)).1,((c.control d).getD (c,d)).2)
 | 1=>((c.datagrams d).isSome,((c.datagrams d).getD (c,d)).1,((c.datagrams d).getD (c,d)).2)
 | k+2=>c.bytes d k
structure zdH(c:CS)(d:Drf)(r:Bool)(c':CS)(d':Drf):Prop where
 ok:c'.Ok
 yes:r=true→∃f,f.Fits∧f.kind≠2∧d.add f=some d'
 no:r=false→c'=c∧(d'=d∨d'={ d with full:=true })
 next:c'.next=c.next∧c'.now=c.now∧c'.closed=c.closed∧c'.flight=c.flight∧c'.mtu=c.mtu∧c'.answer=c.answer∧c'.got=c.got
variable{d:Drf}
theorem zq5(h:c.Ok):∀n k t,n+k=8→t≤zD→(zgY c d n k t).2≤zD∧∀x,(zgY c d n k t).1=some x→zdH c d true x.1 x.2:=by
 intro n
 induction n with
 | zero=>intro k t _ g;exact⟨g,fun x f=>by cases f⟩
 | succ n ih =>
  intro k t hk g;have a:k<8:=by omega
  have i:min (t+(c.rs k).used) zD≤zD:=Nat.min_le_right _ _;have b:=ih (k+1) (min (t+(c.rs k).used) zD) (by omega) i;unfold zgY;split
  ·rename_i hcond;simp only[Bool.and_eq_true]at hcond;split
   ·rename_i d' hd;refine⟨i,fun x f=>?_⟩;cases f;have g1:=(h.rs k a).2 hcond.2;have g0:=(h.rs k a).1.1;have g2:=(h.rs k a).1.2;have hw:=h.win;have hg:max (c.rs k).grant ((c.rs k).used+c.window)≤zD:=by unfold zD at g2 ⊢;omega
    refine⟨⟨h.mtu,h.win,h.tot,h.grant,h.credit,h.ws,fun j hj=>?_,h.waits⟩,fun _=>⟨_,ziR a hg,by simp[zmy],hd⟩,(by intro x;cases x),⟨rfl,rfl,rfl,rfl,rfl,rfl,rfl⟩⟩;by_cases e:j=k
    ·subst e;show(((upd c.rs j _) j).used≤_∧((upd c.rs j _) j).grant≤_)∧(((upd c.rs j _) j).hopes=true→((upd c.rs j _) j).used≤_);rw[ze];exact⟨⟨g0,hg⟩,fun _=>g1⟩
    ·show(((upd c.rs k _) j).used≤_∧((upd c.rs k _) j).grant≤_)∧(((upd c.rs k _) j).hopes=true→((upd c.rs k _) j).used≤_);rw[zd _ _ e];exact h.rs j hj
   ·exact b
  ·exact b
theorem zq6(h:c.Ok):∀n k,n+k=8→∀x,zfw c d n k=some x→zdH c d true x.1 x.2:=by
 intro n
 induction n with
 | zero=>intro k _ x a;cases a
 | succ n ih =>
  intro k hk x a;have b:k<8:=by omega
  have f:=ih (k+1) (by omega);unfold zfw at a;split at a
  ·split at a
   ·rename_i d' hd;cases a;have w:=h.ws k b;refine⟨⟨h.mtu,h.win,h.tot,h.grant,h.credit,fun j hj=>?_,h.rs,h.waits⟩,fun _=>⟨_,zmA b w.cut.2.1 w.cut.1,by simp[zod],hd⟩,(by intro x;cases x),⟨rfl,rfl,rfl,rfl,rfl,rfl,rfl⟩⟩;by_cases e:j=k
    ·subst e;show(upd c.ws j _ j).Ok;rw[ze];exact⟨w.sent,w.came,w.cut,w.len,w.credit,w.high⟩
    ·show(upd c.ws k _ j).Ok;rw[zd _ _ e];exact h.ws j hj
   ·exact f x a
  ·exact f x a
theorem zkZ(h:c.Ok):∀x,c.control d=some x→zdH c d true x.1 x.2:=by
 intro x a;have b:=zq5 (d:=d) h 8 0 c.total rfl (by have:=h.tot;unfold zD;omega);unfold CS.control at a;split at a
 ·rename_i y hy;cases a;exact b.2 _ hy
 ·unfold zrJ at a;have e:=zq6 (d:=d) h 8 0 rfl;split at a
  ·split at a
   ·rename_i d' hd;cases a;have hg:max (zgY c d 8 0 c.total).2 c.grant≤zD:=Nat.max_le.2 ⟨b.1,h.grant⟩;exact⟨⟨h.mtu,h.win,h.tot,hg,h.credit,h.ws,h.rs,h.waits⟩,fun _=>⟨_,zmz hg,by simp[zlP],hd⟩,(by intro x;cases x),⟨rfl,rfl,rfl,rfl,rfl,rfl,rfl⟩⟩
   ·exact e x a
  ·exact e x a
variable{lo:Nat}
theorem zeU{fin:Bool}(h:c.Ok)(hk:k<8)(hlo:lo≤(c.ws k).b.length)(hh:hi≤(c.ws k).b.length):zdH c d (c.bytesAdd d k lo hi fin).1 (c.bytesAdd d k lo hi fin).2.1 (c.bytesAdd d k lo hi fin).2.2:=by
 have w:=h.ws k hk;have hl:=w.len;unfold CS.bytesAdd;split
 ·exact⟨h,(by intro x;cases x),fun _=>⟨rfl,.inr rfl⟩,⟨rfl,rfl,rfl,rfl,rfl,rfl,rfl⟩⟩
 ·rename_i d' hd;refine⟨⟨h.mtu,h.win,h.tot,h.grant,h.credit,fun j hj=>?_,h.rs,h.waits⟩,fun _=>⟨_,zhr hk ?_ ?_,by simp[zby],hd⟩,(by intro x;cases x),⟨rfl,rfl,rfl,rfl,rfl,rfl,rfl⟩⟩
  ·by_cases e:j=k
   ·subst e;show(upd c.ws j _ j).Ok;rw[ze];refine⟨?_,w.came,w.cut,w.len,w.credit,Nat.max_le.2 ⟨w.high,hh⟩⟩;split
    ·exact w.sent.add lo (by unfold zD;omega)
    ·exact w.sent
   ·show(upd c.ws k _ j).Ok;rw[zd _ _ e];exact h.ws j hj
  ·rw[List.length_take,List.length_drop];omega
  ·rw[List.length_take,List.length_drop];unfold zD;omega
theorem zht(h:c.Ok)(hk:k<8)(a:lo≤(c.ws k).b.length)(hh:hi≤(c.ws k).b.length):zdH c d (c.bytesR d k lo hi).1 (c.bytesR d k lo hi).2.1 (c.bytesR d k lo hi).2.2:=by
 unfold CS.bytesR;split
 ·rename_i hr;split
  ·exact⟨h,(by intro x;cases x),fun _=>⟨rfl,.inr rfl⟩,⟨rfl,rfl,rfl,rfl,rfl,rfl,rfl⟩⟩
  ·exact zeU h hk a (by omega)
 ·exact zeU h hk a hh
theorem zpa(h:c.Ok)(hk:k<8):zdH c d (c.bytes d k).1 (c.bytes d k).2.1 (c.bytes d k).2.2:=by
 have hle:=zd6 (c.ws k).sent.rs 0 (c.endOf k);have hen:c.endOf k≤(c.ws k).b.length:=Nat.le_trans (zj4 c k) (Nat.le_trans (Nat.min_le_left _ _) (Nat.min_le_left _ _));have no:zdH c d false c d:=⟨h,(by intro x;cases x),fun _=>⟨rfl,.inl rfl⟩,⟨rfl,rfl,rfl,rfl,rfl,rfl,rfl⟩⟩;unfold CS.bytes;split
 ·exact no
 ·split
  ·split
   ·exact no
   ·exact zht h hk (Nat.le_refl _) (Nat.le_refl _)
  ·exact zht h hk (by omega) (by omega)
variable{f:Frm}
theorem zmO(h:f.Fits)(hr:f.kind=2):False:=by
 have h1:=h.sound;have h2:=h.rn
 revert h1
 simp[zS,hr,h2,zK];intro _ _;rfl
variable{q:Nat}
theorem zhu(h:c.Ok)(hq:q<10):zdH c d (c.put d q).1 (c.put d q).2.1 (c.put d q).2.2:=by
 have no:zdH c d false c d:=⟨h,(by intro x;cases x),fun _=>⟨rfl,.inl rfl⟩,⟨rfl,rfl,rfl,rfl,rfl,rfl,rfl⟩⟩
 match q,hq with
 | 0,_ =>
  show zdH c d (c.control d).isSome ((c.control d).getD (c,d)).1 ((c.control d).getD (c,d)).2;cases hc:c.control d with
  | none=>exact no
  | some x=>exact zkZ h x hc
 | 1,_ =>
  show zdH c d (c.datagrams d).isSome ((c.datagrams d).getD (c,d)).1 ((c.datagrams d).getD (c,d)).2;unfold CS.datagrams;cases hw:c.waits with
  | nil=>exact no
  | cons f l =>
   cases hd:d.add f with
   | none=>simp only[hd,Option.map_none];exact no
   | some d' =>
    simp only[hd,Option.map_some];have hf:=h.waits f (by rw[hw];exact List.mem_cons_self);exact⟨⟨h.mtu,h.win,h.tot,h.grant,h.credit,h.ws,h.rs,fun g hg=>h.waits g (by rw[hw];exact List.mem_cons_of_mem _ hg)⟩,fun _=>⟨f,hf,fun e=>zmO hf e,hd⟩,(by intro x;cases x),⟨rfl,rfl,rfl,rfl,rfl,rfl,rfl⟩⟩
 | k+2,hk =>
  exact zpa h (show k<8 by omega)
structure Drf.Ok(d:Drf):Prop where
 b:d.b.length≤65536
 fs:d.fs.length≤d.b.length
 room:d.room≤65536
theorem zf1(f:Frm):1≤(zC f).length:=by
 unfold zC zcH zcI zcK zbW zcJ zlN za6;repeat' split
 all_goals simp
variable{d':Drf}
theorem Drf.add_some(h:d.add f=some d'):d'.b=d.b++zC f∧d'.fs=d.fs++[f]∧d'.room=d.room∧d'.full=d.full∧d'.wants=(d.wants||f.kind != 2)∧d'.b.length+4≤d.room:=by
 unfold Drf.add at h;split at h
 ·cases h
 ·rename_i hn;cases h;exact⟨rfl,rfl,rfl,rfl,rfl,by simp only;omega⟩
variable{c':CS}
theorem zdH.drf{r:Bool}(h:zdH c d r c' d')(hd:d.Ok):d'.Ok∧d'.room=d.room∧(r=true→d.b.length<d'.b.length∧d'.b.length+4≤d.room)∧d.b.length≤d'.b.length:=by
 cases r with
 | true =>
  obtain⟨f,hf,_,ha⟩:=h.yes rfl;obtain⟨h1,h2,h3,_,_,h4⟩:=Drf.add_some ha;have hb:=zf1 f;have hl:d'.b.length=d.b.length+(zC f).length:=by rw[h1,List.length_append]
  have hr:=hd.room;have hs:=hd.fs;exact⟨⟨by omega,by rw[h2,List.length_append,List.length_singleton];omega,by omega⟩,h3,fun _=>⟨by omega,h4⟩,by omega⟩
 | false =>
  obtain⟨_,e|e⟩:=h.no rfl
  ·rw[e];exact⟨hd,rfl,(by intro x;cases x),Nat.le_refl _⟩
  ·rw[e];exact⟨⟨hd.b,hd.fs,hd.room⟩,rfl,(by intro x;cases x),Nat.le_refl _⟩
def CS.reps(q:Nat):Nat→CS→Drf→CS×Drf
 | 0,c,d=>(c,d)
 | n+1,c,d=>if (c.put d q).1=true then CS.reps q n (c.put d q).2.1 (c.put d q).2.2 else((c.put d q).2.1,(c.put d q).2.2)
def CS.fillN:Nat→CS→Drf→CS×Drf
 | 0,c,d=>(c,d)
 | n+1,c,d=>CS.fillN n (CS.reps (9-n) (d.room+1) c d).1 (CS.reps (9-n) (d.room+1) c d).2
def CS.fill(c:CS)(d:Drf):CS×Drf:=CS.fillN 10 c d
def popL(l:List Nat):List Nat:=(zdE (l.length-1) (zcp l 0 (l.length-1)) 0 (l.length-1)).take (l.length-1)
def zdI:Nat→List Nat
 | 0=>List.range 10
 | n+1=>popL (zdI n)
theorem zem:∀n,n≤10→(zdI n).length=10-n:=by decide
theorem zmP:∀n,n<10→zdE ((zdI n).length-1) (zcp (zdI n) 0 ((zdI n).length-1)) 0 ((zdI n).length-1)=zdI (n+1)++[n]:=by decide
def RRT(tag:Nat→Nat×Nat)(t:Nat×Nat)(W:World)(v:Value)(l:zA):Prop:=RR W v l∧∀g,Value.blk v=some g→tag g=t
variable{S:Nat→Prop}{tag tag':Nat→Nat×Nat}{v:Value}
theorem RRT.mod{t:Nat×Nat}{l:zA}(h:RRT tag t W v l)(m:Mod S W W')(hS:∀g,S g→tag g≠t)(ht:∀g,tag g=t→tag' g=t):RRT tag' t W' v l :=
 ⟨h.1.mod m (zaY fun g hg x=>hS g x (h.2 g hg)),fun g hg=>ht g (h.2 g hg)⟩
theorem RRT.nil(tag:Nat→Nat×Nat)(t:Nat×Nat)(W:World):RRT tag t W (.slice none 0 0) [] :=
 ⟨⟨none,0,rfl,Nat.le_refl _,Nat.zero_le _,fun i hi=>absurd hi (Nat.not_lt_zero i)⟩,fun g hg=>by simp[Value.blk]at hg⟩
def CS.acks(c:CS):zA×CS:=if c.answer then(c.got.rs.reverse,{ c with answer:=false })else([],c)
def zpb(tag:Nat→Nat×Nat)(i b:Nat)(W:World)(l:zA)(c':CS)(e:Ending)(W':World):Prop :=
 ∃v tag' V',e = .returned v∧RRT tag' (i,5) W' v l∧zg tag' i b c' V' W'∧Ext i tag tag' W W'∧Mod (zai i tag) W W'
variable{e sz:Nat}{w:World}{xs:List Value}
theorem zmQ(h:w.ownsRow 0 e sz v n xs)(hg:Value.blk v=some g):v.ownBlock=some g:=by
 rcases h.2 with⟨rfl,_⟩|⟨g',cap,cur,rfl,_⟩
 ·simp[Value.blk]at hg
 ·simpa [Value.blk,Value.ownBlock]using hg
variable{V:CV}{b:Nat}
theorem zpc(h:zg tag i b c V W)(E:Env i tag W)(hg:c.got.Ok):Calls prog 82 #[.pointer (some ⟨b,0,none⟩)] W (zpb tag i b W c.acks.1 c.acks.2):=by
 have n:W.cell? ⟨b,8,none⟩=some (.bool c.answer):=h.hd (j:=8) rfl;have c7:W.cell? ⟨b,7,none⟩=some (.pointer (some ⟨V.g,0,none⟩)):=h.hd (j:=7) rfl;have HH:=zb h;have o:=zb E;have HG:=zb hg;cases ha:c.answer with
 | false =>
  rw[ha]at n;have a:c.acks=([],c):=by simp[CS.acks,ha]
  rw[a];clear h E hg a ha;go_enter func82,ntmps82;go_wp2_with fail;go_ret;exact⟨_,tag,V,rfl,RRT.nil _ _ _,HH.out,Ext.same o.out.ok (Mod.refl NoB _),Mod.refl _ _⟩
 | true =>
  rw[ha]at n;have a:c.acks=(c.got.rs.reverse,{ c with answer:=false }):=by simp[CS.acks,ha]
  rw[a];have p:V.g≠b:=fun e=>by
   have s:=h.tg;have t:=h.tb;rw[e,t]at s;simp at s
  obtain⟨W1,d⟩:=nm (W.setCell ⟨b,8,none⟩ (.bool false));have h1:zg tag i b { c with answer:=false } V W1:=by
   rw[←d];exact h.store 8 (.bool false) (za7 c { c with answer:=false } V V (j:=8) (.bool false) (by decide) rfl rfl rfl rfl) ⟨rfl,fun _ _=>⟨rfl,rfl,rfl⟩,fun _ _=>⟨rfl,rfl⟩,rfl,rfl,rfl,rfl⟩
  have m1:Mod (fun g=>g=b) W W1:=by rw[←d];exact(Mod.refl (fun g=>g=b) _).setCell (.inl rfl) _
  have k:Mod (zai i tag) W W1:=m1.mono (fun g hg=>.inl (zbk (r:=1) (by rw[show g=b from hg];exact h.tb) (by decide)));have D:=fun W2 (m:Mod NoB W1 W2) (F:Nat) (u:W2.cell? ⟨F,0,none⟩=some (.pointer (some ⟨V.g,0,none⟩)))=>ziB c.got.rs c.got.fl c.got.most V.g F V.gv W2 (h1.mod0 m).got (fun j w=>by have:=hg.wf.1 j w;omega) u
  have G:=zl3 V.g W1;have c71:W1.cell? ⟨b,7,none⟩=some (.pointer (some ⟨V.g,0,none⟩)):=h1.hd (j:=7) rfl;have fz:=h.fz 8;have H1:=zb h1;have M1:=zb m1;have y:=zb k;have KC:=zb D;have KD:=zb G;clear h E hg a ha h1 m1 k D G p;go_enter func82,ntmps82;go_upto_region 4 with fail;clear d n c7;go_wp2_with (first|(go_at_call 141;refine KD.out.mono ?_;rintro e w2 ⟨rfl,rfl⟩)|(go_at_call 143;refine(KC.out _ ((Mod.refl NoB W1).alloc _) _ (za (heap_alloc_new W1 _) rfl)).mono ?_;rintro e f ⟨v,rfl,z,hn,hm⟩));go_ret;have H:Mod NoB W1 f:=((Mod.refl NoB W1).alloc (.cells #[.pointer (some ⟨V.g,0,none⟩)] 114)).trans hm;have A:=zE z;have hsz:W.heap.size≤W1.heap.size:=M1.out.size;have I:Mod (zai i tag) W f:=y.out.trans (H.mono (fun _ x=>x.elim));have l:∀g,(tag g).1=i→retag tag W f (i,5) g=tag g:=fun g hg=>zy (by
   by_cases q:g<W.heap.size
   ·exact q
   ·have:=o.out.ok g (by omega);rw[this]at hg;have:=o.out.pos;have hg:(0:Nat)=i:=hg;omega)
  refine⟨v,retag tag W f (i,5),V,rfl,⟨?_,fun g hg=>?_⟩,H1.out.mod H (fun _ x=>x.elim) l,⟨fun g hg=>zy hg,fun g hg=>?_,fun g hg=>?_⟩,I⟩
  ·have B:c.got.rs.reverse.length=c.got.rs.length:=by simp
   have C:f.ownsRow 0 214 2 v c.got.rs.reverse.length (zn c.got.rs.reverse):=by rw[B];exact z
   exact zl0 (rs:=c.got.rs) C (fun j w=>by have:=HG.out.wf.1 j w;omega) (fun x a=>List.mem_reverse.1 a)
  ·have hb:=zmQ z hg;have s:=hn g hb;have t:=A g hb;have a3:(W1.alloc (.cells #[.pointer (some ⟨V.g,0,none⟩)] 114)).heap.size=W1.heap.size+1:=by simp
   exact zav (by omega) t
  ·by_cases q:g<f.heap.size
   ·exact .inl (by rw[zav hg q])
   ·exact .inr (by simp only[retag,show ¬g<W.heap.size by omega,q,if_neg,not_false_eq_true])
  ·have:=I.size;simp only[retag,show ¬g<W.heap.size by omega,show ¬g<f.heap.size by omega,if_neg,not_false_eq_true]
def ackF(rs:zA):Frm:=⟨2,0,0,0,0,false,0,0,[],rs⟩
def zcB(d:Drf)(l:zA):Nat→Nat
 | 0=>0
 | n+1=>if 1<n+1∧d.room<(d.b++zC (ackF (l.take (n+1)))).length+4 then zcB d l n else n+1
def zeu(d:Drf)(l:zA):Drf×zA:=((d.add (ackF (l.take (zcB d l l.length)))).getD d,l.drop (zcB d l l.length))
theorem zj6(d:Drf)(l:zA):∀n,zcB d l n≤n
 | 0=>Nat.le_refl _
 | n+1=>by
  unfold zcB;split
  ·exact Nat.le_trans (zj6 d l n) (Nat.le_succ n)
  ·exact Nat.le_refl _
theorem zeV(d:Drf)(l:zA):∀n,1≤n→1≤zcB d l n
 | 0,h=>h
 | n+1,_=>by
  unfold zcB;split
  ·rename_i h;exact zeV d l n (by omega)
  ·omega
def zqj(l:zA):Prop:=∀n,1≤n→n≤l.length→zS (ackF (l.take n))=true
theorem zgI(l:zA):(zC (ackF l)).length≤64+16*l.length:=by
 have e:zC (ackF l)=za6 (ackF l):=rfl;have w1:=zu (hiAt l 0);have w2:=zu (l.length-1);have w3:=zu (hiAt l 0-loAt l 0);have w4:=zde l (l.length-1);have e2:(ackF l).rngs=l:=rfl;rw[e];unfold za6;rw[e2];simp only[List.length_append,List.length_cons,List.length_nil];omega
variable{a:Option Addr}
theorem ziZ{l:zA}(h:RR w (.slice a l.length cap) l)(hn:n≤l.length)(c2:Nat)(h1:n≤c2)(h2:c2≤maxLen):RR w (.slice a n c2) (l.take n):=by
 obtain⟨a',b,e,_,_,h3⟩:=h;cases e;have hl:(l.take n).length=n:=by rw[List.length_take];omega
 refine⟨a,c2,by rw[hl],by omega,h2,fun i hi=>?_⟩;obtain⟨g,o,e,x1,x2,x3⟩:=h3 i (by omega);have c:=zeQ l n i (by omega);rw[c.1,c.2];exact⟨g,o,e,x1,x2,x3⟩
variable{o:Nat}
theorem zmR{l:zA}(h:RR w (.slice (some ⟨g,o,none⟩) l.length cap) l)(hn:n≤l.length):RR w (.slice (some ⟨g,o+n*2,none⟩) (l.length-n) (cap-n)) (l.drop n):=by
 obtain⟨a',a,e,h1,h2,h3⟩:=h;cases e;refine⟨_,cap-n,by rw[List.length_drop],by rw[List.length_drop];omega,by omega,fun i hi=>?_⟩;rw[List.length_drop]at hi;obtain⟨g',o',e,x1,x2,x3⟩:=h3 (n+i) (by omega);cases e;have b:=zbQ l n i;rw[b.1,b.2];refine⟨g,o+n*2,rfl,?_,?_,x3⟩
 ·rw[show o+n*2+i*2=o+(n+i)*2 by omega];exact x1
 ·rw[show o+n*2+i*2+1=o+(n+i)*2+1 by omega];exact x2
theorem zmS{l:zA}(hn:l.length-n=0):RR w (.slice a (l.length-n) 0) (l.drop n):=by
 refine⟨a,0,by rw[List.length_drop],by rw[List.length_drop];omega,Nat.zero_le _,fun i hi=>?_⟩;rw[List.length_drop]at hi;omega
variable{V':CV}{W1 W2:World}{bv' fv' v':Value}{db:Nat}{l':List (Frm×Value)}{new:List UInt8}
theorem zJ.probe(h:zJ tag i b db W c d tag' V' bv' fv' l' W1)(n:App W1 bv' d.b new v' W2):zJ tag i b db W c d (retag tag' W1 W2 (i,91)) V' bv' fv' l' W2∧Ext i tag' (retag tag' W1 W2 (i,91)) W1 W2∧Mod (zhp i tag') W1 W2:=by
 have hk:=h.ok;have a:=h.d;have j:Mod (fun g=>bv'.ownBlock=some g) W1 W2:=(Mod.refl (fun g=>bv'.ownBlock=some g) W1).grown n.grown (fun g hg=>.inl hg);have f:∀{g r:Nat},tag' g=(i,r)→g<W1.heap.size:=fun hg=>zaD hk hg h.p
 have dd:zah (retag tag' W1 W2 (i,91)) i db d bv' fv' l' W2 :=
  ⟨j.obj (fun x=>zg.apart a.tb (a.tbv _ x) (by decide) rfl) a.obj,by rw[zy (f a.tb),a.tb],n.old,fun g hg=>by rw[zy (f (a.tbv g hg)),a.tbv g hg],j.owns a.own (fun g hg x=>zg.apart (a.tfv g hg) (a.tbv g x) (by decide) rfl),a.lf,
   fun x k=>⟨(a.rr x k).1.mod j (zaY fun g hg y=>zg.apart ((a.rr x k).2 g hg) (a.tbv g y) (by decide) rfl),fun g hg=>by rw[zy (f ((a.rr x k).2 g hg)),(a.rr x k).2 g hg]⟩,fun g hg=>by rw[zy (f (a.tfv g hg)),a.tfv g hg]⟩
 have md:Mod (zhp i tag') W1 W2:=j.mono (fun g hg=>.inl ⟨91,by decide,a.tbv g hg⟩);have l:DExt i tag' (retag tag' W1 W2 (i,91)) W1 W2:=by
  refine⟨fun g hg=>zy hg,fun g hg=>?_,fun g hg=>?_⟩
  ·by_cases q:g<W2.heap.size
   ·exact .inl ⟨91,by decide,zav hg q⟩
   ·exact .inr (by simp only[retag,show ¬g<W1.heap.size by omega,q,if_neg,not_false_eq_true])
  ·have:=j.size;simp only[retag,show ¬g<W1.heap.size by omega,show ¬g<W2.heap.size by omega,if_neg,not_false_eq_true]
 exact⟨⟨h.c.modR hk h.p md l.old,dd,h.e.trans l.ext h.m.size,zap h.e h.m (zcc md),h.p⟩,l.ext,md⟩
def zeD(tag:Nat→Nat×Nat)(i b db:Nat)(W:World)(c:CS)(d':Drf)(l':zA)(e:Ending)(W':World):Prop :=
 ∃v tag' V' bv' fv' fl',e = .returned v∧RRT tag' (i,5) W' v l'∧zJ tag i b db W c d' tag' V' bv' fv' fl' W'
theorem RRT.drole{l:zA}(h:RRT tag (i,5) W v l)(hk:zR tag W)(hi:0<i)(m:Mod (zhp i tag) W W')(e:∀g,g<W.heap.size→tag' g=tag g):RRT tag' (i,5) W' v l :=
 h.mod m (fun g ⟨r,hr,hx⟩ x=>by rw[hx]at x;simp at x;omega) (fun g hg=>by rw[e g (zaD hk hg hi),hg])
variable{bv fv:Value}
theorem zpd{lv:Value}{l:List (Frm×Value)}{f:zA}(h:zg tag i b c V W)(Q:zah tag i db d bv fv l W)(E:Env i tag W)(hl:RRT tag (i,5) W lv f)(S:1≤f.length)(G:zqj f)(ab:f.length≤1048576)(hbl:d.b.length≤1073741824)(hll:d.fs.length≤1073741824)(hrm:d.room≤1073741824):Calls prog 84 #[.pointer (some ⟨b,0,none⟩),.pointer (some ⟨db,0,none⟩),lv] W (zeD tag i b db W c (zeu d f).1 (zeu d f).2):=by
 have S0:Hid (zJ tag i b db W c d tag V bv fv l W):=zb ⟨h,Q,Ext.same E.ok (Mod.refl NoB _),Mod.refl _ _,E.pos⟩;have w:l.length=d.fs.length:=by rw[←Q.lf,List.length_map]
 obtain⟨H,m,T,_⟩:=zi Q.ob;subst T;obtain⟨a,cap,e,n1,n2,n3⟩:=hl.1;subst e;obtain⟨g,o,ea,_⟩:=n3 0 (by omega);subst ea;obtain⟨N,U⟩:=nm (zcB d f f.length);have hT:zeu d f=((d.add (ackF (f.take N))).getD d,f.drop N):=by unfold zeu;rw[U]
 rw[hT];have R0:=zb hl;have F:=zb U;have z:=zb G;have I:=zb w;have X:=n2;unfold maxLen at X;clear h Q E hl n3 G hT U w;go_enter func84,ntmps84;go_wp2_with fail
 go_loopw [7] (fun Y wr=>∃(n:Nat) (tag':Nat→Nat×Nat),Y = .int .i64 (n:Int)∧1≤n∧n≤f.length∧Hid (zcB d f n=N)∧Hid (zJ tag i b db W c d tag' V (.slice H d.b.length m) fv l wr)∧Hid (RRT tag' (i,5) wr (.slice (some ⟨g,o,none⟩) f.length cap) f)) (fun Y _=>(intOf Y).toNat)
 case atStart=>exact⟨f.length,tag,rfl,S,Nat.le_refl _,F,S0,R0⟩
 case round =>
  clear S0 R0 F;obtain⟨n,tag',rfl,h1,h2,F,SS,J⟩:=hrel;have d1:(0:Int)≤n:=by omega
  have d2:(n:Int)≤cap:=by omega
  have hnt:((n:Int)).toNat=n:=by omega
  by_cases M:1<n
  ·have d3:(1:Int)<n:=by omega
   have ht:(f.take n).length=n:=by rw[List.length_take];omega
   have Z:=zgI (f.take n);have A:=SS.out.mod0 ((Mod.refl NoB wr).drew);have rd:RRT tag' (i,5) wr.drew (.slice (some ⟨g,o,none⟩) f.length cap) f:=J.out.mod ((Mod.refl NoB wr).drew) (fun _ x=>x.elim) (fun _ x=>x);have od:=A.d.obj;have ka:=zd0 (.slice H d.b.length m) d.b (ackF (f.take n)) (.slice (some ⟨g,o,none⟩) n cap) wr.drew A.d.ob (fun _=>zaY fun q r x=>zg.apart (rd.2 q r) (A.d.tbv q x) (by decide) rfl) (ziZ rd.1 h2 cap (by omega) n2) (by show(f.take n).length≤_;omega) (by show(0:Nat)≤_;omega) (by omega);rw [show zj (ackF (f.take n)) (.slice (some ⟨g, o, none⟩) n cap) = #[.int .i64 2, .int .i64 0, .int .u64 0, .int .u64 0, .int .u64 0, .bool false, .int .u64 0, .int .u64 0, .string "".toUTF8, .slice (some ⟨g, o, none⟩) n cap] from rfl] at ka;have kb:∀e w2,zey wr.drew (.slice H d.b.length m) d.b (zS (ackF (f.take n))) (zC (ackF (f.take n))) e w2→∃a2 c2 tag2,e = .returned (.slice a2 (d.b++zC (ackF (f.take n))).length c2)∧Hid (zJ tag i b db W c d tag2 V (.slice H d.b.length m) fv l w2)∧Hid (RRT tag2 (i,5) w2 (.slice (some ⟨g,o,none⟩) f.length cap) f):=by
    rintro e w2 (⟨_,v',rfl,hA⟩|⟨hx,_⟩)
    ·obtain⟨s2,e2,m2⟩:=A.probe hA;obtain⟨a2,c2,e3,_⟩:=zi hA.own;exact⟨a2,c2,_,by rw[e3],s2,rd.drole A.ok A.p m2 e2.old⟩
    ·rw[z.out n h1 h2]at hx;cases hx
   obtain⟨L,R⟩:=nm ((d.b++zC (ackF (f.take n))).length);rw[R]at kb;have hLb:L≤2147483648:=by rw[←R,List.length_append];omega
   have q4:IntKind.i64.wrap ((L:Int)+4)=(L:Int)+4:=IntWalk.i64_in _ (by omega);have KA:=zb (ka.mono kb);have HL:=zb R;have aa:=zb od;clear ka kb Z R ht A rd od;go_wp2_with fail;refine zm 20 (fun w'=>w'.heap[db]?=some (.cells #[.slice H d.b.length m,fv,.int .i64 (d.room:Int),.bool d.wants,.bool d.full] 180 (0,0))) (aa.out) ?_;refine GI 0 ?_;iterate 11
    refine GS rfl ?_ ?_ ?_;rotate_left
    ·(intro wx j;(try dsimp only at j);have c0:=za (o:=0) j rfl;have c2:=za (o:=2) j rfl;go_simp;try with_reducible rfl)
    try simp only[PS]
   refine GI 14 ?_;iterate 4
    refine GS rfl ?_ ?_ ?_;rotate_left
    ·(intro wx j;(try dsimp only at j);have c0:=za (o:=0) j rfl;have c2:=za (o:=2) j rfl;go_simp;try with_reducible rfl)
    try simp only[PS]
   refine zz 11 rfl (fun K hK=>?_);go_simp;refine KA.out.mono ?_;rintro e w2 ⟨a2,c2,tag2,rfl,s,v⟩;refine hK.out _ _ s.out.d.obj ?_;clear hK K;try simp only[PS]
   refine GI 12 ?_;iterate 2
    refine GS rfl ?_ ?_ ?_;rotate_left
    ·(intro wx j;(try dsimp only at j);have c0:=za (o:=0) j rfl;have c2:=za (o:=2) j rfl;go_simp;try with_reducible rfl)
    try simp only[PS]
   refine GI 18 ?_;iterate 2
    refine GS rfl ?_ ?_ ?_;rotate_left
    ·(intro wx j;(try dsimp only at j);have c0:=za (o:=0) j rfl;have c2:=za (o:=2) j rfl;go_simp;try with_reducible rfl)
    try simp only[PS]
   refine zo ?_;by_cases y:d.room<L+4
   ·have d4:(d.room:Int)<(L:Int)+4:=by omega
    have q5:IntKind.i64.wrap ((n:Int)-1)=((n-1:Nat):Int):=by rw[IntWalk.i64_in _ (by omega)];omega
    go_wp2_with fail;go_roundw
    case rel =>
     have hl:=HL.out;have hn:=F.out;refine⟨n-1,tag2,rfl,by omega,by omega,zb ?_,s,v⟩;obtain⟨k,rfl⟩:∃k,n=k+1:=⟨n-1,by omega⟩;rw[←hn,Nat.add_sub_cancel]
     conv=>rhs;unfold zcB
     rw[if_pos ⟨M,by rw[hl];exact y⟩]
    case measure =>
     simp[intOf];omega
   ·have d4:¬(d.room:Int)<(L:Int)+4:=by omega
    have B:N=n:=by
     have hl:=HL.out;rw[←F.out];obtain⟨k,rfl⟩:∃k,n=k+1:=⟨n-1,by omega⟩;unfold zcB;rw[if_neg (fun x=>y (by have:=x.2;rw[hl]at this;exact this))]
    subst B;go_upto_region 4 with fail;have C:=zeC s.out.d s.out.ok s.out.p (ackF (f.take N)) (some ⟨g,o,none⟩) N N (z.out N h1 h2) (ziZ v.out.1 h2 N (Nat.le_refl _) (by omega)) (fun q r=>v.out.2 q (by simpa [Value.blk]using r)) (by show(f.take N).length≤_;rw[List.length_take];omega) (by show(0:Nat)≤_;omega) (by omega) (by have:=zgI (f.take N);rw[List.length_take]at this;omega) (by rw[I.out];omega);rw [show zj (ackF (f.take N)) (.slice (some ⟨g, o, none⟩) N N) = #[.int .i64 2, .int .i64 0, .int .u64 0, .int .u64 0, .int .u64 0, .bool false, .int .u64 0, .int .u64 0, .string "".toUTF8, .slice (some ⟨g, o, none⟩) N N] from rfl] at C;have KD:=zb (C.mono (R':=fun e u=>∃x tag3 bv3 fv3 l3,e = .returned (.bool x)∧Hid (zJ tag i b db W c ((d.add (ackF (f.take N))).getD d) tag3 V bv3 fv3 l3 u)∧Hid (RRT tag3 (i,5) u (.slice (some ⟨g,o,none⟩) f.length cap) f)) (fun e u D=>by
     obtain⟨e1,tag3,bv3,fv3,l3,s3,t,m3⟩:=s.out.add2 D;exact⟨_,tag3,bv3,fv3,l3,e1,s3,v.out.drole s.out.ok s.out.p m3 t⟩))
    clear C;go_upto_region 5 with(go_at_call 142;refine KD.out.mono ?_;rintro e u ⟨x,tag3,bv3,fv3,l3,rfl,S3,O⟩);have P:Hid (∀v2,RR u v2 (f.drop N)→(∀q,Value.blk v2=some q→q=g)→zeD tag i b db W c ((d.add (ackF (f.take N))).getD d) (f.drop N) (.returned v2) u):=zb fun v2 hv r=>⟨v2,tag3,V,bv3,fv3,l3,rfl,⟨hv,fun q hb=>by rw[r q hb];exact O.out.2 g rfl⟩,S3.out⟩
    have d5:(N:Int)≤f.length:=by omega
    go_wp2_with fail;all_goals go_ret
    ·exact P.out _ (zmS (by omega)) (fun q r=>by simpa [Value.blk]using r.symm)
    ·exact P.out _ (zmR O.out.1 h2) (fun q r=>by simpa [Value.blk]using r.symm)
  ·have d3:¬(1:Int)<n:=by omega
   have B:N=n:=by
    rw[←F.out];obtain⟨k,rfl⟩:∃k,n=k+1:=⟨n-1,by omega⟩;unfold zcB;rw[if_neg (fun x=>M x.1)]
   subst B;have hd:decide ((1:Int)<N)=false:=by simpa using d3
   go_wp2_with fail;go_quiet (fail);have s:=fun a=>zb (SS.out.mod0 ((Mod.refl NoB wr).drewN a))
   have v:∀a,Hid (RRT tag' (i,5) (wr.drewN a) (.slice (some ⟨g,o,none⟩) f.length cap) f):=fun a=>zb (J.out.mod ((Mod.refl NoB wr).drewN a) (fun _ x=>x.elim) (fun _ x=>x))
   replace s:=s ‹Nat›;replace v:=v ‹Nat›;go_upto_region 4 with fail;have C:=zeC s.out.d s.out.ok s.out.p (ackF (f.take N)) (some ⟨g,o,none⟩) N N (z.out N h1 h2) (ziZ v.out.1 h2 N (Nat.le_refl _) (by omega)) (fun q r=>v.out.2 q (by simpa [Value.blk]using r)) (by show(f.take N).length≤_;rw[List.length_take];omega) (by show(0:Nat)≤_;omega) (by omega) (by have:=zgI (f.take N);rw[List.length_take]at this;omega) (by rw[I.out];omega);rw [show zj (ackF (f.take N)) (.slice (some ⟨g, o, none⟩) N N) = #[.int .i64 2, .int .i64 0, .int .u64 0, .int .u64 0, .int .u64 0, .bool false, .int .u64 0, .int .u64 0, .string "".toUTF8, .slice (some ⟨g, o, none⟩) N N] from rfl] at C;have KD:=zb (C.mono (R':=fun e u=>∃x tag3 bv3 fv3 l3,e = .returned (.bool x)∧Hid (zJ tag i b db W c ((d.add (ackF (f.take N))).getD d) tag3 V bv3 fv3 l3 u)∧Hid (RRT tag3 (i,5) u (.slice (some ⟨g,o,none⟩) f.length cap) f)) (fun e u D=>by
    obtain⟨e1,tag3,bv3,fv3,l3,s3,t,m3⟩:=s.out.add2 D;exact⟨_,tag3,bv3,fv3,l3,e1,s3,v.out.drole s.out.ok s.out.p m3 t⟩))
   clear C;go_upto_region 5 with(go_at_call 142;refine KD.out.mono ?_;rintro e u ⟨x,tag3,bv3,fv3,l3,rfl,S3,O⟩);have P:Hid (∀v2,RR u v2 (f.drop N)→(∀q,Value.blk v2=some q→q=g)→zeD tag i b db W c ((d.add (ackF (f.take N))).getD d) (f.drop N) (.returned v2) u):=zb fun v2 hv r=>⟨v2,tag3,V,bv3,fv3,l3,rfl,⟨hv,fun q hb=>by rw[r q hb];exact O.out.2 g rfl⟩,S3.out⟩
   have d5:(N:Int)≤f.length:=by omega
   go_wp2_with fail;all_goals go_ret
   ·exact P.out _ (zmS (by omega)) (fun q r=>by simpa [Value.blk]using r.symm)
   ·exact P.out _ (zmR O.out.1 h2) (fun q r=>by simpa [Value.blk]using r.symm)
theorem zfE{a:Nat→Value}:∀{l:List Nat},(∀x∈l,fn x=a x)→zM fn l=zM a l:=by
 intro l
 induction l with
 | nil=>intro _;rfl
 | cons x l ih =>
  intro h;have e:=ih (fun y hy=>h y (List.mem_cons_of_mem _ hy));show [Value.int .i64 (x:Int),fn x]++zM fn l=[Value.int .i64 (x:Int),a x]++zM a l;rw[e,h x List.mem_cons_self]
theorem zam.congr{d:Nat→Value}{l:List Nat}(h:zam sb fn l g cap W)(he:∀x∈l,fn x=d x)(hf:∀c,∃f a b,d c = .func f a b):zam sb d l g cap W :=
 {h with own:=by rw[←zfE he];exact h.own,fns:=hf }
def zeW(b cb:Nat)(kb:Nat→Nat):Nat→Value
 | 0=>.func (.func 145) #[.pointer (some ⟨b,0,none⟩)] #[]
 | 1=>.func (.func 146) #[.pointer (some ⟨b,0,none⟩)] #[]
 | k+2=>.func (.func 148) #[] #[.pointer (some ⟨cb,0,none⟩),.pointer (some ⟨kb k,0,none⟩)]
theorem zdk(b cb:Nat)(kb:Nat→Nat):∀c,∃f a x,zeW b cb kb c = .func f a x
 | 0=>⟨_,_,_,rfl⟩
 | 1=>⟨_,_,_,rfl⟩
 | _+2=>⟨_,_,_,rfl⟩
variable{W'':World}
theorem zJ.then{r:Bool}{e:Ending}(h:zJ tag i b db W c d tag' V' bv' fv' l' W')(hp:za9 tag' i b db W' c' d' r e W''):e = .returned (.bool r)∧∃tag2 V2 bv2 fv2 l2,zJ tag i b db W c' d' tag2 V2 bv2 fv2 l2 W''∧Ext i tag' tag2 W' W''∧Mod (zai i tag') W' W'':=by
 obtain⟨rfl,tag2,V2,bv2,fv2,l2,h1,h2,h3,h4⟩:=hp;exact⟨rfl,tag2,V2,bv2,fv2,l2,⟨h1,h2,h.e.trans h3 h.m.size,zap h.e h.m h4,h.p⟩,h3,h4⟩
theorem za9.from0{r:Bool}{e:Ending}(ht:zR tag W)(a:Mod NoB W W0)(h:za9 tag i b db W0 c d r e W'):za9 tag i b db W c d r e W':=by
 obtain⟨rfl,tag2,V2,f,g,l2,h1,h2,h3,h4⟩:=h;refine⟨rfl,tag2,V2,f,g,l2,h1,h2,(Ext.same ht a).trans h3 a.size,(a.mono (fun _ x=>x.elim)).trans h4⟩
structure zaT(tag:Nat→Nat×Nat)(i b db:Nat)(W0:World)(cb:Nat)(kb:Nat→Nat)(n:Nat)(l:List Nat)(sb g cap:Nat)(tag':Nat→Nat×Nat)(W:World):Prop where
 heap:zam sb (zeW b cb kb) l g cap W
 hc:W.cell? ⟨cb,0,none⟩=some (.pointer (some ⟨b,0,none⟩))
 hk:∀k,k<n→W.cell? ⟨kb k,0,none⟩=some (.int .i64 (k:Int))
 fr:∀q,(q=sb∨q=g∨q=cb∨∃k,k<n∧q=kb k)→W0.heap.size≤q∧tag' q=(0,0)
 ne:∀q,(q=cb∨∃k,k<n∧q=kb k)→q≠sb∧q≠g
variable{cb:Nat}
theorem zaT.mod{a:Nat→Nat}{l:List Nat}{tag2:Nat→Nat×Nat}(h:zaT tag i b db W0 cb a n l sb g cap tag' W)(m:Mod S W W')(hS:∀q,S q→W0.heap.size≤q→tag' q≠(0,0))(ht:∀q,q<W.heap.size→tag2 q=tag' q):zaT tag i b db W0 cb a n l sb g cap tag2 W':=by
 have q:∀{q:Nat},(q=sb∨q=g∨q=cb∨∃k,k<n∧q=a k)→¬S q:=fun e x=>hS _ x (h.fr _ e).1 (h.fr _ e).2
 have c:=zk h.heap.c0;have lg:=zE h.heap.own g rfl;refine⟨h.heap.mod m (q (.inl rfl)) (q (.inr (.inl rfl))),m.cell (q (.inr (.inr (.inl rfl)))) h.hc,fun k hk=>m.cell (q (.inr (.inr (.inr ⟨k,hk,rfl⟩)))) (h.hk k hk),fun x d=>⟨(h.fr x d).1,?_⟩,h.ne⟩;rw[ht x ?_]
 ·exact(h.fr x d).2
 ·rcases d with rfl|rfl|rfl|⟨k,hk,rfl⟩
  ·exact c
  ·exact lg
  ·exact zk h.hc
  ·exact zk (h.hk k hk)
theorem zaT.src{c:Nat→Nat}{l:List Nat}{tag2:Nat→Nat×Nat}(h:zaT tag i b db W0 cb c n l sb g cap tag' W)(hi:0<i)(e:Ext i tag' tag2 W W')(m:Mod (zai i tag') W W'):zaT tag i b db W0 cb c n l sb g cap tag2 W' :=
 h.mod m.ofC (fun q a _ x=>by rw[x]at a;simp at a;omega) (fun q a=>e.old q a)
theorem zaT.mod0{a:Nat→Nat}{l:List Nat}(h:zaT tag i b db W0 cb a n l sb g cap tag' W)(m:Mod NoB W W'):zaT tag i b db W0 cb a n l sb g cap tag' W' :=
 h.mod m (fun _ x=>x.elim) (fun _ _=>rfl)
theorem zaT.heaped{d:Nat→Nat}{l j:List Nat}{g2 a:Nat}(h:zaT tag i b db W0 cb d n l sb g cap tag' W)(ht:zR tag' W)(hw:W0.heap.size≤W.heap.size)(hh:zam sb (zeW b cb d) j g2 a W')(hg:g2=g∨W.heap.size≤g2)(m:Mod (fun q=>q=sb∨q=g) W W'):zaT tag i b db W0 cb d n j sb g2 a tag' W':=by
 have q:∀{q:Nat},(q=cb∨∃k,k<n∧q=d k)→¬(q=sb∨q=g):=fun f x=>by
  have:=h.ne _ f;rcases x with x|x
  ·exact this.1 x
  ·exact this.2 x
 have lt:∀{q:Nat},(q=cb∨∃k,k<n∧q=d k)→q<W.heap.size:=fun f=>by
  rcases f with rfl|⟨k,hk,rfl⟩
  ·exact zk h.hc
  ·exact zk (h.hk k hk)
 refine⟨hh,m.cell (q (.inl rfl)) h.hc,fun k hk=>m.cell (q (.inr ⟨k,hk,rfl⟩)) (h.hk k hk),fun x c=>?_,fun x c=>⟨(h.ne x c).1,fun e=>?_⟩⟩
 ·rcases c with rfl|rfl|c
  ·exact h.fr _ (.inl rfl)
  ·rcases hg with rfl|hg
   ·exact h.fr _ (.inr (.inl rfl))
   ·exact⟨by omega,ht _ hg⟩
  ·exact h.fr _ (.inr (.inr c))
 ·rcases hg with rfl|hg
  ·exact(h.ne x c).2 e
  ·have:=lt c;omega
theorem zJ.own(h:zJ tag i b db W c d tag' V' bv' fv' l' W')(m:Mod S W' W'')(a:∀g,S g→W.heap.size≤g∧tag' g=(0,0)):zJ tag i b db W c d tag' V' bv' fv' l' W'':=h.free m (fun g hg=>⟨(a g hg).2,(a g hg).1⟩)
theorem zmT{f:Nat}{l:List (Frm×Value)}(h:zg tag i b c V W)(g:zah tag i db d bv fv l W)(E:Env i tag W)(k:Nat)(ok:ziW c k)(hd:d.Ok)
  (h1:W.cell? ⟨cb,0,none⟩=some (.pointer (some ⟨b,0,none⟩))) (h2:W.cell? ⟨f,0,none⟩=some (.int .i64 (k:Int))) :
  Calls prog 148 #[.pointer (some ⟨db,0,none⟩),.pointer (some ⟨cb,0,none⟩),.pointer (some ⟨f,0,none⟩)] W (za9 tag i b db W (c.bytes d k).2.1 (c.bytes d k).2.2 (c.bytes d k).1):=by
 have j:∀W1,Mod NoB W W1→Calls prog 149 #[.pointer (some ⟨b,0,none⟩),.pointer (some ⟨db,0,none⟩),.int .i64 (k:Int)] W1 (za9 tag i b db W (c.bytes d k).2.1 (c.bytes d k).2.2 (c.bytes d k).1):=fun W1 m =>
  (zmF (h.mod0 m) (g.modN m (fun _ x=>x.elim)) (E.mod0 m) k ok (by have:=hd.b;omega) (by have:=hd.fs;have:=hd.b;omega) (by have:=hd.room;omega)).mono fun e W' a=>a.from0 E.ok m
 have n:=zb j;obtain⟨r,o⟩:=nm ((c.bytes d k).1);rw[o]at n ⊢;clear h g E ok hd j o;go_enter func148,ntmps148;go_wp2_with (go_at_call 149;refine(n.out _ (Mod.refl _ _)).mono ?_;rintro e w2 ⟨rfl,a⟩;have HP:=zb a;clear a);go_ret;exact⟨rfl,HP.out⟩
def zfF(sb:Nat)(w:World):Nat:=match w.cell? ⟨sb,0,none⟩with|some (.slice _ n _)=>n|_=>0
theorem zam.sbLen_is{l:List Nat}(h:zam sb fn l g cap W):zfF sb W=l.length:=by
 unfold zfF;rw[h.c0]
theorem zah.sbLen_is{l:List (Frm×Value)}(h:zah tag i db d bv fv l W):zfF db W=d.b.length:=by
 obtain⟨a,cap,e,_⟩:=zi h.ob;have c0:W.cell? ⟨db,0,none⟩=some bv:=za h.obj rfl;unfold zfF;rw[c0,e]
theorem zk0(v:Value)(w:World):(Instr.typeAssert (.iface 266 v) 20 266 false).run prog w = .ok v w:=by kernel_rfl
variable{w':World}
theorem zeX{a:Nat}{x y:Value}{t:TypeId}(h:w.heap[a]?=some (.cells #[x,y] t (0,0)))(h':∃o,w'.heap[a]?=some o∧w.heap[a]?=some o):w'.cell? ⟨a,0,none⟩=some x∧w'.cell? ⟨a,1,none⟩=some y:=by
 obtain⟨o,h1,h2⟩:=h';rw[h]at h2;cases h2;exact⟨za h1 rfl,za h1 rfl⟩
def zpe(b db cb:Nat)(kb:Nat→Nat)(q:Nat)(W:World)(Q:Ending→World→Prop):Prop :=
 match q with
 | 0=>Calls prog 145 #[.pointer (some ⟨b,0,none⟩),.pointer (some ⟨db,0,none⟩)] W Q
 | 1=>Calls prog 146 #[.pointer (some ⟨b,0,none⟩),.pointer (some ⟨db,0,none⟩)] W Q
 | k+2=>Calls prog 148 #[.pointer (some ⟨db,0,none⟩),.pointer (some ⟨cb,0,none⟩),.pointer (some ⟨kb k,0,none⟩)] W Q
theorem zq7{e:Nat→Nat}{l:List (Frm×Value)}(h:zg tag i b c V W)(a:zah tag i db d bv fv l W)(E:Env i tag W)(ok:c.Ok)(hd:d.Ok)(hq:q<10)
  (h1:W.cell? ⟨cb,0,none⟩=some (.pointer (some ⟨b,0,none⟩))) (h2:∀k,k<8→W.cell? ⟨e k,0,none⟩=some (.int .i64 (k:Int))) :
  zpe b db cb e q W (za9 tag i b db W (c.put d q).2.1 (c.put d q).2.2 (c.put d q).1):=by
 have b1:=hd.b;have b2:=hd.fs;have b3:l.length=d.fs.length:=by rw[←a.lf,List.length_map]
 match q,hq with
 | 0,_=>exact ziS h a E ok.ctl (by omega) (by omega)
 | 1,_=>exact zfD h a E ok.waits (by omega) (by omega)
 | k+2,hk=>exact zmT h a E k (ok.by_ (by omega)) hd h1 (h2 k (by omega))
def zj7(tag:Nat→Nat×Nat)(i b db:Nat)(W:World)(c':CS)(d':Drf)(e:Ending)(W':World):Prop :=
 e = .returned (.tuple #[])∧∃tag' V' bv' fv' l',zJ tag i b db W c' d' tag' V' bv' fv' l' W'
theorem zk1{l:List (Frm×Value)}(n:zJ tag i b db W c d tag V bv fv l W)(kb:Nat→Nat){t:TypeId}:zJ tag i b db W c d tag V bv fv l (((W.alloc (.cells #[.pointer (some ⟨b,0,none⟩)] t)).alloc (.cells #[.int .i64 0,.func (.func 145) #[.pointer (some ⟨b,0,none⟩)] #[],.int .i64 1,.func (.func 146) #[.pointer (some ⟨b,0,none⟩)] #[]] 266)).alloc (.cells #[.slice (some ⟨W.heap.size+1,0,none⟩) 2 2] 268)) ∧
  zaT tag i b db W W.heap.size kb 0 (List.range 2) (W.heap.size+1+1) (W.heap.size+1) 2 tag (((W.alloc (.cells #[.pointer (some ⟨b,0,none⟩)] t)).alloc (.cells #[.int .i64 0,.func (.func 145) #[.pointer (some ⟨b,0,none⟩)] #[],.int .i64 1,.func (.func 146) #[.pointer (some ⟨b,0,none⟩)] #[]] 266)).alloc (.cells #[.slice (some ⟨W.heap.size+1,0,none⟩) 2 2] 268)):=by
 obtain⟨o1,g⟩:=nm (Obj.cells #[.pointer (some ⟨b,0,none⟩)] t);obtain⟨a,e⟩:=nm (Obj.cells #[.int .i64 0,.func (.func 145) #[.pointer (some ⟨b,0,none⟩)] #[],.int .i64 1,.func (.func 146) #[.pointer (some ⟨b,0,none⟩)] #[]] 266);obtain⟨f,h⟩:=nm (Obj.cells #[.slice (some ⟨W.heap.size+1,0,none⟩) 2 2] 268);rw[g,e,h];have s1:(W.alloc o1).heap.size=W.heap.size+1:=by simp
 have s2:((W.alloc o1).alloc a).heap.size=W.heap.size+1+1:=by simp
 have a3:(((W.alloc o1).alloc a).alloc f).heap[W.heap.size+1+1]?=some f:=by
  have:=heap_alloc_new ((W.alloc o1).alloc a) f;rw[s2]at this;exact this
 have o:(((W.alloc o1).alloc a).alloc f).heap[W.heap.size+1]?=some a:=by
  have:=heap_alloc_new (W.alloc o1) a;rw[s1]at this;rw[Below.heap_alloc _ _ _ (by omega)];exact this
 have a1:(((W.alloc o1).alloc a).alloc f).heap[W.heap.size]?=some o1:=by
  rw[Below.heap_alloc _ _ _ (by omega),Below.heap_alloc _ _ _ (by omega)];exact heap_alloc_new W o1
 have m:Mod NoB W (((W.alloc o1).alloc a).alloc f):=(((Mod.refl _ _).alloc _).alloc _).alloc _;rw[←e]at o;refine⟨n.mod0 m,⟨⟨?_,⟨rfl,.inr ⟨_,_,_,rfl,Nat.zero_le _,by rw[←e];exact o,Nat.le_refl _,by decide,rfl,rfl⟩⟩,by omega,by decide,zdk _ _ _⟩,?_,fun k hk=>absurd hk (Nat.not_lt_zero k),fun q j=>?_,fun q j=>?_⟩⟩
 ·rw[a3,←h];rfl
 ·exact za (a1.trans (congrArg some g.symm)) rfl
 ·have:W.heap.size≤q:=by
   rcases j with rfl|rfl|rfl|⟨k,hk,_⟩
   ·omega
   ·omega
   ·omega
   ·omega
  exact⟨this,n.ok _ this⟩
 ·rcases j with rfl|⟨k,hk,_⟩
  ·omega
  ·omega
theorem zaT.count{d:Nat→Nat}(h:zaT tag i b db W0 cb d n (List.range (n+2)) sb g cap tag' W)(ht:zR tag' W)(hw:W0.heap.size≤W.heap.size)(m:Mod NoB W W')(hc:W'.cell? ⟨W.heap.size,0,none⟩=some (.int .i64 (n:Int))):zaT tag i b db W0 cb (upd d n W.heap.size) (n+1) (List.range (n+2)) sb g cap tag' W':=by
 have f:=h.mod0 m;have e:∀k,k<n→upd d n W.heap.size k=d k:=fun k hk=>zd _ _ (by omega)
 have lsb:=zk h.heap.c0;have lg:=zE h.heap.own g rfl;refine⟨f.heap.congr (fun x j=>?_) (zdk _ _ _),f.hc,fun k hk=>?_,fun q a=>?_,fun q a=>?_⟩
 ·have j:x<n+2:=List.mem_range.1 j
  match x,j with
  | 0,_=>rfl
  | 1,_=>rfl
  | k+2,hk =>
   show Value.func _ #[] #[.pointer (some ⟨cb,0,none⟩),.pointer (some ⟨d k,0,none⟩)]=Value.func _ #[] #[.pointer (some ⟨cb,0,none⟩),.pointer (some ⟨upd d n W.heap.size k,0,none⟩)];rw[e k (by omega)]
 ·by_cases a:k=n
  ·rw[a,ze];exact hc
  ·rw[e k (by omega)];exact f.hk k (by omega)
 ·rcases a with a|a|a|⟨k,hk,a⟩
  ·exact h.fr q (.inl a)
  ·exact h.fr q (.inr (.inl a))
  ·exact h.fr q (.inr (.inr (.inl a)))
  ·by_cases c:k=n
   ·rw[c,ze]at a;rw[a];exact⟨hw,ht _ (Nat.le_refl _)⟩
   ·rw[e k (by omega)]at a;exact h.fr q (.inr (.inr (.inr ⟨k,by omega,a⟩)))
 ·rcases a with a|⟨k,hk,a⟩
  ·exact h.ne q (.inl a)
  ·by_cases c:k=n
   ·rw[c,ze]at a;omega
   ·rw[e k (by omega)]at a;exact h.ne q (.inr ⟨k,by omega,a⟩)
theorem zpf{l:List (Frm×Value)}(h:zg tag i b c V W)(hD:zah tag i db d bv fv l W)(E:Env i tag W)(ok:c.Ok)(hd:d.Ok):Calls prog 85 #[.pointer (some ⟨b,0,none⟩),.pointer (some ⟨db,0,none⟩)] W (zj7 tag i b db W (c.fill d).1 (c.fill d).2):=by
 have S0:Hid (zJ tag i b db W c d tag V bv fv l W):=zb ⟨h,hD,Ext.same E.ok (Mod.refl NoB _),Mod.refl _ _,E.pos⟩;obtain⟨R,hR⟩:=nm (c.fill d);rw[hR];have HR:=zb hR;have OK:=zb ok;have HD:=zb hd;have EE:=zb E;clear h hD E ok hd hR;go_enter func85,ntmps85;go_upto_region 2 with fail;have st:=zk1 (t:=69) S0.out id;obtain⟨W3,am⟩:=nm ((((W.alloc (.cells #[.pointer (some ⟨b,0,none⟩)] 69)).alloc (.cells #[.int .i64 0,.func (.func 145) #[.pointer (some ⟨b,0,none⟩)] #[],.int .i64 1,.func (.func 146) #[.pointer (some ⟨b,0,none⟩)] #[]] 266)).alloc (.cells #[.slice (some ⟨W.heap.size+1,0,none⟩) 2 2] 268)));rw[am]at st ⊢;clear am;obtain⟨cb,ah⟩:=nm W.heap.size;have HCB:=zb ah;obtain⟨N,an⟩:=nm (W.heap.size+1+1);have F0:=zb st.2;have w:=zb st.1;rw[an]at F0 ⊢;obtain⟨g0,ao⟩:=nm (W.heap.size+1);rw[ao]at F0 ⊢;rw[ah]at F0 ⊢;clear ah an ao st;go_wp2_with fail
 go_loopw [15] (fun iv wr=>∃(k:Nat) (D:Nat→Nat) (g cap:Nat),iv = .int .i64 (k:Int)∧k≤8∧Hid (zJ tag i b db W c d tag V bv fv l wr)∧Hid (zaT tag i b db W cb D k (List.range (k+2)) N g cap tag wr)) (fun iv _=>8-(intOf iv).toNat)
 case atStart=>exact⟨0,id,g0,2,rfl,by omega,w,F0⟩
 case round =>
  obtain⟨k,D,g,cap,rfl,hk,O,L⟩:=hrel;by_cases aB:k<8
  ·have q1:IntKind.i64.wrap (2+(k:Int))=((k+2:Nat):Int):=by rw[IntWalk.i64_in _ (by omega)];omega
   have q3:IntKind.i64.wrap ((k:Int)+1)=((k+1:Nat):Int):=by rw[IntWalk.i64_in _ (by omega)];omega
   have d1:(k:Int)<8:=by omega
   go_upto_region 5 with fail;obtain⟨W4,Z⟩:=nm (wr.alloc (.cells #[.int .i64 (k:Int)] 3));have m4:Mod NoB wr W4:=by rw[←Z];exact(Mod.refl _ _).alloc _
   have c4:W4.cell? ⟨wr.heap.size,0,none⟩=some (.int .i64 (k:Int)):=by rw[←Z];exact za (heap_alloc_new wr _) rfl
   have fc:=L.out.count O.out.ok O.out.m.size m4 c4;have F:=zkX fc.heap (k+2) (by rw[List.length_range];omega) (by rw[List.length_range];omega) (fun x hx=>Nat.le_of_lt (List.mem_range.1 hx));rw[show zeW b cb (upd D k wr.heap.size) (k+2) = .func (.func 148) #[] #[.pointer (some ⟨cb,0,none⟩),.pointer (some ⟨upd D k wr.heap.size k,0,none⟩)]from rfl,ze]at F;have S4:=zb (O.out.mod0 m4);have FC:=zb fc;have P:=zb F;unfold hI at P;rw[Z];have HW:wr.heap.size≤W4.heap.size:=m4.size;have HHW:=zb HW;clear fc F m4 Z HW;go_wp2_with (go_at_call 147;refine P.out.mono ?_;rintro e w5 ⟨rfl,g',ap,h5,hg,m5⟩;have H5:=zb h5;have HG:=zb hg;have M5:=zb m5;clear h5 hg m5);go_roundw
   case rel =>
    have A:∀q,(q=N∨q=g)→W.heap.size≤q∧tag q=(0,0):=fun q A=>FC.out.fr q (by
     rcases A with A|A
     ·exact .inl A
     ·exact .inr (.inl A))
    refine⟨k+1,upd D k wr.heap.size,g',ap,rfl,by omega,zb (S4.out.own M5.out A),zb ?_⟩;have h5:=H5.out;rw[←List.range_succ]at h5;exact FC.out.heaped S4.out.ok S4.out.m.size h5 HG.out M5.out
   case measure =>
    simp[intOf];omega
  ·have d1:¬(k:Int)<8:=by omega
   have ae:k=8:=by omega
   rw[ae]at L;have n0:Hid (zJ tag i b db W c d tag V bv fv l wr∧zaT tag i b db W cb D 8 (zdI 0) N g cap tag wr):=zb ⟨O.out,L.out⟩;clear O L hk aB w F0 S0 ae;go_wp2_with fail;clear d1
   go_loopw [6] (fun _ wr=>∃(n:Nat) (c':CS) (C:Drf) (g cap:Nat) (tag':Nat→Nat×Nat) (V':CV) (aa ab:Value) (l':List (Frm×Value)),n≤10∧Hid (zJ tag i b db W c' C tag' V' aa ab l' wr)∧Hid (zaT tag i b db W cb D 8 (zdI (10-n)) N g cap tag' wr)∧Hid (c'.Ok∧C.Ok∧CS.fillN n c' C=R)) (fun _ wr=>zfF N wr)
   case atStart=>exact⟨10,c,d,g,cap,tag,V,bv,fv,l,Nat.le_refl _,zb n0.out.1,zb n0.out.2,zb ⟨OK.out,HD.out,HR.out⟩⟩
   case round =>
    clear n0;obtain⟨n,c',C,g,cap,tag',V',aa,ab,l',hn,O,L,Q⟩:=hrel;have ac:=zem (10-n) (by omega);rw[show 10-(10-n)=n by omega]at ac;have c0:=L.out.heap.c0;rw[ac]at c0;have kl:=zgF (some ⟨g,0,none⟩) n cap wr;have KL:=zb kl;have ai:=zb ac;clear kl ac;cases n with
    | zero =>
     go_wp2_with (go_at_call 150;refine KL.out.mono ?_;rintro e J ⟨rfl,rfl⟩);refine bodyPost_end (results_none rfl _ _ _) rfl ⟨rfl,tag',V',aa,ab,l',?_⟩;have e:(c',C)=R:=Q.out.2.2;rw[←e];exact O.out
    | succ n =>
     obtain⟨q,A⟩:∃q,q+n=9:=⟨9-n,by omega⟩;have e1:10-(n+1)=q:=by omega
     have e2:10-n=q+1:=by omega
     rw[e1]at L ai;have hp:=zmN L.out.heap (by rw[ai.out];omega) (zmP q (by omega));have aq:CS.fillN n (CS.reps q (C.room+1) c' C).1 (CS.reps q (C.room+1) c' C).2=R:=by
      have:CS.fillN (n+1) c' C=R:=Q.out.2.2;have e9:9-n=q:=by omega
      rw[←this,CS.fillN,e9]
     obtain⟨f,fa,fx,hf⟩:=zdk b cb D q;rw[hf]at hp;have ar:=zb aq;have HP:=zb hp;have aC:=zb hf;have HQ:=zb A;have E2:=zb e2;have HRM:Hid (∃r,r=C.room):=zb ⟨_,rfl⟩;unfold hI at HP;have d1:(0:Int)<(n:Int)+1:=by omega
     clear hp aq hf e1 e2 A;go_upto_region 8 with(go_at_call 150;refine KL.out.mono ?_;rintro e J ⟨rfl,rfl⟩);go_upto_region 9 with(go_at_call 151;refine HP.out.mono ?_;rintro e J ⟨rfl,h2,m2⟩;have H2:=zb h2;have M2:=zb m2;have aD:=zk0 (.agg #[.int .i64 (q:Int),.func f fa fx]) J;clear h2 m2);have au:∀q,(q=N∨q=g)→W.heap.size≤q∧tag' q=(0,0):=fun q A=>L.out.fr q (by
      rcases A with A|A
      ·exact .inl A
      ·exact .inr (.inl A))
     have s2:=O.out.own M2.out au;have f2:=L.out.heaped O.out.ok O.out.m.size H2.out (.inl rfl) M2.out;obtain⟨W5,ad⟩:=nm (J.alloc (.cells #[.int .i64 (q:Int),.func f fa fx] 266));have m5:Mod NoB J W5:=by rw[←ad];exact(Mod.refl _ _).alloc _
     have av:W5.heap[J.heap.size]?=some (.cells #[.int .i64 (q:Int),.func f fa fx] 266 (0,0)):=by rw[←ad];exact heap_alloc_new J _
     have S5:=zb (s2.mod0 m5);have F5:=zb (f2.mod0 m5);have aj:W.heap.size≤J.heap.size∧tag' J.heap.size=(0,0):=⟨s2.m.size,s2.ok _ (Nat.le_refl _)⟩;have X5:Hid (W5.heap[J.heap.size]?=some (.cells #[.int .i64 (q:Int),.func f fa fx] 266 (0,0))∧W.heap.size≤J.heap.size∧tag' J.heap.size=(0,0)):=⟨av,aj.1,aj.2⟩;rw[ad];have HL:Hid (zfF N wr=n+1):=L.out.heap.sbLen_is.trans ai.out;have S:Hid ((zdI (q+1)).length=n):=by
      have:=zem (q+1) (by have:=HQ.out;omega);have:=HQ.out;show _=n;omega
     clear au s2 f2 ad m5 av aj aD c0 d1
     go_loopw [6] (fun xv T=>∃(K m:Nat) (c2:CS) (d2:Drf) (tag2:Nat→Nat×Nat) (V2:CV) (aw ax:Value) (U:List (Frm×Value)),xv = .pointer (some ⟨K,0,none⟩)∧Hid (zJ tag i b db W c2 d2 tag2 V2 aw ax U T)∧Hid (zaT tag i b db W cb D 8 (zdI (q+1)) N g cap tag2 T) ∧
       Hid (T.heap[K]?=some (.cells #[.int .i64 (q:Int),.func f fa fx] 266 (0,0))∧W.heap.size≤K∧tag2 K=(0,0))∧Hid (c2.Ok∧d2.Ok∧1≤m∧d2.room=C.room∧d2.room<d2.b.length+m∧CS.fillN n (CS.reps q m c2 d2).1 (CS.reps q m c2 d2).2=R)) (fun _ T=>C.room+1-zfF db T)
     case atStart=>exact⟨J.heap.size,C.room+1,c',C,tag',V',aa,ab,l',rfl,S5,F5,X5,zb ⟨Q.out.1,Q.out.2.1,by omega,rfl,by omega,ar.out⟩⟩
     case round =>
      clear X5 S5 F5 O L Q ar KL HP M2 H2;obtain⟨K,m,c2,d2,tag2,V2,aw,ax,U,rfl,B,FF,G,RR⟩:=hrel;have af:q<10:=by have:=HQ.out;omega
      have F:=zq7 B.out.c B.out.d (EE.out.left B.out.e B.out.m.ofC) RR.out.1 RR.out.2.1 af FF.out.hc FF.out.hk;have pk:=zhu (d:=d2) RR.out.1 af;have pd:=pk.drf RR.out.2.1;have cx0:wr.cell? ⟨K,0,none⟩=some (.int .i64 (q:Int)):=za G.out.1 rfl;have cx1:wr.cell? ⟨K,1,none⟩=some (.func f fa fx):=za G.out.1 rfl;obtain⟨m',ak⟩:∃m',m=m'+1:=⟨m-1,by have:=RR.out.2.2.1;omega⟩;have X:CS.reps q m c2 d2=if (c2.put d2 q).1=true then CS.reps q m' (c2.put d2 q).2.1 (c2.put d2 q).2.2 else((c2.put d2 q).2.1,(c2.put d2 q).2.2):=by rw[ak];rfl
      have hf:=aC.out;obtain⟨r,hr⟩:=nm ((c2.put d2 q).1);obtain⟨c3,ay⟩:=nm ((c2.put d2 q).2.1);obtain⟨M,al⟩:=nm ((c2.put d2 q).2.2);rw[hr,al]at pd;rw[hr,ay,al]at F X pk;have PK:=zb pk;have PD:=zb pd;have HM:=zb ak;have z:=zb X;clear pk pd ak X hr ay al;obtain hq0|hq1|⟨k,hqk⟩:q=0∨q=1∨∃k,q=k+2:=by
       rcases q with _|_|k
       ·exact .inl rfl
       ·exact .inr (.inl rfl)
       ·exact .inr (.inr ⟨k,rfl⟩)
      ·rw[hq0]at F hf;have P:Hid (Calls prog 145 #[.pointer (some ⟨b,0,none⟩),.pointer (some ⟨db,0,none⟩)] wr _):=F;simp only[zeW,Value.func.injEq]at hf;obtain⟨rfl,rfl,rfl⟩:=hf;clear F hq0;have KQ:Hid (Calls prog 145 #[.pointer (some ⟨b,0,none⟩),.pointer (some ⟨db,0,none⟩)] wr fun e u=>e = .returned (.bool r)∧∃(a:Nat→Nat×Nat) (y:CV) (j s:Value) (v:List (Frm×Value)),Hid (zJ tag i b db W c3 M a y j s v u)∧Hid (zaT tag i b db W cb D 8 (zdI (q+1)) N g cap a u) ∧
         Hid (∃o,u.heap[K]?=some o∧wr.heap[K]?=some o)):=zb (P.out.mono (by
        intro e u Y;obtain⟨rfl,a,y,j,s,v,s3,e3,m3⟩:=B.out.then Y;exact⟨rfl,a,y,j,s,v,s3,FF.out.src B.out.p e3 m3,⟨_,m3.obj (fun x=>by
         have h1:=G.out.2.2;have h2:=B.out.p;have x:=x.1;rw[h1]at x;have x:(0:Nat)=i:=x;omega) G.out.1,G.out.1⟩⟩))
       clear P;cases r with
       | true =>
        go_wp2_with (go_at_call 145;refine KQ.out.mono ?_;rintro e u ⟨rfl,a,y,j,s,v,w,H,X3⟩;obtain⟨az,aA⟩:=zeX G.out.1 X3.out);go_roundw
        case rel =>
         have I:=RR.out;have hd:=PD.out;have hm:=HM.out;have hl:=(hd.2.2.1 (by trivial));refine⟨u.heap.size,m',c3,M,a,y,j,s,v,rfl,zb (w.out.mod0 ((Mod.refl _ _).alloc _)),zb (H.out.mod0 ((Mod.refl _ _).alloc _)),zb ⟨heap_alloc_new u _,w.out.m.size,w.out.ok _ (Nat.le_refl _)⟩,zb ⟨PK.out.ok,hd.1,by omega,by omega,by omega,?_⟩⟩;have e:=z.out;rw[if_pos (by trivial)]at e;rw[←e];exact I.2.2.2.2.2
        case measure =>
         have l1:=B.out.d.sbLen_is;have U:∀o,zfF db (u.alloc o)=M.b.length:=fun o=>(w.out.mod0 ((Mod.refl NoB u).alloc o)).d.sbLen_is
         have hl:=(PD.out.2.2.1 (by trivial));have hr:=RR.out.2.2.2.1;rw[l1,U];omega
       | false =>
        go_wp2_with (go_at_call 145;refine KQ.out.mono ?_;rintro e u ⟨rfl,a,y,j,s,v,w,H,X3⟩);go_roundw
        case rel =>
         refine⟨n,c3,M,g,cap,a,y,j,s,v,by omega,w,by rw[E2.out];exact H,zb ⟨PK.out.ok,PD.out.1,?_⟩⟩;have e:=z.out;rw[if_neg (by simp)]at e;have I:=RR.out.2.2.2.2.2;rw[e]at I;exact I
        case measure =>
         have l1:=H.out.heap.sbLen_is;have U:=HL.out;have v:=S.out;omega
      ·rw[hq1]at F hf;have P:Hid (Calls prog 146 #[.pointer (some ⟨b,0,none⟩),.pointer (some ⟨db,0,none⟩)] wr _):=F;simp only[zeW,Value.func.injEq]at hf;obtain⟨rfl,rfl,rfl⟩:=hf;clear F hq1;have KQ:Hid (Calls prog 146 #[.pointer (some ⟨b,0,none⟩),.pointer (some ⟨db,0,none⟩)] wr fun e u=>e = .returned (.bool r)∧∃(a:Nat→Nat×Nat) (y:CV) (j s:Value) (v:List (Frm×Value)),Hid (zJ tag i b db W c3 M a y j s v u)∧Hid (zaT tag i b db W cb D 8 (zdI (q+1)) N g cap a u) ∧
         Hid (∃o,u.heap[K]?=some o∧wr.heap[K]?=some o)):=zb (P.out.mono (by
        intro e u Y;obtain⟨rfl,a,y,j,s,v,s3,e3,m3⟩:=B.out.then Y;exact⟨rfl,a,y,j,s,v,s3,FF.out.src B.out.p e3 m3,⟨_,m3.obj (fun x=>by
         have h1:=G.out.2.2;have h2:=B.out.p;have x:=x.1;rw[h1]at x;have x:(0:Nat)=i:=x;omega) G.out.1,G.out.1⟩⟩))
       clear P;cases r with
       | true =>
        go_wp2_with (go_at_call 146;refine KQ.out.mono ?_;rintro e u ⟨rfl,a,y,j,s,v,w,H,X3⟩;obtain⟨az,aA⟩:=zeX G.out.1 X3.out);go_roundw
        case rel =>
         have I:=RR.out;have hd:=PD.out;have hm:=HM.out;have hl:=(hd.2.2.1 (by trivial));refine⟨u.heap.size,m',c3,M,a,y,j,s,v,rfl,zb (w.out.mod0 ((Mod.refl _ _).alloc _)),zb (H.out.mod0 ((Mod.refl _ _).alloc _)),zb ⟨heap_alloc_new u _,w.out.m.size,w.out.ok _ (Nat.le_refl _)⟩,zb ⟨PK.out.ok,hd.1,by omega,by omega,by omega,?_⟩⟩;have e:=z.out;rw[if_pos (by trivial)]at e;rw[←e];exact I.2.2.2.2.2
        case measure =>
         have l1:=B.out.d.sbLen_is;have U:∀o,zfF db (u.alloc o)=M.b.length:=fun o=>(w.out.mod0 ((Mod.refl NoB u).alloc o)).d.sbLen_is
         have hl:=(PD.out.2.2.1 (by trivial));have hr:=RR.out.2.2.2.1;rw[l1,U];omega
       | false =>
        go_wp2_with (go_at_call 146;refine KQ.out.mono ?_;rintro e u ⟨rfl,a,y,j,s,v,w,H,X3⟩);go_roundw
        case rel =>
         refine⟨n,c3,M,g,cap,a,y,j,s,v,by omega,w,by rw[E2.out];exact H,zb ⟨PK.out.ok,PD.out.1,?_⟩⟩;have e:=z.out;rw[if_neg (by simp)]at e;have I:=RR.out.2.2.2.2.2;rw[e]at I;exact I
        case measure =>
         have l1:=H.out.heap.sbLen_is;have U:=HL.out;have v:=S.out;omega
      ·rw[hqk]at F hf;have P:Hid (Calls prog 148 #[.pointer (some ⟨db,0,none⟩),.pointer (some ⟨cb,0,none⟩),.pointer (some ⟨D k,0,none⟩)] wr _):=F;simp only[zeW,Value.func.injEq]at hf;obtain⟨rfl,rfl,rfl⟩:=hf;clear F hqk;have KQ:Hid (Calls prog 148 #[.pointer (some ⟨db,0,none⟩),.pointer (some ⟨cb,0,none⟩),.pointer (some ⟨D k,0,none⟩)] wr fun e u=>e = .returned (.bool r)∧∃(a:Nat→Nat×Nat) (y:CV) (j s:Value) (v:List (Frm×Value)),Hid (zJ tag i b db W c3 M a y j s v u)∧Hid (zaT tag i b db W cb D 8 (zdI (q+1)) N g cap a u) ∧
         Hid (∃o,u.heap[K]?=some o∧wr.heap[K]?=some o)):=zb (P.out.mono (by
        intro e u Y;obtain⟨rfl,a,y,j,s,v,s3,e3,m3⟩:=B.out.then Y;exact⟨rfl,a,y,j,s,v,s3,FF.out.src B.out.p e3 m3,⟨_,m3.obj (fun x=>by
         have h1:=G.out.2.2;have h2:=B.out.p;have x:=x.1;rw[h1]at x;have x:(0:Nat)=i:=x;omega) G.out.1,G.out.1⟩⟩))
       clear P;cases r with
       | true =>
        go_wp2_with (go_at_call 148;refine KQ.out.mono ?_;rintro e u ⟨rfl,a,y,j,s,v,w,H,X3⟩;obtain⟨az,aA⟩:=zeX G.out.1 X3.out);go_roundw
        case rel =>
         have I:=RR.out;have hd:=PD.out;have hm:=HM.out;have hl:=(hd.2.2.1 (by trivial));refine⟨u.heap.size,m',c3,M,a,y,j,s,v,rfl,zb (w.out.mod0 ((Mod.refl _ _).alloc _)),zb (H.out.mod0 ((Mod.refl _ _).alloc _)),zb ⟨heap_alloc_new u _,w.out.m.size,w.out.ok _ (Nat.le_refl _)⟩,zb ⟨PK.out.ok,hd.1,by omega,by omega,by omega,?_⟩⟩;have e:=z.out;rw[if_pos (by trivial)]at e;rw[←e];exact I.2.2.2.2.2
        case measure =>
         have l1:=B.out.d.sbLen_is;have U:∀o,zfF db (u.alloc o)=M.b.length:=fun o=>(w.out.mod0 ((Mod.refl NoB u).alloc o)).d.sbLen_is
         have hl:=(PD.out.2.2.1 (by trivial));have hr:=RR.out.2.2.2.1;rw[l1,U];omega
       | false =>
        go_wp2_with (go_at_call 148;refine KQ.out.mono ?_;rintro e u ⟨rfl,a,y,j,s,v,w,H,X3⟩);go_roundw
        case rel =>
         refine⟨n,c3,M,g,cap,a,y,j,s,v,by omega,w,by rw[E2.out];exact H,zb ⟨PK.out.ok,PD.out.1,?_⟩⟩;have e:=z.out;rw[if_neg (by simp)]at e;have I:=RR.out.2.2.2.2.2;rw[e]at I;exact I
        case measure =>
         have l1:=H.out.heap.sbLen_is;have U:=HL.out;have v:=S.out;omega
theorem zi0:(prog.info? 60).map (fun i=>(i.zero,i.size,i.bytes))=some (some (.slice none 0 0),1,24):=by kernel_rfl
theorem zi1:(prog.info? 173).map (fun i=>(i.zero,i.size,i.bytes))=some (some (.agg #[.int .u64 0,.int .u64 0,.slice none 0 0]),3,40):=by kernel_rfl
theorem zpg(w:World)(v:Value)(b:List Value)(a:Option Addr)(n c:Nat)(h:w.ownsRow 0 60 1 v b.length b)(hl:b.length≤1099511627776):∃v' w',(∀ty,(Builtin.append_ #[130,130] ty #[v,.slice (some ⟨w.heap.size,0,none⟩) 1 1]).run prog (w.alloc (.cells #[.slice a n c] 60)) = .ok v' w') ∧
   w'.ownsRow 0 60 1 v' (b.length+1) (b++[.slice a n c])∧w.grownBy w' v.ownBlock∧zaH w v v':=by
 obtain⟨i,e,hz,f,g⟩:=info_parts zi0;have d:∀(j:Nat) u,([Value.slice a n c])[j]?=some u→(w.alloc (.cells #[.slice a n c] 60)).cell? ((⟨w.heap.size,0,none⟩:Addr).add j)=some u:=by
  intro j u hj;rw[zU];refine za (heap_alloc_new w _) ?_;rw[Nat.zero_add,←Array.getElem?_toList];exact hj
 obtain⟨v',w',h1,h2,h3,h4,h5⟩:=zau (P:=prog) (w.alloc (.cells #[.slice a n c] 60)) 130 60 i _ 1 24 underlying130 e hz f g rfl (by decide) v b.length b (World.ownsRow.alloc h _)
  ⟨w.heap.size,0,none⟩ 1 1 [.slice a n c] rfl d (by intro u l;simp at l;rcases l with rfl;rfl) (by unfold maxLen;omega) (by omega)
 refine⟨v',w',h1,h2,?_,?_⟩
 ·exact⟨h3.os,h3.tape,h3.output,Nat.le_trans (by simp) h3.size,fun k hk hn=>(h3.block k (by simp;omega) hn).trans (Below.heap_alloc w _ k hk)⟩
 ·intro k hk;rcases h4 k hk with x|x
  ·exact .inl x
  ·exact .inr (by simp at x;omega)
theorem zph(w:World)(v:Value)(b:List (Fly×Value))(f:Fly)(a:Option Addr)(n c:Nat)(h:w.ownsRow 0 173 3 v b.length (zw b))(hl:b.length≤1099511627776):∃v' w',(∀ty,(Builtin.append_ #[123,123] ty #[v,.slice (some ⟨w.heap.size,0,none⟩) 1 1]).run prog (w.alloc (.cells #[.int .u64 (f.n:Int),.int .u64 (f.at_:Int),.slice a n c] 173)) = .ok v' w') ∧
   w'.ownsRow 0 173 3 v' (b.length+1) (zw (b++[(f,.slice a n c)]))∧w.grownBy w' v.ownBlock∧zaH w v v':=by
 obtain⟨i,e,hz,g,l⟩:=info_parts zi1;have e1:zw [(f,.slice a n c)]=[.int .u64 (f.n:Int),.int .u64 (f.at_:Int),.slice a n c]:=rfl;have d:∀(j:Nat) u,(zw [(f,.slice a n c)])[j]?=some u→(w.alloc (.cells #[.int .u64 (f.n:Int),.int .u64 (f.at_:Int),.slice a n c] 173)).cell? ((⟨w.heap.size,0,none⟩:Addr).add j)=some u:=by
  intro j u hj;rw[zU];refine za (heap_alloc_new w _) ?_;rw[Nat.zero_add,←Array.getElem?_toList];exact hj
 obtain⟨v',w',h1,h2,h3,h4,h5⟩:=zau (P:=prog) (w.alloc (.cells #[.int .u64 (f.n:Int),.int .u64 (f.at_:Int),.slice a n c] 173)) 123 173 i _ 3 40 underlying123 e hz g l rfl (by decide) v b.length (zw b) (World.ownsRow.alloc h _)
  ⟨w.heap.size,0,none⟩ 1 1 (zw [(f,.slice a n c)]) rfl d (by rw[e1];intro u m;simp at m;rcases m with rfl|rfl|rfl<;>rfl) (by unfold maxLen;omega) (by omega)
 have e2:zw b++zw [(f,.slice a n c)]=zw (b++[(f,.slice a n c)]):=by simp[zw]
 rw[e2]at h2;refine⟨v',w',h1,h2,?_,?_⟩
 ·exact⟨h3.os,h3.tape,h3.output,Nat.le_trans (by simp) h3.size,fun k hk hn=>(h3.block k (by simp;omega) hn).trans (Below.heap_alloc w _ k hk)⟩
 ·intro k hk;rcases h4 k hk with x|x
  ·exact .inl x
  ·exact .inr (by simp at x;omega)
theorem zg.retag(h:zg tag i b c V W)(ht:∀g r,r<90→tag g=(i,r)→tag' g=(i,r)):zg tag' i b c V W:=by
 have e:∀{g r:Nat},tag g=(i,r)→r<90→tag' g=(i,r):=fun hg hr=>ht _ _ hr hg
 exact
  {obj:=h.obj
   tb:=e h.tb (by decide)
   got:=h.got
   tg:=e h.tg (by decide)
   tgv:=fun g hg=>e (h.tgv g hg) (by decide)
   wb:=h.wb
   ws:=h.ws
   wc:=h.wc
   rb:=h.rb
   rc:=h.rc
   twb:=fun k hk g hg=>e (h.twb k hk g hg) (by omega)
   tws:=fun k hk g hg=>e (h.tws k hk g hg) (by omega)
   twc:=fun k hk g hg=>e (h.twc k hk g hg) (by omega)
   trb:=fun k hk g hg=>e (h.trb k hk g hg) (by omega)
   trc:=fun k hk g hg=>e (h.trc k hk g hg) (by omega)
   ft:=h.ft
   fl:=h.fl
   fs:=fun p hp=>(h.fs p hp).mod (Mod.refl NoB W) (fun _ x=>x.elim) (fun g hg=>e hg (by decide))
   tft:=fun g hg=>e (h.tft g hg) (by decide)
   wt:=h.wt
   twt:=fun g hg=>e (h.twt g hg) (by decide)
   sn:=h.sn
   tsn:=e h.tsn (by decide)
   cm:=h.cm
   tcm:=fun g hg=>e (h.tcm g hg) (by decide) }
structure zc4(tag:Nat→Nat×Nat)(W0 W:World)(ov:Value)(vs:List Value)(bs:List (List UInt8)):Prop where
 own:W.ownsRow 0 60 1 ov vs.length vs
 tov:∀g,ov.ownBlock=some g→W0.heap.size≤g∧tag g=(0,0)
 len:vs.length=bs.length
 each:∀(k:Nat) (v:Value) (l:List UInt8),vs[k]?=some v→bs[k]?=some l→OB W v l∧∀g,v.ownBlock=some g→W0.heap.size≤g∧tag g=(0,0)
 apart:∀(j k:Nat) (u v:Value),j<k→vs[j]?=some u→vs[k]?=some v→∀g,u.ownBlock=some g→v.ownBlock≠some g
theorem zc4.nil(tag:Nat→Nat×Nat)(W0 W:World):zc4 tag W0 W (.slice none 0 0) [] [] :=
 ⟨World.ownsRow_nil _ 0 _ 1,(fun g hg=>by cases hg),rfl,(fun k v l hv _=>by simp at hv),(fun j k u v _ hu _=>by simp at hu)⟩
variable{ov:Value}{vs:List Value}
theorem zc4.mod{bs:List (List UInt8)}(h:zc4 tag W0 W ov vs bs)(m:Mod S W W')(hS:∀g,S g→tag g≠(0,0))(c:∀g,g<W.heap.size→tag g=(0,0)→tag' g=(0,0)):zc4 tag' W0 W' ov vs bs:=by
 have q:∀g,tag g=(0,0)→¬S g:=fun g hg x=>hS g x hg
 refine⟨m.owns h.own (fun g hg=>q g (h.tov g hg).2),fun g hg=>⟨(h.tov g hg).1,c g (zE h.own g hg) (h.tov g hg).2⟩,h.len,fun k v l hv hl=>?_,h.apart⟩;obtain⟨a,b⟩:=h.each k v l hv hl;exact⟨m.owns a (fun g hg=>q g (b g hg).2),fun g hg=>⟨(b g hg).1,c g (zE a g hg) (b g hg).2⟩⟩
variable{l:List UInt8}
theorem zc4.push{f:Value}{bs:List (List UInt8)}(h:zc4 tag W0 W ov vs bs)(m:Mod (fun g=>ov.ownBlock=some g) W W')(hw:W0.heap.size≤W.heap.size)(ho:W'.ownsRow 0 60 1 f (vs.length+1) (vs++[v]))(hn:zaH W ov f)(hv:OB W v l)
  (hb:∀g,v.ownBlock=some g→W0.heap.size≤g∧tag' g=(0,0)) (n:∀g,v.ownBlock=some g→ov.ownBlock≠some g) (o:∀(k:Nat) (u:Value),vs[k]?=some u→∀g,u.ownBlock=some g→v.ownBlock≠some g) (s:∀g,g<W.heap.size→tag g=(0,0)→tag' g=(0,0)) (p:∀g,W.heap.size≤g→tag' g=(0,0)) (q:∀(k:Nat) (u:Value),vs[k]?=some u→∀g,u.ownBlock=some g→ov.ownBlock≠some g):zc4 tag' W0 W' f (vs++[v]) (bs++[l]):=by
 refine⟨by rw[List.length_append,List.length_singleton];exact ho,fun g hg=>?_,by simp[h.len],fun k u l' d hl=>?_,fun j k u u' r d c=>?_⟩
 ·rcases hn g hg with x|x
  ·exact⟨(h.tov g x).1,s g (zE h.own g x) (h.tov g x).2⟩
  ·exact⟨by omega,p g x⟩
 ·by_cases hk:k<vs.length
  ·rw[List.getElem?_append_left hk]at d;rw[List.getElem?_append_left (by rw[←h.len];exact hk)]at hl;obtain⟨a,b⟩:=h.each k u l' d hl;exact⟨m.owns a (fun g hg x=>q k u d g hg x),fun g hg=>⟨(b g hg).1,s g (zE a g hg) (b g hg).2⟩⟩
  ·have e:=(List.getElem?_eq_some_iff.1 d).1;rw[List.length_append,List.length_singleton]at e;have i:k=vs.length:=by omega
   subst i;rw[List.getElem?_append_right (Nat.le_refl _)]at d;rw[h.len,List.getElem?_append_right (Nat.le_refl _)]at hl;simp at d hl;subst d;subst hl;exact⟨m.owns hv (fun g hg x=>n g hg x),hb⟩
 ·have e:=(List.getElem?_eq_some_iff.1 c).1;rw[List.length_append,List.length_singleton]at e;rw[List.getElem?_append_left (by omega)]at d;by_cases hk:k<vs.length
  ·rw[List.getElem?_append_left hk]at c;exact h.apart j k u u' r d c
  ·have i:k=vs.length:=by omega
   subst i;rw[List.getElem?_append_right (Nat.le_refl _)]at c;simp at c;subst c;exact o j u d
def CS.pkDraft(c:CS):Drf:=⟨zN c.next,[],c.mtu,false,false⟩
def zs(d:Drf)(l:zA):Drf×zA:=if l=[]then(d,l)else zeu d l
def CS.pkFill(c:CS)(d:Drf):CS×Drf:=if c.flight.length<12 then c.fill d else(c,d)
def CS.pkDone(c:CS)(d:Drf):CS:={ c with flight:=if d.wants then c.flight++[⟨c.next,c.now,d.fs⟩]else c.flight,next:=c.next+1 }
def zcq(l:List UInt8):List UInt8:=l++zdt (crc l)
def CS.pkts:Nat→CS→zA→List (List UInt8)×CS
 | 0,c,_=>([],c)
 | n+1,c,l =>
  if (c.pkFill (zs c.pkDraft l).1).2.fs=[]then([],(c.pkFill (zs c.pkDraft l).1).1)
  else(zcq (c.pkFill (zs c.pkDraft l).1).2.b::(CS.pkts n ((c.pkFill (zs c.pkDraft l).1).1.pkDone (c.pkFill (zs c.pkDraft l).1).2) (zs c.pkDraft l).2).1,
   (CS.pkts n ((c.pkFill (zs c.pkDraft l).1).1.pkDone (c.pkFill (zs c.pkDraft l).1).2) (zs c.pkDraft l).2).2)
def CS.packets(c:CS):List (List UInt8)×CS:=CS.pkts (12-c.flight.length+c.acks.1.length+1) c.acks.2 c.acks.1
theorem zi2(hq:q<10):∀n (c:CS) (d:Drf),c.Ok→d.Ok→(CS.reps q n c d).1.Ok∧(CS.reps q n c d).2.Ok∧(CS.reps q n c d).2.room=d.room∧((CS.reps q n c d).2.wants=true∨(CS.reps q n c d).2.fs=d.fs)∧(d.wants=true→(CS.reps q n c d).2.wants=true)∧(d.fs≠[]→(CS.reps q n c d).2.fs≠[]) ∧
  ((CS.reps q n c d).1.next=c.next∧(CS.reps q n c d).1.now=c.now∧(CS.reps q n c d).1.closed=c.closed∧(CS.reps q n c d).1.flight=c.flight∧(CS.reps q n c d).1.mtu=c.mtu∧(CS.reps q n c d).1.answer=c.answer∧(CS.reps q n c d).1.got=c.got):=by
 intro n
 induction n with
 | zero=>intro c d hc hd;exact⟨hc,hd,rfl,.inr rfl,id,id,⟨rfl,rfl,rfl,rfl,rfl,rfl,rfl⟩⟩
 | succ n ih =>
  intro c d hc hd;have pk:=zhu (d:=d) hc hq;have a:=pk.drf hd;unfold CS.reps;split
  ·rename_i hr;obtain⟨f,_,hk,ha⟩:=pk.yes hr;obtain⟨_,e2,e3,_,e5,_⟩:=Drf.add_some ha;have i:(c.put d q).2.2.wants=true:=by
    rw[e5];simp[hk]
   obtain⟨i1,i2,i3,i4,j,i6,i7⟩:=ih _ _ pk.ok a.1;obtain⟨x1,x2,x3,x4,x5,x6,x7⟩:=pk.next;obtain⟨y1,y2,y3,y4,y5,y6,y7⟩:=i7;exact⟨i1,i2,i3.trans a.2.1,.inl (j i),fun _=>j i,fun _=>i6 (by rw[e2];simp),y1.trans x1,y2.trans x2,y3.trans x3,y4.trans x4,y5.trans x5,y6.trans x6,y7.trans x7⟩
  ·rename_i hr;have b:(c.put d q).1=false:=by simpa using hr
   obtain⟨hc',g⟩:=pk.no b;have e:(c.put d q).2.2.fs=d.fs∧(c.put d q).2.2.wants=d.wants:=by
    rcases g with e|e
    ·rw[e];exact⟨rfl,rfl⟩
    ·rw[e];exact⟨rfl,rfl⟩
   exact⟨pk.ok,a.1,a.2.1,.inr e.1,fun h=>by rw[e.2];exact h,fun h=>by rw[e.1];exact h,pk.next⟩
theorem zgJ:∀n (c:CS) (d:Drf),n≤10→c.Ok→d.Ok→(CS.fillN n c d).1.Ok∧(CS.fillN n c d).2.Ok∧(CS.fillN n c d).2.room=d.room∧((CS.fillN n c d).2.wants=true∨(CS.fillN n c d).2.fs=d.fs)∧(d.wants=true→(CS.fillN n c d).2.wants=true)∧(d.fs≠[]→(CS.fillN n c d).2.fs≠[]) ∧
  ((CS.fillN n c d).1.next=c.next∧(CS.fillN n c d).1.now=c.now∧(CS.fillN n c d).1.closed=c.closed∧(CS.fillN n c d).1.flight=c.flight∧(CS.fillN n c d).1.mtu=c.mtu∧(CS.fillN n c d).1.answer=c.answer∧(CS.fillN n c d).1.got=c.got):=by
 intro n
 induction n with
 | zero=>intro c d _ hc hd;exact⟨hc,hd,rfl,.inr rfl,id,id,⟨rfl,rfl,rfl,rfl,rfl,rfl,rfl⟩⟩
 | succ n ih =>
  intro c d hn hc hd;obtain⟨h1,h2,h3,h4,h5,h6,x1,x2,x3,x4,x5,x6,x7⟩:=zi2 (q:=9-n) (by omega) (d.room+1) c d hc hd;obtain⟨i1,i2,i3,a,b,i6,y1,y2,y3,y4,y5,y6,y7⟩:=ih _ _ (by omega) h1 h2;unfold CS.fillN;refine⟨i1,i2,i3.trans h3,?_,fun h=>b (h5 h),fun h=>i6 (h6 h),y1.trans x1,y2.trans x2,y3.trans x3,y4.trans x4,y5.trans x5,y6.trans x6,y7.trans x7⟩;rcases h4 with h4|h4
  ·exact .inl (b h4)
  ·rcases a with a|a
   ·exact .inl a
   ·exact .inr (a.trans h4)
structure zgZ(tag:Nat→Nat×Nat)(i b:Nat)(W0:World)(c:CS)(told:zA)(outs:List (List UInt8))(tag':Nat→Nat×Nat)(V:CV)(vs:List Value)(ov tv:Value)(W:World):Prop where
 c:zg tag' i b c V W
 e:Ext i tag tag' W0 W
 m:Mod (zai i tag) W0 W
 o:zc4 tag' W0 W ov vs outs
 t:RRT tag' (i,5) W tv told
 p:0<i
structure zb5(tag:Nat→Nat×Nat)(i b db:Nat)(W0:World)(c:CS)(d:Drf)(told:zA)(outs:List (List UInt8))(tag':Nat→Nat×Nat)(V:CV)(bv fv:Value)(l:List (Frm×Value))(vs:List Value)(ov tv:Value)(W:World):Prop where
 s:zJ tag i b db W0 c d tag' V bv fv l W
 o:zc4 tag' W0 W ov vs outs
 t:RRT tag' (i,5) W tv told
theorem zJ.comp{a tag2:Nat→Nat×Nat}{V1 l:CV}{j k f g:Value}{l1 n:List (Frm×Value)}(h:zJ tag i b db W c d a V1 j k l1 W1)(h2:zJ a i b db W1 c' d' tag2 l f g n W2):zJ tag i b db W c' d' tag2 l f g n W2:=⟨h2.c,h2.d,h.e.trans h2.e h.m.size,zap h.e h.m h2.m,h.p⟩
theorem zc4.own_{bs:List (List UInt8)}(h:zc4 tag W0 W ov vs bs)(hi:0<i)(e:Ext i tag tag' W W')(m:Mod (zai i tag) W W'):zc4 tag' W0 W' ov vs bs :=
 h.mod m.ofC (fun g hg x=>by rw[x]at hg;have hg:(0:Nat)=i:=hg;omega) (fun g hg x=>by rw[e.old g hg,x])
variable{outs:List (List UInt8)}{told:zA}{tv:Value}
theorem zb5.mod0{l:List (Frm×Value)}(h:zb5 tag i b db W0 c d told outs tag' V bv fv l vs ov tv W)(m:Mod NoB W W'):zb5 tag i b db W0 c d told outs tag' V bv fv l vs ov tv W' :=
 ⟨h.s.mod0 m,h.o.mod m (fun _ x=>x.elim) (fun _ _ x=>x),h.t.mod m (fun _ x=>x.elim) (fun _ x=>x)⟩
theorem zb5.tell{a:zA}{l:List (Frm×Value)}{e:Ending}(h:zb5 tag i b db W0 c d told outs tag' V bv fv l vs ov tv W)(hp:zeD tag' i b db W c d' a e W'):∃v tag2 V2 bv2 fv2 l2,e = .returned v∧zb5 tag i b db W0 c d' a outs tag2 V2 bv2 fv2 l2 vs ov v W':=by
 obtain⟨v,tag2,V2,bv2,fv2,l2,rfl,ht,f⟩:=hp;exact⟨v,tag2,V2,bv2,fv2,l2,rfl,h.s.comp f,h.o.own_ h.s.p f.e f.m,ht⟩
theorem zb5.fill{l:List (Frm×Value)}{e:Ending}(h:zb5 tag i b db W0 c d told outs tag' V bv fv l vs ov tv W)(hp:zj7 tag' i b db W c' d' e W'):e = .returned (.tuple #[])∧∃tag2 V2 bv2 fv2 l2,zb5 tag i b db W0 c' d' told outs tag2 V2 bv2 fv2 l2 vs ov tv W':=by
 obtain⟨rfl,tag2,V2,bv2,fv2,l2,a⟩:=hp;exact⟨rfl,tag2,V2,bv2,fv2,l2,h.s.comp a,h.o.own_ h.s.p a.e a.m,h.t.mod a.m (fun g hg x=>hg.2 (by rw[x])) (fun g hg=>by rw[a.e.old g (zaD h.s.ok hg h.s.p),hg])⟩
theorem zgZ.draft(h:zgZ tag i b W0 c told outs tag' V vs ov tv W)(m1:Mod NoB W W1)(l:App W1 (.slice none 0 0) [] (zN c.next) bv W2):∃tag1,zb5 tag i b W2.heap.size W0 c c.pkDraft told outs tag1 V bv (.slice none 0 0) [] vs ov tv (W2.alloc (.cells #[bv,.slice none 0 0,.int .i64 (c.mtu:Int),.bool false,.bool false] 180)):=by
 have hk:=h.e.out;have s:=h.p;have u:Mod NoB W W2:=m1.trans ((Mod.refl NoB W1).grown l.grown (fun g hg=>by simp[Value.ownBlock]at hg));obtain⟨o,v⟩:=nm (Obj.cells #[bv,.slice none 0 0,.int .i64 (c.mtu:Int),.bool false,.bool false] 180);rw[v];have n:Mod NoB W (W2.alloc o):=u.alloc _;have hs1:=m1.size;have hs2:=u.size;have q:(W2.alloc o).heap.size=W2.heap.size+1:=by simp
 have j:∀g,bv.ownBlock=some g→W.heap.size≤g∧g<W2.heap.size:=fun g hg=>by
  refine⟨?_,zE l.own g hg⟩;rcases l.at_ g hg with x|x
  ·simp[Value.ownBlock]at x
  ·omega
 obtain⟨tag1,a⟩:∃tag1:Nat→Nat×Nat,(fun g=>if g=W2.heap.size then(i,90)else if bv.ownBlock=some g then(i,91)else tag' g)=tag1:=⟨_,rfl⟩;have d:∀g,g<W.heap.size→tag1 g=tag' g:=fun g hg=>by
  rw[←a];simp only;rw[if_neg (by omega),if_neg (fun x=>by have:=(j g x).1;omega)]
 have f:∀g,(tag' g).1=i→tag1 g=tag' g:=fun g hg=>d g (zaD hk (i:=i) (r:=(tag' g).2) (by rw[←hg]) s)
 have k:Ext i tag' tag1 W (W2.alloc o):=by
  refine⟨d,fun g hg=>?_,fun g hg=>?_⟩
  ·rw[←a];simp only;split
   ·exact .inl rfl
   ·split
    ·exact .inl rfl
    ·exact .inr (hk g hg)
  ·rw[q]at hg;rw[←a];simp only;rw[if_neg (by omega),if_neg (fun x=>by have:=(j g x).2;omega)];exact hk g (by omega)
 refine⟨tag1,⟨h.c.mod n (fun _ x=>x.elim) f,⟨?_,?_,World.ownsRow.alloc l.own _,fun g hg=>?_,World.ownsRow_nil _ 0 _ 10,rfl,fun x hx=>absurd hx List.not_mem_nil,fun g hg=>by simp[Value.ownBlock]at hg⟩,h.e.trans k h.m.size,h.m.trans (n.mono (fun _ x=>x.elim)),s⟩,h.o.mod n (fun _ x=>x.elim) (fun g hg x=>by rw[d g hg,x]),h.t.mod n (fun _ x=>x.elim) (fun g hg=>by rw[f g (by rw[hg]),hg])⟩
 ·rw[heap_alloc_new W2 o,←v];rfl
 ·rw[←a];simp
 ·rw[←a];simp only;rw[if_neg (by have:=(j g hg).2;omega),if_pos hg]
theorem frs_of{fs:List (Frm×Value)}(h:w.ownsRow 0 65 10 v fs.length (za0 fs))(hr:∀x∈fs,RR w x.2 x.1.rngs):zet w v fs:=by
 obtain⟨a,cap,rfl,h1,h2,h3⟩:=zi h;refine⟨a,cap,rfl,h1,h2,fun i fr hi=>⟨?_,hr fr (List.mem_of_getElem? hi)⟩⟩;have hlt:i<fs.length:=(List.getElem?_eq_some_iff.1 hi).1;obtain⟨g,rfl⟩:=h3 (by omega);refine⟨g,0,rfl,fun j x hx=>?_⟩;have:=h.cells (g:=g) rfl _ _ (zhh fs i fr hi j x hx);rw[zU]at this;rw[Nat.zero_add]at this
 rwa [Nat.zero_add]
theorem zhv{c d s1 s2 n1 n2:Nat}{e f:Value}{x1 x2:List Value}(h1:w.ownsRow 0 c s1 e n1 x1)(h2:w.ownsRow 0 d s2 f n2 x2)(he:c≠d)(hg:e.ownBlock=some g):f.ownBlock≠some g:=fun a=>by
 rcases h1.2 with⟨rfl,_⟩|⟨g1,c1,u1,rfl,_,a1,_⟩
 ·simp[Value.ownBlock]at hg
 ·rcases h2.2 with⟨rfl,_⟩|⟨g2,c2,u2,rfl,_,b,_⟩
  ·simp[Value.ownBlock]at a
  ·simp[Value.ownBlock]at hg a;subst hg;subst a;rw[a1]at b;simp at b;exact he b.2
structure zj8(tag:Nat→Nat×Nat)(i b db:Nat)(W0:World)(c:CS)(d:Drf)(told:zA)(outs:List (List UInt8))(tag':Nat→Nat×Nat)(V:CV)(bv fv:Value)(vs:List Value)(ov tv:Value)(W:World):Prop where
 h:zgZ tag i b W0 c told outs tag' V vs ov tv W
 obj:W.heap[db]?=some (.cells #[bv,fv,.int .i64 (d.room:Int),.bool d.wants,.bool d.full] 180 (0,0))
 fr:zjV tag' (i,5) W fv d.fs
 fv:∃a cap,fv = .slice a d.fs.length cap
 db:tag' db=(i,90)
theorem zb5.sealed{l:List (Frm×Value)}{w:Value}{D:World}(h:zb5 tag i b db W0 c d told outs tag' V bv fv l vs ov tv W)(nd:∀g r,90≤r→tag g≠(i,r))
  (L:App W bv d.b new v' W1) (ho:D.ownsRow 0 60 1 w (vs.length+1) (vs++[v'])) (hg:W1.grownBy D ov.ownBlock) (hn:zaH W1 ov w) :
  ∃tag3,zj8 tag i b db W0 c d told (outs++[d.b++new]) tag3 V bv fv (vs++[v']) w tv D:=by
 have hk:=h.s.ok;have P:=h.s.p;have f:=h.s.d;have m1:Mod (fun g=>bv.ownBlock=some g) W W1:=(Mod.refl (fun g=>bv.ownBlock=some g) W).grown L.grown (fun g hg=>.inl hg);have G:Mod (fun g=>ov.ownBlock=some g) W1 D:=(Mod.refl (fun g=>ov.ownBlock=some g) W1).grown hg (fun g hg=>.inl hg);have E:Mod (fun g=>bv.ownBlock=some g∨ov.ownBlock=some g) W D:=(m1.mono (fun g x=>.inl (.inl x))).trans (G.mono (fun g x=>.inl (.inr x)));have hs0:=h.s.m.size;have hs1:=m1.size;have hs2:=G.size;have z:∀r,((0:Nat),(0:Nat))≠(i,r):=fun r x=>by simp at x;omega
 obtain⟨tag3,A⟩:∃tag3:Nat→Nat×Nat,(fun g=>if tag' g=(i,91)then(0,0)else if tag' g=(i,92)then(i,5)else tag' g)=tag3:=⟨_,rfl⟩;have Q:∀g,tag' g=(i,91)→tag3 g=(0,0):=fun g hg=>by rw[←A];simp only;rw[if_pos hg]
 have k2:∀g,tag' g=(i,92)→tag3 g=(i,5):=fun g hg=>by rw[←A];simp only;rw[if_neg (by rw[hg];simp),if_pos hg]
 have k3:∀g,tag' g≠(i,91)→tag' g≠(i,92)→tag3 g=tag' g:=fun g h1 h2=>by rw[←A];simp only;rw[if_neg h1,if_neg h2]
 have k4:∀g r,r≠91→r≠92→tag' g=(i,r)→tag3 g=(i,r):=fun g r h1 h2 hg=>by rw[k3 g (by rw[hg];simpa using h1) (by rw[hg];simpa using h2),hg]
 have H:∀g,tag' g=(0,0)→tag3 g=(0,0):=fun g hg=>by rw[k3 g (by rw[hg];exact z _) (by rw[hg];exact z _),hg]
 have j:∀g r,90≤r→tag' g=(i,r)→W0.heap.size≤g:=fun g r I hg=>by
  by_cases q:g<W0.heap.size
  ·rw[h.s.e.old g q]at hg;exact absurd hg (nd g r I)
  ·omega
 have F:∀g,v'.ownBlock=some g→(bv.ownBlock=some g∧tag' g=(i,91))∨W.heap.size≤g:=fun g hg=>by
  rcases L.at_ g hg with x|x
  ·exact .inl ⟨x,f.tbv g x⟩
  ·exact .inr x
 have n:∀g,ov.ownBlock=some g→g<W.heap.size∧tag' g=(0,0):=fun g hg=>⟨zE h.o.own g hg,(h.o.tov g hg).2⟩
 have B:∀(k:Nat) (u:Value),vs[k]?=some u→(∃lb,OB W u lb)∧∀g,u.ownBlock=some g→g<W.heap.size∧tag' g=(0,0):=fun k u C=>by
  have M:k<outs.length:=by rw[←h.o.len];exact(List.getElem?_eq_some_iff.1 C).1
  obtain⟨a,b⟩:=h.o.each k u outs[k] C (List.getElem?_eq_getElem M);exact⟨⟨_,a⟩,fun g hg=>⟨zE a g hg,(b g hg).2⟩⟩
 have v:∀g,tag' g=(0,0)→g<W.heap.size→v'.ownBlock≠some g:=fun g h1 h2 x=>by
  rcases F g x with y|y
  ·rw[y.2]at h1;exact z _ h1.symm
  ·omega
 have N:zg tag' i b c V W1:=h.s.c.modR hk P (m1.mono (fun g hg=>.inl ⟨91,by decide,f.tbv g hg⟩)) (fun _ _=>rfl);have O:zg tag' i b c V D:=N.mod G (fun g hg=>by rw[(n g hg).2];simp;omega) (fun _ _=>rfl);have J:∀{g r:Nat},tag' g=(i,r)→r≠91→¬(bv.ownBlock=some g∨ov.ownBlock=some g):=fun hg I x=>by
  rcases x with x|x
  ·have:=f.tbv _ x;rw[hg]at this;simp at this;exact I this
  ·have:=(n _ x).2;rw[hg]at this;exact z _ this.symm
 refine⟨tag3,⟨⟨O.retag (fun g r I hg=>k4 g r (by omega) (by omega) hg),⟨fun g hg=>?_,fun g hg=>?_,fun g hg=>H g (hk g (by omega))⟩,h.s.m.then E (fun g hg=>.inr ?_),?_,?_,P⟩,E.obj (J f.tb (by decide)) f.obj,?_,?_,k4 _ 90 (by decide) (by decide) f.tb⟩⟩
 ·rw[k3 g (fun x=>by have:=j g 91 (by decide) x;omega) (fun x=>by have:=j g 92 (by decide) x;omega),h.s.e.old g hg]
 ·by_cases R:tag' g=(i,91)
  ·exact .inr (Q g R)
  ·by_cases S:tag' g=(i,92)
   ·exact .inl (by rw[k2 g S])
   ·rw[k3 g R S];exact h.s.e.new g hg
 ·rcases hg with x|x
  ·exact j g 91 (by decide) (f.tbv g x)
  ·exact(h.o.tov g x).1
 ·have o1:zc4 tag' W0 W1 ov vs outs:=h.o.mod m1 (fun g hg x=>by rw[f.tbv g hg]at x;exact z _ x.symm) (fun _ _ x=>x);refine o1.push G (by omega) ho hn L.own (fun g hg=>?_) (fun g hg x=>?_) (fun k u C g hg=>v g ((B k u C).2 g hg).2 ((B k u C).2 g hg).1) (fun g _ hg=>H g hg) (fun g hg=>H g (hk g (by omega))) (fun k u C g hg=>?_)
  ·rcases F g hg with y|y
   ·exact⟨j g 91 (by decide) y.2,Q g y.2⟩
   ·exact⟨by omega,H g (hk g y)⟩
  ·exact v g (n g x).2 (n g x).1 hg
  ·obtain⟨⟨lb,hb⟩,_⟩:=B k u C;exact zhv hb h.o.own (by decide) hg
 ·exact h.t.mod E (fun g hg x=>J x (by decide) hg) (fun g hg=>k4 g 5 (by decide) (by decide) hg)
 ·refine⟨l,f.lf,frs_of (E.owns f.own (fun g hg=>J (f.tfv g hg) (by decide))) (fun x K=>(f.rr x K).1.mod E (zaY fun g hg=>J ((f.rr x K).2 g hg) (by decide))),fun g hg=>k2 g (f.tfv g (zmQ f.own hg)),fun x K g hg=>k4 g 5 (by decide) (by decide) ((f.rr x K).2 g hg)⟩
 ·obtain⟨a,cap,e,_⟩:=zi f.own;have hl:l.length=d.fs.length:=by rw[←f.lf,List.length_map]
  exact⟨a,cap,by rw[e,hl]⟩
theorem zj8.fly(h:zj8 tag i b db W0 c d told outs tag' V bv fv vs ov tv W)(A:Mod NoB W W1)
  (F:W2.ownsRow 0 173 3 v' (c.flight.length+1) (zw (c.flight.zip V.fts++[(⟨c.next,c.now,d.fs⟩,fv)]))) (hg:W1.grownBy W2 V.ft.ownBlock) (G:zaH W1 V.ft v') :
  ∃tag4,zgZ tag i b W0 { c with flight:=c.flight++[⟨c.next,c.now,d.fs⟩] } told outs tag4 { V with ft:=v',fts:=V.fts++[fv] } vs ov tv (W2.setCell ⟨b,236,none⟩ v'):=by
 have j:=h.h;have hk:=j.e.out;have H:=j.p;have a:=j.c;have B:Mod (fun g=>V.ft.ownBlock=some g) W1 W2:=(Mod.refl (fun g=>V.ft.ownBlock=some g) W1).grown hg (fun g hg=>.inl hg);have s:Mod (fun g=>g=b∨V.ft.ownBlock=some g) W (W2.setCell ⟨b,236,none⟩ v'):=((A.mono (fun _ x=>x.elim)).trans (B.mono (fun g x=>.inl (.inr x)))).setCell (p:=⟨b,236,none⟩) (.inl (.inl rfl)) _;have hs0:=A.size;have hs2:=B.size;have C:(W2.setCell ⟨b,236,none⟩ v').heap.size=W2.heap.size:=by simp
 have u:∀g,(g=b∨V.ft.ownBlock=some g)→∃r,(r=1∨r=4)∧tag' g=(i,r):=fun g hg=>by
  rcases hg with hg|hg
  ·exact⟨1,.inl rfl,by rw[hg,a.tb]⟩
  ·exact⟨4,.inr rfl,a.tft g hg⟩
 have f:∀{g r:Nat},tag' g=(i,r)→g<W.heap.size:=fun hg=>zaD hk hg H
 have v:∀g,(tag' g).1=i→Go.Proofs.YtddfdpbaiedcjaaGreatDoor.retag tag' W W2 (i,4) g=tag' g:=fun g hg=>zy (f (r:=(tag' g).2) (by rw[←hg]))
 have D:W2.heap[b]?=some (.cells (zr c V).toArray 127 (0,0)):=B.obj (fun x=>by
  have:=a.tft b x;rw[a.tb]at this;simp at this) (A.obj (fun x=>x) a.obj)
 have E:∀g,v'.ownBlock=some g→g≠b:=fun g hg x=>by
  subst x;rcases G g hg with y|y
  ·have:=a.tft g y;rw[a.tb]at this;simp at this
  ·have:=f a.tb;omega
 have z:∀g,tag' g=(0,0)→¬(g=b∨V.ft.ownBlock=some g):=fun g hg x=>by
  obtain⟨r,_,e⟩:=u g x;rw[hg]at e;simp at e;omega
 have w:Ext i tag' (Go.Proofs.YtddfdpbaiedcjaaGreatDoor.retag tag' W W2 (i,4)) W (W2.setCell ⟨b,236,none⟩ v'):=by
  refine⟨fun g hg=>zy hg,fun g hg=>?_,fun g hg=>?_⟩
  ·by_cases q:g<W2.heap.size
   ·exact .inl (by rw[zav hg q])
   ·exact .inr (by simp only[Go.Proofs.YtddfdpbaiedcjaaGreatDoor.retag,show ¬g<W.heap.size by omega,q,if_neg,not_false_eq_true])
  ·rw[C]at hg;simp only[Go.Proofs.YtddfdpbaiedcjaaGreatDoor.retag,show ¬g<W.heap.size by omega,show ¬g<W2.heap.size by omega,if_neg,not_false_eq_true]
 have n:(c.flight++[(⟨c.next,c.now,d.fs⟩:Fly)]).zip (V.fts++[fv])=c.flight.zip V.fts++[(⟨c.next,c.now,d.fs⟩,fv)]:=by
  rw[List.zip_append a.fl.symm];rfl
 refine⟨_,?_,j.e.trans w j.m.size,zap j.e j.m (s.mono (fun g hg=>.inl ?_)),j.o.mod s (fun g hg x=>z g x hg) (fun g hg x=>by rw[zy hg,x]),j.t.mod s (fun g hg x=>?_) (fun g hg=>by rw[zy (f hg),hg]),H⟩
 ·refine a.build (R:=fun r=>r=1∨r=4) s u v ?_ (.inl ⟨rfl,rfl,rfl,by omega,by omega⟩) (fun k hk=>.inl ⟨rfl,rfl,by omega⟩) (fun k hk=>.inl ⟨rfl,rfl,by omega⟩) (fun k hk=>.inl ⟨rfl,rfl,by omega⟩) (fun k hk=>.inl ⟨rfl,rfl,by omega⟩) (fun k hk=>.inl ⟨rfl,rfl,by omega⟩) (.inr ⟨?_,?_,?_,?_⟩) (.inl ⟨rfl,rfl,by omega⟩) (.inl ⟨rfl,rfl,by omega⟩) (.inl ⟨rfl,rfl,by omega⟩)
  ·rw[zc D,List.setIfInBounds_toArray];rw[show(236:Nat)=233+3 from rfl,zaj c { c with flight:=c.flight++[⟨c.next,c.now,d.fs⟩] } V { V with ft:=v',fts:=V.fts++[fv] } _ rfl rfl rfl rfl]
  ·rw[n];have:=((Mod.refl (fun g=>g=b) W2).setCell (p:=⟨b,236,none⟩) (.inl rfl) v').owns F (fun g hg x=>E g hg x);rw[List.length_append,List.length_singleton];exact this
  ·rw[List.length_append,List.length_append,a.fl];rfl
  ·intro p l;have l:p∈(c.flight++[(⟨c.next,c.now,d.fs⟩:Fly)]).zip (V.fts++[fv]):=l;rw[n]at l;have I:∀g,(g=b∨V.ft.ownBlock=some g)→tag' g≠(i,5):=fun g hg x=>by
    obtain⟨r,J,e⟩:=u g hg;rw[x]at e;simp at e;omega
   rcases List.mem_append.1 l with q|q
   ·exact(a.fs p q).mod s I (fun g hg=>by rw[zy (f hg),hg])
   ·simp at q;subst q;exact h.fr.mod s I (fun g hg=>by rw[zy (f hg),hg])
  ·intro g hg;rcases G g hg with y|y
   ·rw[zy (f (a.tft g y)),a.tft g y]
   ·exact zav (by omega) (zE F g hg)
 ·obtain⟨r,J,e⟩:=u g hg;exact zbk e (by omega)
 ·obtain⟨r,J,e⟩:=u g hg;rw[x]at e;simp at e;omega
theorem zgZ.next(h:zgZ tag i b W0 c told outs tag' V vs ov tv W):zgZ tag i b W0 { c with next:=c.next+1 } told outs tag' V vs ov tv (W.setCell ⟨b,6,none⟩ (.int .u64 ((c.next+1:Nat):Int))):=by
 have m:Mod (fun g=>g=b) W (W.setCell ⟨b,6,none⟩ (.int .u64 ((c.next+1:Nat):Int))):=(Mod.refl (fun g=>g=b) W).setCell (p:=⟨b,6,none⟩) (.inl rfl) _;have tb:=h.c.tb;have hp:=h.p;exact⟨h.c.store 6 _ (za7 c { c with next:=c.next+1 } V V (j:=6) _ (by decide) rfl rfl rfl rfl) ⟨rfl,fun _ _=>⟨rfl,rfl,rfl⟩,fun _ _=>⟨rfl,rfl⟩,rfl,rfl,rfl,rfl⟩,⟨h.e.old,h.e.new,h.e.out.mod m⟩,
  zap h.e h.m (m.mono (fun q hq=>.inl (zbk (r:=1) (by rw[show q=b from hq];exact tb) (by decide)))),h.o.mod m (fun g hg x=>by rw[show g=b from hg,tb]at x;simp at x) (fun _ _ x=>x),h.t.mod m (fun g hg x=>by rw[show g=b from hg,tb]at x;simp at x) (fun _ x=>x),hp⟩
def zmU(l:zA):Prop:=∀i,i<l.length→zob l i=true
theorem zmU.tell{l:zA}(h:zmU l):zqj l:=by
 intro n h1 h2;have hl:(l.take n).length=n:=by rw[List.length_take];omega
 have hs:zaw (l.take n)=true:=by
  unfold zaw zoc;rw[hl];simp only[Bool.and_eq_true,List.all_eq_true,List.mem_range,decide_eq_true_eq];refine⟨fun i hi=>?_,by omega⟩;have:=h i (by omega);unfold zob at this ⊢;rw[(zeQ l n i hi).1,(zeQ l n i hi).2];by_cases h0:i=0
  ·subst h0;simpa using this
  ·rw[(zeQ l n (i-1) (by omega)).1];exact this
 have:zS (ackF (l.take n))=(zaC (ackF (l.take n))&&zbB (ackF (l.take n))&&zaw (l.take n)):=rfl;rw[this,hs];rfl
theorem zmU.drop{l:zA}(h:zmU l)(n:Nat):zmU (l.drop n):=by
 intro i hi;rw[List.length_drop]at hi;have:=h (n+i) (by omega);unfold zob at this ⊢;rw[(zbQ l n i).1,(zbQ l n i).2];by_cases h0:i=0
 ·subst h0;simp only[Bool.and_eq_true]at this;have h1:=of_decide_eq_true this.1.1;have h2:=of_decide_eq_true this.1.2;rw[Nat.add_zero]at h1 h2;simp[h1,h2]
 ·rw[(zbQ l n (i-1)).1,show n+(i-1)=n+i-1 by omega];have hz:¬n+i=0:=by omega
  simpa [hz,h0]using this
theorem zaI.Ok.desc(h:s.Ok):zmU s.rs.reverse:=by
 have a:∀i,i<s.rs.length→loAt s.rs.reverse i=loAt s.rs (s.rs.length-1-i)∧hiAt s.rs.reverse i=hiAt s.rs (s.rs.length-1-i):=fun i hi=>by
  simp[loAt,hiAt,List.getD_eq_getElem?_getD,List.getElem?_reverse hi]
 intro i hi;rw[List.length_reverse]at hi;have h1:=h.wf.1 (s.rs.length-1-i) (by omega);have h2:=h.hi (s.rs.length-1-i) (by omega);unfold zob;rw[(a i hi).1,(a i hi).2];unfold zD at h2;by_cases h0:i=0
 ·simp[h0]at h1 h2 ⊢;exact⟨h1.1,h2⟩
 ·rw[(a (i-1) (by omega)).1];have h3:=h.wf.2 (s.rs.length-1-i) (s.rs.length-1-(i-1)) (by omega) (by omega);simp only[Bool.and_eq_true,Bool.or_eq_true,decide_eq_true_eq];exact⟨⟨h1.1,h2⟩,.inr ⟨by omega,by omega⟩⟩
def zi3(c:CS)(l:zA):Nat:=(12-c.flight.length)+l.length
structure zmV(c:CS)(l:zA):Prop where
 ok:c.Ok
 mtu:64≤c.mtu
 desc:zmU l
 len:l.length≤1048576
 fl:c.flight.length≤12
 next:c.next+zi3 c l<zD
theorem zb2(h:c.Ok):c.pkDraft.Ok:=by
 have:=zu c.next;exact⟨by show(zN c.next).length≤_;omega,Nat.zero_le _,h.mtu⟩
theorem zgK(hd:d.Ok)(l:zA):(zs d l).1.Ok∧(zs d l).1.room=d.room∧(l=[]→(zs d l)=(d,l))∧(l≠[]→(zs d l).2.length<l.length)∧(zmU l→zmU (zs d l).2)∧(zs d l).2.length≤l.length∧(zs d l).1.wants=d.wants:=by
 unfold zs;by_cases hl:l=[]
 ·rw[if_pos hl];exact⟨hd,rfl,fun _=>rfl,fun h=>absurd hl h,id,Nat.le_refl _,rfl⟩
 ·rw[if_neg hl];have a:1≤l.length:=List.length_pos_iff.2 hl;have hn:=zeV d l l.length a;have c:(zeu d l).2.length<l.length:=by
   show(l.drop _).length<_;rw[List.length_drop];omega
  have e:(zeu d l).1.Ok∧(zeu d l).1.room=d.room∧(zeu d l).1.wants=d.wants:=by
   show((d.add _).getD d).Ok∧((d.add _).getD d).room=d.room∧((d.add _).getD d).wants=d.wants;cases h:d.add (ackF (l.take (zcB d l l.length)))with
   | none=>exact⟨hd,rfl,rfl⟩
   | some d' =>
    obtain⟨h1,h2,h3,_,h5,h4⟩:=Drf.add_some h;have hb:=zf1 (ackF (l.take (zcB d l l.length)));have hr:=hd.room;have hs:=hd.fs;have hl2:d'.b.length=d.b.length+(zC (ackF (l.take (zcB d l l.length)))).length:=by rw[h1,List.length_append]
    exact⟨⟨by show d'.b.length≤_;omega,by show d'.fs.length≤d'.b.length;rw[h2,List.length_append,List.length_singleton];omega,by show d'.room≤_;omega⟩,h3,h5.trans (by simp[ackF])⟩
  exact⟨e.1,e.2.1,fun h=>absurd h hl,fun _=>c,fun h=>h.drop _,Nat.le_of_lt c,e.2.2⟩
theorem zmV.round{l:zA}(h:zmV c l):(zs c.pkDraft l).1.Ok∧(c.pkFill (zs c.pkDraft l).1).1.Ok∧(c.pkFill (zs c.pkDraft l).1).2.Ok∧(c.pkFill (zs c.pkDraft l).1).1.next=c.next∧(c.pkFill (zs c.pkDraft l).1).1.now=c.now∧(c.pkFill (zs c.pkDraft l).1).1.flight=c.flight ∧
  ((c.pkFill (zs c.pkDraft l).1).2.fs≠[]→zmV ((c.pkFill (zs c.pkDraft l).1).1.pkDone (c.pkFill (zs c.pkDraft l).1).2) (zs c.pkDraft l).2∧zi3 ((c.pkFill (zs c.pkDraft l).1).1.pkDone (c.pkFill (zs c.pkDraft l).1).2) (zs c.pkDraft l).2<zi3 c l):=by
 obtain⟨t1,t2,j,t4,t5,t6,t7⟩:=zgK (zb2 h.ok) l;have hf:(c.pkFill (zs c.pkDraft l).1).1.Ok∧(c.pkFill (zs c.pkDraft l).1).2.Ok∧((c.pkFill (zs c.pkDraft l).1).1.next=c.next∧(c.pkFill (zs c.pkDraft l).1).1.now=c.now∧(c.pkFill (zs c.pkDraft l).1).1.flight=c.flight∧(c.pkFill (zs c.pkDraft l).1).1.mtu=c.mtu) ∧
   (l=[]→(c.pkFill (zs c.pkDraft l).1).2.fs≠[]→c.flight.length<12∧(c.pkFill (zs c.pkDraft l).1).2.wants=true)∧((c.pkFill (zs c.pkDraft l).1).2.wants=true→c.flight.length<12):=by
  unfold CS.pkFill;split
  ·rename_i hlt;obtain⟨i1,i2,i3,d,i5,i6,x1,x2,x3,x4,x5,x6,x7⟩:=zgJ 10 c (zs c.pkDraft l).1 (Nat.le_refl _) h.ok t1;refine⟨i1,i2,⟨x1,x2,x4,x5⟩,fun f a=>⟨hlt,?_⟩,fun _=>hlt⟩;rcases d with d|d
   ·exact d
   ·exact absurd (d.trans (by rw[j f];rfl)) a
  ·exact⟨h.ok,t1,⟨rfl,rfl,rfl,rfl⟩,fun f a=>absurd (by rw[j f];rfl) a,fun e=>by rw[show(c,(zs c.pkDraft l).1).2=(zs c.pkDraft l).1 from rfl,t7]at e;cases e⟩
 obtain⟨b,f2,⟨f3,f4,f5,f6⟩,f7,f8⟩:=hf;refine⟨t1,b,f2,f3,f4,f5,fun a=>?_⟩;have g:zi3 ((c.pkFill (zs c.pkDraft l).1).1.pkDone (c.pkFill (zs c.pkDraft l).1).2) (zs c.pkDraft l).2<zi3 c l:=by
  unfold zi3 CS.pkDone;simp only;by_cases hl:l=[]
  ·obtain⟨g1,g2⟩:=f7 hl a;rw[if_pos g2,f5,List.length_append,List.length_singleton];omega
  ·have:=t4 hl;split
   ·rw[f5,List.length_append,List.length_singleton];omega
   ·rw[f5];omega
 have hn:=h.next;have i:=h.fl;have hm:=h.mtu;refine⟨⟨⟨b.mtu,b.win,b.tot,b.grant,b.credit,b.ws,b.rs,b.waits⟩,by show 64≤(c.pkFill _).1.mtu;omega,t5 h.desc,by have:=h.len;omega,?_,?_⟩,g⟩
 ·unfold CS.pkDone;simp only;split
  ·rename_i e;rw[f5,List.length_append,List.length_singleton];have:=f8 e;omega
  ·rw[f5];exact i
 ·show(c.pkFill _).1.next+1+_<zD;omega
def WS.give(x:WS)(n:Nat):WS :=
 {x with final:=if x.cut then x.final else max x.high n,keep:=if !x.cut||decide (n<x.keep)then n else x.keep,telling:=if !x.cut||decide (n<x.keep)then false else x.telling,cut:=true }
def CS.reset(c:CS)(k keep:Int):Nat×CS :=
 if c.stream k≠0 then(c.stream k,c)else(0,{ c with ws:=upd c.ws k.toNat ((c.ws k.toNat).give (min keep.toNat (c.ws k.toNat).b.length)) })
def dgF(id dl:Nat)(s:List UInt8):Frm:=⟨7,0,0,0,0,false,id,dl,s,[]⟩
def CS.datagram(c:CS)(id dl:Nat)(s:List UInt8):Nat×CS :=
 if c.closed≠0 then(12,c)else
 if zD<id∨zD<dl∨(c.anyID=true∧id≤c.lastID)then(5,c)else
 if c.mtu<s.length+40 then(6,c)else
 if c.waits.length=16 then(3,c)else
 (0,{ c with anyID:=true,lastID:=id,waits:=if c.now≤dl then c.waits++[dgF id dl s]else c.waits })
def zbI:zA→Nat→Nat→zaI→zaI
 | [],_,_,t=>t
 | r::l,lo,hi,t =>
  zbI l lo hi (if hi≤r.2 then(if r.1<lo then t.add r.1 (min r.2 (lo-1))else t).add (max r.1 hi) r.2 else(if r.1<lo then t.add r.1 (min r.2 (lo-1))else t))
def zaI.without(s:zaI)(lo hi:Nat):zaI:=zbI s.rs lo hi ⟨[],0,s.most⟩
def zaI.adds(t:zaI)(l:zA):zaI:=l.foldl (fun t r=>t.add r.1 r.2) t
def WS.again(x:WS)(f:Frm):WS :=
 {x with sent:=(x.sent.without f.off (f.off+f.data.length)).adds x.came.rs.reverse,ending:=x.ending && !f.fin }
def CS.again(c:CS)(f:Frm):CS :=
 if f.kind=4 then{ c with ws:=upd c.ws f.stream.toNat ((c.ws f.stream.toNat).again f) }
 else if f.kind=3 then{ c with ws:=upd c.ws f.stream.toNat { c.ws f.stream.toNat with telling:=(c.ws f.stream.toNat).telling && !(f.rel==(c.ws f.stream.toNat).keep) } }
 else if f.kind=5 then{ c with anew:=c.anew||f.lim==c.grant }
 else if f.kind=6 then{ c with rs:=upd c.rs f.stream.toNat { c.rs f.stream.toNat with anew:=(c.rs f.stream.toNat).anew||f.lim==(c.rs f.stream.toNat).grant } }
 else c
def CS.agains(c:CS)(fs:List Frm):CS:=fs.foldl CS.again c
def CS.late(c:CS)(p:Fly):Bool:=decide (p.at_+6≤c.now)||decide (p.n+3≤c.largest)
def CS.lose(c:CS):CS:={ (c.flight.foldl (fun c p=>if c.late p then c.agains p.fs else c) c)with flight:=c.flight.filter (fun p => !c.late p) }
def CS.tick(c:CS):CS:=({ c with now:=c.now+1,waits:=c.waits.filter (fun f => !decide (f.dl<c.now+1)) }:CS).lose
def WS.acked(x:WS)(f:Frm):WS :=
 {x with came:=x.came.add f.off (f.off+f.data.length-1),sent:=x.sent.add f.off (f.off+f.data.length-1) }
def CS.ackF(c:CS)(f:Frm):CS:=if f.kind=4∧f.data≠[]then{ c with ws:=upd c.ws f.stream.toNat ((c.ws f.stream.toNat).acked f) }else c
def zce(l:zA)(p:Fly):Bool:=l.any fun r=>decide (r.1≤p.n)&&decide (p.n≤r.2)
def CS.ackP(c:CS)(l:zA)(p:Fly):CS:=if zce l p then p.fs.foldl CS.ackF c else c
def CS.acked(c:CS)(l:zA):Nat×CS :=
 if c.next≤hiAt l 0 then(11,c)
 else(0,({ (c.flight.foldl (fun c p=>c.ackP l p) { c with largest:=max c.largest (hiAt l 0) })with flight:=c.flight.filter (fun p => !zce l p) }:CS).lose)
def RS.resetAt(x:RS)(f:Frm):RS:={ x with keep:=if !x.cut||decide (f.rel<x.keep)then f.rel else x.keep,cut:=true,ended:=true,fin:=f.off }
def CS.resetAt(c:CS)(f:Frm):Nat×CS :=
 if ((c.rs f.stream.toNat).ended&&(c.rs f.stream.toNat).fin != f.off)||decide (f.off<(c.rs f.stream.toNat).high)then(10,c)
 else(0,{ c with rs:=upd c.rs f.stream.toNat ((c.rs f.stream.toNat).resetAt f) })
def zfG(b:List UInt8)(i:Nat)(s:List UInt8):List UInt8:=b.take i++(s++b.drop (i+s.length))
def zfx(off:Nat)(data:List UInt8)(e:Nat):Nat→Nat→List UInt8→zaI→List UInt8×zaI
 | 0,_,b,s=>(b,s)
 | n+1,lo,b,s =>
  if lo<e then
   if e≤(za1 s.rs lo e).1 then(b,s)
   else zfx off data e n (za1 s.rs lo e).2 (zfG b (za1 s.rs lo e).1 ((data.drop ((za1 s.rs lo e).1-off)).take ((za1 s.rs lo e).2-(za1 s.rs lo e).1))) (s.add (za1 s.rs lo e).1 ((za1 s.rs lo e).2-1))
  else(b,s)
def zhw(b:List UInt8)(n:Nat):List UInt8:=b++List.replicate (n-b.length) 0
def Frm.end_(f:Frm):Nat:=f.off+f.data.length
def RS.dataB(x:RS)(f:Frm):List UInt8×zaI:=zfx f.off f.data f.end_ (f.data.length+1) f.off (zhw x.b (max x.high f.end_)) x.came
def RS.data(x:RS)(f:Frm):RS :=
 {x with high:=max x.high f.end_,ended:=x.ended||f.fin,fin:=if f.fin then f.end_ else x.fin,b:=(x.dataB f).1,came:=(x.dataB f).2 }
def zcC(rs:Nat→RS):Nat→Nat
 | 0=>0
 | k+1=>zcC rs k+(rs k).high
def RS.badEnd(x:RS)(f:Frm):Bool:=(x.ended&&(decide (x.fin<f.end_)||(f.fin&&f.end_ != x.fin)))||(f.fin&&decide (f.end_<x.high))
def CS.data(c:CS)(f:Frm):Nat×CS :=
 if (c.rs f.stream.toNat).badEnd f then(10,c)else
 if (c.rs f.stream.toNat).high<f.end_∧((c.rs f.stream.toNat).grant<f.end_∨c.grant<f.end_-(c.rs f.stream.toNat).high+zcC c.rs 8)then(9,c)else
 (0,{ c with rs:=upd c.rs f.stream.toNat ((c.rs f.stream.toNat).data f) })
def old(m id:Nat):Bool:=decide (32≤m)&&decide (id≤m-32)
def CS.message(c:CS)(f:Frm):CS :=
 if (c.seen.any fun p=>p.1==f.id)||decide (f.dl<c.now)||(decide (0<c.seen.length)&&old c.most f.id)then c else
 {c with most:=max c.most f.id,seen:=(c.seen++[(f.id,f.dl)]).filter (fun p => !old (max c.most f.id) p.1),came:=c.came++[(f.id,f.data)] }
def CS.take(c:CS)(f:Frm):Nat×CS :=
 if f.kind=2 then c.acked f.rngs
 else if f.kind=3 then c.resetAt f
 else if f.kind=4 then c.data f
 else if f.kind=5 then(0,{ c with credit:=max c.credit f.lim })
 else if f.kind=6 then(0,{ c with ws:=upd c.ws f.stream.toNat { c.ws f.stream.toNat with credit:=max (c.ws f.stream.toNat).credit f.lim } })
 else if f.kind=7 then(0,c.message f)
 else if f.kind=8 then(13,c)
 else(0,c)
def CS.takes:List Frm→CS→Nat×CS
 | [],c=>(0,c)
 | f::fs,c =>
  if (c.take f).1≠0 then((c.take f).1,{ (c.take f).2 with closed:=(c.take f).1,said:=(c.take f).1==13 })
  else CS.takes fs { (c.take f).2 with answer:=(c.take f).2.answer||f.kind != 2 }
def CS.receive(c:CS)(bs:List UInt8):(Nat×Int)×CS :=
 if c.closed≠0 then((12,-1),c)else
 match dec bs with
 | .sum=>((7,-1),c)
 | .bad p=>((8,(p:Int)),{ c with closed:=8 })
 | .ok n fs=>if zp9 c.got.rs c.got.fl n then((0,-1),c)else
  (((CS.takes fs { c with got:=c.got.add n n }).1,-1),(CS.takes fs { c with got:=c.got.add n n }).2)
def CS.datagramsOut(c:CS):List (Nat×List UInt8)×CS:=(c.came,{ c with came:=[] })
def RS.readTo(x:RS)(most:Nat):Nat :=
 if x.cut then max x.read (min (min (za1 x.came.rs x.read x.high).1 (x.read+most)) x.keep)else min (za1 x.came.rs x.read x.high).1 (x.read+most)
def RS.stateAt(x:RS)(e:Nat):Nat:=if x.cut&&decide (x.keep≤e)then 2 else if !x.cut&&x.ended&&e==x.fin then 1 else 0
def CS.read(c:CS)(k most:Int):(List UInt8×Nat×Nat)×CS :=
 if c.stream k≠0 then(([],0,c.stream k),c)else
 if (c.rs k.toNat).state≠0 then(([],(c.rs k.toNat).state,0),c)else
 ((((c.rs k.toNat).b.drop (c.rs k.toNat).read).take ((c.rs k.toNat).readTo most.toNat-(c.rs k.toNat).read),(c.rs k.toNat).stateAt ((c.rs k.toNat).readTo most.toNat),0),
  {c with rs:=upd c.rs k.toNat { c.rs k.toNat with read:=(c.rs k.toNat).readTo most.toNat,state:=(c.rs k.toNat).stateAt ((c.rs k.toNat).readTo most.toNat) } })
def clF(a:Nat):Frm:=⟨8,0,0,0,a,false,0,0,[],[]⟩
def CS.farewell(c:CS):List (List UInt8)×CS :=
 if c.said then([],c)else
 ([zcq ((c.pkDraft.add (clF (if c.closed=12 then 0 else c.closed))).getD c.pkDraft).b],{ c with said:=true,next:=c.next+1 })
def CS.out(c:CS):List (List UInt8)×CS:=if c.closed≠0 then c.farewell else c.packets
structure EN where
 wrote:List UInt8
 fin:Bool
 cut:Bool
 keep:Nat
 read:Nat
 state:Nat
structure SN where
 id:Nat
 dl:Nat
 data:List UInt8
 came:Bool
structure NS where
 mtu:Nat
 window:Nat
 total:Nat
 now:Nat
 c:Nat→CS
 e:Nat→Nat→EN
 g:Nat→List SN
 next:Nat→Nat
 count:Nat→Nat
 bag:List (Nat×List UInt8)
structure za5 where
 kind:Int
 side:Int
 a:Int
 b:Int
 s:List UInt8
def EN.zero:EN:=⟨[],false,false,0,0,0⟩
end Go.Proofs.YtddfdpbaiedcjaaGreatDoor
namespace Go.Proofs.YtddfdpbaiedcjaaGreatDoor
open Go.RowKit Go.Proofs.Tryz
def NS.new(mtu window total:Nat):NS :=
 {mtu:=mtu,window:=window,total:=total,now:=0,c:=fun _=>CS.new mtu window total,e:=fun _ _=>EN.zero,g:=fun _=>[],next:=fun _=>0,count:=fun _=>0,bag:=[] }
def NS.build(mtu window total:Int):NS:=NS.new (64+pickN mtu 337) (16+pickN window 300) (16+pickN total 600)
def NS.setC(n:NS)(i:Nat)(c:CS):NS:={ n with c:=upd n.c i c }
def NS.setE(n:NS)(i k:Nat)(e:EN):NS:={ n with e:=upd n.e i (upd (n.e i) k e) }
def NS.send(n:NS)(i k:Nat)(s:List UInt8):Bool×NS :=
 if (n.e i k).fin||(n.e i k).cut then(((n.c i).send k s).1==4,n.setC i ((n.c i).send k s).2)
 else if 2048<(n.e i k).wrote.length+s.length then(((n.c i).send k s).1==3,n.setC i ((n.c i).send k s).2)
 else(((n.c i).send k s).1==0,(n.setC i ((n.c i).send k s).2).setE i k { n.e i k with wrote:=(n.e i k).wrote++s })
def NS.finish(n:NS)(i k:Nat):Bool×NS :=
 if (n.e i k).fin||(n.e i k).cut then(((n.c i).finish k).1==4,n.setC i ((n.c i).finish k).2)
 else(((n.c i).finish k).1==0,(n.setC i ((n.c i).finish k).2).setE i k { n.e i k with fin:=true })
def NS.resetK(n:NS)(i k keep:Nat):Bool×NS :=
 (((n.c i).reset k keep).1==0,(n.setC i ((n.c i).reset k keep).2).setE i k { n.e i k with keep:=if !(n.e i k).cut||decide (keep<(n.e i k).keep)then keep else(n.e i k).keep,cut:=true })
def NS.reset(n:NS)(i k:Nat)(b:Int):Bool×NS:=n.resetK i k (pickN b ((n.e i k).wrote.length+1))
def NS.datagram(n:NS)(i:Nat)(s:za5):Bool×NS :=
 if n.mtu<s.s.length+40 then(((n.c i).datagram (n.next i) n.now s.s).1==6,n.setC i ((n.c i).datagram (n.next i) n.now s.s).2)
 else if ((n.c i).datagram (n.next i) (n.now+pickN s.a 9) s.s).1=3 then(decide (16≤(n.g i).length),n.setC i ((n.c i).datagram (n.next i) (n.now+pickN s.a 9) s.s).2)
 else if ((n.c i).datagram (n.next i) (n.now+pickN s.a 9) s.s).1≠0 then(false,n.setC i ((n.c i).datagram (n.next i) (n.now+pickN s.a 9) s.s).2)
 else(true,{ n.setC i ((n.c i).datagram (n.next i) (n.now+pickN s.a 9) s.s).2 with g:=upd n.g i (n.g i++[⟨n.next i,n.now+pickN s.a 9,s.s,false⟩]),next:=upd n.next i (n.next i+1+pickN s.b 3) })
def NS.tick(n:NS):NS:={ n with now:=n.now+1,c:=upd (upd n.c 0 (n.c 0).tick) 1 (n.c 1).tick }
def zcf(now:Nat)(f:Frm):Bool:=f.kind==7&&decide (f.dl<now)
def NS.flushL(i:Nat):List (List UInt8)→NS→Bool×NS
 | [],n=>(true,n)
 | b::l,n =>
  match dec b with
  | .ok num fs =>
   if n.mtu<b.length∨num≠n.count i∨fs=[]then(false,n)
   else if fs.any (zcf n.now)then(false,{ n with count:=upd n.count i (n.count i+1) })
   else NS.flushL i l { n with count:=upd n.count i (n.count i+1),bag:=n.bag++[(1-i,b)] }
  | _=>(false,n)
def NS.flush(n:NS)(i:Nat):Bool×NS:=NS.flushL i (n.c i).packets.1 (n.setC i (n.c i).packets.2)
def zba(now id:Nat)(data:List UInt8):List SN→Bool→Bool×List SN
 | [],r=>(r,[])
 | g::l,r =>
  if g.id=id then((zba now id data l (g.data==data && !g.came&&decide (now≤g.dl))).1,{ g with came:=true }::(zba now id data l (g.data==data && !g.came&&decide (now≤g.dl))).2)
  else((zba now id data l r).1,g::(zba now id data l r).2)
def zcD(now:Nat):List (Nat×List UInt8)→List SN→Bool×List SN
 | [],G=>(true,G)
 | m::l,G=>if (zba now m.1 m.2 G false).1 then zcD now l (zba now m.1 m.2 G false).2 else(false,(zba now m.1 m.2 G false).2)
def NS.came(n:NS)(i:Nat):Bool×NS :=
 ((zcD n.now (n.c i).datagramsOut.1 (n.g (1-i))).1,{ n.setC i (n.c i).datagramsOut.2 with g:=upd n.g (1-i) (zcD n.now (n.c i).datagramsOut.1 (n.g (1-i))).2 })
def NS.drop(n:NS)(k:Nat):NS:={ n with bag:=n.bag.take k++n.bag.drop (k+1) }
def NS.recv(n:NS)(i:Nat)(b:List UInt8):Nat×Bool×NS :=
 (((n.c i).receive b).1.1,(n.setC i ((n.c i).receive b).2).came i)
def zeZ(b:List UInt8)(k:Nat)(x:UInt8):List UInt8:=b.take k++([b.getD k 0 ^^^ x]++b.drop (k+1))
def zpj(s:List UInt8):UInt8:=if s.getD 0 0≠0 then s.getD 0 0 else 1
def NS.carryK(n:NS)(s:za5)(k:Nat)(f:Nat×List UInt8):Bool×NS :=
 if s.kind=7 then(((if pickN s.b 2=0 then n.drop k else n).recv f.1 f.2).1==0&&((if pickN s.b 2=0 then n.drop k else n).recv f.1 f.2).2.1,((if pickN s.b 2=0 then n.drop k else n).recv f.1 f.2).2.2)
 else if s.kind=8 then(true,n.drop k)
 else if s.kind=9 then((n.recv f.1 (zeZ f.2 (pickN s.b f.2.length) (zpj s.s))).1==7&&(n.recv f.1 (zeZ f.2 (pickN s.b f.2.length) (zpj s.s))).2.1,(n.recv f.1 (zeZ f.2 (pickN s.b f.2.length) (zpj s.s))).2.2)
 else(true,n)
def NS.carry(n:NS)(s:za5):Bool×NS :=
 if n.bag=[]then(true,n)else n.carryK s (pickN s.a n.bag.length) (n.bag.getD (pickN s.a n.bag.length) (0,[]))
def EN.wrong(o:EN)(most:Nat)(r:List UInt8×Nat×Nat):Bool :=
 r.2.2 != 0||decide (most<r.1.length)||decide (o.wrote.length<o.read+r.1.length)||(o.wrote.drop o.read).take r.1.length != r.1||(o.state != 0&&(r.1 != []||r.2.1 != o.state))
def EN.more(o:EN)(r:List UInt8×Nat×Nat):EN:={ o with read:=o.read+r.1.length,state:=r.2.1 }
def EN.fits(o:EN):Bool :=
 if o.state=0 then true else if o.state=1 then o.fin&&o.read==o.wrote.length else if o.state=2 then o.cut&&decide (o.keep≤o.read)else false
def NS.read(n:NS)(i k most:Nat):Bool×NS :=
 if (n.e (1-i) k).wrong most ((n.c i).read k most).1 then(false,n.setC i ((n.c i).read k most).2)
 else(((n.e (1-i) k).more ((n.c i).read k most).1).fits,(n.setC i ((n.c i).read k most).2).setE (1-i) k ((n.e (1-i) k).more ((n.c i).read k most).1))
def NS.step(n:NS)(s:za5):Bool×NS :=
 if s.kind=1 then n.send (pickN s.side 2) (pickN s.a 8) s.s
 else if s.kind=2 then n.finish (pickN s.side 2) (pickN s.a 8)
 else if s.kind=3 then n.reset (pickN s.side 2) (pickN s.a 8) s.b
 else if s.kind=4 then n.datagram (pickN s.side 2) s
 else if s.kind=5 then n.tick.carry s
 else if s.kind=6 then n.flush (pickN s.side 2)
 else if s.kind=10 then n.read (pickN s.side 2) (pickN s.b 8) (pickN s.a 200)
 else n.carry s
def NS.recvs:List (Nat×List UInt8)→NS→Bool→Bool×NS
 | [],n,ok=>(ok,n)
 | f::l,n,ok=>NS.recvs l (n.recv f.1 f.2).2.2 (ok&&(n.recv f.1 f.2).2.1&&(n.recv f.1 f.2).1==0)
def NS.reads:List (Nat×Nat)→NS→Bool→Bool×NS
 | [],n,ok=>(ok,n)
 | p::l,n,ok=>NS.reads l (n.read p.1 p.2 4096).2 (ok&&(n.read p.1 p.2 4096).1)
def zbD:List (Nat×Nat):=(List.range 16).map fun j=>(j / 8,j % 8)
def NS.fairC(n:NS)(ok:Bool):Bool×NS:=NS.reads zbD (NS.recvs n.bag { n with bag:=[] } ok).2 (NS.recvs n.bag { n with bag:=[] } ok).1
def NS.fairB(n:NS)(ok:Bool):Bool×NS:=(n.flush 1).2.fairC (ok&&(n.flush 1).1)
def NS.fairA(n:NS)(ok:Bool):Bool×NS:=(n.flush 0).2.fairB (ok&&(n.flush 0).1)
def zi4:za5:=⟨5,0,0,0,[]⟩
def NS.fair1(n:NS):Bool×NS:=(n.step zi4).2.fairA (n.step zi4).1
def NS.fairs:Nat→NS→Bool×NS
 | 0,n=>(true,n)
 | t+1,n=>if n.fair1.1 then NS.fairs t n.fair1.2 else(false,n.fair1.2)
def NS.fair(n:NS)(t:Nat):Bool×NS:=NS.fairs t { n with bag:=[] }
def zgL : za5 := ⟨1, 0, 3, 0, "some bytes of a stream".toUTF8.data.toList⟩
def zqk:za5:=⟨2,0,3,0,[]⟩
def zhy:NS:=((NS.build 0 100 100).step zgL).2
def ze0:NS:=(zhy.step zqk).2
def zql:Bool :=
 ((NS.build 0 100 100).step zgL).1&&(zhy.step zqk).1&&(ze0.fair 4).1&&((ze0.fair 4).2.e 0 3).read==22&&((ze0.fair 4).2.e 0 3).state==1
def NS.plays(without:List Int):List za5→NS→Option NS
 | [],n=>some n
 | s::l,n=>if without.contains s.kind then NS.plays without l n else if (n.step s).1 then NS.plays without l (n.step s).2 else none
def zda(w:World)(b:Nat)(v:Value)(s:zaI):Prop:=w.heap[b]?=some (.cells #[v,.int .u64 (s.fl:Int),.int .i64 (s.most:Int)] 116 (0,0))∧w.ownsRow 0 214 2 v s.rs.length (zn s.rs)
variable{b:Nat}{s:zaI}{v:Value}{w:World}
theorem zda.set(h:zda w b v s)(hl:s.rs.length≤1099511627776):zbA w b 0 v s.rs s.fl s.most :=
 ⟨za h.1 rfl,za h.1 rfl,za h.1 rfl,h.2,hl,fun j=>zf h.1⟩
variable{S:Nat→Prop}{w':World}
theorem zda.mod(h:zda w b v s)(m:Mod S w w')(h1:¬S b)(h2:∀g,v.ownBlock=some g→¬S g):zda w' b v s:=⟨m.obj h1 h.1,m.owns h.2 h2⟩
theorem zpl(s:zaI)(b lo hi:Nat)(v:Value)(w:World)(h:zda w b v s)(ok:s.Ok)(a:lo≤zD)(d:hi≤zD):Calls prog 88 #[.pointer (some ⟨b,0,none⟩),.int .u64 (lo:Int),.int .u64 (hi:Int)] w fun e w'=>e = .returned (.tuple #[])∧∃v',zda w' b v' (s.add lo hi)∧Mod (fun k=>k=b∨v.ownBlock=some k) w w'∧zaH w v v':=by
 have hm:=ok.most;have hrl:=ok.rl;have f:v.ownBlock≠some b:=fun e=>by
  rcases h.2.2 with⟨rfl,_⟩|⟨g,c,cur,rfl,_,hg,_⟩
  ·simp[Value.ownBlock]at e
  ·simp[Value.ownBlock]at e;subst e;rw[h.1]at hg;simp at hg
 have i:=ok.fl;unfold zD at a d i;refine(zco s b 0 lo hi v w (h.set (by omega)) ok.wf (by omega) (by omega) (by omega) f hm.1 (by omega)).mono ?_;rintro e w' ⟨v',rfl,h1,h2,h3,h4⟩;refine⟨rfl,v',⟨?_,h1⟩,h3,h4⟩;rw[h2,zc (zc h.1)];simp only[List.setIfInBounds_toArray,List.set_cons_zero,List.set_cons_succ];have:(s.add lo hi).most=s.most:=by
  unfold zaI.add;split
  ·rfl
  ·split<;>rfl
 rw[this]
def zqm(w:World)(t:zaI)(e:Ending)(w':World):Prop :=
 ∃v,e = .returned (.agg #[v,.int .u64 (t.fl:Int),.int .i64 (t.most:Int)])∧w'.ownsRow 0 214 2 v t.rs.length (zn t.rs)∧(∀g,v.ownBlock=some g→w.heap.size≤g)∧Mod NoB w w'
theorem zdl:∀(l:zA) (lo hi:Nat) (t:zaI),(∀r∈l,r.2≤zD)→t.Ok→(zbI l lo hi t).Ok
 | [],_,_,_,_,h=>h
 | r::l,lo,hi,t,hl,h=>by
  have a:=hl r List.mem_cons_self;have b:min r.2 (lo-1)≤zD:=Nat.le_trans (Nat.min_le_left _ _) a;unfold zbI;refine zdl l lo hi _ (fun r a=>hl r (List.mem_cons_of_mem _ a)) ?_;split
  ·split
   ·exact(h.add _ b).add _ a
   ·exact h.add _ a
  ·split
   ·exact h.add _ b
   ·exact h
theorem zbf(most:Nat)(h:1≤most∧most≤1099511627776):(⟨[],0,most⟩:zaI).Ok :=
 ⟨⟨fun i hi=>absurd hi (Nat.not_lt_zero i),fun i j _ a=>absurd a (Nat.not_lt_zero j)⟩,fun j a=>absurd a (Nat.not_lt_zero j),Nat.zero_le _,h,Nat.zero_le _⟩
theorem zi7(tmps:Array Value)(w:World)(a:Nat)(x y z:Value)(h2:tmps.getD 6 undef = .pointer (some ⟨a,0,none⟩))(c0:w.cell? ⟨a,0,none⟩=some x)(c1:w.cell? ⟨a,1,none⟩=some y)(c2:w.cell? ⟨a,2,none⟩=some z):(results f140 tmps).run prog w = .ok (.agg #[x,y,z]) w:=by
 have b:tmps[6]?.getD undef = .pointer (some ⟨a,0,none⟩):=by rw[←h2];simp
 simp[results,results140,go_sem,b,c0,c1,c2]
def WoJ(w:World)(rb tb b p q:Nat)(t:zaI)(a:World):Prop :=
 ∃v,zda a tb v t∧t.Ok∧Mod NoB w a∧(∀g,v.ownBlock=some g→rb+2≤g∧g≠b)∧a.heap[rb]?=some (.cells #[.slice none 0 0,.int .u64 0,.int .i64 0] 116 (0,0))∧a.heap[b]?=some (.cells #[.int .u64 (p:Int),.int .u64 (q:Int)] 214 (0,0))∧w.heap.size=rb∧tb=rb+1∧rb+2≤b
variable{hi lo p q rb:Nat}
theorem WoJ.calls{tb d:Nat}{t:zaI}{b:World}(h:WoJ w rb tb d p q t b)(c:lo≤zD)(a:hi≤zD):Calls prog 88 #[.pointer (some ⟨tb,0,none⟩),.int .u64 (lo:Int),.int .u64 (hi:Int)] b fun e w'=>e = .returned (.tuple #[])∧WoJ w rb tb d p q (t.add lo hi) w':=by
 obtain⟨v,h1,h2,h3,h4,h5,f,h7,h8,h9⟩:=h;refine(zpl t tb lo hi v b h1 h2 c a).mono ?_;rintro e w' ⟨rfl,v',k1,k2,k3⟩;have hx:=(Array.getElem?_eq_some_iff.1 f).1;refine⟨rfl,v',k1,h2.add lo a,h3.then k2 (fun g hg=>.inr ?_),fun g hg=>?_,k2.obj (fun x=>?_) h5,k2.obj (fun x=>?_) f,h7,h8,h9⟩
 ·rcases hg with hg|hg
  ·omega
  ·have:=h4 g hg;omega
 ·rcases k3 g hg with y|y
  ·exact h4 g y
  ·omega
 ·rcases x with x|x
  ·omega
  ·have:=h4 _ x;omega
 ·rcases x with x|x
  ·omega
  ·exact(h4 _ x).2 rfl
theorem WoJ.two{tb a:Nat}{t:zaI}{b:World}(h:WoJ w rb tb a p q t b):b.cell? ⟨a,0,none⟩=some (.int .u64 (p:Int))∧b.cell? ⟨a,1,none⟩=some (.int .u64 (q:Int)):=by
 obtain⟨v,h1,h2,h3,h4,h5,c,h7,h8,h9⟩:=h;exact⟨za c rfl,za c rfl⟩
theorem zi8(s:zaI)(b o lo hi:Nat)(v:Value)(w:World)(h:zbA w b o v s.rs s.fl s.most)(ok:s.Ok)(ab:lo≤zD)(ac:hi≤zD):Calls prog 140 #[.pointer (some ⟨b,o,none⟩),.int .u64 (lo:Int),.int .u64 (hi:Int)] w (zqm w (s.without lo hi)):=by
 obtain⟨a,cap,rfl,q1,q2,q3⟩:=zi h.own;have c0:=h.cl;have c2:w.cell? ⟨b,o+2,none⟩=some (.int .i64 (s.most:Int)):=h.cm;obtain⟨N,hN⟩:=nm s.rs.length;obtain⟨R,hR⟩:=nm (s.without lo hi);rw[hR];have G:=zb h.own;have HA:Hid (∀k,k<N→∃g,a=some ⟨g,0,none⟩):=zb (fun k hk=>q3 (by omega));have f:Hid (zbI s.rs lo hi ⟨[],0,s.most⟩=R):=zb hR;have U:=zb ok;have hNb:N≤1099511627776:=by rw[←hN];exact h.len
 have hS:=zbf s.most ok.most;have HS:=zb hS;obtain⟨M,hM⟩:=nm s.most;rw[hM]at c2 HS f;rw[hN]at c0 G;have HN:=zb hN;have HM:=zb hM;unfold maxLen at q2;unfold zD at ab ac;clear h ok hR hS q3 hN hM;go_enter func140,ntmps140;go_upto_region 1 with fail;obtain⟨W1,i⟩:=nm (w.alloc (.cells #[.slice none 0 0,.int .u64 0,.int .i64 0] 116));have m1:Mod NoB w W1:=by rw[←i];exact(Mod.refl _ _).alloc _
 have s1:W1.heap.size=w.heap.size+1:=by rw[←i];simp
 have r1:W1.heap[w.heap.size]?=some (.cells #[.slice none 0 0,.int .u64 0,.int .i64 0] 116 (0,0)):=by rw[←i];exact heap_alloc_new w _
 rw[i];have ad:=m1.cell (a:=⟨b,_,none⟩) id c2;have V:=m1.cell (a:=⟨b,_,none⟩) id c0;clear c0 c2 i;go_upto_region 2 with fail;obtain⟨W2,j⟩:=nm (W1.alloc (.cells #[.slice none 0 0,.int .u64 0,.int .i64 (M:Int)] 116));have m2:Mod NoB W1 W2:=by rw[←j];exact(Mod.refl _ _).alloc _
 have s2:W2.heap.size=w.heap.size+2:=by rw[←j];simp;omega
 have B:zda W2 W1.heap.size (.slice none 0 0) ⟨[],0,M⟩:=by rw[←j];exact⟨heap_alloc_new W1 _,World.ownsRow_nil _ 0 _ 2⟩
 have r2:=m2.obj (fun x=>x) r1;rw[j];have c0:=m2.cell (a:=⟨b,_,none⟩) id V;have M2:=zb (m1.trans m2);obtain⟨tb,W⟩:=nm (w.heap.size+1);rw[s1]at B;rw[W]at B ⊢;have l:tb=w.heap.size+1:=by omega
 obtain⟨rb,H⟩:=nm w.heap.size;rw[H]at r2 l s2 ⊢;have I:=zb H;clear ad V j m1 m2 r1 s1 W H;go_wp2_with fail;have T2:=zb B;have R2:=zb r2;have C0:=zb c0;have X:=zb (And.intro l s2);clear c0 B r2 l s2
 go_loopw [20] (fun iv wr=>∃(k:Nat) (v:Value) (t:zaI),k≤N∧iv = .int .i64 (k:Int)∧Hid (zda wr tb v t∧t.Ok∧zbI (s.rs.drop k) lo hi t=R)∧Hid (Mod NoB w wr∧rb+2≤wr.heap.size∧(∀g,v.ownBlock=some g→rb+2≤g)∧wr.heap[rb]?=some (.cells #[.slice none 0 0,.int .u64 0,.int .i64 0] 116 (0,0)))) (fun iv _=>N-(intOf iv).toNat)
 case atStart=>exact⟨0,.slice none 0 0,⟨[],0,M⟩,Nat.zero_le _,rfl,zb ⟨T2.out,HS.out,f.out⟩,zb ⟨M2.out,by rw[X.out.2];omega,fun g hg=>by simp[Value.ownBlock]at hg,R2.out⟩⟩
 case round =>
  clear T2 R2 C0 f;obtain⟨k,v,t,hk,rfl,m,c⟩:=hrel;by_cases Y:k<N
  ·obtain⟨g,rfl⟩:=HA.out k Y;have r:k<s.rs.length:=by rw[HN.out];exact Y
   obtain⟨x1,x2⟩:=zaJ (rs:=s.rs) (n:=N) (cap:=cap) (g:=g) (by rw[HN.out];exact G.out) k r;have x1:=c.out.1.cell (a:=⟨g,_,none⟩) id x1;have x2:=c.out.1.cell (a:=⟨g,_,none⟩) id x2;have u:=U.out.hi k r;have Z:=U.out.wf.1 k r;have Q:Hid (zbI (s.rs.drop (k+1)) lo hi (if hi≤hiAt s.rs k then(if loAt s.rs k<lo then t.add (loAt s.rs k) (min (hiAt s.rs k) (lo-1))else t).add (max (loAt s.rs k) hi) (hiAt s.rs k)else(if loAt s.rs k<lo then t.add (loAt s.rs k) (min (hiAt s.rs k) (lo-1))else t))=R):=by
    have h1:=m.out.2.2;rw[zmB r]at h1;exact h1
   obtain⟨p,d⟩:=nm (loAt s.rs k);obtain⟨q,hq⟩:=nm (hiAt s.rs k);rw[d]at x1 Q Z;rw[hq]at x2 Q u Z;unfold zD at u;clear d hq r;go_upto_region 5 with fail;obtain⟨W4,C⟩:=nm (wr.alloc (.cells #[.int .u64 (p:Int),.int .u64 (q:Int)] 214));obtain⟨J,D⟩:=nm wr.heap.size;have J4:Hid (WoJ w rb tb J p q t W4):=by
    have m4:Mod NoB wr W4:=by rw[←C];exact(Mod.refl _ _).alloc _
    refine zb ⟨v,m.out.1.mod m4 (fun x=>x) (fun _ _ x=>x),m.out.2.1,c.out.1.trans m4,fun g hg=>⟨c.out.2.2.1 g hg,fun e=>?_⟩,m4.obj (fun x=>x) c.out.2.2.2,?_,I.out,X.out.1,?_⟩
    ·have:=zE m.out.1.2 g hg;omega
    ·rw[←C,←D];exact heap_alloc_new wr _
    ·rw[←D];exact c.out.2.1
   rw[C,D];obtain⟨y0,y1⟩:=J4.out.two;obtain⟨t1,K⟩:=nm ((if p<lo then t.add p (min q (lo-1))else t));rw[K]at Q;have E:=zb K;obtain⟨B,L⟩:=nm ((if hi≤q then t1.add (max p hi) q else t1));rw[L]at Q;have F:=zb L;clear m c C D K L x1 x2;go_upto_if 27 with fail
   go_cut [] (fun wx=>Hid (WoJ w rb tb J p q t1 wx))
   case first =>
    by_cases d:p<lo
    ·have d1:(p:Int)<lo:=by omega
     have y:t.add p (min q (lo-1))=t1:=by
      have:=E.out;rw[if_pos d]at this;exact this
     have kq:q≤lo-1→Calls prog 88 #[.pointer (some ⟨tb,0,none⟩),.int .u64 (p:Int),.int .u64 (q:Int)] W4 fun e w'=>e = .returned (.tuple #[])∧WoJ w rb tb J p q t1 w':=fun h=>by
      have k:=J4.out.calls (lo:=p) (hi:=q) (by unfold zD;omega) u;rw[←y,Nat.min_eq_left h];exact k
     have kl:lo-1≤q→Calls prog 88 #[.pointer (some ⟨tb,0,none⟩),.int .u64 (p:Int),.int .u64 ((lo:Int)-1)] W4 fun e w'=>e = .returned (.tuple #[])∧WoJ w rb tb J p q t1 w':=fun h=>by
      have k:=J4.out.calls (lo:=p) (hi:=lo-1) (by unfold zD;omega) (by unfold zD;omega);rw[←y,Nat.min_eq_right h];rw[show((lo-1:Nat):Int)=(lo:Int)-1 by omega]at k;exact k
     have KQ:=zb kq;have KL:=zb kl;have yw:=wu ((lo:Int)-1) (by omega);clear d y kq kl E;go_wp2_with (go_at_call 88;first|(have z:=KQ.out (by omega);with_reducible refine z.mono ?_;clear z;rintro e w5 ⟨rfl,O⟩;have P:=zb O)|(have z:=KL.out (by omega);with_reducible refine z.mono ?_;clear z;rintro e w5 ⟨rfl,O⟩;have P:=zb O));all_goals go_meet
     all_goals exact P
    ·have d1:¬(p:Int)<lo:=by omega
     have y:t=t1:=by
      have:=E.out;rw[if_neg d]at this;exact this
     subst y;clear d E;go_wp2_with fail;go_meet;exact J4
   case rest =>
   have P:Hid (WoJ w rb tb J p q t1 wc):=hcut;clear J4 y0 y1;obtain⟨y0,y1⟩:=P.out.two;clear hcut;by_cases d:hi≤q
   ·have d1:(hi:Int)≤q:=by omega
    have y:t1.add (max p hi) q=B:=by
     have:=F.out;rw[if_pos d]at this;exact this
    have kq:p≤hi→Calls prog 88 #[.pointer (some ⟨tb,0,none⟩),.int .u64 (hi:Int),.int .u64 (q:Int)] wc fun e w'=>e = .returned (.tuple #[])∧WoJ w rb tb J p q B w':=fun h=>by
     have k:=P.out.calls (lo:=hi) (hi:=q) (by unfold zD;omega) u;rw[←y,Nat.max_eq_right h];exact k
    have kl:hi≤p→Calls prog 88 #[.pointer (some ⟨tb,0,none⟩),.int .u64 (p:Int),.int .u64 (q:Int)] wc fun e w'=>e = .returned (.tuple #[])∧WoJ w rb tb J p q B w':=fun h=>by
     have k:=P.out.calls (lo:=p) (hi:=q) (by unfold zD;omega) u;rw[←y,Nat.max_eq_left h];exact k
    have KQ:=zb kq;have KL:=zb kl;clear d y kq kl F;go_wp2_with (go_at_call 88;first|(have z:=KQ.out (by omega);with_reducible refine z.mono ?_;clear z;rintro e w5 ⟨rfl,O⟩;have J6:=zb O)|(have z:=KL.out (by omega);with_reducible refine z.mono ?_;clear z;rintro e w5 ⟨rfl,O⟩;have J6:=zb O));all_goals
     go_roundw
     case rel =>
      obtain⟨v6,h1,h2,h3,h4,h5,h6,h7,h8,h9⟩:=J6.out;have:=(Array.getElem?_eq_some_iff.1 h6).1;exact⟨k+1,v6,B,by omega,by go_num,zb ⟨h1,h2,Q.out⟩,zb ⟨h3,by omega,fun g hg=>(h4 g hg).1,h5⟩⟩
     case measure=>simp[intOf];omega
   ·have d1:¬(hi:Int)≤q:=by omega
    have y:t1=B:=by
     have:=F.out;rw[if_neg d]at this;exact this
    subst y;have J6:=P;clear d F;go_wp2_with fail;go_roundw
    case rel =>
     obtain⟨v6,h1,h2,h3,h4,h5,h6,h7,h8,h9⟩:=J6.out;have:=(Array.getElem?_eq_some_iff.1 h6).1;exact⟨k+1,v6,t1,by omega,by go_num,zb ⟨h1,h2,Q.out⟩,zb ⟨h3,by omega,fun g hg=>(h4 g hg).1,h5⟩⟩
    case measure=>simp[intOf];omega
  ·have ae:s.rs.length≤k:=by rw[HN.out];omega
   have af:t=R:=by
    have h1:=m.out.2.2;rw[List.drop_eq_nil_of_le ae]at h1;exact h1
   subst af;obtain⟨g0,g1,g2⟩:wr.cell? ⟨tb,0,none⟩=some v∧wr.cell? ⟨tb,1,none⟩=some (.int .u64 (t.fl:Int))∧wr.cell? ⟨tb,2,none⟩=some (.int .i64 (t.most:Int)):=⟨za m.out.1.1 rfl,za m.out.1.1 rfl,za m.out.1.1 rfl⟩;obtain⟨f0,f1,f2⟩:wr.cell? ⟨rb,0,none⟩=some (.slice none 0 0)∧wr.cell? ⟨rb,1,none⟩=some (.int .u64 0)∧wr.cell? ⟨rb,2,none⟩=some (.int .i64 0):=⟨za c.out.2.2.2 rfl,za c.out.2.2.2 rfl,za c.out.2.2.2 rfl⟩;have fz:∀p,wr.frozen? ⟨rb,p,none⟩=false:=fun p=>zf c.out.2.2.2
   obtain⟨S,T,aa,_⟩:=zi m.out.1.2;have ah:Hid (zqm w t (.returned (.agg #[.slice S t.rs.length T,.int .u64 (t.fl:Int),.int .i64 (t.most:Int)])) (((wr.setCell ⟨rb,0,none⟩ (.slice S t.rs.length T)).setCell ⟨rb,1,none⟩ (.int .u64 (t.fl:Int))).setCell ⟨rb,2,none⟩ (.int .i64 (t.most:Int)))):=by
    have m3:Mod (fun g=>g=rb) wr (((wr.setCell ⟨rb,0,none⟩ (.slice S t.rs.length T)).setCell ⟨rb,1,none⟩ (.int .u64 (t.fl:Int))).setCell ⟨rb,2,none⟩ (.int .i64 (t.most:Int))):=(((Mod.refl (fun g=>g=rb) wr).setCell (p:=⟨rb,0,none⟩) (.inl rfl) _).setCell (p:=⟨rb,1,none⟩) (.inl rfl) _).setCell (p:=⟨rb,2,none⟩) (.inl rfl) _;refine zb ⟨_,rfl,?_,fun g hg=>?_,c.out.1.then m3 (fun g hg=>.inr (by rw[I.out,show g=rb from hg];exact Nat.le_refl _))⟩
    ·have ho:=m3.owns m.out.1.2 (fun g hg x=>by
      have:=c.out.2.2.1 g hg;have x:g=rb:=x;omega)
     rw[aa]at ho;exact ho
    ·rw[←aa]at hg;have:=c.out.2.2.1 g hg;have:=I.out;omega
   have A:Hid ((((wr.setCell ⟨rb,0,none⟩ (.slice S t.rs.length T)).setCell ⟨rb,1,none⟩ (.int .u64 (t.fl:Int))).setCell ⟨rb,2,none⟩ (.int .i64 (t.most:Int))).heap[rb]?=some (.cells #[.slice S t.rs.length T,.int .u64 (t.fl:Int),.int .i64 (t.most:Int)] 116 (0,0))):=by
    refine zb ?_;rw[zc (zc (zc c.out.2.2.2))];rfl
   go_wp2_with fail
   (try simp only[Exit.inBlock,Exit.then])
   refine bodyPost_ret (zi7 _ _ rb (.slice S t.rs.length T) (.int .u64 (t.fl:Int)) (.int .i64 (t.most:Int)) rfl (za A.out rfl) (za A.out rfl) (za A.out rfl)) rfl ah.out
variable{V:CV}{W:World}{c:CS}{i k:Nat}{tag:Nat→Nat×Nat}{y:WS}
theorem zg.storeW2(h:zg tag i b { c with ws:=upd c.ws k y } V W)(hk:k<8)(j:Nat)(hj:j<15)(v:Value)(x:WS)(hx:zbp x (V.wb k) (V.ws k) (V.wc k)=(zbp y (V.wb k) (V.ws k) (V.wc k)).set j v)(h1:x.b=y.b)(h2:x.sent.rs=y.sent.rs)(h3:x.came.rs=y.came.rs):zg tag i b { c with ws:=upd c.ws k x } V (W.setCell ⟨b,9+15*k+j,none⟩ v):=by
 have:=h.storeW hk j hj v x (by simp only[ze];exact hx) (by simp only[ze];exact h1) (by simp only[ze];exact h2) (by simp only[ze];exact h3);simp only[zdj]at this;exact this
theorem zg.storeR2{y:RS}(h:zg tag i b { c with rs:=upd c.rs k y } V W)(hk:k<8)(j:Nat)(hj:j<13)(v:Value)(x:RS)(hx:zbO x (V.rb k) (V.rc k)=(zbO y (V.rb k) (V.rc k)).set j v)(h1:x.b=y.b)(h3:x.came.rs=y.came.rs):zg tag i b { c with rs:=upd c.rs k x } V (W.setCell ⟨b,129+13*k+j,none⟩ v):=by
 have:=h.storeR hk j hj v x (by simp only[ze];exact hx) (by simp only[ze];exact h1) (by simp only[ze];exact h3);simp only[zdj]at this;exact this
end Go.Proofs.YtddfdpbaiedcjaaGreatDoor
