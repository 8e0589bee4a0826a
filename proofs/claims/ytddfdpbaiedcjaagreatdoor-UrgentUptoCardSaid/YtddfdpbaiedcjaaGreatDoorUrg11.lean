/- A part of Urgent's proof. Conditions: none. Part 11 of 32. -/
import Derived.Test.YtddfdpbaiedcjaaGreatDoorUrg10
set_option maxRecDepth 100000
set_option maxHeartbeats 16000000
set_option linter.all false
namespace Go.Proofs.YtddfdpbaiedcjaaGreatDoor
open Go.RowKit
def zaf(i:Nat)(tag:Nat→Nat×Nat)(g:Nat):Prop:=(tag g).1=i∧(tag g).2≠5
theorem zbk{i g r:Nat}{tag:Nat→Nat×Nat}(h:tag g=(i,r))(hr:r≠5):zaf i tag g:=⟨by rw[h],by rw[h];exact hr⟩
theorem Mod.ofC{i:Nat}{tag:Nat→Nat×Nat}{W W':World}(m:Mod (zaf i tag) W W'):Mod (fun g=>(tag g).1=i) W W':=m.mono (fun _ h=>.inl h.1)
def za7(tag:Nat→Nat×Nat)(i b db:Nat)(W:World)(c':CS)(d':Drf)(r:Bool)(e:Ending)(W':World):Prop :=
 e = .returned (.bool r)∧∃tag' V' bv' fv' l',zg tag' i b c' V' W'∧zae tag' i db d' bv' fv' l' W'∧Ext i tag tag' W W'∧Mod (zaf i tag) W W'
theorem DExt.ext{i:Nat}{tag tag':Nat→Nat×Nat}{W W':World}(h:DExt i tag tag' W W'):Ext i tag tag' W W' :=
 ⟨h.old,fun g hg=>by
  rcases h.new g hg with⟨r,_,e⟩|e
  ·exact .inl (by rw[e])
  ·exact .inr e,h.out⟩
theorem zb7{i:Nat}{tag:Nat→Nat×Nat}{W W':World}(m:Mod (zg6 i tag) W W'):Mod (zaf i tag) W W':=m.mono (fun g ⟨r,hr,e⟩=>.inl (zbk e (by omega)))
theorem zae.modC{S:Nat→Prop}{tag tag':Nat→Nat×Nat}{i db:Nat}{d:Drf}{b fv:Value}{l:List (Frm×Value)}{W W':World}(h:zae tag i db d b fv l W)(m:Mod S W W')(hS:∀g,S g→∃r,r<90∧r≠5∧tag g=(i,r))(e:∀g,(tag g).1=i→tag' g=tag g):zae tag' i db d b fv l W':=by
 have q:∀{g r:Nat},tag g=(i,r)→(90≤r∨r=5)→¬S g:=fun hg hr x=>by
  obtain⟨r',h1,h2,h3⟩:=hS _ x;rw[hg]at h3;simp at h3;omega
 have t:∀{g r:Nat},tag g=(i,r)→tag' g=(i,r):=fun hg=>(e _ (by rw[hg])).trans hg
 exact⟨m.obj (q h.tb (.inl (by decide))) h.obj,t h.tb,m.owns h.ob (fun g hg=>q (h.tbv g hg) (.inl (by decide))),fun g hg=>t (h.tbv g hg),m.owns h.own (fun g hg=>q (h.tfv g hg) (.inl (by decide))),h.lf,
  fun x a=>⟨(h.rr x a).1.mod m (zaB fun g hg=>q ((h.rr x a).2 g hg) (.inr rfl)),fun g hg=>t ((h.rr x a).2 g hg)⟩,fun g hg=>t (h.tfv g hg)⟩
theorem zlW{tag:Nat→Nat×Nat}{i b db:Nat}{c:CS}{V:CV}{d:Drf}{W W':World}{f:Frm}{e:Ending}(h:zg tag i b c V W)(hk:zP tag W)(hi:0<i)(hd:zpl tag i db W d f e W')(a:d.add f=none):za7 tag i b db W c d false e W':=by
 obtain⟨rfl,tag',g,j,l',h1,h2,h3⟩:=hd;rw[a]at h1 ⊢;exact⟨rfl,tag',V,g,j,l',h.modR hk hi h3 h2.old,h1,h2.ext,zb7 h3⟩
def CS.datagrams(c:CS)(d:Drf):Option (CS×Drf) :=
 match c.waits with
 | []=>none
 | f::l=>(d.add f).map fun d'=>({ c with waits:=l },d')
structure Frm.Fits(f:Frm):Prop where
 sound:zT f=true
 rn:f.rngs=[]
 data:f.data.length≤1048576
 len:(zC f).length≤1073741824
theorem zix{W:World}{v:Value}{f:Frm}{l:List Frm}(h:zc8 W 65 10 v (f::l).length (zp (f::l))) :
  ∃g o cap,v = .slice (some ⟨g,o*10,none⟩) (l.length+1) cap∧l.length+1≤cap∧cap≤maxLen∧(∀j x,(zh f (.slice none 0 0))[j]?=some x→W.cell? ⟨g,o*10+j,none⟩=some x)∧zc8 W 65 10 (.slice (some ⟨g,(o+1)*10,none⟩) l.length (cap-1)) l.length (zp l)∧(cap-1=0→zc8 W 65 10 (.slice (some ⟨g,o*10,none⟩) l.length 0) l.length (zp l)):=by
 rcases h.2 with⟨_,hn⟩|⟨g,o,cap,a,rfl,hg,h1,h2,h3,h4⟩
 ·simp at hn
 ·have b:(zp l).length=l.length*10:=by
   have:=h.1;simp only[zp,List.flatMap_cons,List.length_append,List.length_cons]at this ⊢;have e:(zh f (.slice none 0 0)).toList.length=10:=rfl;omega
  have e0:zp (f::l)=(zh f (.slice none 0 0)).toList++zp l:=rfl;have h1':l.length+1≤cap:=by simpa using h1
  refine⟨g,o,cap,rfl,h1,h2,fun j x i=>?_,⟨b,.inr ⟨g,o+1,cap-1,a,rfl,hg,by omega,by omega,?_,?_⟩⟩,fun hc=>?_⟩
  ·have hj:j<10:=(Array.getElem?_eq_some_iff.1 i).1;refine za hg ?_;have:((a.toList.drop (o*10)).take ((f::l).length*10))[j]?=some x:=by
    rw[h4,e0,List.getElem?_append_left (by exact hj),Array.getElem?_toList];exact i
   rw[List.getElem?_take]at this;split at this
   ·rw[List.getElem?_drop]at this;simpa using this
   ·cases this
  ·rw[show o+1+(cap-1)=o+cap by omega];exact h3
  ·have c:(a.toList.drop (o*10)).take ((l.length+1)*10)=(zh f (.slice none 0 0)).toList++zp l:=h4;have:((a.toList.drop (o*10)).take ((l.length+1)*10)).drop 10=zp l:=by
    rw[c];exact List.drop_left' rfl
   rw[←this,List.drop_take,List.drop_drop]
   congr 1
   ·omega
   ·congr 1
    omega
  ·have d:l=[]:=List.eq_nil_of_length_eq_zero (by omega);subst d;exact⟨rfl,.inr ⟨g,o,0,a,rfl,hg,Nat.le_refl _,Nat.zero_le _,Nat.le_trans (Nat.mul_le_mul_right 10 (by omega)) h3,by simp[zp]⟩⟩
theorem zfo{tag:Nat→Nat×Nat}{i b db:Nat}{c:CS}{V:CV}{d:Drf}{Z fv:Value}{l:List (Frm×Value)}{W:World}(h:zg tag i b c V W)(K:zae tag i db d Z fv l W)(E:Env i tag W)(O:∀f∈c.waits,f.Fits)(hbl:d.b.length≤1073741824)(hll:l.length≤1073741824) :
  Calls Tryz.prog 146 #[.pointer (some ⟨b,0,none⟩),.pointer (some ⟨db,0,none⟩)] W (za7 tag i b db W ((c.datagrams d).getD (c,d)).1 ((c.datagrams d).getD (c,d)).2 (c.datagrams d).isSome):=by
 have c5:W.cell? ⟨b,238,none⟩=some V.wt:=h.tl (j:=5) rfl;cases hwt:c.waits with
 | nil =>
  have z:c.datagrams d=none:=by unfold CS.datagrams;rw[hwt]
  rw[z];have G:V.wt = .slice none 0 0∨∃a cap,V.wt = .slice (some a) 0 cap:=by
   have:=h.wt;rw[hwt]at this;rcases this.2 with⟨e,_⟩|⟨g,o,cap,cur,e,_⟩
   ·exact .inl e
   ·exact .inr ⟨_,cap,e⟩
  have H:Hid (za7 tag i b db W c d false (.returned (.bool false)) W):=⟨rfl,tag,V,Z,fv,l,h,K,Ext.same E.ok (Mod.refl NoB _),Mod.refl _ _⟩;clear h K E O hwt z;rcases G with e|⟨a,cap,e⟩;all_goals
   rw[e]at c5;clear e;go_enter Tryz.func146,Tryz.ntmps146;go_wp2_with fail;go_ret;exact H.out
 | cons f ws =>
  have I:=O f (by rw[hwt];exact List.mem_cons_self);have B:=h.wt;rw[hwt]at B;obtain⟨g,o,cap,G,n1,n2,m,w,t⟩:=zix B;have L:tag g=(i,6):=h.twt g (by rw[G];rfl);have P:=zeu K E.ok E.pos f none 0 0 I.sound (by rw[I.rn];exact⟨none,0,rfl,Nat.le_refl _,Nat.zero_le _,fun i hi=>absurd hi (Nat.not_lt_zero i)⟩) (fun g hg=>by simp[Value.blk]at hg) (by rw[I.rn];simp) (by have:=I.data;omega) (by omega) (by have:=I.len;omega) (by omega);have y0:W.cell? ⟨g,o*10,none⟩=some (.int .i64 f.kind):=m 0 _ rfl;have y1:=m 1 _ rfl;have y2:=m 2 _ rfl;have y3:=m 3 _ rfl;have y4:=m 4 _ rfl;have y5:=m 5 _ rfl;have y6:=m 6 _ rfl;have y7:=m 7 _ rfl;have y8:=m 8 _ rfl;have y9:=m 9 _ rfl;rw[G]at c5;unfold maxLen at n2;have Q:=zb h;have HD:=zb K;have J:=zb E;have M:=zb hwt;have HV:=zb G;have C:=zb L;have HR:=zb w;have S:=zb t;clear h K E O hwt G m I B L w t;unfold zh at P;have KA:=zb P;clear P;cases hadd:d.add f with
  | none =>
   have z:c.datagrams d=none:=by unfold CS.datagrams;rw[M.out];simp[hadd]
   rw[z];have u:=zb hadd;clear z hadd;go_enter Tryz.func146,Tryz.ntmps146;go_wp2_with (go_at_call 142;refine KA.out.mono ?_;intro e W1 hd;have H:=zb (zlW Q.out J.out.ok J.out.pos hd u.out);obtain⟨rfl,_⟩:=hd;simp only[u.out,Option.isSome_none]at H ⊢);go_ret;exact H.out
  | some d' =>
   have z:c.datagrams d=some ({ c with waits:=ws },d'):=by unfold CS.datagrams;rw[M.out];simp[hadd]
   rw[z];have u:=zb hadd;clear z hadd;go_enter Tryz.func146,Tryz.ntmps146;go_wp2_with fail;refine KA.out.mono ?_;rintro e W1 ⟨rfl,tag',T,U,l',D,v,A⟩;rw[u.out]at D ⊢;have n:=Q.out.modR J.out.ok J.out.pos A v.old;have X:W1.cell? ⟨b,238,none⟩=some V.wt:=n.tl (j:=5) rfl;have f51:W1.frozen? ⟨b,238,none⟩=false:=n.fz 238;have y:tag' g=(i,6):=by rw[v.old g (zaA J.out.ok C.out J.out.pos),C.out]
   rw[HV.out]at X;have HN:Hid (∀v2,zc8 W 65 10 v2 ws.length (zp ws)→(∀q,Value.blk v2=some q→q=g)→za7 tag i b db W { c with waits:=ws } d' true (.returned (.bool true)) (W1.setCell ⟨b,238,none⟩ v2)):=by
    intro v2 Y F;have N:Mod (fun q=>q=b) W1 (W1.setCell ⟨b,238,none⟩ v2):=(Mod.refl (fun q=>q=b) _).setCell (p:=⟨b,238,none⟩) (.inl rfl) _;refine⟨rfl,tag',{ V with wt:=v2 },T,U,l',?_,?_,⟨v.ext.old,v.ext.new,v.out.mod N⟩,?_⟩
    ·refine n.build (R:=fun r=>r=1∨r=6) N (fun q s=>⟨1,.inl rfl,by rw[s,n.tb]⟩) (fun _ _=>rfl) ?_ (.inl ⟨rfl,rfl,rfl,by omega,by omega⟩) (fun k hk=>.inl ⟨rfl,rfl,by omega⟩) (fun k hk=>.inl ⟨rfl,rfl,by omega⟩) (fun k hk=>.inl ⟨rfl,rfl,by omega⟩) (fun k hk=>.inl ⟨rfl,rfl,by omega⟩) (fun k hk=>.inl ⟨rfl,rfl,by omega⟩) (.inl ⟨rfl,rfl,rfl,by omega,by omega⟩) (.inr ⟨?_,fun q s=>?_⟩) (.inl ⟨rfl,rfl,by omega⟩) (.inl ⟨rfl,rfl,by omega⟩)
     ·rw[zc n.obj,List.setIfInBounds_toArray];rw[show(238:Nat)=233+5 from rfl,zV c { c with waits:=ws } V { V with wt:=v2 } _ rfl rfl rfl rfl]
     ·refine(Y.mod A (fun q s ⟨r,z,hx⟩=>?_)).mod N (fun q s x=>?_)
      ·rw[F q s,C.out]at hx;simp at hx;omega
      ·have x:q=b:=x;rw[F q s]at x;exact zg.apart y (x ▸ n.tb) (by decide) rfl
     ·rw[F q s,y]
    ·exact D.modC N (fun q s=>⟨1,by decide,by decide,by rw[s,n.tb]⟩) (fun _ _=>rfl)
    ·exact(zb7 A).then N (fun q s=>.inl (by
      have s:q=b:=s;exact zbk (by rw[s,Q.out.tb]) (by decide)))
   clear D v A n y y0 y1 y2 y3 y4 y5 y6 y7 y8 y9;go_wp2_with fail;all_goals go_ret
   ·exact HN.out _ (S.out (by omega)) (fun q s=>by simpa [Value.blk]using s.symm)
   ·have:=HR.out;rw[show(o+1)*10=o*10+10 by omega]at this;exact HN.out _ this (fun q s=>by simpa [Value.blk]using s.symm)
def zA:Nat:=4611686018427387903
def zlX(k n:Nat):Frm:=⟨6,(k:Int),0,0,n,false,0,0,[],[]⟩
def zld(n:Nat):Frm:=⟨5,0,0,0,n,false,0,0,[],[]⟩
def zpm(k final keep:Nat):Frm:=⟨3,(k:Int),final,keep,0,false,0,0,[],[]⟩
def zgE(c:CS)(d:Drf):Nat→Nat→Nat→Option (CS×Drf)×Nat
 | 0,_,t=>(none,t)
 | n+1,k,t =>
  if (decide ((c.rs k).grant<max (c.rs k).grant ((c.rs k).used+c.window))||(c.rs k).anew)&&(c.rs k).hopes then
   match d.add (zlX k (max (c.rs k).grant ((c.rs k).used+c.window)))with
   | some d'=>(some ({ c with rs:=upd c.rs k { c.rs k with grant:=max (c.rs k).grant ((c.rs k).used+c.window),anew:=false } },d'),min (t+(c.rs k).used) zA)
   | none=>zgE c d n (k+1) (min (t+(c.rs k).used) zA)
  else zgE c d n (k+1) (min (t+(c.rs k).used) zA)
def zfi(c:CS)(d:Drf):Nat→Nat→Option (CS×Drf)
 | 0,_=>none
 | n+1,k =>
  if (c.ws k).cut && !(c.ws k).telling then
   match d.add (zpm k (c.ws k).final (c.ws k).keep)with
   | some d'=>some ({ c with ws:=upd c.ws k { c.ws k with telling:=true } },d')
   | none=>zfi c d n (k+1)
  else zfi c d n (k+1)
def zqM(c:CS)(d:Drf)(t:Nat):Option (CS×Drf) :=
 if decide (c.grant<max t c.grant)||c.anew then
  match d.add (zld (max t c.grant))with
  | some d'=>some ({ c with grant:=max t c.grant,anew:=false },d')
  | none=>zfi c d 8 0
 else zfi c d 8 0
def CS.control(c:CS)(d:Drf):Option (CS×Drf) :=
 match (zgE c d 8 0 c.total).1 with
 | some x=>some x
 | none=>zqM c d (zgE c d 8 0 c.total).2
theorem zb8(f:Frm)(hr:f.rngs=[]):(zC f).length≤64+f.data.length:=by
 have v1:=zs f.stream.toNat;have v2:=zs f.off;have v3:=zs f.rel;have v4:=zs f.lim;have v5:=zs f.id;have v6:=zs f.dl;have v7:=zs f.data.length;unfold zC zcx zcy zcA zbX zcz zlb;split
 ·simp;omega
 ·split
  ·unfold za3;rw[hr];have w1:=zs (hiAt [] 0);have w2:=zs (([]:zD).length-1);have w3:=zs (hiAt [] 0-loAt [] 0);simp only[List.length_append,List.length_cons,List.length_nil];have:(zcW [] (0-1)).length=0:=rfl;simp only[List.length_nil]at w2;omega
  ·split
   ·simp only[List.length_append,List.length_cons,List.length_nil];omega
   ·split
    ·split
     ·simp only[List.length_append,List.length_cons,List.length_nil];omega
     ·simp only[List.length_append,List.length_cons,List.length_nil];omega
    ·split
     ·simp only[List.length_append,List.length_cons,List.length_nil];omega
     ·split
      ·simp only[List.length_append,List.length_cons,List.length_nil];omega
      ·split
       ·simp only[List.length_append,List.length_cons,List.length_nil];omega
       ·simp only[List.length_append,List.length_cons,List.length_nil];omega
theorem ziy{k n:Nat}(hk:k<8)(hn:n≤zA):(zlX k n).Fits:=by
 refine⟨?_,rfl,by simp[zlX],Nat.le_trans (zb8 _ rfl) (by simp[zlX])⟩;unfold zA at hn;simp[zT,zaz,zh8,zbA,zK,zlX]
 and_intros<;>first|omega|exact decide_eq_true (by omega)
theorem zlY{n:Nat}(hn:n≤zA):(zld n).Fits:=by
 refine⟨?_,rfl,by simp[zld],Nat.le_trans (zb8 _ rfl) (by simp[zld])⟩;simp[zT,zaz,zh8,zbA,zK,zld];unfold zA at hn;omega
theorem zlZ{k final keep:Nat}(hk:k<8)(hn:final≤zA)(hle:keep≤final):(zpm k final keep).Fits:=by
 refine⟨?_,rfl,by simp[zpm],Nat.le_trans (zb8 _ rfl) (by simp[zpm])⟩;unfold zA at hn;simp[zT,zaz,zh8,zbA,zK,zpm]
 and_intros<;>first|omega|exact decide_eq_true (by omega)
theorem zcE{tag:Nat→Nat×Nat}{i db:Nat}{d:Drf}{bv fv:Value}{l:List (Frm×Value)}{W:World}(h:zae tag i db d bv fv l W)(hk:zP tag W)(hi:0<i)(f:Frm)(a:f.Fits)(hbl:d.b.length≤1073741824)(hll:d.fs.length≤1073741824) :
  Calls Tryz.prog 142 #[.pointer (some ⟨db,0,none⟩),.agg (zh f (.slice none 0 0))] W (zpl tag i db W d f):=by
 have hl:l.length=d.fs.length:=by rw[←h.lf,List.length_map]
 exact zeu h hk hi f none 0 0 a.sound (by rw[a.rn];exact⟨none,0,rfl,Nat.le_refl _,Nat.zero_le _,fun i hi=>absurd hi (Nat.not_lt_zero i)⟩) (fun g hg=>by simp[Value.blk]at hg) (by rw[a.rn];simp) (by have:=a.data;omega) (by omega) (by have:=a.len;omega) (by omega)
structure zI(tag:Nat→Nat×Nat)(i b db:Nat)(W:World)(c:CS)(d:Drf)(tag':Nat→Nat×Nat)(V':CV)(bv' fv':Value)(l':List (Frm×Value))(W':World):Prop where
 c:zg tag' i b c V' W'
 d:zae tag' i db d bv' fv' l' W'
 e:Ext i tag tag' W W'
 m:Mod (zaf i tag) W W'
 p:0<i
theorem zI.ok{tag:Nat→Nat×Nat}{i b db:Nat}{W:World}{c:CS}{d:Drf}{tag':Nat→Nat×Nat}{V':CV}{a f:Value}{l':List (Frm×Value)}{W':World}(h:zI tag i b db W c d tag' V' a f l' W'):zP tag' W':=h.e.out
theorem zI.post{tag:Nat→Nat×Nat}{i b db:Nat}{W:World}{c:CS}{d:Drf}{tag':Nat→Nat×Nat}{g:CV}{a f:Value}{j:List (Frm×Value)}{W':World}(h:zI tag i b db W c d tag' g a f j W')(r:Bool):za7 tag i b db W c d r (.returned (.bool r)) W':=⟨rfl,tag',g,a,f,j,h.c,h.d,h.e,h.m⟩
theorem zan{tag tag':Nat→Nat×Nat}{i:Nat}{W W' W'':World}(e:Ext i tag tag' W W')(m:Mod (zaf i tag) W W')(m':Mod (zaf i tag') W' W''):Mod (zaf i tag) W W'':=by
 refine m.then m' (fun g hg=>?_);by_cases q:g<W.heap.size
 ·exact .inl (by unfold zaf at hg ⊢;rw[e.old g q]at hg;exact hg)
 ·exact .inr (by omega)
theorem zI.add{tag:Nat→Nat×Nat}{i b db:Nat}{W:World}{c:CS}{d:Drf}{tag':Nat→Nat×Nat}{j:CV}{a g:Value}{l':List (Frm×Value)}{W' W'':World}{f:Frm}{e:Ending}(h:zI tag i b db W c d tag' j a g l' W')(hd:zpl tag' i db W' d f e W'') :
  e = .returned (.bool (d.add f).isSome)∧∃tag2 bv2 fv2 l2,zI tag i b db W c ((d.add f).getD d) tag2 j bv2 fv2 l2 W'':=by
 obtain⟨rfl,tag2,bv2,fv2,l2,h1,h2,h3⟩:=hd;exact⟨rfl,tag2,bv2,fv2,l2,h.c.modR h.e.out h.p h3 h2.old,h1,h.e.trans h2.ext h.m.size,zan h.e h.m (zb7 h3),h.p⟩
theorem zI.store{tag:Nat→Nat×Nat}{i b db:Nat}{W:World}{c c':CS}{d:Drf}{tag':Nat→Nat×Nat}{g:CV}{a f:Value}{n:List (Frm×Value)}{W':World}(h:zI tag i b db W c d tag' g a f n W')(j:Nat)(v:Value)(hc:(zr c g).set j v=zr c' g)(s:zbH c c') :
  zI tag i b db W c' d tag' g a f n (W'.setCell ⟨b,j,none⟩ v):=by
 have k:Mod (fun q=>q=b) W' (W'.setCell ⟨b,j,none⟩ v):=(Mod.refl (fun q=>q=b) _).setCell (p:=⟨b,j,none⟩) (.inl rfl) _;exact⟨h.c.store j v hc s,h.d.modC k (fun q l=>⟨1,by decide,by decide,by rw[l,h.c.tb]⟩) (fun _ _=>rfl),⟨h.e.old,h.e.new,h.e.out.mod k⟩,zan h.e h.m (k.mono (fun q l=>.inl (zbk (r:=1) (by rw[show q=b from l];exact h.c.tb) (by decide)))),h.p⟩
theorem zI.mod0{tag:Nat→Nat×Nat}{i b db:Nat}{W:World}{c:CS}{d:Drf}{tag':Nat→Nat×Nat}{g:CV}{a f:Value}{j:List (Frm×Value)}{W' W'':World}(h:zI tag i b db W c d tag' g a f j W')(m:Mod NoB W' W''):zI tag i b db W c d tag' g a f j W'' :=
 ⟨h.c.mod0 m,h.d.modC m (fun _ x=>x.elim) (fun _ _=>rfl),⟨h.e.old,h.e.new,h.e.out.mod m⟩,h.m.trans (m.mono (fun _ x=>x.elim)),h.p⟩
theorem zdb{α : Type}(f:Nat → α)(k:Nat)(x y : α):upd (upd f k x) k y=upd f k y:=by
 funext j;by_cases h:j=k
 ·rw[h,zf,zf]
 ·rw[ze _ _ h,ze _ _ h,ze _ _ h]
theorem same_r(c:CS)(k:Nat)(x:RS)(h1:x.b=(c.rs k).b)(h3:x.came.rs=(c.rs k).came.rs):zbH c { c with rs:=upd c.rs k x } :=
 ⟨rfl,fun _ _=>⟨rfl,rfl,rfl⟩,fun q _=>by
  by_cases a:q=k
  ·subst a;simp only[zf];exact⟨h1,h3⟩
  ·simp[ze _ _ a],rfl,rfl,rfl,rfl⟩
theorem zI.storeR{tag:Nat→Nat×Nat}{i b db:Nat}{W:World}{c:CS}{d:Drf}{tag':Nat→Nat×Nat}{e:CV}{f g:Value}{l:List (Frm×Value)}{W':World}(h:zI tag i b db W c d tag' e f g l W'){k:Nat}(hk:k<8)(j:Nat)(hj:j<13)(v:Value)(x:RS)(hx:zbO x (e.rb k) (e.rc k)=(zbO (c.rs k) (e.rb k) (e.rc k)).set j v)(h1:x.b=(c.rs k).b)(h3:x.came.rs=(c.rs k).came.rs) :
  zI tag i b db W { c with rs:=upd c.rs k x } d tag' e f g l (W'.setCell ⟨b,129+13*k+j,none⟩ v):=by
 refine h.store _ _ (zbp _ _ _ _ _ hk hj (fun q _=>?_) rfl rfl rfl) (same_r c k x h1 h3);by_cases a:q=k
 ·subst a;simp only[zf,if_true];exact hx
 ·simp only[ze _ _ a,if_neg a]
theorem zI.granted{tag:Nat→Nat×Nat}{i b db:Nat}{W:World}{c:CS}{d:Drf}{tag':Nat→Nat×Nat}{f:CV}{a e:Value}{g:List (Frm×Value)}{W':World}(h:zI tag i b db W c d tag' f a e g W'){k:Nat}(hk:k<8)(m:Nat) :
  zI tag i b db W { c with rs:=upd c.rs k { c.rs k with grant:=m,anew:=false } } d tag' f a e g ((W'.setCell ⟨b,129+13*k+11,none⟩ (.int .u64 (m:Int))).setCell ⟨b,129+13*k+12,none⟩ (.bool false)):=by
 have h1:=h.storeR hk 11 (by decide) (.int .u64 (m:Int)) { c.rs k with grant:=m } rfl rfl rfl;have h2:=h1.storeR hk 12 (by decide) (.bool false) { c.rs k with grant:=m,anew:=false } (by simp only[zf];rfl) (by simp only[zf]) (by simp only[zf]);simp only[zdb]at h2;exact h2
theorem zI.grantedAll{tag:Nat→Nat×Nat}{i b db:Nat}{W:World}{c:CS}{d:Drf}{tag':Nat→Nat×Nat}{a:CV}{e f:Value}{g:List (Frm×Value)}{W':World}(h:zI tag i b db W c d tag' a e f g W')(m:Nat) :
  zI tag i b db W { c with grant:=m,anew:=false } d tag' a e f g ((W'.setCell ⟨b,234,none⟩ (.int .u64 (m:Int))).setCell ⟨b,235,none⟩ (.bool false)):=by
 have h1:zI tag i b db W { c with grant:=m } d tag' a e f g (W'.setCell ⟨b,234,none⟩ (.int .u64 (m:Int))):=h.store (233+1) _ (zV c { c with grant:=m } a a _ rfl rfl rfl rfl) ⟨rfl,fun _ _=>⟨rfl,rfl,rfl⟩,fun _ _=>⟨rfl,rfl⟩,rfl,rfl,rfl,rfl⟩;exact h1.store (233+2) _ (zV { c with grant:=m } { c with grant:=m,anew:=false } a a _ rfl rfl rfl rfl) ⟨rfl,fun _ _=>⟨rfl,rfl,rfl⟩,fun _ _=>⟨rfl,rfl⟩,rfl,rfl,rfl,rfl⟩
structure CtlOk(c:CS):Prop where
 win:c.window≤4096
 tot:c.total≤4096
 grant:c.grant≤zA
 used:∀k,k<8→(c.rs k).used≤zA∧(c.rs k).grant≤zA
 hopes:∀k,k<8→(c.rs k).hopes=true→(c.rs k).used+c.window≤zA
 cut:∀k,k<8→(c.ws k).keep≤(c.ws k).final∧(c.ws k).final≤zA
theorem zI.telling{tag:Nat→Nat×Nat}{i b db:Nat}{W:World}{c:CS}{d:Drf}{tag':Nat→Nat×Nat}{g:CV}{e f:Value}{j:List (Frm×Value)}{W':World}(h:zI tag i b db W c d tag' g e f j W'){k:Nat}(hk:k<8) :
  zI tag i b db W { c with ws:=upd c.ws k { c.ws k with telling:=true } } d tag' g e f j (W'.setCell ⟨b,9+15*k+13,none⟩ (.bool true)):=by
 refine h.store _ _ (zar _ _ _ _ _ hk (by decide) (fun q _=>?_) rfl rfl rfl) ⟨rfl,fun q _=>?_,fun _ _=>⟨rfl,rfl⟩,rfl,rfl,rfl,rfl⟩
 ·by_cases a:q=k
  ·subst a;simp only[zf,if_true];rfl
  ·simp only[ze _ _ a,if_neg a]
 ·by_cases a:q=k
  ·subst a;simp[zf]
  ·simp[ze _ _ a]
def zp5(c:CS)(d:Drf)(k n:Nat)(x:WS):Option Drf→Option (CS×Drf)
 | some d'=>some ({ c with ws:=upd c.ws k { x with telling:=true } },d')
 | none=>zfi c d n (k+1)
def zpn(c:CS)(d:Drf)(m:Nat):Option Drf→Option (CS×Drf)
 | some d'=>some ({ c with grant:=m,anew:=false },d')
 | none=>zfi c d 8 0
theorem ziz{tag:Nat→Nat×Nat}{i b db:Nat}{c:CS}{V:CV}{d:Drf}{bv fv:Value}{l:List (Frm×Value)}{W:World}(h:zg tag i b c V W)(hD:zae tag i db d bv fv l W)(E:Env i tag W)(ok:CtlOk c)(ad:d.b.length≤1073741824)(ae:d.fs.length≤1073741824) :
  Calls Tryz.prog 145 #[.pointer (some ⟨b,0,none⟩),.pointer (some ⟨db,0,none⟩)] W (za7 tag i b db W ((c.control d).getD (c,d)).1 ((c.control d).getD (c,d)).2 (c.control d).isSome):=by
 have S0:Hid (zI tag i b db W c d tag V bv fv l W):=zb ⟨h,hD,Ext.same E.ok (Mod.refl NoB _),Mod.refl _ _,E.pos⟩;have c2:W.cell? ⟨b,2,none⟩=some (.int .i64 (c.total:Int)):=h.hd (j:=2) rfl;obtain⟨R,hR⟩:=nm (c.control d);rw[hR];have HR:=zb hR;have OK:=zb ok;have aJ:=ok.tot;have aK:IntKind.u64.wrap (c.total:Int)=(c.total:Int):=by rw[IntKind.wrap_u64];omega
 obtain⟨T,hT⟩:=nm c.total;rw[hT]at c2 aK;have HT:=zb hT;obtain⟨RR,aL⟩:=nm (zgE c d 8 0 c.total);have ap:=zb aL;clear h hD E ok hR aJ hT aL;go_enter Tryz.func145,Tryz.ntmps145;go_wp2_with fail;clear c2 aK
 go_loopw [5,17] (fun tv kv wr=>∃k t tag' V' bv' fv' l',k≤8∧tv = .int .u64 ((t:Nat):Int)∧kv = .int .i64 ((k:Nat):Int)∧t≤zA∧Hid (zI tag i b db W c d tag' V' bv' fv' l' wr)∧Hid (zgE c d (8-k) k t=RR)) (fun _ kv _=>8-(intOf kv).toNat)
 case atStart=>exact⟨0,T,tag,V,bv,fv,l,by omega,rfl,rfl,by have:=OK.out.tot;have:=HT.out;unfold zA;omega,S0,zb (by rw[←ap.out,HT.out])⟩
 case round =>
  obtain⟨k,t,tag',V',bv',fv',l',hk,rfl,rfl,ht,L,HC⟩:=hrel;by_cases a:k<8
  ·obtain⟨n,hn⟩:∃n,8-k=n+1:=⟨7-k,by omega⟩;have X:8-(k+1)=n:=by omega
   have o:=HC.out;rw[hn]at o;unfold zgE at o;obtain⟨m,hm⟩:=nm (max (c.rs k).grant ((c.rs k).used+c.window));rw[hm]at o;have ku:=zjH L.out.c a;have kh:=zg4 L.out.c a;have aq:=zjH (L.out.c.mod0 (Mod.refl NoB wr).drew) a;have af:=zg4 (L.out.c.mod0 (Mod.refl NoB wr).drew) a;have ar:wr.cell? ⟨b,129+k*13+11,none⟩=some (.int .u64 ((c.rs k).grant:Int)):=by rw[Nat.mul_comm];exact L.out.c.r (j:=11) a rfl
   have au:wr.cell? ⟨b,129+k*13+12,none⟩=some (.bool (c.rs k).anew):=by rw[Nat.mul_comm];exact L.out.c.r (j:=12) a rfl
   have r1:wr.cell? ⟨b,1,none⟩=some (.int .i64 (c.window:Int)):=L.out.c.hd (j:=1) rfl;obtain⟨q1,q2⟩:=OK.out.used k a;have q3:=OK.out.hopes k a;have q4:=OK.out.win;obtain⟨u,hu⟩:=nm ((c.rs k).used);obtain⟨g,hg⟩:=nm ((c.rs k).grant);obtain⟨an,M⟩:=nm ((c.rs k).anew);obtain⟨hp,av⟩:=nm ((c.rs k).hopes);obtain⟨win,Q⟩:=nm c.window;rw[hu]at ku aq q1 q3 o;rw[hg]at ar q2 o;rw[M]at au o;rw[av]at kh af q3 o;rw[Q]at r1 q3 q4;rw[hu,hg,Q]at hm;have ah:=zb hm;have o:=zb o;have HX:=zb (And.intro hu (And.intro hg (And.intro M (And.intro av Q))));have HN:=zb (And.intro hn X);unfold zA at ht q1 q2 q3;have aY:IntKind.u64.wrap ((t:Int)+u)=(t:Int)+u:=by rw[IntKind.wrap_u64];omega
   have aZ:IntKind.u64.wrap (win:Int)=(win:Int):=by rw[IntKind.wrap_u64];omega
   have a0:IntKind.u64.wrap ((u:Int)+win)=(u:Int)+win:=by rw[IntKind.wrap_u64];omega
   obtain⟨t2,aw⟩:=nm (min (t+u) zA);have aM:=zb aw;have Y:t2≤4611686018427387903:=by rw[←aw];exact Nat.min_le_right _ _
   have Z:=zb q3;clear hu hg M av Q hn X aw q3 hm;go_upto_region 6 with fail
   go_cut [5] (fun tv J=>tv = .int .u64 (t2:Int)∧J=wr)
   case first =>
    go_wp2_with (go_at_call 196;refine ku.mono ?_;rintro _ _ ⟨rfl,rfl⟩);all_goals
     go_meet;have aN:=aM.out;unfold zA at aN;exact⟨by congr 1;omega,rfl⟩
   case rest =>
   obtain⟨rfl,hw⟩:=hcut;have hw:=hw.symm;subst hw;go_upto_region 7 with fail
   go_cut [8] (fun nv J=>nv = .int .u64 (m:Int)∧J=wr.drew)
   case first =>
    refine zl 15 (fun w'=>w'=wr.drew) (rfl) ?_;refine GI 0 ?_;iterate 5
     refine GS rfl ?_ ?_ ?_;rotate_left
     ·(intro J f;(try dsimp only at f);subst f;go_simp)<;>(try with_reducible rfl)
     try simp only[PS]
    refine GI 6 ?_;iterate 6
     refine GS rfl ?_ ?_ ?_;rotate_left
     ·(intro J f;(try dsimp only at f);subst f;go_simp)<;>(try with_reducible rfl)
     try simp only[PS]
    refine zx 5 rfl (fun K hK=>?_);go_simp;refine aq.mono ?_;rintro _ _ ⟨rfl,rfl⟩;refine hK.out _ _ rfl ?_;clear hK K;try simp only[PS]
    refine GI 12 ?_;refine GS rfl ?_ ?_ ?_;rotate_left
    ·(intro J f;(try dsimp only at f);subst f;go_simp)<;>(try with_reducible rfl)
    try simp only[PS]
    refine zby (i:=13) (v:=.int .u64 (m:Int)) rfl (by kernel_rfl) (fun _ _ _ h=>h) (Or.inl ⟨by rfl,?_⟩) ?_
    ·intro J f;subst f;go_simp;have:=ah.out;split<;>omega
    try simp only[PS]
    refine GI 14 ?_;refine GS rfl ?_ ?_ ?_;rotate_left
    ·(intro J f;(try dsimp only at f);subst f;go_simp)<;>(try with_reducible rfl)
    try simp only[PS]
    refine zo ?_;go_wp2_with fail;go_meet;exact⟨rfl,rfl⟩
   case rest =>
   obtain⟨rfl,hw⟩:=hcut;subst hw;have ai:=zb (L.out.mod0 ((Mod.refl NoB wr).drew));have aO:m≤4611686018427387903∨hp=false:=by
    cases hp
    ·exact .inr rfl
    ·have:=ah.out;have:=Z.out rfl;exact .inl (by omega)
   obtain⟨dn,s⟩:=nm (d.add (zlX k m));have z:=zb s;have ax:=o.out;rw[s,aM.out]at ax;have F:=zb ax;have a9:wr.drew.cell? ⟨b,129+k*13+11,none⟩=some (.int .u64 (g:Int)):=ar;have ba:wr.drew.cell? ⟨b,129+k*13+12,none⟩=some (.bool an):=au;clear s ax o ku kh aq r1 q1 q2 aY aZ a0 ar au;have D:g<m∨(¬g<m∧an=true)∨(¬g<m∧an=false):=by
    by_cases e:g<m
    ·exact .inl e
    ·cases an
     ·exact .inr (.inr ⟨e,rfl⟩)
     ·exact .inr (.inl ⟨e,rfl⟩)
   rcases D with hA|⟨hA,rfl⟩|⟨hA,rfl⟩;rotate_left;rotate_left
   ·have H:Hid (zgE c d (8-(k+1)) (k+1) t2=RR):=by
     show _=_;rw[HN.out.2,←F.out];simp[hA]
    clear F;go_wp2_with fail;go_roundw
    case rel=>exact⟨k+1,t2,tag',V',bv',fv',l',by omega,rfl,by go_num,Y,ai,H⟩
    case measure=>simp[intOf];omega
   all_goals
    cases hp
    ·have H:Hid (zgE c d (8-(k+1)) (k+1) t2=RR):=by
      show _=_;rw[HN.out.2,←F.out];simp
     clear F;go_wp2_with (go_at_call 197;refine af.mono ?_;rintro _ W9 ⟨rfl,mh⟩);have S9:=zb (ai.out.mod0 mh);go_roundw
     case rel=>exact⟨k+1,t2,tag',V',bv',fv',l',by omega,rfl,by go_num,Y,S9,H⟩
     case measure=>simp[intOf];omega
    ·have aa:m≤zA:=by
      rcases aO with e|e
      ·exact e
      ·cases e
     have aj:=zb aa;clear aO aa;cases dn with
     | none =>
      have H:Hid (zgE c d (8-(k+1)) (k+1) t2=RR):=by
       show _=_;rw[HN.out.2,←F.out];simp
      clear F;go_wp2_with (first|(go_at_call 197;refine af.mono ?_;rintro _ W9 ⟨rfl,mh⟩;have S9:=zb (ai.out.mod0 mh);clear mh)|(go_at_call 142;refine(zcE S9.out.d S9.out.ok S9.out.p (zlX k m) (ziy a aj.out) ad ae).mono ?_;intro e W1 hd;obtain⟨rfl,tag2,A,B,l2,q⟩:=S9.out.add hd;rw[z.out]at q;rw[z.out];have q:=zb q;clear hd));go_roundw
      case rel=>exact⟨k+1,t2,tag2,V',A,B,l2,by omega,rfl,by go_num,Y,q,H⟩
      case measure=>simp[intOf];omega
     | some d1 =>
      have aP:Hid (R=some ({ c with rs:=upd c.rs k { c.rs k with grant:=m,anew:=false } },d1)):=by
       show _=_;have e1:=F.out;rw[if_pos (by simp[hA])]at e1;rw[←HR.out,CS.control,ap.out,←e1]
      clear F;go_wp2_with (go_at_call 197;refine af.mono ?_;rintro _ W9 ⟨rfl,mh⟩;have S9:=zb (ai.out.mod0 mh);clear mh);refine(zcE S9.out.d S9.out.ok S9.out.p (zlX k m) (ziy a aj.out) ad ae).mono ?_;intro e W1 hd;obtain⟨rfl,tag2,A,B,l2,q⟩:=S9.out.add hd;rw[z.out]at q;rw[z.out];clear hd;have w11:W1.cell? ⟨b,129+k*13+11,none⟩=some (.int .u64 ((c.rs k).grant:Int)):=by
       rw[Nat.mul_comm k 13];exact q.c.r (j:=11) a rfl
      have w12:W1.cell? ⟨b,129+k*13+12,none⟩=some (.bool (c.rs k).anew):=by
       rw[Nat.mul_comm k 13];exact q.c.r (j:=12) a rfl
      have wf:∀p,W1.frozen? ⟨b,p,none⟩=false:=fun p=>q.c.fz p
      have q:=zb q;go_wp2_with fail;go_ret;rw[aP.out];have G:=q.out.granted a m;rw[Nat.mul_comm 13 k]at G;exact G.post true
  ·have ay:k=8:=by omega
   subst ay;have ab:Hid (RR=(none,t)):=zb HC.out.symm;have aQ:Hid (R=zqM c d t):=by
    show _=_;rw[←HR.out,CS.control,ap.out,ab.out]
   clear HC;have aR:wr.cell? ⟨b,234,none⟩=some (.int .u64 (c.grant:Int)):=L.out.c.tl (j:=1) rfl;have aS:wr.cell? ⟨b,235,none⟩=some (.bool c.anew):=L.out.c.tl (j:=2) rfl;have a1:=OK.out.grant;obtain⟨m,hm⟩:=nm (max t c.grant);have aa:m≤zA:=by omega
   have aj:=zb aa;have C:Hid (R=if decide (c.grant<m)||c.anew then zpn c d m (d.add (zld m))else zfi c d 8 0):=by
    show _=_;rw[aQ.out];unfold zqM;rw[hm];cases d.add (zld m)<;>rfl
   obtain⟨dn,s⟩:=nm (d.add (zld m));have z:=zb s;rw[s]at C;obtain⟨g,hg⟩:=nm c.grant;obtain⟨an,M⟩:=nm c.anew;have HG:=zb hg;have aT:=zb M;rw[hg]at aR hm;rw[M]at aS;have ah:=zb hm;clear hg M hm s aa a1 aQ ab;go_upto_region 12 with fail
   go_cut [5] (fun tv J=>tv = .int .u64 (m:Int)∧J=wr)
   case first =>
    go_wp2_with fail;all_goals
     go_meet;have aN:=ah.out;exact⟨by congr 1;omega,rfl⟩
   case rest =>
   obtain⟨rfl,hw⟩:=hcut;have hw:=hw.symm;subst hw;go_upto_region 13 with fail
   go_cut [98] (fun rv J=>∃(r:Bool) (U:Drf) (tag2:Nat→Nat×Nat) (A B:Value) (l2:List (Frm×Value)),rv = .bool r∧Hid (zI tag i b db W c U tag2 V' A B l2 J)∧Hid ((r=true∧R=some ({ c with grant:=m,anew:=false },U))∨(r=false∧U=d∧R=zfi c d 8 0)))
   case first =>
    have D:g<m∨(¬g<m∧an=true)∨(¬g<m∧an=false):=by
     by_cases e:g<m
     ·exact .inl e
     ·cases an
      ·exact .inr (.inr ⟨e,rfl⟩)
      ·exact .inr (.inl ⟨e,rfl⟩)
    rcases D with hA|⟨hA,rfl⟩|⟨hA,rfl⟩;rotate_left;rotate_left
    ·have H:Hid (R=zfi c d 8 0):=by
      show _=_;rw[C.out,HG.out,aT.out];simp[hA]
     clear C;go_wp2_with fail;go_meet;exact⟨false,d,tag',bv',fv',l',rfl,L,zb (.inr ⟨rfl,rfl,H.out⟩)⟩
    all_goals
     have aU:Hid (R=zpn c d m dn):=by
      show _=_;rw[C.out,if_pos (by rw[HG.out,aT.out];simp[hA])]
     clear C;go_wp2_with fail;refine(zcE L.out.d L.out.ok L.out.p (zld m) (zlY aj.out) ad ae).mono ?_;intro e W1 hd;obtain⟨rfl,tag2,A,B,l2,q⟩:=L.out.add hd;rw[z.out]at q;rw[z.out];have q:=zb q;clear hd;cases dn with
     | none =>
      go_wp2_with fail;go_meet;exact⟨false,d,tag2,A,B,l2,rfl,q,zb (.inr ⟨rfl,rfl,aU.out⟩)⟩
     | some d1 =>
      go_wp2_with fail;go_meet;exact⟨true,d1,tag2,A,B,l2,rfl,q,zb (.inl ⟨rfl,aU.out⟩)⟩
   case rest =>
   obtain⟨r,U,tag2,A,B,l2,rfl,q,HQ⟩:=hcut;have aV:wc.cell? ⟨b,234,none⟩=some (.int .u64 (c.grant:Int)):=q.out.c.tl (j:=1) rfl;have aW:wc.cell? ⟨b,235,none⟩=some (.bool c.anew):=q.out.c.tl (j:=2) rfl;have wf:∀p,wc.frozen? ⟨b,p,none⟩=false:=fun p=>q.out.c.fz p
   clear aR aS C;cases r
   ·have HN:Hid (U=d∧R=zfi c d 8 0):=by
     rcases HQ.out with⟨e,_⟩|⟨_,e1,e2⟩
     ·cases e
     ·exact⟨e1,e2⟩
    clear HQ aV aW wf;go_wp2_with fail;have a2:Hid (zI tag i b db W c d tag2 V' A B l2 wc):=by
     have:=q.out;rw[HN.out.1]at this;exact this
    have a3:Hid (zfi c d 8 0=R):=zb HN.out.2.symm;clear HN q
    go_loopw [106] (fun kv wy=>∃(k:Nat) (S:Nat→Nat×Nat) (ak al:Value) (l3:List (Frm×Value)),k≤8∧kv = .int .i64 k∧Hid (zI tag i b db W c d S V' ak al l3 wy)∧Hid (zfi c d (8-k) k=R)) (fun kv _=>8-(intOf kv).toNat)
    case atStart=>exact⟨0,tag2,A,B,l2,by omega,rfl,a2,a3⟩
    case round =>
     obtain⟨k,S,ak,al,l3,hk,rfl,SY,HC⟩:=hrel;by_cases a:k<8
     ·obtain⟨n,hn⟩:∃n,8-k=n+1:=⟨7-k,by omega⟩;have X:8-(k+1)=n:=by omega
      have o:=HC.out;rw[hn]at o;unfold zfi at o;obtain⟨z1,z2⟩:=OK.out.cut k a;have ao:=zlZ a z2 z1;obtain⟨x,hx⟩:=nm (c.ws k);have az:wr.cell? ⟨b,9+k*15+10,none⟩=some (.bool (c.ws k).cut):=by rw[Nat.mul_comm k 15];exact SY.out.c.w (j:=10) a rfl
      have aA:wr.cell? ⟨b,9+k*15+13,none⟩=some (.bool (c.ws k).telling):=by rw[Nat.mul_comm k 15];exact SY.out.c.w (j:=13) a rfl
      have aB:wr.cell? ⟨b,9+k*15+12,none⟩=some (.int .u64 ((c.ws k).final:Int)):=by rw[Nat.mul_comm k 15];exact SY.out.c.w (j:=12) a rfl
      have aC:wr.cell? ⟨b,9+k*15+11,none⟩=some (.int .u64 ((c.ws k).keep:Int)):=by rw[Nat.mul_comm k 15];exact SY.out.c.w (j:=11) a rfl
      have I:=fun Wd (md:Mod NoB wr Wd)=>zcE (SY.out.mod0 md).d (SY.out.mod0 md).ok SY.out.p (zpm k (c.ws k).final (c.ws k).keep) ao ad ae
      have HX:=zb hx;rw[hx]at az aC aB aA I;rw[hx]at o;obtain⟨cu,aD⟩:=nm x.cut;obtain⟨te,aE⟩:=nm x.telling;obtain⟨fn,aF⟩:=nm x.final;obtain⟨kp,aG⟩:=nm x.keep;rw[aD]at az o;rw[aE]at aA o;rw[aF]at aB I o;rw[aG]at aC I o;have aX:=zb (And.intro aF aG);have ac:=zb I;obtain⟨dn,s⟩:=nm (d.add (zpm k fn kp));rw[s]at o;have z:=zb s;have ab:=zb (And.intro aD aE);have o:=zb o;have aH:=zb X;clear HC hn X z1 z2 ao hx I s aD aE aF aG;cases cu
      ·have H:Hid (zfi c d (8-(k+1)) (k+1)=R):=by
        show _=_;rw[aH.out,←o.out];rfl
       clear o;clear ac;go_wp2_with fail;go_quiet (fail);go_wp2_with fail;go_roundw
       case rel=>exact⟨k+1,S,ak,al,l3,by omega,by go_num,zb (SY.out.mod0 ((Mod.refl NoB wr).drewN _)),H⟩
       case measure=>simp[intOf];omega
      ·cases te
       ·have H:Hid (zp5 c d k (8-(k+1)) x dn=R):=by
         show _=_;rw[aH.out,←o.out];cases dn<;>rfl
        clear o;go_upto_region 20 with fail
        go_cut [138] (fun rv J=>∃(r:Bool) (U:Drf) (y:Nat→Nat×Nat) (N O:Value) (l4:List (Frm×Value)),rv = .bool r∧Hid (zI tag i b db W c U y V' N O l4 J)∧Hid ((r=true∧dn=some U)∨(r=false∧U=d∧dn=none)))
        case first =>
         clear H;refine zl 25 (fun w'=>w'.cell? ⟨b,9+k*15+10,none⟩=some (.bool true)∧w'.cell? ⟨b,9+k*15+13,none⟩=some (.bool false)∧w'.cell? ⟨b,9+k*15+12,none⟩=some (.int .u64 (fn:Int))∧w'.cell? ⟨b,9+k*15+11,none⟩=some (.int .u64 (kp:Int))) (⟨az,aA,aB,aC⟩) ?_;refine GI 0 ?_;iterate 23
          refine GS rfl ?_ ?_ ?_;rotate_left
          ·(intro J f;(try dsimp only at f);obtain⟨a4,a5,a6,a7⟩:=f;go_simp)<;>(try with_reducible rfl)
          try simp only[PS]
         refine zx 23 rfl (fun K hK=>?_);go_simp;refine(ac.out _ ((Mod.refl NoB wr).drew)).mono ?_;intro e W1 hd;obtain⟨rfl,y,N,O,l4,P⟩:=(SY.out.mod0 ((Mod.refl NoB wr).drew)).add hd;rw[z.out]at P;rw[z.out];clear hd;have W4:W1.cell? ⟨b,9+k*15+10,none⟩=some (.bool true)∧W1.cell? ⟨b,9+k*15+13,none⟩=some (.bool false)∧W1.cell? ⟨b,9+k*15+12,none⟩=some (.int .u64 (fn:Int))∧W1.cell? ⟨b,9+k*15+11,none⟩=some (.int .u64 (kp:Int)):=by
          rw[←ab.out.1,←ab.out.2,←aX.out.1,←aX.out.2,←HX.out,Nat.mul_comm k 15];exact⟨P.c.w (j:=10) a rfl,P.c.w (j:=13) a rfl,P.c.w (j:=12) a rfl,P.c.w (j:=11) a rfl⟩
         have P:=zb P;refine hK.out _ _ W4 ?_;clear hK K;try simp only[PS]
         refine GI 24 ?_;refine GS rfl ?_ ?_ ?_;rotate_left
         ·(intro J f;(try dsimp only at f);obtain⟨a4,a5,a6,a7⟩:=f;go_simp)<;>(try with_reducible rfl)
         try simp only[PS]
         refine zo ?_;go_wp2_with fail;go_meet;cases dn with
         | none=>exact⟨false,d,y,N,O,l4,rfl,P,zb (.inr ⟨rfl,rfl,rfl⟩)⟩
         | some d1=>exact⟨true,d1,y,N,O,l4,rfl,P,zb (.inl ⟨rfl,rfl⟩)⟩
        case rest =>
        obtain⟨r,U,y,N,O,l4,rfl,P,am⟩:=hcut;cases r
        ·have Z:Hid (U=d∧dn=none):=by
          rcases am.out with⟨e,_⟩|⟨_,e1,e2⟩
          ·cases e
          ·exact⟨e1,e2⟩
         have S5:Hid (zI tag i b db W c d y V' N O l4 wc):=by
          rw[←Z.out.1];exact P
         have aI:Hid (zfi c d (8-(k+1)) (k+1)=R):=by
          have:=H.out;rw[Z.out.2]at this;exact this
         clear H am Z P;go_wp2_with fail;go_roundw
         case rel=>exact⟨k+1,y,N,O,l4,by omega,by go_num,S5,aI⟩
         case measure=>simp[intOf];omega
        ·have aI:Hid (some ({ c with ws:=upd c.ws k { x with telling:=true } },U)=R):=by
          have:=H.out;rcases am.out with⟨_,e⟩|⟨e,_⟩
          ·rw[e]at this;exact this
          ·cases e
         have wf:∀p,wc.frozen? ⟨b,p,none⟩=false:=fun p=>P.out.c.fz p
         have u13:wc.cell? ⟨b,9+k*15+13,none⟩=some (.bool (c.ws k).telling):=by rw[Nat.mul_comm k 15];exact P.out.c.w (j:=13) a rfl
         clear H am;go_wp2_with fail;go_ret;rw[←aI.out];have G:=P.out.telling a;rw[HX.out,Nat.mul_comm 15 k]at G;exact G.post true
       ·have H:Hid (zfi c d (8-(k+1)) (k+1)=R):=by
         show _=_;rw[aH.out,←o.out];rfl
        clear o ac;go_wp2_with fail;go_quiet (fail);go_wp2_with fail;go_roundw
        case rel=>exact⟨k+1,S,ak,al,l3,by omega,by go_num,zb (SY.out.mod0 ((Mod.refl NoB wr).drewN _)),H⟩
        case measure=>simp[intOf];omega
     ·have ay:k=8:=by omega
      subst ay;have a8:Hid (R=none):=zb HC.out.symm;clear HC;go_wp2_with fail;go_ret;rw[a8.out];exact SY.out.post false
   ·have HN:Hid (R=some ({ c with grant:=m,anew:=false },U)):=by
     rcases HQ.out with⟨_,e⟩|⟨e,_⟩
     ·exact e
     ·cases e
    clear HQ;go_wp2_with fail;go_ret;rw[HN.out];exact(q.out.grantedAll m).post true
def zaZ(p:Nat→Bool)(n:Nat):Nat:=(List.range n).findIdx p
theorem zfH{p:Nat→Bool}{n m:Nat}(h:zag n p m)(b:∀i j,i≤j→j<n→p i=true→p j=true):zaZ p n=m:=by
 obtain⟨h1,h2,h3⟩:=h;unfold zaZ;by_cases hn:m=n
 ·subst hn;have:∀x∈List.range m,p x=false:=fun x a=>by
   have a:x<m:=by simpa using a
   cases hq:p x
   ·rfl
   ·have:=b x (m-1) (by omega) (by omega) hq;rw[h2 (by omega)]at this;cases this
  rw[List.findIdx_eq_length.2 (fun x a=>by rw[this x a])];simp
 ·refine(List.findIdx_eq (by rw[List.length_range];omega)).2 ⟨by rw[List.getElem_range];exact h3 (by omega),fun j hj=>?_⟩;simp only[List.getElem_range];cases hq:p j
  ·rfl
  ·have:=b j (m-1) (by omega) (by omega) hq;rw[h2 (by omega)]at this;cases this
def zaQ.add(s:zaQ)(lo hi:Nat):zaQ :=
 if hi<max lo s.fl then s else
 if s.most<(zbw s.rs (max lo s.fl) hi (zaZ (zel s.rs (max lo s.fl)) s.rs.length) (zaZ (zaH s.rs hi) s.rs.length)).length then
  ⟨(zbw s.rs (max lo s.fl) hi (zaZ (zel s.rs (max lo s.fl)) s.rs.length) (zaZ (zaH s.rs hi) s.rs.length)).drop 1,hiAt (zbw s.rs (max lo s.fl) hi (zaZ (zel s.rs (max lo s.fl)) s.rs.length) (zaZ (zaH s.rs hi) s.rs.length)) 0+1,s.most⟩
 else⟨zbw s.rs (max lo s.fl) hi (zaZ (zel s.rs (max lo s.fl)) s.rs.length) (zaZ (zaH s.rs hi) s.rs.length),s.fl,s.most⟩
theorem zl2{rs:zD}{m:Nat}(hw:WF rs):∀i j,i≤j→j<rs.length→zel rs m i=true→zel rs m j=true:=by
 intro i j a hj h;have hm:=(zgh hw a hj).2;simp only[zel,Bool.or_eq_true,decide_eq_true_eq]at h ⊢;omega
theorem ziB{rs:zD}{m:Nat}(hw:WF rs):∀i j,i≤j→j<rs.length→zaH rs m i=true→zaH rs m j=true:=by
 intro i j a hj h;have hm:=(zgh hw a hj).1;simp only[zaH,Bool.and_eq_true,decide_eq_true_eq]at h ⊢;omega
def zp7(s:zaQ)(b o lo hi:Nat)(v:Value)(w:World)(e:Ending)(w':World):Prop :=
 ∃v',e = .returned (.tuple #[])∧w'.ownsRow 0 214 2 v' (s.add lo hi).rs.length (zn (s.add lo hi).rs)∧w'.heap[b]?=((w.setCell ⟨b,o,none⟩ v').setCell ⟨b,o+1,none⟩ (.int .u64 ((s.add lo hi).fl:Int))).heap[b]? ∧
  Mod (fun k=>k=b∨v.ownBlock=some k) w w'∧zaG w v v'
theorem zcj(s:zaQ)(b o lo hi:Nat)(v:Value)(w:World)(h:zbz w b o v s.rs s.fl s.most)(a:WF s.rs)(q:lo<18446744073709551616)(j:hi<18446744073709551616)(r:s.fl<18446744073709551616)
  (t:v.ownBlock≠some b) (d:1≤s.most) (c:s.most≤9223372036854775807) :
  Calls Tryz.prog 88 #[.pointer (some ⟨b,o,none⟩),.int .u64 lo,.int .u64 hi] w (zp7 s b o lo hi v w):=by
 have A:∀g,v.ownBlock=some g→g<w.heap.size:=zE h.own;by_cases k:max lo s.fl≤hi
 ·refine(add_in s.rs s.fl s.most b o lo hi v w h a q j r A t k d c (fun m1 m2 h1 h2=>zjI a k j h1 h2)).mono ?_;rintro e w' ⟨m1,m2,v',u,y,h1,h2,f,rfl,l,i,n,z⟩;have p:=zfH h1 (zl2 a);have e2:=zfH h2 (ziB a);have hs:s.add lo hi=⟨u,y,s.most⟩:=by
   unfold zaQ.add;rw[if_neg (by omega),p,e2];split at f
   ·rename_i hc;rw[if_pos hc];cases f;rfl
   ·rename_i hc;rw[if_neg hc];cases f;rfl
  refine⟨v',rfl,?_,?_,n,z⟩
  ·rw[hs];exact l
  ·rw[hs];exact i
 ·have hs:s.add lo hi=s:=by
   unfold zaQ.add;rw[if_pos (by omega)]
  refine(zpN s.rs s.fl s.most b o lo hi v w h A (by omega)).mono ?_;rintro e w' ⟨rfl,m⟩;have hb:=zk h.cl;refine⟨v,rfl,?_,?_,m.mono (fun _ x=>x.elim),fun g hg=>.inl hg⟩
  ·rw[hs];exact m.owns h.own (fun _ _ x=>x)
  ·rw[hs,m.block b hb (fun x=>x)];have p:(w.setCell ⟨b,o,none⟩ v).heap[b]?=w.heap[b]?:=zax h.cl;have c2:(w.setCell ⟨b,o,none⟩ v).cell? ⟨b,o+1,none⟩=some (.int .u64 (s.fl:Int)):=(World.cell?_of_block p).trans h.cf;rw[zax c2,p]
def zbB(k lo:Nat)(fin:Bool)(s:List UInt8):Frm:=⟨4,(k:Int),lo,0,0,fin,0,0,s,[]⟩
def CS.end0(c:CS)(k:Nat):Nat:=min (min (c.ws k).b.length (c.ws k).credit) ((c.ws k).high+c.credit-min c.credit c.spent)
def CS.endOf(c:CS)(k:Nat):Nat:=if (c.ws k).cut then min (c.end0 k) (c.ws k).keep else c.end0 k
theorem zor(c:CS)(k:Nat):c.endOf k≤c.end0 k:=by
 unfold CS.endOf;split
 ·exact Nat.min_le_left _ _
 ·exact Nat.le_refl _
def WS.fin(x:WS):Bool:=x.finished && !x.cut
def CS.bytesAdd(c:CS)(d:Drf)(k lo hi:Nat)(fin:Bool):Bool×CS×Drf :=
 match d.add (zbB k lo fin (((c.ws k).b.drop lo).take (hi-lo)))with
 | none=>(false,c,{ d with full:=true })
 | some d'=>(true,{ c with ws:=upd c.ws k { c.ws k with sent:=if lo<hi then(c.ws k).sent.add lo (hi-1)else(c.ws k).sent,ending:=(c.ws k).ending||fin,high:=max (c.ws k).high hi } },d')
def CS.bytesGot(c:CS)(d:Drf)(k lo hi:Nat)(fin:Bool):Option Drf→Bool×CS×Drf
 | none=>(false,c,{ d with full:=true })
 | some d'=>(true,{ c with ws:=upd c.ws k { c.ws k with sent:=if lo<hi then(c.ws k).sent.add lo (hi-1)else(c.ws k).sent,ending:=(c.ws k).ending||fin,high:=max (c.ws k).high hi } },d')
theorem ziC(c:CS)(d:Drf)(k lo hi:Nat)(fin:Bool):c.bytesAdd d k lo hi fin=c.bytesGot d k lo hi fin (d.add (zbB k lo fin (((c.ws k).b.drop lo).take (hi-lo)))):=by
 unfold CS.bytesAdd;cases d.add (zbB k lo fin (((c.ws k).b.drop lo).take (hi-lo)))<;>rfl
def zeJ(c:CS)(d:Drf)(k lo hi:Nat):Int :=
 (d.room:Int)-4-d.b.length-(((zC (zbB k lo false (((c.ws k).b.drop lo).take (hi-lo)))).length:Int)-((hi:Int)-lo))
def CS.bytesR(c:CS)(d:Drf)(k lo hi:Nat):Bool×CS×Drf :=
 if zeJ c d k lo hi<(hi:Int)-lo then
  if zeJ c d k lo hi<1 then(false,c,{ d with full:=true })
  else c.bytesAdd d k lo (lo+(zeJ c d k lo hi).toNat) false
 else c.bytesAdd d k lo hi ((c.ws k).fin&&hi==(c.ws k).b.length)
def CS.bytes(c:CS)(d:Drf)(k:Nat):Bool×CS×Drf :=
 if c.waits≠[]∨d.full=true then(false,c,d)else
 if (zaD (c.ws k).sent.rs 0 (c.endOf k)).2≤(zaD (c.ws k).sent.rs 0 (c.endOf k)).1 then
  if (!(c.ws k).fin||(c.ws k).ending)||decide (c.endOf k<(c.ws k).b.length)then(false,c,d)
  else c.bytesR d k (c.ws k).b.length (c.ws k).b.length
 else c.bytesR d k (zaD (c.ws k).sent.rs 0 (c.endOf k)).1 (zaD (c.ws k).sent.rs 0 (c.endOf k)).2
theorem zae.modN{S:Nat→Prop}{tag:Nat→Nat×Nat}{i db:Nat}{d:Drf}{b fv:Value}{l:List (Frm×Value)}{W W':World}(h:zae tag i db d b fv l W)(m:Mod S W W')(hS:∀g,S g→(tag g).1≠i):zae tag i db d b fv l W':=by
 have q:∀{g r:Nat},tag g=(i,r)→¬S g:=fun hg x=>hS _ x (by rw[hg])
 exact⟨m.obj (q h.tb) h.obj,h.tb,m.owns h.ob (fun g hg=>q (h.tbv g hg)),h.tbv,m.owns h.own (fun g hg=>q (h.tfv g hg)),h.lf,fun x a=>⟨(h.rr x a).1.mod m (zaB fun g hg=>q ((h.rr x a).2 g hg)),(h.rr x a).2⟩,h.tfv⟩
theorem zI.free{S:Nat→Prop}{tag:Nat→Nat×Nat}{i b db:Nat}{W:World}{c:CS}{d:Drf}{tag':Nat→Nat×Nat}{j:CV}{a f:Value}{k:List (Frm×Value)}{W' W'':World}(h:zI tag i b db W c d tag' j a f k W')(m:Mod S W' W'')(l:∀g,S g→tag' g=(0,0)∧W.heap.size≤g) :
  zI tag i b db W c d tag' j a f k W'':=by
 have hp:=h.p;have q:∀g,S g→(tag' g).1≠i:=fun g hg=>by rw[(l g hg).1];simp;omega
 exact⟨h.c.mod m q (fun _ _=>rfl),h.d.modN m q,⟨h.e.old,h.e.new,h.e.out.mod m⟩,h.m.then m (fun g hg=>.inr (l g hg).2),h.p⟩
theorem zI.setFull{tag:Nat→Nat×Nat}{i b db:Nat}{W:World}{c:CS}{d:Drf}{tag':Nat→Nat×Nat}{k:CV}{a f:Value}{l:List (Frm×Value)}{W':World}(h:zI tag i b db W c d tag' k a f l W') :
  zI tag i b db W c { d with full:=true } tag' k a f l (W'.setCell ⟨db,4,none⟩ (.bool true)):=by
 have m:Mod (fun g=>g=db) W' (W'.setCell ⟨db,4,none⟩ (.bool true)):=(Mod.refl (fun g=>g=db) _).setCell (p:=⟨db,4,none⟩) (.inl rfl) _;have n:Mod (zg6 i tag') W' (W'.setCell ⟨db,4,none⟩ (.bool true)):=m.mono (fun g hg=>.inl ⟨90,by decide,by rw[hg,h.d.tb]⟩);refine⟨h.c.modR h.e.out h.p n (fun _ _=>rfl),⟨?_,h.d.tb,m.owns h.d.ob (fun g hg x=>?_),h.d.tbv,m.owns h.d.own (fun g hg x=>?_),h.d.lf,fun x j=>⟨(h.d.rr x j).1.mod m (zaB fun g hg y=>?_),(h.d.rr x j).2⟩,h.d.tfv⟩,⟨h.e.old,h.e.new,h.e.out.mod m⟩,zan h.e h.m (zb7 n),h.p⟩
 ·rw[zc h.d.obj];rfl
 ·exact zg.apart (h.d.tbv g hg) (x ▸ h.d.tb) (by decide) rfl
 ·exact zg.apart (h.d.tfv g hg) (x ▸ h.d.tb) (by decide) rfl
 ·exact zg.apart ((h.d.rr x j).2 g hg) (y ▸ h.d.tb) (by decide) rfl
theorem same_w(c:CS)(k:Nat)(x:WS)(h1:x.b=(c.ws k).b)(h2:x.sent.rs=(c.ws k).sent.rs)(h3:x.came.rs=(c.ws k).came.rs):zbH c { c with ws:=upd c.ws k x } :=
 ⟨rfl,fun q _=>by
  by_cases a:q=k
  ·subst a;simp only[zf];exact⟨h1,h2,h3⟩
  ·simp[ze _ _ a],fun _ _=>⟨rfl,rfl⟩,rfl,rfl,rfl,rfl⟩
theorem zI.storeW{tag:Nat→Nat×Nat}{i b db:Nat}{W:World}{c:CS}{d:Drf}{tag':Nat→Nat×Nat}{a:CV}{f g:Value}{l:List (Frm×Value)}{W':World}(h:zI tag i b db W c d tag' a f g l W'){k:Nat}(hk:k<8)(j:Nat)(hj:j<15)(v:Value)(x:WS)(hx:zbn x (a.wb k) (a.ws k) (a.wc k)=(zbn (c.ws k) (a.wb k) (a.ws k) (a.wc k)).set j v)(h1:x.b=(c.ws k).b)(h2:x.sent.rs=(c.ws k).sent.rs)(h3:x.came.rs=(c.ws k).came.rs) :
  zI tag i b db W { c with ws:=upd c.ws k x } d tag' a f g l (W'.setCell ⟨b,9+15*k+j,none⟩ v):=by
 refine h.store _ _ (zar _ _ _ _ _ hk hj (fun q _=>?_) rfl rfl rfl) (same_w c k x h1 h2 h3);by_cases e:q=k
 ·subst e;simp only[zf,if_true];exact hx
 ·simp only[ze _ _ e,if_neg e]
theorem zI.sentHigh{tag:Nat→Nat×Nat}{i b db:Nat}{W:World}{c:CS}{d:Drf}{tag':Nat→Nat×Nat}{g:CV}{a f:Value}{j:List (Frm×Value)}{W':World}(h:zI tag i b db W c d tag' g a f j W'){k:Nat}(hk:k<8)(e:Bool)(m:Nat) :
  zI tag i b db W { c with ws:=upd c.ws k { c.ws k with ending:=e,high:=m } } d tag' g a f j ((W'.setCell ⟨b,9+15*k+9,none⟩ (.bool e)).setCell ⟨b,9+15*k+7,none⟩ (.int .u64 (m:Int))):=by
 have h1:=h.storeW hk 9 (by decide) (.bool e) { c.ws k with ending:=e } rfl rfl rfl rfl;have h2:=h1.storeW hk 7 (by decide) (.int .u64 (m:Int)) { c.ws k with ending:=e,high:=m } (by simp only[zf];rfl) (by simp only[zf]) (by simp only[zf]) (by simp only[zf]);simp only[zdb]at h2;exact h2
theorem zI.sentAdd{tag:Nat→Nat×Nat}{i b db:Nat}{W:World}{c:CS}{d:Drf}{tag':Nat→Nat×Nat}{l:CV}{t u:Value}{A:List (Frm×Value)}{W' W'':World}{e:Ending}{lo hi:Nat}(h:zI tag i b db W c d tag' l t u A W'){k:Nat}(hk:k<8)(ha:zp7 (c.ws k).sent b (9+15*k+1) lo hi (l.ws k) W' e W'')(hm:((c.ws k).sent.add lo hi).most=(c.ws k).sent.most) :
  e = .returned (.tuple #[])∧∃tag2 V2,zI tag i b db W { c with ws:=upd c.ws k { c.ws k with sent:=(c.ws k).sent.add lo hi } } d tag2 V2 t u A W'':=by
 obtain⟨v',rfl,n,s,f,x⟩:=ha;have B:=h.p;have v:∀{g r:Nat},tag' g=(i,r)→g<W'.heap.size:=fun hg=>zaA h.e.out hg B
 have o:∀g,(tag' g).1=i→retag tag' W' W'' (i,20+k) g=tag' g:=fun g hg=>zw (v (r:=(tag' g).2) (by rw[←hg]))
 have z:∀g,(g=b∨(l.ws k).ownBlock=some g)→∃r,(r=1∨r=20+k)∧tag' g=(i,r):=fun g hg=>by
  rcases hg with hg|hg
  ·exact⟨1,.inl rfl,by rw[hg,h.c.tb]⟩
  ·exact⟨20+k,.inr rfl,h.c.tws k hk g hg⟩
 refine⟨rfl,retag tag' W' W'' (i,20+k),{ l with ws:=upd l.ws k v' },?_,?_,h.e.trans (zbj f.size) h.m.size,zan h.e h.m (f.mono (fun g hg=>.inl ?_)),B⟩
 ·refine h.c.build (R:=fun r=>r=1∨r=20+k) f z o ?_ (.inl ⟨rfl,rfl,rfl,by omega,by omega⟩) (fun q w=>.inl ⟨?_,rfl,by omega⟩) (fun q w=>?_) (fun q w=>.inl ⟨?_,rfl,by omega⟩) (fun q w=>.inl ⟨rfl,rfl,by omega⟩) (fun q w=>.inl ⟨rfl,rfl,by omega⟩) (.inl ⟨rfl,rfl,rfl,by omega,by omega⟩) (.inl ⟨rfl,rfl,by omega⟩) (.inl ⟨rfl,rfl,by omega⟩) (.inl ⟨rfl,rfl,by omega⟩)
  ·rw[s,zc (zc h.c.obj)];simp only[List.setIfInBounds_toArray];have e1:=zar c c l { l with ws:=upd l.ws k v' } (k:=k) (j:=1) v' hk (by decide) (fun q _=>by
    by_cases a:q=k
    ·subst a;simp only[zf,if_true];rfl
    ·simp only[ze _ _ a,if_neg a]) rfl rfl rfl
   rw[e1];have e2:=zar c { c with ws:=upd c.ws k { c.ws k with sent:=(c.ws k).sent.add lo hi } } { l with ws:=upd l.ws k v' } { l with ws:=upd l.ws k v' } (k:=k) (j:=2) (.int .u64 (((c.ws k).sent.add lo hi).fl:Int)) hk (by decide) (fun q _=>by
    by_cases a:q=k
    ·subst a;simp only[zf,if_true,zbn,hm];rfl
    ·simp only[ze _ _ a,if_neg a]) rfl rfl rfl
   rw[show 9+15*k+1+1=9+15*k+2 from rfl,e2]
  ·by_cases a:q=k
   ·subst a;simp only[zf]
   ·simp only[ze _ _ a]
  ·by_cases a:q=k
   ·subst a;simp only[zf];refine .inr ⟨n,fun g hg=>?_⟩;rcases x g hg with y|y
    ·rw[zw (v (h.c.tws q hk g y)),h.c.tws q hk g y]
    ·exact zaj y (zE n g hg)
   ·exact .inl ⟨by simp only[ze _ _ a],by simp only[ze _ _ a],by omega⟩
  ·by_cases a:q=k
   ·subst a;simp only[zf]
   ·simp only[ze _ _ a]
 ·exact h.d.modC f (fun g hg=>by
   obtain⟨r,hr,e⟩:=z g hg;exact⟨r,by omega,by omega,e⟩) o
 ·obtain⟨r,hr,e⟩:=z g hg;exact zbk e (by omega)
theorem zbs(s:zaQ)(lo hi:Nat):(s.add lo hi).most=s.most:=by
 unfold zaQ.add;split
 ·rfl
 ·split<;>rfl
theorem zg9{k lo:Nat}{fin:Bool}{s:List UInt8}(hk:k<8)(hl:s.length≤1048576)(a:lo+s.length≤zA):(zbB k lo fin s).Fits:=by
 have hb:=zb8 (zbB k lo fin s) rfl;have hd:(zbB k lo fin s).data.length=s.length:=rfl;refine⟨?_,rfl,by rw[hd];exact hl,by rw[hd]at hb;omega⟩;unfold zA at a;simp[zT,zaz,zh8,zbA,zK,zbB]
 and_intros<;>first|omega|exact decide_eq_true (by omega)
theorem zI.add2{tag:Nat→Nat×Nat}{i b db:Nat}{W:World}{c:CS}{d:Drf}{tag':Nat→Nat×Nat}{k:CV}{a j:Value}{l':List (Frm×Value)}{W' W'':World}{f:Frm}{e:Ending}(h:zI tag i b db W c d tag' k a j l' W')(hd:zpl tag' i db W' d f e W'') :
  e = .returned (.bool (d.add f).isSome)∧∃tag2 bv2 fv2 l2,zI tag i b db W c ((d.add f).getD d) tag2 k bv2 fv2 l2 W''∧(∀g,g<W'.heap.size→tag2 g=tag' g)∧Mod (zg6 i tag') W' W'':=by
 obtain⟨rfl,tag2,bv2,fv2,l2,h1,h2,h3⟩:=hd;exact⟨rfl,tag2,bv2,fv2,l2,⟨h.c.modR h.e.out h.p h3 h2.old,h1,h.e.trans h2.ext h.m.size,zan h.e h.m (zb7 h3),h.p⟩,h2.old,h3⟩
end Go.Proofs.YtddfdpbaiedcjaaGreatDoor
