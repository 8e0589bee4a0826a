/- A part of Urgent's proof. Conditions: none. Part 27 of 32. -/
import Derived.Test.YtddfdpbaiedcjaaGreatDoorUrg26
set_option maxRecDepth 100000
set_option maxHeartbeats 16000000
set_option linter.all false
namespace Go.Proofs.YtddfdpbaiedcjaaGreatDoor
open Go.RowKit
structure EN.Inv(e:EN):Prop where
 wl:e.wrote.length≤2048
 rd:e.read≤e.wrote.length
 keep:e.keep≤2048
structure NS.Inv(T:Nat)(n:NS):Prop where
 mtu:64≤n.mtu∧n.mtu≤400
 win:(16≤n.window∧n.window≤4096)∧(16≤n.total∧n.total≤4096)
 c:∀i,i<2→(n.c i).Inv T
 e:∀i,i<2→∀k,k<8→(n.e i k).Inv
 now:n.now≤T
 next:∀i,i<2→n.next i≤4*T
 count:∀i,i<2→n.count i≤32*T
 gl:∀i,i<2→(n.g i).length≤T
 g:∀i,i<2→∀s∈n.g i,s.id≤4*T∧s.dl≤T+8∧s.data.length≤400
 bl:n.bag.length≤32*T
 bag:∀p∈n.bag,p.1<2∧0<p.2.length∧p.2.length≤400
theorem NS.Inv.mono{T b:Nat}{n:NS}(h:n.Inv T)(a:T≤b):n.Inv b :=
 ⟨h.mtu,h.win,fun i hi=>(h.c i hi).mono a,h.e,Nat.le_trans h.now a,fun i hi=>by have:=h.next i hi;omega,fun i hi=>by have:=h.count i hi;omega,fun i hi=>Nat.le_trans (h.gl i hi) a,fun i hi s hs=>by have:=h.g i hi s hs;omega,by have:=h.bl;omega,h.bag⟩
theorem NS.Inv.setC{T:Nat}{n:NS}(h:n.Inv T)(i:Nat){c:CS}(hc:i<2→c.Inv T):(n.setC i c).Inv T :=
 ⟨h.mtu,h.win,fun j a=>by
  show(upd n.c i c j).Inv T;by_cases q:j=i
  ·subst q;rw[zf];exact hc a
  ·rw[ze _ _ q];exact h.c j a,h.e,h.now,h.next,h.count,h.gl,h.g,h.bl,h.bag⟩
theorem NS.Inv.setE{T:Nat}{n:NS}(h:n.Inv T)(i k:Nat){e:EN}(he:i<2→k<8→e.Inv):(n.setE i k e).Inv T :=
 ⟨h.mtu,h.win,h.c,fun j a q b=>by
  show(upd n.e i (upd (n.e i) k e) j q).Inv;by_cases x:j=i
  ·subst x;rw[zf];by_cases y:q=k
   ·subst y;rw[zf];exact he a b
   ·rw[ze _ _ y];exact h.e j a q b
  ·rw[ze _ _ x];exact h.e j a q b,h.now,h.next,h.count,h.gl,h.g,h.bl,h.bag⟩
theorem NS.Inv.send{T:Nat}{n:NS}(h:n.Inv T)(i k:Nat)(s:List UInt8):(n.send i k s).2.Inv T:=by
 have hc:=h.setC i (c:=((n.c i).send k s).2) (fun hi=>(h.c i hi).send _ _);unfold NS.send;split
 ·exact hc
 ·split
  ·exact hc
  ·refine hc.setE i k (fun hi hk=>?_);have e:=h.e i hi k hk;exact⟨by show((n.e i k).wrote++s).length≤_;rw[List.length_append];omega,by have:=e.rd;show _≤((n.e i k).wrote++s).length;rw[List.length_append];show(n.e i k).read≤_;omega,e.keep⟩
theorem NS.Inv.finish{T:Nat}{n:NS}(h:n.Inv T)(i k:Nat):(n.finish i k).2.Inv T:=by
 have hc:=h.setC i (c:=((n.c i).finish k).2) (fun hi=>(h.c i hi).finish _);unfold NS.finish;split
 ·exact hc
 ·refine hc.setE i k (fun hi hk=>?_);have e:=h.e i hi k hk;exact⟨e.wl,e.rd,e.keep⟩
theorem NS.Inv.reset{T:Nat}{n:NS}(h:n.Inv T)(i k:Nat)(b:Int):(n.reset i k b).2.Inv T:=by
 unfold NS.reset NS.resetK;refine(h.setC i (fun hi=>(h.c i hi).reset _ _)).setE i k (fun hi hk=>?_);have e:=h.e i hi k hk;refine⟨e.wl,e.rd,?_⟩;have:=zao b ((n.e i k).wrote.length+1) (Nat.succ_pos _);have:=e.wl;have:=e.keep;show(if _ then _ else _)≤_;split<;>omega
theorem NS.Inv.datagram{T:Nat}{n:NS}(h:n.Inv T)(i:Nat)(s:zcw):(n.datagram i s).2.Inv (T+1):=by
 have k:=h.mono (Nat.le_succ T);unfold NS.datagram;split
 ·exact(h.setC i (fun hi=>(h.c i hi).datagram _ _ _)).mono (Nat.le_succ T)
 ·have hc:=(h.setC i (c:=((n.c i).datagram (n.next i) (n.now+pickN s.a 9) s.s).2) (fun hi=>(h.c i hi).datagram _ _ _)).mono (Nat.le_succ T);split
  ·exact hc
  ·split
   ·exact hc
   ·rename_i hm _ _;have p9:=zao s.a _ (show 0<9 by omega);have p3:=zao s.b _ (show 0<3 by omega);have hn:=h.now;have hmt:=h.mtu;refine⟨hc.mtu,hc.win,hc.c,hc.e,hc.now,fun j d=>?_,hc.count,fun j d=>?_,fun j d x hx=>?_,hc.bl,hc.bag⟩
    ·show upd n.next i _ j≤_;by_cases q:j=i
     ·subst q;have:=h.next j d;rw[zf];omega
     ·rw[ze _ _ q];exact k.next j d
    ·show(upd n.g i _ j).length≤_;by_cases q:j=i
     ·subst q;have:=h.gl j d;rw[zf,List.length_append,List.length_singleton];omega
     ·rw[ze _ _ q];exact k.gl j d
    ·have f:x∈upd n.g i (n.g i++[⟨n.next i,n.now+pickN s.a 9,s.s,false⟩]) j:=hx;by_cases q:j=i
     ·subst q;rw[zf]at f;rcases List.mem_append.1 f with y|y
      ·exact k.g j d x y
      ·rw[List.mem_singleton.1 y];have:=h.next j d;exact⟨by show n.next j≤_;omega,by show n.now+pickN s.a 9≤_;omega,by show s.s.length≤_;omega⟩
     ·rw[ze _ _ q]at f;exact k.g j d x f
theorem NS.Inv.tick{T:Nat}{n:NS}(h:n.Inv T):n.tick.Inv (T+1):=by
 have a:=h.mono (Nat.le_succ T);refine⟨a.mtu,a.win,fun i hi=>?_,a.e,by have:=h.now;show n.now+1≤_;omega,a.next,a.count,a.gl,a.g,a.bl,a.bag⟩;show(upd (upd n.c 0 (n.c 0).tick) 1 (n.c 1).tick i).Inv _;by_cases q:i=1
 ·subst q;rw[zf];exact(h.c 1 hi).tick
 ·have:i=0:=by omega
  subst this;rw[ze _ _ q,zf];exact(h.c 0 hi).tick
theorem NS.Inv.drop{T:Nat}{n:NS}(h:n.Inv T)(k:Nat):(n.drop k).Inv T:=by
 refine⟨h.mtu,h.win,h.c,h.e,h.now,h.next,h.count,h.gl,h.g,?_,fun p hp=>?_⟩
 ·have:=h.bl;show(n.bag.take k++n.bag.drop (k+1)).length≤_;rw[List.length_append,List.length_take,List.length_drop];omega
 ·rcases List.mem_append.1 hp with x|x
  ·exact h.bag p (List.mem_of_mem_take x)
  ·exact h.bag p (List.mem_of_mem_drop x)
theorem zqu{b:List UInt8}{n:Nat}{fs:List Frm}(h:dec b = .ok n fs):0<b.length:=by
 cases b with
 | nil=>revert h;unfold dec;simp
 | cons x l=>simp
theorem zb1(i:Nat):∀(l:List (List UInt8)) (n:NS),∃c' m,(NS.flushL i l n).2={ n with count:=upd n.count i c',bag:=n.bag++m }∧c'≤n.count i+l.length∧m.length≤l.length∧∀p∈m,p.1=1-i∧0<p.2.length∧p.2.length≤n.mtu
 | [],n=>⟨n.count i,[],by show n=_;rw[za2,List.append_nil],Nat.le_refl _,Nat.le_refl _,fun p a=>(by cases a)⟩
 | b::l,n=>by
  have same:∃c' m,n={ n with count:=upd n.count i c',bag:=n.bag++m }∧c'≤n.count i+(b::l).length∧m.length≤(b::l).length∧∀p∈m,p.1=1-i∧0<p.2.length∧p.2.length≤n.mtu :=
   ⟨n.count i,[],by rw[za2,List.append_nil],by omega,Nat.zero_le _,fun p a=>(by cases a)⟩
  unfold NS.flushL;cases hd:dec b with
  | sum=>exact same
  | bad p=>exact same
  | ok num fs =>
   simp only;split
   ·exact same
   ·rename_i hc;split
    ·exact⟨n.count i+1,[],by rw[List.append_nil],by simp,Nat.zero_le _,fun p a=>(by cases a)⟩
    ·obtain⟨c',m,h1,h2,h3,h4⟩:=zb1 i l { n with count:=upd n.count i (n.count i+1),bag:=n.bag++[(1-i,b)] };refine⟨c',(1-i,b)::m,?_,?_,by simp only[List.length_cons];omega,fun p a=>?_⟩
     ·rw[h1];have e:upd (upd n.count i (n.count i+1)) i c'=upd n.count i c':=by
       funext j;by_cases q:j=i
       ·subst q;rw[zf,zf]
       ·rw[ze _ _ q,ze _ _ q,ze _ _ q]
      simp only[e,List.append_assoc,List.singleton_append]
     ·simp only[zf]at h2;simp only[List.length_cons];omega
     ·rcases List.mem_cons.1 a with x|x
      ·rw[x];exact⟨rfl,zqu hd,by show b.length≤_;omega⟩
      ·exact h4 p x
theorem NS.Inv.flush{T:Nat}(k:T≤zbm){n:NS}(h:n.Inv T){i:Nat}(hi:i<2):(n.flush i).2.Inv (T+1):=by
 have f:=(h.c i hi).pkPost k;have ha:=(h.c i hi).acks.2.2;have hl:(n.c i).packets.1.length≤21:=by have:=f.out.1;omega
 have hc:=(h.mono (Nat.le_succ T)).setC i (c:=(n.c i).packets.2) (fun _=>(h.c i hi).packets k);unfold NS.flush;obtain⟨c',m,h1,h2,h3,h4⟩:=zb1 i (n.c i).packets.1 (n.setC i (n.c i).packets.2);rw[h1];have hct:=h.count i hi;have hb:=h.bl;have hm:=h.mtu;have e1:(n.setC i (n.c i).packets.2).count=n.count:=rfl;have e2:(n.setC i (n.c i).packets.2).bag=n.bag:=rfl;have e3:(n.setC i (n.c i).packets.2).mtu=n.mtu:=rfl;rw[e1]at h2;rw[e3]at h4;refine⟨hc.mtu,hc.win,hc.c,hc.e,hc.now,hc.next,fun j hj=>?_,hc.gl,hc.g,?_,fun p f=>?_⟩
 ·show upd n.count i c' j≤_;by_cases q:j=i
  ·subst q;rw[zf];omega
  ·rw[ze _ _ q];have:=h.count j hj;omega
 ·show(n.bag++m).length≤_;rw[List.length_append];omega
 ·rcases List.mem_append.1 f with x|x
  ·exact h.bag p x
  ·obtain⟨a,b,d⟩:=h4 p x;exact⟨by omega,b,by omega⟩
theorem zcs(now id:Nat)(data:List UInt8):∀(l:List SN) (r:Bool),(zbJ now id data l r).2.length=l.length∧∀s∈(zbJ now id data l r).2,∃s'∈l,s.id=s'.id∧s.dl=s'.dl∧s.data=s'.data
 | [],r=>⟨rfl,fun s hs=>(by cases hs)⟩
 | g::l,r=>by
  unfold zbJ;split
  ·obtain⟨a,b⟩:=zcs now id data l (g.data==data && !g.came&&decide (now≤g.dl));refine⟨by simp only[List.length_cons,a],fun s hs=>?_⟩;rcases List.mem_cons.1 hs with x|x
   ·exact⟨g,List.mem_cons_self,by rw[x];exact⟨rfl,rfl,rfl⟩⟩
   ·obtain⟨s',h1,h2⟩:=b s x;exact⟨s',List.mem_cons_of_mem _ h1,h2⟩
  ·obtain⟨a,b⟩:=zcs now id data l r;refine⟨by simp only[List.length_cons,a],fun s hs=>?_⟩;rcases List.mem_cons.1 hs with x|x
   ·exact⟨g,List.mem_cons_self,by rw[x];exact⟨rfl,rfl,rfl⟩⟩
   ·obtain⟨s',h1,h2⟩:=b s x;exact⟨s',List.mem_cons_of_mem _ h1,h2⟩
theorem ze1(now:Nat):∀(l:List (Nat×List UInt8)) (G:List SN),(zdY now l G).2.length=G.length∧∀s∈(zdY now l G).2,∃s'∈G,s.id=s'.id∧s.dl=s'.dl∧s.data=s'.data
 | [],G=>⟨rfl,fun s hs=>⟨s,hs,rfl,rfl,rfl⟩⟩
 | m::l,G=>by
  obtain⟨a,b⟩:=zcs now m.1 m.2 G false;unfold zdY;split
  ·obtain⟨a2,b2⟩:=ze1 now l (zbJ now m.1 m.2 G false).2;refine⟨a2.trans a,fun s hs=>?_⟩;obtain⟨s',h1,h2,h3,h4⟩:=b2 s hs;obtain⟨s2,k1,k2,k3,k4⟩:=b s' h1;exact⟨s2,k1,h2.trans k2,h3.trans k3,h4.trans k4⟩
  ·exact⟨a,b⟩
theorem NS.Inv.came{T:Nat}{n:NS}(h:n.Inv T)(i:Nat):(n.came i).2.Inv T:=by
 have hc:=h.setC i (c:=(n.c i).datagramsOut.2) (fun hi=>(h.c i hi).datagramsOut);obtain⟨a,b⟩:=ze1 n.now (n.c i).datagramsOut.1 (n.g (1-i));refine⟨hc.mtu,hc.win,hc.c,hc.e,hc.now,hc.next,hc.count,fun j f=>?_,fun j f s hs=>?_,hc.bl,hc.bag⟩
 ·show(upd n.g (1-i) _ j).length≤_;by_cases q:j=1-i
  ·subst q;rw[zf,a];exact h.gl _ f
  ·rw[ze _ _ q];exact h.gl j f
 ·have d:s∈upd n.g (1-i) (zdY n.now (n.c i).datagramsOut.1 (n.g (1-i))).2 j:=hs;by_cases q:j=1-i
  ·subst q;rw[zf]at d;obtain⟨s',h1,h2,h3,h4⟩:=b s d;rw[h2,h3,h4];exact h.g _ f s' h1
  ·rw[ze _ _ q]at d;exact h.g j f s d
theorem NS.Inv.recv{T:Nat}{n:NS}(h:n.Inv T)(i:Nat)(b:List UInt8)(hT:T+b.length≤zbm):(n.recv i b).2.2.Inv (T+b.length):=by
 unfold NS.recv;exact((h.mono (Nat.le_add_right T b.length)).setC i (fun hi=>(h.c i hi).receive hT)).came i
theorem zhN(b:List UInt8){k:Nat}(x:UInt8)(hk:k<b.length):(zmn b k x).length=b.length:=by
 unfold zmn;simp only[List.length_append,List.length_take,List.length_drop,List.length_singleton];omega
theorem NS.Inv.carry{T:Nat}{n:NS}(h:n.Inv T)(s:zcw)(hT:T+400≤zbm):(n.carry s).2.Inv (T+400):=by
 have c:=h.mono (show T≤T+400 by omega);unfold NS.carry;split
 ·exact c
 ·rename_i hb;have hk:pickN s.a n.bag.length<n.bag.length:=zao _ _ (List.length_pos_iff.2 hb);have hm:n.bag.getD (pickN s.a n.bag.length) (0,[])∈n.bag:=by simp[List.getD,hk]
  obtain⟨_,p1,p2⟩:=h.bag _ hm;generalize pickN s.a n.bag.length=k at *;generalize n.bag.getD k (0,[])=f at *;unfold NS.carryK;split
  ·have hx:(if pickN s.b 2=0 then n.drop k else n).Inv T:=by
    split
    ·exact h.drop k
    ·exact h
   exact(hx.recv f.1 f.2 (by omega)).mono (by omega)
  ·split
   ·exact c.drop k
   ·split
    ·have e:=zhN f.2 (byOf s.s) (zao s.b _ p1);exact(h.recv f.1 _ (by omega)).mono (by omega)
    ·exact c
theorem NS.Inv.read{T:Nat}{n:NS}(h:n.Inv T)(i k most:Nat):(n.read i k most).2.Inv T:=by
 have hc:=h.setC i (c:=((n.c i).read k most).2) (fun hi=>(h.c i hi).read _ _);unfold NS.read;split
 ·exact hc
 ·rename_i hw;refine hc.setE (1-i) k (fun hi hk=>?_);have e:=h.e (1-i) hi k hk;unfold EN.wrong at hw;simp only[Bool.not_eq_true,Bool.or_eq_false_iff,decide_eq_false_iff_not]at hw;obtain⟨⟨⟨⟨_,_⟩,h3⟩,_⟩,_⟩:=hw;refine⟨e.wl,by show(n.e (1-i) k).read+((n.c i).read k most).1.1.length≤(n.e (1-i) k).wrote.length;omega,e.keep⟩
theorem zkT(c:Int):pickN c 2<2:=zao c 2 (by omega)
theorem NS.Inv.step{T:Nat}{n:NS}(h:n.Inv T)(s:zcw)(hT:T+401≤zbm):(n.step s).2.Inv (T+401):=by
 have a:∀{m:NS} {b:Nat},m.Inv b→b≤T+401→m.Inv (T+401):=fun x y=>x.mono y
 unfold NS.step;split
 ·exact a (h.send _ _ _) (by omega)
 ·split
  ·exact a (h.finish _ _) (by omega)
  ·split
   ·exact a (h.reset _ _ _) (by omega)
   ·split
    ·exact a (h.datagram _ _) (by omega)
    ·split
     ·exact a (h.tick.carry s (by omega)) (by omega)
     ·split
      ·exact a (h.flush (by omega) (zkT _)) (by omega)
      ·split
       ·exact a (h.read _ _ _) (by omega)
       ·exact a (h.carry s (by omega)) (by omega)
def NS.Up(n:NS):Prop:=∀i,i<2→(n.c i).closed=0
theorem NS.Up.setC{n:NS}(h:n.Up)(i:Nat){c:CS}(hc:i<2→c.closed=0):(n.setC i c).Up:=by
 intro j a;show(upd n.c i c j).closed=0;by_cases q:j=i
 ·subst q;rw[zf];exact hc a
 ·rw[ze _ _ q];exact h j a
theorem zjd(c:CS)(k:Int)(s:List UInt8):(c.send k s).2.closed=c.closed:=by
 unfold CS.send;split
 ·rfl
 ·split
  ·rfl
  ·split<;>rfl
theorem zgx(c:CS)(k:Int):(c.finish k).2.closed=c.closed:=by
 unfold CS.finish;split
 ·rfl
 ·split<;>rfl
theorem zhO(c:CS)(k n:Int):(c.reset k n).2.closed=c.closed:=by
 unfold CS.reset;split<;>rfl
theorem zcI(c:CS)(id dl:Nat)(s:List UInt8):(c.datagram id dl s).2.closed=c.closed:=by
 unfold CS.datagram;split
 ·rfl
 ·split
  ·rfl
  ·split
   ·rfl
   ·split<;>rfl
theorem ze2(c:CS):c.lose.closed=c.closed:=by
 rw[ziZ];exact(zdI c.flight c).hd.2.2.2.2.1
theorem ze3(c:CS):c.tick.closed=c.closed:=ze2 c.ticked
theorem zhP(c:CS)(l:zD):(c.acked l).2.closed=c.closed:=by
 by_cases a:c.next≤hiAt l 0
 ·unfold CS.acked;rw[if_pos a]
 ·rw[zgr c l a];exact(ze2 (c.ackedTo l)).trans (zdJ l c.flight _).hd.2.2.2.2.1
theorem zje(c:CS)(k n:Int):(c.read k n).2.closed=c.closed:=by
 unfold CS.read;split
 ·rfl
 ·split<;>rfl
theorem zjf(c:CS)(f:Frm):(c.take f).2.closed=c.closed:=by
 unfold CS.take;split
 ·exact zhP c _
 ·split
  ·unfold CS.resetAt;split<;>rfl
  ·split
   ·unfold CS.data;split
    ·rfl
    ·split<;>rfl
   ·split
    ·rfl
    ·split
     ·rfl
     ·split
      ·unfold CS.message;split<;>rfl
      ·split<;>rfl
theorem zej:∀(fs:List Frm) (c:CS),(CS.takes fs c).1=0→(CS.takes fs c).2.closed=c.closed
 | [],_,_=>rfl
 | f::fs,c,h=>by
  unfold CS.takes at h ⊢;split at h
  ·rename_i hx;exact absurd h hx
  ·rename_i hx;rw[if_neg hx];exact(zej fs _ h).trans (zjf c f)
theorem zkU(c:CS)(f:Frm):(c.take f).1≠7:=by
 unfold CS.take;split
 ·unfold CS.acked;split<;>simp
 ·split
  ·unfold CS.resetAt;split<;>simp
  ·split
   ·unfold CS.data;split
    ·simp
    ·split<;>simp
   ·split
    ·simp
    ·split
     ·simp
     ·split
      ·simp
      ·split<;>simp
theorem ze4:∀(fs:List Frm) (c:CS),(CS.takes fs c).1≠7
 | [],_=>by simp[CS.takes]
 | f::fs,c=>by
  unfold CS.takes;split
  ·exact zkU c f
  ·exact ze4 fs _
theorem zfu(c:CS)(bs:List UInt8)(h:(c.receive bs).1.1=0∨(c.receive bs).1.1=7)(h0:c.closed=0):(c.receive bs).2.closed=0:=by
 unfold CS.receive at h ⊢;rw[if_neg (by omega)]at h ⊢;cases hd:dec bs with
 | sum=>exact h0
 | bad p =>
  rw[hd]at h;simp at h
 | ok n fs =>
  rw[hd]at h;simp only at h ⊢;split at h
  ·rename_i hb;rw[if_pos hb];exact h0
  ·rename_i hb;rw[if_neg hb];rcases h with h|h
   ·exact(zej fs _ h).trans h0
   ·exact absurd h (ze4 fs _)
theorem NS.Up.packets{T:Nat}(hT:T≤zbm){n:NS}(h:n.Inv T)(u:n.Up){i:Nat}(hi:i<2):(n.c i).packets.2.closed=0:=by
 have e:=((h.c i hi).pkPost hT).but.hd.2.2.2.2.1;rw[e];have a:(n.c i).acks.2.closed=(n.c i).closed:=by
  unfold CS.acks;split<;>rfl
 rw[a];exact u i hi
theorem NS.Up.flush{T:Nat}(hT:T≤zbm){n:NS}(h:n.Inv T)(u:n.Up){i:Nat}(hi:i<2):(n.flush i).2.Up:=by
 unfold NS.flush;obtain⟨c',m,h1,_⟩:=zb1 i (n.c i).packets.1 (n.setC i (n.c i).packets.2);rw[h1];exact u.setC i (fun _=>u.packets hT h hi)
theorem NS.Up.send{n:NS}(u:n.Up)(i k:Nat)(s:List UInt8):(n.send i k s).2.Up:=by
 have hc:=u.setC i (c:=((n.c i).send k s).2) (fun hi=>(zjd _ _ _).trans (u i hi));unfold NS.send;split
 ·exact hc
 ·split<;>exact hc
theorem NS.Up.finish{n:NS}(u:n.Up)(i k:Nat):(n.finish i k).2.Up:=by
 have hc:=u.setC i (c:=((n.c i).finish k).2) (fun hi=>(zgx _ _).trans (u i hi));unfold NS.finish;split<;>exact hc
theorem NS.Up.reset{n:NS}(u:n.Up)(i k:Nat)(b:Int):(n.reset i k b).2.Up:=by
 unfold NS.reset NS.resetK;exact u.setC i (fun hi=>(zhO _ _ _).trans (u i hi))
theorem NS.Up.datagram{n:NS}(u:n.Up)(i:Nat)(s:zcw):(n.datagram i s).2.Up:=by
 unfold NS.datagram;split
 ·exact u.setC i (fun hi=>(zcI _ _ _ _).trans (u i hi))
 ·have hc:=u.setC i (c:=((n.c i).datagram (n.next i) (n.now+pickN s.a 9) s.s).2) (fun hi=>(zcI _ _ _ _).trans (u i hi));split
  ·exact hc
  ·split<;>exact hc
theorem NS.Up.tick{n:NS}(u:n.Up):n.tick.Up:=by
 intro i hi;show(upd (upd n.c 0 (n.c 0).tick) 1 (n.c 1).tick i).closed=0;by_cases q:i=1
 ·subst q;rw[zf];exact(ze3 _).trans (u 1 hi)
 ·have:i=0:=by omega
  subst this;rw[ze _ _ q,zf];exact(ze3 _).trans (u 0 hi)
theorem NS.Up.came{n:NS}(u:n.Up)(i:Nat):(n.came i).2.Up:=u.setC i (c:=(n.c i).datagramsOut.2) (fun hi=>u i hi)
theorem NS.Up.recv{n:NS}(u:n.Up)(i:Nat)(b:List UInt8)(h:(n.recv i b).1=0∨(n.recv i b).1=7):(n.recv i b).2.2.Up :=
 NS.Up.came (u.setC i (c:=((n.c i).receive b).2) (fun hi=>zfu _ _ h (u i hi))) i
theorem NS.Up.drop{n:NS}(u:n.Up)(k:Nat):(n.drop k).Up:=u
theorem NS.Up.carry{n:NS}(u:n.Up)(s:zcw)(h:(n.carry s).1=true):(n.carry s).2.Up:=by
 unfold NS.carry at h ⊢;split at h
 ·rename_i hb;rw[if_pos hb];exact u
 ·rename_i hb;rw[if_neg hb];generalize pickN s.a n.bag.length=k at *;generalize n.bag.getD k (0,[])=f at *;unfold NS.carryK at h ⊢;split at h
  ·rename_i h7;rw[if_pos h7];have hx:(if pickN s.b 2=0 then n.drop k else n).Up:=by
    split
    ·exact u.drop k
    ·exact u
   simp only[Bool.and_eq_true,beq_iff_eq]at h;exact hx.recv f.1 f.2 (.inl h.1)
  ·rename_i h7;rw[if_neg h7];split at h
   ·rename_i h8;rw[if_pos h8];exact u.drop k
   ·rename_i h8;rw[if_neg h8];split at h
    ·rename_i h9;rw[if_pos h9];simp only[Bool.and_eq_true,beq_iff_eq]at h;exact u.recv f.1 _ (.inr h.1)
    ·rename_i h9;rw[if_neg h9];exact u
theorem NS.Up.read{n:NS}(u:n.Up)(i k most:Nat):(n.read i k most).2.Up:=by
 have hc:=u.setC i (c:=((n.c i).read k most).2) (fun hi=>(zje _ _ _).trans (u i hi));unfold NS.read;split<;>exact hc
theorem NS.Up.step{T:Nat}{n:NS}(h:n.Inv T)(u:n.Up)(s:zcw)(hT:T+401≤zbm)(ok:(n.step s).1=true):(n.step s).2.Up:=by
 unfold NS.step at ok ⊢;split at ok
 ·rename_i e;rw[if_pos e];exact u.send _ _ _
 ·rename_i e;rw[if_neg e];split at ok
  ·rename_i e;rw[if_pos e];exact u.finish _ _
  ·rename_i e;rw[if_neg e];split at ok
   ·rename_i e;rw[if_pos e];exact u.reset _ _ _
   ·rename_i e;rw[if_neg e];split at ok
    ·rename_i e;rw[if_pos e];exact u.datagram _ _
    ·rename_i e;rw[if_neg e];split at ok
     ·rename_i e;rw[if_pos e];exact u.tick.carry s ok
     ·rename_i e;rw[if_neg e];split at ok
      ·rename_i e;rw[if_pos e];exact NS.Up.flush (by omega) h u (zkT _)
      ·rename_i e;rw[if_neg e];split at ok
       ·rename_i e;rw[if_pos e];exact u.read _ _ _
       ·rename_i e;rw[if_neg e];exact u.carry s ok
section
variable {S:Nat→Prop} {tag tag':Nat→Nat×Nat} {w W W':World} {nb:Nat} {n n':NS} {M M':NV}
theorem Net.own(h:Net w tag nb n M W)(o:zbU tag' nb n' M' W')(hc:n'.c=n.c)(hb:M'.b=M.b)(hV:M'.V=M.V)(m:Mod S W W')(hS:∀g,S g→(tag g).1=3∨W.heap.size≤g)(e:Ext 3 tag tag' W W'):Net w tag' nb n' M' W':=by
 have old:∀g,tag g≠(0,0)→tag' g=tag g:=fun g hg=>by
  by_cases q:g<W.heap.size
  ·exact e.old g q
  ·exact absurd (h.env.ok g (by omega)) hg
 have a:Mod (fun g=>(tag g).1=3) W W':=m.mono hS;refine⟨o,fun i hi=>?_,((h.env.to (j:=3) (by omega)).left e a).to (by omega),fun i hi=>(h.nd i hi).other e (by omega) (by omega),h.mod.then a (fun g hg=>.inr (h.t1 g (fun x=>?_))),fun g hg=>?_⟩
 ·rw[hc,hb,hV];exact(h.cn i hi).mod a (fun g hg x=>by omega) (fun g hg=>old g (fun x=>by rw[x]at hg;simp at hg))
 ·rw[x]at hg;simp at hg
 ·by_cases q:g<W.heap.size
  ·exact h.t1 g (by rw[←e.old g q];exact hg)
  ·have:=h.mod.size;omega
theorem zei.ne{r d b e t t':Nat}{cs c:Array Value}(h:zei tag r b cs t W)(k:zei tag d e c t' W)(hr:r≠d):b≠e:=by
 intro x;have a:=h.tag;rw[x,k.tag]at a;simp at a;exact hr a.symm
theorem zei.turn{r b t:Nat}{cs a:Array Value}(h:zei tag r b cs t W)(obj:W'.heap[b]?=some (.cells a t (0,0))):zei tag r b a t W':=⟨obj,h.tag⟩
theorem zex.kept{r a b e sz q:Nat}{v:Value}{xs:List Value}(h:zex tag r e sz v q xs W)(m:Mod (fun g=>g=b) W W')(hb:tag b=(3,a))(hr:r≠a):zex tag r e sz v q xs W' :=
 h.mod m (fun g hg x=>by rw[show g=b from hg,hb]at x;simp at x;exact hr x.symm) (fun _ _=>rfl)
theorem zei.kept{r a b c t:Nat}{cs:Array Value}(h:zei tag r c cs t W)(m:Mod (fun g=>g=b) W W')(hb:tag b=(3,a))(hr:r≠a):zei tag r c cs t W' :=
 h.mod m (fun g hg x=>by rw[show g=b from hg,hb]at x;simp at x;exact hr x.symm) (fun _ _=>rfl)
theorem zbU.endS(h:zbU tag nb n M W){i k:Nat}(hi:i<2)(hk:k<8)(f:EN)(m:Mod (fun g=>g=M.eb i k) W W')(obj:W'.heap[M.eb i k]?=some (.cells (za9 f) 89 (0,0))):zbU tag nb (n.setE i k f) M W':=by
 have c:=(h.en i hi k hk).tag;exact
  {obj:=h.obj.kept m c (by omega)
   x:=h.x.kept m c (by omega)
   ev:=h.ev.kept m c (by omega)
   gv:=h.gv.kept m c (by omega)
   nx:=h.nx.kept m c (by omega)
   ct:=h.ct.kept m c (by omega)
   bg:=h.bg.kept m c (by omega)
   er:=fun j d=>(h.er j d).kept m c (by omega)
   en:=fun j d q l=>by
    show zei tag (20+8*j+q) (M.eb j q) (za9 (upd n.e i (upd (n.e i) k f) j q)) 89 W';by_cases x:j=i
    ·subst x;rw[zf];by_cases y:q=k
     ·subst y;rw[zf];exact(h.en j d q l).turn obj
     ·rw[ze _ _ y];exact(h.en j d q l).kept m c (by omega)
    ·rw[ze _ _ x];exact(h.en j d q l).kept m c (by omega)
   gr:=fun j d=>(h.gr j d).kept m c (by omega)
   gl:=h.gl
   gn:=fun j d a b s hb hs=>(h.gn j d a b s hb hs).kept m c (by omega) }
theorem zbU.head(h:zbU tag nb n M W)(s:n'.mtu=n.mtu∧n'.window=n.window∧n'.total=n.total∧n'.bag=n.bag)(he:n'.e=n.e)(hg:n'.g=n.g)(f:n'.next=n.next∧n'.count=n.count)(m:Mod (fun g=>g=nb) W W')(obj:W'.heap[nb]?=some (.cells (zcS n' M) 48 (0,0))):zbU tag nb n' M W':=by
 have c:=h.obj.tag;obtain⟨s1,s2,s3,s4⟩:=s;exact
  {obj:=h.obj.turn obj
   x:=h.x.kept m c (by omega)
   ev:=h.ev.kept m c (by omega)
   gv:=h.gv.kept m c (by omega)
   nx:=by rw[f.1];exact h.nx.kept m c (by omega)
   ct:=by rw[f.2];exact h.ct.kept m c (by omega)
   bg:=by rw[s4];exact h.bg.kept m c (by omega)
   er:=fun j d=>(h.er j d).kept m c (by omega)
   en:=fun j d q hq=>by rw[he];exact(h.en j d q hq).kept m c (by omega)
   gr:=fun j d=>(h.gr j d).kept m c (by omega)
   gl:=by rw[hg];exact h.gl
   gn:=fun j d a b s hb hs=>by rw[hg]at hs;exact(h.gn j d a b s hb hs).kept m c (by omega) }
theorem zbU.bagS(h:zbU tag nb n M W)(v:Value)(l:List (Nat×List UInt8))(m:Mod S W W')(hS:∀g,S g→tag g=(3,0)∨tag g=(3,6)∨tag g=(0,0))(c:∀g,tag g≠(0,0)→tag' g=tag g)
  (obj:W'.heap[nb]?=some (.cells (zcS { n with bag:=l } { M with bg:=v }) 48 (0,0))) (row:W'.ownsRow 0 62 2 v l.length (zS l)) (tg:∀g,v.ownBlock=some g→tag' g=(3,6)):zbU tag' nb { n with bag:=l } { M with bg:=v } W':=by
 have q:∀{r:Nat},r≠0→r≠6→∀g,S g→tag g≠(3,r):=fun r0 r6 g hg x=>by
  rcases hS g hg with y|y|y<;>rw[x]at y<;>simp at y
  ·exact r0 y
  ·exact r6 y
 exact
  {obj:=⟨obj,by rw[c nb (by rw[h.obj.tag];simp),h.obj.tag]⟩
   x:=h.x.mod m (q (by omega) (by omega)) c
   ev:=h.ev.mod m (q (by omega) (by omega)) c
   gv:=h.gv.mod m (q (by omega) (by omega)) c
   nx:=h.nx.mod m (q (by omega) (by omega)) c
   ct:=h.ct.mod m (q (by omega) (by omega)) c
   bg:=⟨row,tg⟩
   er:=fun j d=>(h.er j d).mod m (q (by omega) (by omega)) c
   en:=fun j d a ha=>(h.en j d a ha).mod m (q (by omega) (by omega)) c
   gr:=fun j d=>(h.gr j d).mod m (q (by omega) (by omega)) c
   gl:=h.gl
   gn:=fun j d a b s hb hs=>(h.gn j d a b s hb hs).mod m (q (by omega) (by omega)) c }
theorem zgy{e N g cap i:Nat}{xs:List Value}(v:Value)(h:W.ownsRow 0 e 1 (.slice (some ⟨g,0,none⟩) N cap) N xs):(W.setCell ⟨g,i,none⟩ v).ownsRow 0 e 1 (.slice (some ⟨g,0,none⟩) N cap) N (xs.set i v):=by
 have hl:=h.1;rcases h.2 with⟨e,_⟩|⟨g',a,cur,e,_,h1,h2,h3,h4,h5⟩
 ·cases e
 ·cases e;refine⟨by rw[List.length_set];exact hl,.inr ⟨g,cap,_,rfl,Nat.zero_le _,zc h1,h2,h3,by simp[h4],?_⟩⟩;rw[←h5];simp[List.take_set]
theorem zbu{e N g cap i:Nat}{xs:List Value}{v:Value}(h:W.ownsRow 0 e 1 (.slice (some ⟨g,0,none⟩) N cap) N xs)(a:xs[i]?=some v):W.cell? ⟨g,i,none⟩=some v∧W.frozen? ⟨g,i,none⟩=false:=by
 have hl:=h.1;rcases h.2 with⟨e,_⟩|⟨g',b,cur,e,_,h1,h2,h3,h4,h5⟩
 ·cases e
 ·cases e;have hi:=(List.getElem?_eq_some_iff.1 a).1;refine⟨za h1 ?_,zd h1⟩;rw[←h5,List.getElem?_take_of_lt (by omega),Array.getElem?_toList]at a;exact a
theorem zm2{e sz N:Nat}{v:Value}{xs:List Value}(h:W.ownsRow 0 e sz v N xs)(hN:0<N):∃g cap,v = .slice (some ⟨g,0,none⟩) N cap∧N≤cap∧cap≤maxLen:=by
 rcases h.2 with⟨_,e⟩|⟨g,cap,cur,rfl,_,_,h2,h3,_⟩
 ·omega
 ·exact⟨g,cap,rfl,h2,h3⟩
theorem zex.form{r e sz N:Nat}{v:Value}{xs:List Value}(h:zex tag r e sz v N xs W)(hN:0<N):∃g cap,v = .slice (some ⟨g,0,none⟩) N cap∧N≤cap∧cap≤maxLen∧tag g=(3,r):=by
 obtain⟨g,cap,a,e2,e3⟩:=zm2 h.own hN;exact⟨g,cap,a,e2,e3,h.tag g (by rw[a];rfl)⟩
theorem zbU.nxS(h:zbU tag nb n M W){i:Nat}(hi:i<2)(x:Nat){g cap:Nat}(hg:M.nx = .slice (some ⟨g,0,none⟩) 2 cap):zbU tag nb { n with next:=upd n.next i x } M (W.setCell ⟨g,i,none⟩ (.int .u64 (x:Int))):=by
 have c:tag g=(3,4):=h.nx.tag g (by rw[hg];rfl);have m:Mod (fun q=>q=g) W (W.setCell ⟨g,i,none⟩ (.int .u64 (x:Int))):=(Mod.refl (fun q=>q=g) W).setCell (p:=⟨g,i,none⟩) (.inl rfl) _;exact
  {obj:=h.obj.kept m c (by omega)
   x:=h.x.kept m c (by omega)
   ev:=h.ev.kept m c (by omega)
   gv:=h.gv.kept m c (by omega)
   nx:=by
    have a:=h.nx;rw[hg]at a;refine⟨?_,h.nx.tag⟩;rw[hg];have b:=zgy (i:=i) (.int .u64 (x:Int)) a.own;rcases(show i=0∨i=1 by omega)with rfl|rfl
    ·exact b
    ·exact b
   ct:=h.ct.kept m c (by omega)
   bg:=h.bg.kept m c (by omega)
   er:=fun j d=>(h.er j d).kept m c (by omega)
   en:=fun j d q hq=>(h.en j d q hq).kept m c (by omega)
   gr:=fun j d=>(h.gr j d).kept m c (by omega)
   gl:=h.gl
   gn:=fun j d a b s hb hs=>(h.gn j d a b s hb hs).kept m c (by omega) }
theorem zbU.ctS(h:zbU tag nb n M W){i:Nat}(hi:i<2)(x:Nat){g cap:Nat}(hg:M.ct = .slice (some ⟨g,0,none⟩) 2 cap):zbU tag nb { n with count:=upd n.count i x } M (W.setCell ⟨g,i,none⟩ (.int .u64 (x:Int))):=by
 have c:tag g=(3,5):=h.ct.tag g (by rw[hg];rfl);have m:Mod (fun q=>q=g) W (W.setCell ⟨g,i,none⟩ (.int .u64 (x:Int))):=(Mod.refl (fun q=>q=g) W).setCell (p:=⟨g,i,none⟩) (.inl rfl) _;exact
  {obj:=h.obj.kept m c (by omega)
   x:=h.x.kept m c (by omega)
   ev:=h.ev.kept m c (by omega)
   gv:=h.gv.kept m c (by omega)
   nx:=h.nx.kept m c (by omega)
   ct:=by
    have a:=h.ct;rw[hg]at a;refine⟨?_,h.ct.tag⟩;rw[hg];have b:=zgy (i:=i) (.int .u64 (x:Int)) a.own;rcases(show i=0∨i=1 by omega)with rfl|rfl
    ·exact b
    ·exact b
   bg:=h.bg.kept m c (by omega)
   er:=fun j d=>(h.er j d).kept m c (by omega)
   en:=fun j d q hq=>(h.en j d q hq).kept m c (by omega)
   gr:=fun j d=>(h.gr j d).kept m c (by omega)
   gl:=h.gl
   gn:=fun j d a b s hb hs=>(h.gn j d a b s hb hs).kept m c (by omega) }
theorem zbU.gramS(h:zbU tag nb n M W){i j b:Nat}(hi:i<2)(hb:(M.gb i)[j]?=some b)(l:SN)(m:Mod (fun g=>g=b) W W')(obj:W'.heap[b]?=some (.cells (zcH l) 51 (0,0))):zbU tag nb { n with g:=upd n.g i ((n.g i).set j l) } M W':=by
 have f:j<(n.g i).length:=by
  have:=(List.getElem?_eq_some_iff.1 hb).1;have:=h.gl i hi;omega
 have e:=(h.gn i hi j b _ hb (List.getElem?_eq_getElem f)).tag;exact
  {obj:=h.obj.kept m e (by omega)
   x:=h.x.kept m e (by omega)
   ev:=h.ev.kept m e (by omega)
   gv:=h.gv.kept m e (by omega)
   nx:=h.nx.kept m e (by omega)
   ct:=h.ct.kept m e (by omega)
   bg:=h.bg.kept m e (by omega)
   er:=fun j f=>(h.er j f).kept m e (by omega)
   en:=fun j f q k=>(h.en j f q k).kept m e (by omega)
   gr:=fun j f=>(h.gr j f).kept m e (by omega)
   gl:=fun q k=>by
    show _=(upd n.g i _ q).length;by_cases x:q=i
    ·subst x;rw[zf,List.length_set];exact h.gl q k
    ·rw[ze _ _ x];exact h.gl q k
   gn:=fun q k a c s hc hs=>by
    have d:(upd n.g i ((n.g i).set j l) q)[a]?=some s:=hs;by_cases x:q=i
    ·subst x;rw[zf]at d;by_cases y:a=j
     ·subst y;rw[hb]at hc;cases hc;rw[List.getElem?_set_self f]at d;cases d;exact⟨obj,e⟩
     ·rw[List.getElem?_set_ne (by omega)]at d;exact(h.gn q k a c s hc d).kept m e (by omega)
    ·rw[ze _ _ x]at d;exact(h.gn q k a c s hc d).kept m e (by omega) }
theorem zbU.gramPush(h:zbU tag nb n M W){i b:Nat}(hi:i<2)(l:SN)(v:Value)(m:Mod S W W')(hS:∀g,S g→tag g=(3,3)∨tag g=(3,9+i)∨tag g=(0,0))(k:∀g,tag g≠(0,0)→tag' g=tag g)
  (gv:zex tag' 3 49 1 M.gv 2 [upd M.gr i v 0,upd M.gr i v 1] W')
  (row:W'.ownsRow 0 52 1 v ((M.gb i).length+1) ((M.gb i++[b]).map zaO)) (tg:∀g,v.ownBlock=some g→tag' g=(3,9+i)) (obj:W'.heap[b]?=some (.cells (zcH l) 51 (0,0))) (tb:tag' b=(3,40+2*(M.gb i).length+i)) :
  zbU tag' nb { n with g:=upd n.g i (n.g i++[l]) } { M with gr:=upd M.gr i v,gb:=upd M.gb i (M.gb i++[b]) } W':=by
 have q:∀{r:Nat},r≠3→r≠9+i→∀g,S g→tag g≠(3,r):=fun r0 r6 g hg x=>by
  rcases hS g hg with y|y|y<;>rw[x]at y<;>simp at y
  ·exact r0 y
  ·exact r6 y
 exact
  {obj:=h.obj.mod m (q (by omega) (by omega)) k
   x:=h.x.mod m (q (by omega) (by omega)) k
   ev:=h.ev.mod m (q (by omega) (by omega)) k
   gv:=gv
   nx:=h.nx.mod m (q (by omega) (by omega)) k
   ct:=h.ct.mod m (q (by omega) (by omega)) k
   bg:=h.bg.mod m (q (by omega) (by omega)) k
   er:=fun j f=>(h.er j f).mod m (q (by omega) (by omega)) k
   en:=fun j f a ha=>(h.en j f a ha).mod m (q (by omega) (by omega)) k
   gr:=fun j f=>by
    show zex tag' (9+j) 52 1 (upd M.gr i v j) (upd M.gb i (M.gb i++[b]) j).length ((upd M.gb i (M.gb i++[b]) j).map zaO) W';by_cases x:j=i
    ·subst x;rw[zf,zf,List.length_append,List.length_singleton];exact⟨row,tg⟩
    ·rw[ze _ _ x,ze _ _ x];exact(h.gr j f).mod m (q (by omega) (by omega)) k
   gl:=fun j f=>by
    show(upd M.gb i (M.gb i++[b]) j).length=(upd n.g i (n.g i++[l]) j).length;by_cases x:j=i
    ·subst x;rw[zf,zf,List.length_append,List.length_append,h.gl j f];rfl
    ·rw[ze _ _ x,ze _ _ x];exact h.gl j f
   gn:=fun j f a c s hc hs=>by
    have d:(upd M.gb i (M.gb i++[b]) j)[a]?=some c:=hc;have e:(upd n.g i (n.g i++[l]) j)[a]?=some s:=hs;by_cases x:j=i
    ·subst x;rw[zf]at d e;have hl:=h.gl j f;by_cases y:a<(M.gb j).length
     ·rw[List.getElem?_append_left y]at d;rw[List.getElem?_append_left (by omega)]at e;exact(h.gn j f a c s d e).mod m (q (by omega) (by omega)) k
     ·have la:=(List.getElem?_eq_some_iff.1 d).1;rw[List.length_append,List.length_singleton]at la;have:a=(M.gb j).length:=by omega
      subst this;rw[List.getElem?_append_right (Nat.le_refl _),Nat.sub_self]at d;rw[List.getElem?_append_right (by omega),←hl,Nat.sub_self]at e;cases d;cases e;exact⟨obj,tb⟩
    ·rw[ze _ _ x]at d e;exact(h.gn j f a c s d e).mod m (q (by omega) (by omega)) k }
end
section
variable {tag:Nat→Nat×Nat} {W:World} {nb:Nat} {n:NS} {M:NV}
theorem zbU.endAt(h:zbU tag nb n M W){i k:Nat}(hi:i<2)(hk:k<8):∃g cap q cap',W.cell? ⟨nb,1,none⟩=some (.slice (some ⟨g,0,none⟩) 2 cap)∧(2≤cap∧cap≤9223372036854775807)∧W.cell? ⟨g,i,none⟩=some (.slice (some ⟨q,0,none⟩) 8 cap')∧(8≤cap'∧cap'≤9223372036854775807)∧W.cell? ⟨q,k,none⟩=some (.pointer (some ⟨M.eb i k,0,none⟩)):=by
 obtain⟨g,cap,c,e2,e3,_⟩:=h.ev.form (by omega);obtain⟨q,cap',d,f2,f3,_⟩:=(h.er i hi).form (by omega);have c0:W.cell? ⟨nb,1,none⟩=some M.ev:=h.obj.cell (j:=1) rfl;rw[c]at c0;have a:=h.ev.own;rw[c]at a;have c1:W.cell? ⟨g,i,none⟩=some (M.er i):=(zbu a (i:=i) (by
  rcases(show i=0∨i=1 by omega)with rfl|rfl<;>rfl)).1
 rw[d]at c1;have b:=(h.er i hi).own;rw[d]at b;unfold maxLen at e3 f3;exact⟨g,cap,q,cap',c0,⟨e2,by omega⟩,c1,⟨f2,by omega⟩,(zbu b (i:=k) (by simp[hk,zaO])).1⟩
theorem zbU.connIs(h:zbU tag nb n M W){i:Nat}(hi:i<2):∃g cap,W.cell? ⟨nb,0,none⟩=some (.slice (some ⟨g,0,none⟩) 2 cap)∧(2≤cap∧cap≤9223372036854775807)∧W.cell? ⟨g,i,none⟩=some (.pointer (some ⟨M.b i,0,none⟩)):=by
 obtain⟨g,cap,c,e2,e3,_⟩:=h.x.form (by omega);have c0:W.cell? ⟨nb,0,none⟩=some M.x:=h.obj.cell (j:=0) rfl;rw[c]at c0;have a:=h.x.own;rw[c]at a;unfold maxLen at e3;exact⟨g,cap,c0,⟨e2,by omega⟩,(zbu a (i:=i) (by
  rcases(show i=0∨i=1 by omega)with rfl|rfl<;>rfl)).1⟩
structure EnAt(W:World)(eb:Nat)(o:EN):Prop where
 wrote:W.cell? ⟨eb,0,none⟩=some (.string (zq o.wrote))
 fin:W.cell? ⟨eb,1,none⟩=some (.bool o.fin)
 cut:W.cell? ⟨eb,2,none⟩=some (.bool o.cut)
 keep:W.cell? ⟨eb,3,none⟩=some (.int .i64 (o.keep:Int))
 read:W.cell? ⟨eb,4,none⟩=some (.int .i64 (o.read:Int))
 state:W.cell? ⟨eb,5,none⟩=some (.int .i64 (o.state:Int))
 fz:∀j,W.frozen? ⟨eb,j,none⟩=false
theorem zbU.enAt(h:zbU tag nb n M W){i k:Nat}(hi:i<2)(hk:k<8):EnAt W (M.eb i k) (n.e i k) :=
 have a:=h.en i hi k hk
 ⟨a.cell (j:=0) rfl,a.cell (j:=1) rfl,a.cell (j:=2) rfl,a.cell (j:=3) rfl,a.cell (j:=4) rfl,a.cell (j:=5) rfl,fun j=>a.fz j⟩
def zct(w:World)(tag:Nat→Nat×Nat)(nb:Nat)(W:World)(r:Bool×NS)(e:Ending)(W':World):Prop:=e = .returned (.bool r.1)∧zy w tag nb W r.2 W'
theorem Net.endS{w W':World}(h:Net w tag nb n M W){i k:Nat}(hi:i<2)(hk:k<8)(a:EN)(m:Mod (fun g=>g=M.eb i k) W W')(obj:W'.heap[M.eb i k]?=some (.cells (za9 a) 89 (0,0))):Net w tag nb (n.setE i k a) M W' :=
 h.own (h.o.endS hi hk a m obj) rfl rfl rfl m (fun g hg=>.inl (by rw[show g=M.eb i k from hg,(h.o.en i hi k hk).tag])) (Ext.same h.env.ok m)
end
theorem zy.then0{w:World}{tag:Nat→Nat×Nat}{nb:Nat}{n:NS}{W W' W'':World}(h:zy w tag nb W n W')(m:Mod NoB W' W''):zy w tag nb W n W'':=by
 obtain⟨t,M,a,b,c⟩:=h;exact⟨t,M,a.free m (fun _ x=>x.elim),b,c.trans (m.mono (fun _ x=>x.elim))⟩
theorem zbD(a b:Nat):((a:Int)==(b:Int))=(a==b):=by
 by_cases h:a=b
 ·subst h;simp
 ·rw[beq_eq_false_iff_ne.2 h,beq_eq_false_iff_ne.2 (show(a:Int)≠(b:Int)by omega)]
theorem zjg(a b:Nat):((a:Int) != (b:Int))=(a != b):=by
 unfold bne;rw[zbD]
theorem zm3{w:World}{tag:Nat→Nat×Nat}{nb:Nat}{n:NS}{M:NV}{W:World}(h:Net w tag nb n M W){T:Nat}(hI:n.Inv T)(hT:T≤zbm){i k most:Nat}(hi:i<2)(hk:k<8)(hm:most≤4096) :
  Calls Tryz.prog 35 #[.pointer (some ⟨nb,0,none⟩),.int .i64 (i:Int),.int .i64 (k:Int),.int .i64 (most:Int)] W (zct w tag nb W (n.read i k most)):=by
 obtain⟨j,hj⟩:=nm (1-i);have B:j<2:=by omega
 have x1:IntKind.i64.wrap (1-(i:Int))=(j:Int):=by rw[IntKind.wrap_i64];omega
 have x2:(1:Int)-(i:Int)=(j:Int):=by omega
 obtain⟨g,cap,q,au,a1,⟨a2,a3⟩,a4,⟨a5,a6⟩,a7⟩:=h.o.endAt (i:=j) (k:=k) B hk;obtain⟨gx,cx,b1,⟨b2,b3⟩,b4⟩:=h.o.connIs (i:=i) hi;have aa:((n.c i).read k most).1.1.length≤2199023255552:=by
  have r:=(hI.c i hi).readOk hT;unfold CS.read;split
  ·simp
  ·split
   ·simp
   ·rename_i hs _;obtain⟨k0,k8,_⟩:=zcD (show(n.c i).stream k=0 by omega);have:=(r k hk).len;simp only[Int.toNat_natCast,List.length_take,List.length_drop];omega
 have kc:=zmU (h.cn i hi) (h.env.to (j:=i+1) (by omega)) (k:Int) (most:Int) (by omega) ((hI.c i hi).readOk hT) (by
  have r:=(hI.c i hi).readOk hT;unfold CS.read;split
  ·simp
  ·split
   ·simp
   ·rename_i hs _;have:=(r k hk).len;simp only[Int.toNat_natCast,List.length_take,List.length_drop];omega)
 have eo:=hI.e j B k hk;have af:=eo.wl;have ah:=eo.rd;have ai:=eo.keep;clear eo;unfold NS.read;rw[hj];obtain⟨R,hR⟩:=nm ((n.c i).read k most);rw[hR]at kc aa ⊢;obtain⟨⟨s,st,er⟩,c'⟩:=R;simp only at kc aa ⊢;obtain⟨o,ho⟩:=nm (n.e j k);rw[ho]at af ah ai ⊢;have HO:=zb ho;obtain⟨RR,I⟩:∃RR:Bool×NS,(if o.wrong most (s,st,er)=true then(false,n.setC i c')else((o.more (s,st,er)).fits,(n.setC i c').setE j k (o.more (s,st,er))))=RR:=⟨_,rfl⟩;rw[I];have G:=zb I;clear I;have HN:=zb h;clear h hI hR ho;go_enter Tryz.func35,Tryz.ntmps35;go_upto_region 3 with(go_at_call 29;refine kc.mono ?_;rintro _ W1 ⟨rfl,hL⟩;obtain⟨tag',V',h1,old,m1⟩:=HN.out.conn hi hL);have e0:=h1.o.enAt B hk;have J:(n.setC i c').e j k=o:=HO.out;rw[J]at e0;obtain⟨c0,c1,c2,c3,c4,c5,cz⟩:=e0;have H1:=zb h1;have K:=zb J;have y:=zb old;have HM:=zb m1;clear h1 old m1 hL kc HN HO a1 a4 a7 b1 b4 a2 a3 a5 a6 b2 b3 J;obtain⟨eb,L⟩:=nm (M.eb j k);dsimp only at c0 c1 c2 c3 c4 c5 cz ⊢;rw[L]at c0 c1 c2 c3 c4 c5 cz ⊢;have ab:=zb L;clear L;have D:Hid (∀W',Mod NoB W1 W'→zy w tag nb W (n.setC i c') W'):=zb fun W' m=>zy.trans y.out (HM.out.mono (fun g hg=>.inl (fun x=>by rw[x]at hg;simp at hg))) (zy.then0 H1.out.left m)
 obtain⟨S,hS⟩:=nm (n.setC i c');rw[hS]at H1 D K;have N:Hid ((if o.wrong most (s,st,er)=true then(false,S)else((o.more (s,st,er)).fits,S.setE j k (o.more (s,st,er))))=RR):=by
  show _=_;rw[←G.out,hS]
 clear hS G;have hsz:(zq s).size=s.length:=zJ s;have hwz:(zq o.wrote).size=o.wrote.length:=zJ o.wrote
 go_cut [10,99] (fun sv bv wx=>sv = .string (zq s)∧bv = .bool (o.wrong most (s,st,er))∧Hid (Mod NoB W1 wx))
 case first =>
  refine wp_region_quiet_lit (by kernel_rfl) (by kernel_rfl) ?_;repeat (go_big_quiet_step (fail))
  by_cases p1:er=0;rotate_left
  ·have d1:((er:Int) != 0)=true:=bne_iff_ne.2 (by omega);have t:o.wrong most (s,st,er)=true:=by unfold EN.wrong;simp[p1]
   simp only[d1];repeat (go_big_quiet_step (fail))
   refine wpQuiet_nil ?_;intro _ f;obtain⟨Z,a⟩:=f;subst a;go_wp2_with fail;go_meet;exact⟨rfl,by rw[t],zb ((Mod.refl NoB W1).drewN _)⟩
  have d1:((er:Int) != 0)=false:=by simp[p1]
  simp only[d1];repeat (go_big_quiet_step (fail))
  by_cases p2:most<s.length
  ·have d2:decide (most<s.length)=true:=decide_eq_true (by omega);have t:o.wrong most (s,st,er)=true:=by unfold EN.wrong;simp[p2]
   simp only[d2];repeat (go_big_quiet_step (fail))
   refine wpQuiet_nil ?_;intro _ f;obtain⟨Z,a⟩:=f;subst a;go_wp2_with fail;go_meet;exact⟨rfl,by rw[t],zb ((Mod.refl NoB W1).drewN _)⟩
  have d2:decide (most<s.length)=false:=decide_eq_false (by omega);simp only[d2];repeat (go_big_quiet_step (fail))
  by_cases p3:o.wrote.length<o.read+s.length
  ·have d3:decide ((o.wrote.length:Int)-(o.read:Int)<(s.length:Int))=true:=decide_eq_true (by omega);have t:o.wrong most (s,st,er)=true:=by unfold EN.wrong;simp[p3]
   simp only[d3];repeat (go_big_quiet_step (fail))
   refine wpQuiet_nil ?_;intro _ f;obtain⟨Z,a⟩:=f;subst a;go_wp2_with fail;go_meet;exact⟨rfl,by rw[t],zb ((Mod.refl NoB W1).drewN _)⟩
  have d3:decide ((o.wrote.length:Int)-(o.read:Int)<(s.length:Int))=false:=decide_eq_false (by omega);simp only[d3];have l1:(o.read:Int)+(s.length:Int)≤(o.wrote.length:Int):=by omega
  have l2:o.read+s.length≤o.wrote.length:=by omega
  repeat (go_big_quiet_step (fail))
  have e4:((zq o.wrote).extract o.read (o.read+s.length)).toList=(o.wrote.drop o.read).take s.length:=by
   rw[ByteArray.toList_eq,zdG,zaK,Nat.add_sub_cancel_left]
  have e5:(zq s).toList=s:=by rw[ByteArray.toList_eq,zaK]
  by_cases p4:(o.wrote.drop o.read).take s.length=s;rotate_left
  ·have d4:(!((zq o.wrote).extract o.read (o.read+s.length)).toList==(zq s).toList)=true:=by
    rw[e4,e5];simp[p4]
   have t:o.wrong most (s,st,er)=true:=by unfold EN.wrong;simp[p4]
   simp only[d4];repeat (go_big_quiet_step (fail))
   refine wpQuiet_nil ?_;intro _ f;obtain⟨Z,a⟩:=f;subst a;go_wp2_with fail;go_meet;exact⟨rfl,by rw[t],zb ((Mod.refl NoB W1).drewN _)⟩
  have d4:(!((zq o.wrote).extract o.read (o.read+s.length)).toList==(zq s).toList)=false:=by
   rw[e4,e5];simp[p4]
  simp only[d4];repeat (go_big_quiet_step (fail))
  by_cases p5:o.state=0
  ·have d5:((o.state:Int) != 0)=false:=by simp[p5]
   have t:o.wrong most (s,st,er)=false:=by unfold EN.wrong;simp[p1,p4,p5];omega
   simp only[d5];repeat (go_big_quiet_step (fail))
   refine wpQuiet_nil ?_;intro _ f;obtain⟨Z,a⟩:=f;subst a;go_wp2_with fail;go_meet;exact⟨rfl,by rw[t],zb ((Mod.refl NoB W1).drewN _)⟩
  have d5:((o.state:Int) != 0)=true:=bne_iff_ne.2 (by omega);simp only[d5];repeat (go_big_quiet_step (fail))
  by_cases p6:s=[];rotate_left
  ·have d6:(!s.isEmpty)=true:=by simp[p6]
   have t:o.wrong most (s,st,er)=true:=by unfold EN.wrong;simp[p5,p6]
   simp only[d6];repeat (go_big_quiet_step (fail))
   refine wpQuiet_nil ?_;intro _ f;obtain⟨Z,a⟩:=f;subst a;go_wp2_with fail;go_meet;exact⟨rfl,by rw[t],zb ((Mod.refl NoB W1).drewN _)⟩
  have d6:(!s.isEmpty)=false:=by simp[p6]
  simp only[d6];have t:o.wrong most (s,st,er)=((st:Int) != (o.state:Int)):=by
   have w1:(er != 0)=false:=by simp[p1]
   have w2:decide (most<s.length)=false:=decide_eq_false p2;have w3:decide (o.wrote.length<o.read+s.length)=false:=decide_eq_false p3;have w4:((o.wrote.drop o.read).take s.length != s)=false:=by simp[p4]
   have w5:(o.state != 0)=true:=bne_iff_ne.2 p5;have w6:(s != [])=false:=by simp[p6]
   unfold EN.wrong;have e7:((st:Int) != (o.state:Int))=(st != o.state):=by
    by_cases x:st=o.state
    ·simp[x]
    ·have:(st:Int)≠(o.state:Int):=by omega
     rw[bne_iff_ne.2 this,bne_iff_ne.2 x]
   rw[e7];simp only[w1,w2,w3,w4,w5,w6,Bool.false_or,Bool.true_and]
  repeat (go_big_quiet_step (fail))
  refine wpQuiet_nil ?_;intro _ f;obtain⟨Z,a⟩:=f;subst a;go_wp2_with fail;go_meet;exact⟨rfl,by rw[t],zb ((Mod.refl NoB W1).drewN _)⟩
 case rest =>
 obtain⟨rfl,rfl,hM⟩:=hcut;obtain⟨W2,aj⟩:=nn wc;subst aj;by_cases t:o.wrong most (s,st,er)=true
 ·have F:=zb (D.out _ hM.out);have hr:RR=(false,S):=N.out.symm.trans (if_pos t);subst hr;rw[t];clear D H1 y HM c0 c1 c2 c3 c4 c5 cz;go_wp2_with fail;go_ret;exact⟨rfl,F.out⟩
 have hr:RR=((o.more (s,st,er)).fits,S.setE j k (o.more (s,st,er))):=N.out.symm.trans (if_neg t);subst hr;have t:o.wrong most (s,st,er)=false:=by simpa using t
 rw[t];have hle:o.read+s.length≤o.wrote.length:=by
  unfold EN.wrong at t;simp only[Bool.or_eq_false_iff,decide_eq_false_iff_not]at t;omega
 have E:=hM.out;have ak:W2.cell? ⟨eb,0,none⟩=some (.string (zq o.wrote)):=E.cell (fun x=>x) c0;have al:W2.cell? ⟨eb,1,none⟩=some (.bool o.fin):=E.cell (fun x=>x) c1;have am:W2.cell? ⟨eb,2,none⟩=some (.bool o.cut):=E.cell (fun x=>x) c2;have ao:W2.cell? ⟨eb,3,none⟩=some (.int .i64 (o.keep:Int)):=E.cell (fun x=>x) c3;have ap:W2.cell? ⟨eb,4,none⟩=some (.int .i64 (o.read:Int)):=E.cell (fun x=>x) c4;have aq:W2.cell? ⟨eb,5,none⟩=some (.int .i64 (o.state:Int)):=E.cell (fun x=>x) c5;have N2:Net w tag' nb S { M with V:=V' } W2:=H1.out.free E (fun _ x=>x.elim);have C:=(N2.o.en j B k hk).obj;have ac:S.e j k=o:=K.out;rw[ac]at C;have u:({ M with V:=V' }:NV).eb j k=eb:=ab.out;rw[u]at C;have ar:∀p,W2.frozen? ⟨eb,p,none⟩=false:=fun p=>zd C
 obtain⟨l,O⟩:=nm (o.read+s.length);have A:Hid (∀W',Mod NoB ((W2.setCell ⟨eb,4,none⟩ (.int .i64 (l:Int))).setCell ⟨eb,5,none⟩ (.int .i64 (st:Int))) W'→zy w tag nb W (S.setE j k (o.more (s,st,er))) W'):=by
  refine zb fun W' m'=>?_
  have m3:Mod (fun g=>g=eb) W2 ((W2.setCell ⟨eb,4,none⟩ (.int .i64 (l:Int))).setCell ⟨eb,5,none⟩ (.int .i64 (st:Int))):=((Mod.refl (fun g=>g=eb) W2).setCell (p:=⟨eb,4,none⟩) (.inl rfl) _).setCell (p:=⟨eb,5,none⟩) (.inl rfl) _;have d:=zc (i:=5) (v:=.int .i64 (st:Int)) (zc (i:=4) (v:=.int .i64 (l:Int)) C);rw[←u]at d m3;have e3:((za9 o).setIfInBounds 4 (.int .i64 (l:Int))).setIfInBounds 5 (.int .i64 (st:Int))=za9 (o.more (s,st,er)):=by
   rw[←O];rfl
  rw[e3]at d;have N3:=N2.endS B hk (o.more (s,st,er)) m3 d;have tg:∀g,g=({ M with V:=V' }:NV).eb j k→tag' g≠(0,0):=fun g hg x=>by
   have:=(N2.o.en j B k hk).tag;rw[←hg,x]at this;simp at this
  rw[u]at N3 m3;exact zy.trans y.out ((HM.out.mono (fun g hg=>.inl (fun x=>by rw[x]at hg;simp at hg))).trans (E.mono (fun _ x=>x.elim))) (zy.then0 ⟨tag',_,N3,fun _ _=>rfl,m3.mono (fun g hg=>.inl (tg g (hg.trans u.symm)))⟩ m')
 have P:Hid ((o.more (s,st,er)).fits=if st=0 then true else if st=1 then o.fin&&l==o.wrote.length else if st=2 then o.cut&&decide (o.keep≤l)else false):=by
  rw[←O];rfl
 have ad:(o.read:Int)+(s.length:Int)=(l:Int):=by omega
 obtain⟨W3,Q⟩:=nm ((W2.setCell ⟨eb,4,none⟩ (.int .i64 (l:Int))).setCell ⟨eb,5,none⟩ (.int .i64 (st:Int)));have d:=zc (i:=5) (v:=.int .i64 (st:Int)) (zc (i:=4) (v:=.int .i64 (l:Int)) C);rw[Q]at d A;have k0:W3.cell? ⟨eb,0,none⟩=some (.string (zq o.wrote)):=za d rfl;have k1:W3.cell? ⟨eb,1,none⟩=some (.bool o.fin):=za d rfl;have k2:W3.cell? ⟨eb,2,none⟩=some (.bool o.cut):=za d rfl;have k3:W3.cell? ⟨eb,3,none⟩=some (.int .i64 (o.keep:Int)):=za d rfl;have k4:W3.cell? ⟨eb,4,none⟩=some (.int .i64 (l:Int)):=za d rfl;have ae:=zb Q;clear D hM E d Q H1 y HM C N2 ac c0 c1 c2 c3 c4 c5 cz N O u ab K;go_upto_region 7 with fail;rw[ae.out];clear ae ak al am ao ap aq ar ad;obtain⟨NR,U⟩:=nm (S.setE j k (o.more (s,st,er)));rw[U]at A;have FR:Hid (∀b W',b=(o.more (s,st,er)).fits→Mod NoB W3 W'→zct w tag nb W ((o.more (s,st,er)).fits,S.setE j k (o.more (s,st,er))) (.returned (.bool b)) W'):=zb fun b W' hb m=>⟨by rw[hb],by rw[U];exact A.out W' m⟩
 clear A U;by_cases H:st=0
 ·have z:(o.more (s,st,er)).fits=true:=P.out.trans (if_pos H);subst H;go_wp2_with fail;go_ret;exact FR.out _ _ z.symm (Mod.refl _ _)
 have b0:((st:Int)==0)=false:=beq_eq_false_iff_ne.2 (by omega);by_cases t1:st=1
 ·have z:(o.more (s,st,er)).fits=(o.fin&&l==o.wrote.length):=P.out.trans ((if_neg H).trans (if_pos t1));subst t1;have X:=zb z;clear z P H b0;go_upto_region 11 with fail;obtain⟨fn,Y⟩:=nm o.fin;rw[Y]at k1 X;cases fn
  ·go_quiet (fail);go_wp2_with fail;go_ret;exact FR.out _ _ (by rw[X.out];rfl) ((Mod.refl _ _).drewN _)
  ·go_quiet (fail);go_wp2_with fail;go_ret;exact FR.out _ _ (by rw[X.out,zbD];rfl) ((Mod.refl _ _).drewN _)
 have b1:((st:Int)==1)=false:=beq_eq_false_iff_ne.2 (by omega);by_cases t2:st=2
 ·have z:(o.more (s,st,er)).fits=(o.cut&&decide (o.keep≤l)):=P.out.trans ((if_neg H).trans ((if_neg t1).trans (if_pos t2)));subst t2;have X:=zb z;clear z P H b0 t1 b1;go_upto_region 13 with fail;obtain⟨fn,Y⟩:=nm o.cut;rw[Y]at k2 X;cases fn
  ·go_quiet (fail);go_wp2_with fail;go_ret;exact FR.out _ _ (by rw[X.out];rfl) ((Mod.refl _ _).drewN _)
  ·go_quiet (fail);go_wp2_with fail;go_ret;exact FR.out _ _ (by rw[X.out];simp) ((Mod.refl _ _).drewN _)
 have b2:((st:Int)==2)=false:=beq_eq_false_iff_ne.2 (by omega);have z:(o.more (s,st,er)).fits=false:=P.out.trans ((if_neg H).trans ((if_neg t1).trans (if_neg t2)));clear P H t1 t2;go_wp2_with fail;go_ret;exact FR.out _ _ z.symm (Mod.refl _ _)
theorem zo4:(Tryz.prog.info? 62).map (fun i=>(i.zero,i.size,i.bytes))=some (some (.agg #[.int .i64 0,.string ⟨#[]⟩]),2,24):=by kernel_rfl
theorem ze5(a b:List (Nat×List UInt8)):zS (a++b)=zS a++zS b:=by simp[zS]
theorem zgz(p:Nat×List UInt8)(l:List (Nat×List UInt8)):zS (p::l)=(.int .i64 (p.1:Int))::(.string (zq p.2))::zS l:=rfl
theorem zek:∀(l:List (Nat×List UInt8)) (j:Nat) (p:Nat×List UInt8),l[j]?=some p→(zS l)[j*2]?=some (.int .i64 (p.1:Int))∧(zS l)[j*2+1]?=some (.string (zq p.2))
 | [],j,p,h=>by simp at h
 | q::l,0,p,h=>by
  simp at h;subst h;exact⟨rfl,rfl⟩
 | q::l,j+1,p,h=>by
  have ih:=zek l j p (by simpa using h);rw[zgz,show(j+1)*2=j*2+2 by omega];simpa using ih
theorem zhQ(l:List (Nat×List UInt8)):∀u∈zS l,u.oneCell'=true:=by
 intro u a;unfold zS at a;rw[List.mem_flatMap]at a;obtain⟨p,_,b⟩:=a;simp at b;rcases b with rfl|rfl<;>rfl
theorem zqv(w:World)(v:Value)(l b:List (Nat×List UInt8))(a:Addr)(c:Nat)(h:w.ownsRow 0 62 2 v l.length (zS l))(hc:∀(j:Nat) u,(zS b)[j]?=some u→w.cell? (a.add j)=some u)(hl:l.length+b.length≤1099511627776) :
  ∃v' w',(∀ty,(Builtin.append_ #[46,46] ty #[v,.slice (some a) b.length c]).run Tryz.prog w = .ok v' w')∧w'.ownsRow 0 62 2 v' (l++b).length (zS (l++b))∧w.grownBy w' v.ownBlock∧zaG w v v':=by
 obtain⟨i,d,hz,e,f⟩:=info_parts zo4;rw[ze5,List.length_append];exact zH (P:=Tryz.prog) w 46 62 i _ 2 24 Tryz.underlying46 d hz e f rfl (by decide) v l.length (zS l) h a b.length c (zS b) (ze0 b) hc (zhQ b) (by unfold maxLen;omega) (by omega)
theorem Net.bagS{w:World}{tag:Nat→Nat×Nat}{nb:Nat}{n:NS}{M:NV}{W W1:World}{S:Nat→Prop}(h:Net w tag nb n M W){v:Value}{l:List (Nat×List UInt8)}(m:Mod S W W1)(d:∀g,S g→tag g=(3,6)∨W.heap.size≤g)(row:W1.ownsRow 0 62 2 v l.length (zS l))(i:∀g,v.ownBlock=some g→tag g=(3,6)∨(W.heap.size≤g∧g<W1.heap.size)) :
  zy w tag nb W { n with bag:=l } (W1.setCell ⟨nb,8,none⟩ v):=by
 obtain⟨tag',b⟩:=nm ((fun g=>if W.heap.size≤g∧v.ownBlock=some g∧g<W1.heap.size then(3,6)else tag g));have old:∀g,g<W.heap.size→tag' g=tag g:=fun g hg=>by
  rw[←b];exact if_neg (fun x=>by omega)
 have c:∀g,tag g≠(0,0)→tag' g=tag g:=fun g hg=>by
  by_cases q:g<W.heap.size
  ·exact old g q
  ·exact absurd (h.env.ok g (by omega)) hg
 have a:tag nb=(3,0):=h.o.obj.tag;have s1:¬S nb:=fun x=>by
  rcases d nb x with y|y
  ·rw[a]at y;simp at y
  ·have:=h.env.ok nb y;rw[a]at this;simp at this
 have e:v.ownBlock≠some nb:=fun x=>by
  rcases i nb x with y|⟨y,_⟩
  ·rw[a]at y;simp at y
  ·have:=h.env.ok nb y;rw[a]at this;simp at this
 have m1:Mod (fun g=>S g∨g=nb) W (W1.setCell ⟨nb,8,none⟩ v):=(m.mono (fun g hg=>.inl (.inl hg))).setCell (p:=⟨nb,8,none⟩) (.inl (.inr rfl)) v;have m2:Mod (fun g=>g=nb) W1 (W1.setCell ⟨nb,8,none⟩ v):=(Mod.refl (fun g=>g=nb) W1).setCell (p:=⟨nb,8,none⟩) (.inl rfl) v;have f:(W1.setCell ⟨nb,8,none⟩ v).heap.size=W1.heap.size:=by simp[World.setCell]
 have o':zbU tag' nb { n with bag:=l } { M with bg:=v } (W1.setCell ⟨nb,8,none⟩ v):=by
  refine h.o.bagS v l m1 (fun g hg=>?_) c ?_ (m2.owns row (fun g hg x=>e (by rw[hg,show g=nb from x]))) (fun g hg=>?_)
  ·rcases hg with x|x
   ·rcases d g x with y|y
    ·exact .inr (.inl y)
    ·exact .inr (.inr (h.env.ok g y))
   ·rw[x];exact .inl a
  ·rw[zc (m.obj s1 h.o.obj.obj)];rfl
  ·rcases i g hg with y|⟨y,z⟩
   ·rw[c g (by rw[y];simp),y]
   ·rw[←b];exact if_pos ⟨y,hg,z⟩
 refine⟨tag',_,h.own o' rfl rfl rfl m1 (fun g hg=>?_) ⟨old,fun g hg=>?_,fun g hg=>?_⟩,old,m1.mono (fun g hg=>?_)⟩
 ·rcases hg with x|x
  ·rcases d g x with y|y
   ·exact .inl (by rw[y])
   ·exact .inr y
  ·rw[x];exact .inl (by rw[a])
 ·by_cases q:W.heap.size≤g∧v.ownBlock=some g∧g<W1.heap.size
  ·exact .inl (by rw[←b];simp only[if_pos q])
  ·exact .inr (by rw[←b];simp only[if_neg q];exact h.env.ok g hg)
 ·rw[f]at hg;rw[←b];simp only;rw[if_neg (fun x=>by omega)];have:=m.size;exact h.env.ok g (by omega)
 ·rcases hg with x|x
  ·rcases d g x with y|y
   ·exact .inl (by rw[y];simp)
   ·exact .inr y
  ·rw[x];exact .inl (by rw[a];simp)
theorem zbU.gramAt{tag:Nat→Nat×Nat}{W:World}{nb:Nat}{n:NS}{M:NV}(h:zbU tag nb n M W){i:Nat}(hi:i<2):∃g cap a cap',W.cell? ⟨nb,2,none⟩=some (.slice (some ⟨g,0,none⟩) 2 cap)∧(2≤cap∧cap≤9223372036854775807)∧W.cell? ⟨g,i,none⟩=some (.slice a (n.g i).length cap')∧((n.g i).length≤cap'∧cap'≤9223372036854775807)∧∀(j b:Nat),(M.gb i)[j]?=some b→∃q,a=some ⟨q,0,none⟩∧W.cell? ⟨q,j,none⟩=some (.pointer (some ⟨b,0,none⟩)):=by
 obtain⟨g,cap,c,e2,e3,_⟩:=h.gv.form (by omega);obtain⟨a,cap',d,f2,f3,f4⟩:=zj (h.gr i hi).own;have c0:W.cell? ⟨nb,2,none⟩=some M.gv:=h.obj.cell (j:=2) rfl;rw[c]at c0;have x:=h.gv.own;rw[c]at x;have c1:W.cell? ⟨g,i,none⟩=some (M.gr i):=(zbu x (i:=i) (by
  rcases(show i=0∨i=1 by omega)with rfl|rfl<;>rfl)).1
 have hl:=h.gl i hi;rw[d,hl]at c1;unfold maxLen at e3 f3;refine⟨g,cap,a,cap',c0,⟨e2,by omega⟩,c1,⟨by omega,by omega⟩,fun j b hb=>?_⟩;have hj:=(List.getElem?_eq_some_iff.1 hb).1;obtain⟨q,rfl⟩:=f4 (by omega);have y:=(h.gr i hi).own;rw[d]at y;exact⟨q,rfl,(zbu y (i:=j) (by rw[List.getElem?_map,hb];rfl)).1⟩
structure SnAt(W:World)(b:Nat)(s:SN):Prop where
 id:W.cell? ⟨b,0,none⟩=some (.int .u64 (s.id:Int))
 dl:W.cell? ⟨b,1,none⟩=some (.int .u64 (s.dl:Int))
 data:W.cell? ⟨b,2,none⟩=some (.string (zq s.data))
 came:W.cell? ⟨b,3,none⟩=some (.bool s.came)
 fz:W.frozen? ⟨b,3,none⟩=false
theorem zbU.snAt{tag:Nat→Nat×Nat}{W:World}{nb:Nat}{n:NS}{M:NV}(h:zbU tag nb n M W){i j b:Nat}{s:SN}(hi:i<2)(hb:(M.gb i)[j]?=some b)(hs:(n.g i)[j]?=some s):SnAt W b s :=
 have a:=h.gn i hi j b s hb hs
 ⟨a.cell (j:=0) rfl,a.cell (j:=1) rfl,a.cell (j:=2) rfl,a.cell (j:=3) rfl,a.fz 3⟩
theorem zm4:∀(l:List (Nat×List UInt8)) (j:Nat) (p:Nat×List UInt8),l[j]?=some p→(zaa l)[j*2]?=some (.int .u64 (p.1:Int))∧(zaa l)[j*2+1]?=some (.string (zq p.2))
 | [],j,p,h=>by simp at h
 | q::l,0,p,h=>by
  simp at h;subst h;exact⟨rfl,rfl⟩
 | q::l,j+1,p,h=>by
  have ih:=zm4 l j p (by simpa using h);have e:zaa (q::l)=(.int .u64 (q.1:Int))::(.string (zq q.2))::zaa l:=rfl;rw[e,show(j+1)*2=j*2+2 by omega];simpa using ih
theorem zqw{w:World}{g N cap:Nat}{l:List (Nat×List UInt8)}(h:w.ownsRow 0 154 2 (.slice (some ⟨g,0,none⟩) N cap) N (zaa l))(hl:l.length=N){j:Nat}{p:Nat×List UInt8}(c:l[j]?=some p):w.cell? ⟨g,j*2,none⟩=some (.int .u64 (p.1:Int))∧w.cell? ⟨g,j*2+1,none⟩=some (.string (zq p.2)):=by
 obtain⟨a,b⟩:=zm4 l j p c;have hj:=(List.getElem?_eq_some_iff.1 c).1;rcases h.2 with⟨e,_⟩|⟨g',d,cur,e,_,h1,h2,h3,h4,h5⟩
 ·cases e
 ·cases e;rw[←h5,List.getElem?_take_of_lt (by omega),Array.getElem?_toList]at a b;exact⟨za h1 a,za h1 b⟩
theorem zdL.left{tag:Nat→Nat×Nat}{i b:Nat}{W W':World}{l:List (Nat×List UInt8)}{c':CS}{e:Ending}(ht:zP tag W)(hb:tag b=(i,1))(h:zdL tag i b W l c' e W'):∃v,e = .returned v∧W'.ownsRow 0 154 2 v l.length (zaa l)∧(∀g,v.ownBlock=some g→tag g=(i,8))∧zbc tag i b W c' W':=by
 obtain⟨v,V',e1,e2,e3,e4,_,m⟩:=h;exact⟨v,e1,e2,e3,tag,V',e4,Ext.same ht m,m.mono (fun g hg=>.inl (by rw[show g=b from hg,hb]))⟩
theorem zhR{now id:Nat}{data:List UInt8}{G:List SN}{j:Nat}{g:SN}(hg:G[j]?=some g)(r:Bool) :
  zbJ now id data (G.drop j) r=if g.id=id then((zbJ now id data (G.drop (j+1)) (g.data==data && !g.came&&decide (now≤g.dl))).1,{ g with came:=true }::(zbJ now id data (G.drop (j+1)) (g.data==data && !g.came&&decide (now≤g.dl))).2)
   else((zbJ now id data (G.drop (j+1)) r).1,g::(zbJ now id data (G.drop (j+1)) r).2):=by
 have a:=(List.getElem?_eq_some_iff.1 hg).1;have e:G.drop j=g::G.drop (j+1):=by
  rw[List.drop_eq_getElem_cons a]
  congr 1
  rw[List.getElem?_eq_getElem a]at hg;exact Option.some.inj hg
 rw[e,zbJ]
theorem zm5{now:Nat}{l:List (Nat×List UInt8)}{k:Nat}{m:Nat×List UInt8}(a:l[k]?=some m)(G:List SN) :
  zdY now (l.drop k) G=if (zbJ now m.1 m.2 G false).1 then zdY now (l.drop (k+1)) (zbJ now m.1 m.2 G false).2 else(false,(zbJ now m.1 m.2 G false).2):=by
 have hk:=(List.getElem?_eq_some_iff.1 a).1;have e:l.drop k=m::l.drop (k+1):=by
  rw[List.drop_eq_getElem_cons hk]
  congr 1
  rw[List.getElem?_eq_getElem hk]at a;exact Option.some.inj a
 rw[e,zdY]
theorem zm6(S:NS)(J:Nat):({ S with g:=upd S.g J (S.g J) }:NS)=S:=by rw[za2]
theorem Net.gramS{w:World}{tag:Nat→Nat×Nat}{nb:Nat}{S:NS}{G:List SN}{M:NV}{W:World}{J j b:Nat}{s:SN}(h:Net w tag nb { S with g:=upd S.g J G } M W)(c:J<2)(hb:(M.gb J)[j]?=some b)(hs:G[j]?=some s) :
  Net w tag nb { S with g:=upd S.g J (G.set j { s with came:=true }) } M (W.setCell ⟨b,3,none⟩ (.bool true))∧tag b=(3,40+2*j+J):=by
 have e:({ S with g:=upd S.g J G }:NS).g J=G:=zf _ _ _;have a:=h.o.gn J c j b s hb (by rw[e];exact hs);have m:Mod (fun g=>g=b) W (W.setCell ⟨b,3,none⟩ (.bool true)):=(Mod.refl (fun g=>g=b) W).setCell (p:=⟨b,3,none⟩) (.inl rfl) _;have o:=h.o.gramS c hb { s with came:=true } m (by rw[zc a.obj];rfl);have e2:({ ({ S with g:=upd S.g J G }:NS)with g:=upd ({ S with g:=upd S.g J G }:NS).g J ((({ S with g:=upd S.g J G }:NS).g J).set j { s with came:=true }) }:NS)={ S with g:=upd S.g J (G.set j { s with came:=true }) }:=by
  rw[e];show({ S with g:=upd (upd S.g J G) J _ }:NS)=_;rw[zdb]
 rw[e2]at o;exact⟨h.own o rfl rfl rfl m (fun g hg=>.inl (by rw[show g=b from hg,a.tag])) (Ext.same h.env.ok m),a.tag⟩
def zqx(tag:Nat→Nat×Nat):Nat→Prop:=fun g=>∃r,40≤r∧tag g=(3,r)
def zdj(w:World)(tag:Nat→Nat×Nat)(nb:Nat)(S:NS)(M:NV)(W1:World)(J:Nat)(G:List SN)(nw:Nat)(m:Nat×List UInt8)(RB:Bool)(RL:List SN)(j:Nat)(r:Bool)(wr:World):Prop :=
 ∃A:List SN,A.length=j∧Net w tag nb { S with g:=upd S.g J (A++G.drop j) } M wr∧Mod (zqx tag) W1 wr∧(zbJ nw m.1 m.2 (G.drop j) r).1=RB∧A++(zbJ nw m.1 m.2 (G.drop j) r).2=RL
section
variable {w:World} {tag:Nat→Nat×Nat} {nb:Nat} {S:NS} {M:NV} {W1 wr W':World} {J:Nat} {G:List SN} {nw:Nat} {m:Nat×List UInt8} {RB:Bool} {RL:List SN} {j b:Nat} {r:Bool} {g:SN}
theorem zb2{α : Type}{G:List α}{j:Nat}{g : α}(hg:G[j]?=some g):G.drop j=g::G.drop (j+1):=by
 have a:=(List.getElem?_eq_some_iff.1 hg).1;rw[List.drop_eq_getElem_cons a]
 congr 1
 rw[List.getElem?_eq_getElem a]at hg;exact Option.some.inj hg
theorem zdj.hit(h:zdj w tag nb S M W1 J G nw m RB RL j r wr)(hJ:J<2)(hg:G[j]?=some g)(hb:(M.gb J)[j]?=some b)(c:g.id=m.1)(k:Mod NoB (wr.setCell ⟨b,3,none⟩ (.bool true)) W'):zdj w tag nb S M W1 J G nw m RB RL (j+1) (g.data==m.2 && !g.came&&decide (nw≤g.dl)) W':=by
 obtain⟨A,d,hN,hm,h1,h2⟩:=h;have f:(A++G.drop j)[j]?=some g:=by
  rw[List.getElem?_append_right (by omega),d,Nat.sub_self,List.getElem?_drop,Nat.add_zero];exact hg
 obtain⟨a,i⟩:=hN.gramS hJ hb f;have hs:=zhR (now:=nw) (id:=m.1) (data:=m.2) hg r;rw[if_pos c]at hs;rw[hs]at h1 h2;refine⟨A++[{ g with came:=true }],by rw[List.length_append,d];rfl,?_,(hm.setCell (p:=⟨b,3,none⟩) (.inl ⟨_,by omega,i⟩) _).trans (k.mono (fun _ x=>x.elim)),h1,?_⟩
 ·have e:(A++G.drop j).set j { g with came:=true }=(A++[{ g with came:=true }])++G.drop (j+1):=by
   rw[zb2 hg,List.set_append_right _ _ (by omega),d,Nat.sub_self,List.set_cons_zero,List.append_assoc];rfl
  rw[e]at a;exact a.free k (fun _ x=>x.elim)
 ·rw[List.append_assoc];exact h2
theorem zdj.miss(h:zdj w tag nb S M W1 J G nw m RB RL j r wr)(hg:G[j]?=some g)(a:¬g.id=m.1)(b:Mod NoB wr W'):zdj w tag nb S M W1 J G nw m RB RL (j+1) r W':=by
 obtain⟨A,hA,c,hm,h1,h2⟩:=h;have hs:=zhR (now:=nw) (id:=m.1) (data:=m.2) hg r;rw[if_neg a]at hs;rw[hs]at h1 h2;refine⟨A++[g],by rw[List.length_append,hA];rfl,?_,hm.trans (b.mono (fun _ x=>x.elim)),h1,by rw[List.append_assoc];exact h2⟩;rw[zb2 hg]at c;rw[List.append_assoc];exact c.free b (fun _ x=>x.elim)
theorem zdj.start(hN:Net w tag nb { S with g:=upd S.g J G } M wr)(hm:Mod (zqx tag) W1 wr)(hs:zbJ nw m.1 m.2 G false=(RB,RL)):zdj w tag nb S M W1 J G nw m RB RL 0 false wr :=
 ⟨[],rfl,by rw[List.drop_zero,List.nil_append];exact hN,hm,by rw[List.drop_zero,hs],by rw[List.drop_zero,hs];rfl⟩
theorem zdj.done(h:zdj w tag nb S M W1 J G nw m RB RL j r wr)(hj:j=G.length):r=RB∧Net w tag nb { S with g:=upd S.g J RL } M wr∧Mod (zqx tag) W1 wr:=by
 obtain⟨A,hA,a,hm,h1,h2⟩:=h;have e:G.drop j=[]:=by rw[hj];exact List.drop_length
 rw[e]at h1 h2 a;have h2:A=RL:=by
  rw[←h2];exact(List.append_nil A).symm
 subst h2;rw[List.append_nil]at a;exact⟨h1,a,hm⟩
theorem zdj.look(h:zdj w tag nb S M W1 J G nw m RB RL j r wr)(f:J<2)(hn:S.now=nw)(hj:j≤G.length):wr.cell? ⟨nb,4,none⟩=some (.int .u64 (nw:Int))∧∃gg cg ga ca,wr.cell? ⟨nb,2,none⟩=some (.slice (some ⟨gg,0,none⟩) 2 cg)∧(2≤cg∧cg≤9223372036854775807)∧wr.cell? ⟨gg,J,none⟩=some (.slice ga G.length ca)∧(G.length≤ca∧ca≤9223372036854775807)∧Mod (zqx tag) W1 wr ∧
  ∀g,G[j]?=some g→∃q b,ga=some ⟨q,0,none⟩∧(M.gb J)[j]?=some b∧wr.cell? ⟨q,j,none⟩=some (.pointer (some ⟨b,0,none⟩))∧SnAt wr b g:=by
 obtain⟨A,l,d,hm,h1,h2⟩:=h;have a:({ S with g:=upd S.g J (A++G.drop j) }:NS).g J=A++G.drop j:=zf _ _ _;have c:(A++G.drop j).length=G.length:=by rw[List.length_append,l,List.length_drop];omega
 obtain⟨gg,cg,ga,ca,d1,d2,n,p,d7⟩:=d.o.gramAt f;rw[a,c]at n p;refine⟨?_,gg,cg,ga,ca,d1,d2,n,p,hm,fun g hg=>?_⟩
 ·have:=d.o.obj.cell (j:=4) (v:=.int .u64 (S.now:Int)) rfl;rw[hn]at this;exact this
 ·have i:(A++G.drop j)[j]?=some g:=by
   rw[List.getElem?_append_right (by omega),l,Nat.sub_self,List.getElem?_drop,Nat.add_zero];exact hg
  have k:=(List.getElem?_eq_some_iff.1 hg).1;obtain⟨b,hb⟩:∃b,(M.gb J)[j]?=some b:=⟨(M.gb J)[j]'(by rw[d.o.gl J f,a,c];exact k),List.getElem?_eq_getElem _⟩;obtain⟨q,e,d8⟩:=d7 j b hb;exact⟨q,b,e,hb,d8,d.o.snAt f hb (by rw[a];exact i)⟩
end
theorem ze6(w:World)(k:Nat)(p:Addr)(v:Value):Mod NoB (w.setCell p v) ((w.drewN k).setCell p v):=(Mod.refl NoB (w.setCell p v)).drewN k
end Go.Proofs.YtddfdpbaiedcjaaGreatDoor
