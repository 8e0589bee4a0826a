/- A part of Urgent's proof. Conditions: none. Part 32 of 32. -/
import Derived.Test.YtddfdpbaiedcjaaGreatDoorUrg31
set_option maxRecDepth 100000
set_option maxHeartbeats 16000000
set_option linter.all false
namespace Go.Proofs.YtddfdpbaiedcjaaGreatDoor
open Go.RowKit
theorem PR.start{c:CS}{st lf:Int}(a:c.Ok)(hp:zfX c)(b:lf=(c.waits.length:Int))(hs:0≤st→c.waits=[]∧∀j:Nat,(j:Int)<st→zdl c j)(hm:64≤c.mtu):PR c.next st lf 0 c c.pkDraft :=
 ⟨a,hp,⟨by show zL c.next=zo8 c.next [];simp[zo8],fun f hf=>(by cases hf)⟩,⟨st,lf,rfl,b,hs⟩,.inr (.inr fun j hj=>absurd hj (Nat.not_lt_zero j)),by
  have:=zs c.next;show(zL c.next).length≤c.mtu;omega⟩
theorem zk6(fs:List Frm):fs.any (zca 0)=false:=by
 rw[List.any_eq_false];intro f _;simp[zca]
theorem zk7(d:Drf):zz d []=(d,[]):=by unfold zz;rw[if_pos rfl]
theorem zj4:∀(m:Nat) (c:CS) (n:NS) (st lf:Int),zmj c []→zfX c→lf=(c.waits.length:Int)→(0≤st→c.waits=[]∧∀j:Nat,(j:Int)<st→zdl c j)→n.mtu=c.mtu→n.count 0=c.next→n.now=0 →
  (NS.flushL 0 (CS.pkts m c []).1 n).1=true∧∃bg,(NS.flushL 0 (CS.pkts m c []).1 n).2.bag=n.bag++bg∧zle bg st lf=true
 | 0,c,n,st,lf,_,_,_,_,_,_,_=>⟨rfl,[],(List.append_nil _).symm,rfl⟩
 | m+1,c,n,st,lf,hk,hp,hlf,hs,hm,hc,hn=>by
  obtain⟨p,A,B,r,C,D,s⟩:=hk.round;have i:=PR.start hk.ok hp hlf hs hk.mtu;have t:=hk.next;unfold CS.pkts;rw[zk7]at p A B r C D s ⊢;simp only at p A B r C D s ⊢;have hF:(∃k,PR c.next st lf k (c.pkFill c.pkDraft).1 (c.pkFill c.pkDraft).2)∧((c.pkFill c.pkDraft).2.fs≠[]→(c.pkFill c.pkDraft).2.b.length+4≤c.mtu)∧(c.pkFill c.pkDraft).1.mtu=c.mtu:=by
   have h0:DFr c.pkDraft:=⟨fun f hf=>(by cases hf),fun x=>absurd rfl x⟩;have q:=zgn 10 c c.pkDraft (Nat.le_refl _) hk.ok p;unfold CS.pkFill;split
   ·refine⟨⟨8,zey 10 c c.pkDraft (Nat.le_refl _) i⟩,fun d=>?_,q.2.2.2.2.2.2.2.2.2.2.1⟩;have a:=(h0.fillN 10 c c.pkDraft (Nat.le_refl _) hk.ok p).fit d;have b:(CS.fillN 10 c c.pkDraft).2.room=c.mtu:=q.2.2.1;show(CS.fillN 10 c c.pkDraft).2.b.length+4≤_;omega
   ·exact⟨⟨0,i⟩,fun d=>absurd rfl d,rfl⟩
  obtain⟨⟨k,pr⟩,l,u⟩:=hF;by_cases d:(c.pkFill c.pkDraft).2.fs=[]
  ·rw[if_pos d];exact⟨rfl,[],(List.append_nil _).symm,rfl⟩
  ·rw[if_neg d];obtain⟨k1,_⟩:=s d;have hfl:=l d;obtain⟨v,w,sc⟩:=pr.sc;generalize c.pkFill c.pkDraft=F at *;have g:=pr.db.dec (by unfold zA at t;omega) d;have o:(zb3 F.2.b).length=F.2.b.length+4:=by unfold zb3;rw[List.length_append,zjZ]
   have ih:=zj4 m (F.1.pkDone F.2) { n with count:=upd n.count 0 (n.count 0+1),bag:=n.bag++[(1-0,zb3 F.2.b)] } v w k1 ⟨pr.pl.cut,pr.pl.waits⟩ sc.lf (fun h=>⟨(sc.hs h).1,fun j hj=>zh4 (c:=F.1) rfl rfl ((sc.hs h).2 j hj)⟩)
    (by show n.mtu=F.1.mtu;rw[hm,u]) (by show upd n.count 0 (n.count 0+1) 0=F.1.next+1;rw[zf,hc,r]) hn
   have e:NS.flushL 0 (zb3 F.2.b::(CS.pkts m (F.1.pkDone F.2) []).1) n=NS.flushL 0 (CS.pkts m (F.1.pkDone F.2) []).1 { n with count:=upd n.count 0 (n.count 0+1),bag:=n.bag++[(1-0,zb3 F.2.b)] }:=by
    rw[NS.flushL,g];simp only;rw[if_neg (by
     rw[o,hm,hc];rintro(x|x|x)
     ·omega
     ·exact x rfl
     ·exact d (by simpa using x)),hn,zk6]
    rfl
   show(NS.flushL 0 (zb3 F.2.b::(CS.pkts m (F.1.pkDone F.2) []).1) n).1=true∧∃bg,(NS.flushL 0 (zb3 F.2.b::(CS.pkts m (F.1.pkDone F.2) []).1) n).2.bag=n.bag++bg∧zle bg st lf=true;rw[e];obtain⟨i1,bg,i2,i3⟩:=ih;refine⟨i1,(1-0,zb3 F.2.b)::bg,?_,?_⟩
   ·rw[i2];simp
   ·have z:zcV (zb3 F.2.b)=F.2.fs.map zbe:=by unfold zcV;rw[g]
    show(match zfd (zcV (zb3 F.2.b)) st lf with|none=>false|some y=>if 0<y.2∧0≤y.1 then false else zle bg y.1 y.2)=true;rw[z,zd2,sc.scan];simp only;rw[if_neg (fun x=>by
     have a:=(sc.hs x.2).1;have b:=sc.lf;rw[a]at b;simp at b;omega)]
    exact i3
structure UN(k q:Nat)(n:NS):Prop where
 inv:n.Inv q
 cl:(n.c 0).closed=0
 an:(n.c 0).answer=false
 pl:zfX (n.c 0)
 wl:(n.c 0).waits.length=q
 sb:∀j,k≤j→j<8→((n.c 0).ws j).b=[]
 e0:∀j,k≤j→j<8→n.e 0 j=EN.zero
 nw:n.now=0∧(n.c 0).now=0
 ct:n.count 0=(n.c 0).next
 mt:n.mtu=(n.c 0).mtu
 bg:n.bag=[]
 id:(n.c 0).anyID=true→(n.c 0).lastID<n.next 0
theorem zk8{k:Nat}(h:k<8):pickN (k:Int) 8=k:=by
 unfold pickN;rw[if_neg (by omega)];omega
theorem UN.send{k q:Nat}{n:NS}(h:UN k q n)(hk:k<8){t:List UInt8}(ht:t.length≤300):(n.step ⟨1,0,(k:Int),0,t⟩).1=true∧UN (k+1) q (n.step ⟨1,0,(k:Int),0,t⟩).2:=by
 rw[zbT n ⟨1,0,(k:Int),0,t⟩ rfl];show(n.send 0 (pickN (k:Int) 8) t).1=true∧UN (k+1) q (n.send 0 (pickN (k:Int) 8) t).2;rw[zk8 hk];have hi:=h.inv.send 0 k t;have hs:(n.c 0).stream k=0:=by
  unfold CS.stream;rw[if_neg (by rw[h.cl];simp),if_neg (by omega)]
 have f:=h.e0 k (Nat.le_refl k) hk;have hb:=h.sb k (Nat.le_refl k) hk;obtain⟨p1,p2⟩:=h.pl.cut k hk;have hc:(n.c 0).send k t=(0,{ n.c 0 with ws:=upd (n.c 0).ws k { (n.c 0).ws k with b:=((n.c 0).ws k).b++t } }):=by
  unfold CS.send;rw[if_neg (by rw[hs];simp),Int.toNat_natCast,p1,p2,if_neg (by simp),if_neg (by rw[hb];simp;omega)]
 have e:n.send 0 k t=(true,(n.setC 0 { n.c 0 with ws:=upd (n.c 0).ws k { (n.c 0).ws k with b:=((n.c 0).ws k).b++t } }).setE 0 k { n.e 0 k with wrote:=(n.e 0 k).wrote++t }):=by
  unfold NS.send;rw[hc,if_neg (by rw[f];simp[EN.zero]),if_neg (by rw[f];simp[EN.zero];omega)];rfl
 rw[e]at hi ⊢;refine⟨rfl,⟨hi,h.cl,h.an,⟨fun j d=>?_,h.pl.waits⟩,h.wl,fun j d a=>?_,fun j d a=>?_,h.nw,h.ct,h.mt,h.bg,h.id⟩⟩
 ·show(upd (n.c 0).ws k _ j).cut=false∧(upd (n.c 0).ws k _ j).finished=false;by_cases x:j=k
  ·subst x;rw[zf];exact h.pl.cut j d
  ·rw[ze _ _ x];exact h.pl.cut j d
 ·show(upd (n.c 0).ws k _ j).b=[];rw[ze _ _ (by omega)];exact h.sb j (by omega) a
 ·show upd n.e 0 (upd (n.e 0) k _) 0 j=EN.zero;rw[zf,ze _ _ (by omega)];exact h.e0 j (by omega) a
theorem UN.gram{k q:Nat}{n:NS}(h:UN k q n)(hq:q<16){t:List UInt8}(ht:t.length≤24):(n.step ⟨4,0,5,0,t⟩).1=true∧UN k (q+1) (n.step ⟨4,0,5,0,t⟩).2:=by
 rw[zbK n ⟨4,0,5,0,t⟩ rfl];show(n.datagram 0 ⟨4,0,5,0,t⟩).1=true∧UN k (q+1) (n.datagram 0 ⟨4,0,5,0,t⟩).2;have hi:=h.inv.datagram 0 ⟨4,0,5,0,t⟩;have hm:=h.inv.mtu;have hn:=h.inv.next 0 (by omega);obtain⟨w1,w2⟩:=h.nw;have hp9:=zao (5:Int) 9 (by omega);have hc:(n.c 0).datagram (n.next 0) (n.now+pickN 5 9) t=(0,{ n.c 0 with anyID:=true,lastID:=n.next 0,waits:=(n.c 0).waits++[dgF (n.next 0) (n.now+pickN 5 9) t] }):=by
  unfold CS.datagram;rw[if_neg (by rw[h.cl];simp),if_neg (by
   rintro(x|x|⟨x,y⟩)
   ·unfold zA at x;omega
   ·unfold zA at x;omega
   ·have:=h.id x;omega),if_neg (by rw[←h.mt];omega),if_neg (by rw[h.wl];omega),if_pos (by rw[w2];exact Nat.zero_le _)]
 have e:n.datagram 0 ⟨4,0,5,0,t⟩=(true,{ n.setC 0 { n.c 0 with anyID:=true,lastID:=n.next 0,waits:=(n.c 0).waits++[dgF (n.next 0) (n.now+pickN 5 9) t] }with g:=upd n.g 0 (n.g 0++[⟨n.next 0,n.now+pickN 5 9,t,false⟩]),next:=upd n.next 0 (n.next 0+1+pickN 0 3) }):=by
  unfold NS.datagram;simp only;rw[if_neg (by omega),hc,if_neg (by simp),if_neg (by simp)]
 rw[e]at hi ⊢;refine⟨rfl,⟨hi,h.cl,h.an,⟨h.pl.cut,fun f a=>?_⟩,?_,h.sb,h.e0,h.nw,h.ct,h.mt,h.bg,fun _=>?_⟩⟩
 ·have a:f∈(n.c 0).waits++[dgF (n.next 0) (n.now+pickN 5 9) t]:=a;rcases List.mem_append.1 a with x|x
  ·exact h.pl.waits f x
  ·rw[List.mem_singleton.1 x];rfl
 ·show((n.c 0).waits++[dgF (n.next 0) (n.now+pickN 5 9) t]).length=q+1;rw[List.length_append,h.wl];rfl
 ·show n.next 0<upd n.next 0 (n.next 0+1+pickN 0 3) 0;rw[zf];omega
theorem UN.start(mtu:Int):UN 0 0 (NS.build mtu 299 599) where
 inv:=NS.Inv.build _ _ _
 cl:=rfl
 an:=rfl
 pl:=⟨fun _ _=>⟨rfl,rfl⟩,fun f hf=>(by cases hf)⟩
 wl:=rfl
 sb:=fun _ _ _=>rfl
 e0:=fun _ _ _=>rfl
 nw:=⟨rfl,rfl⟩
 ct:=rfl
 mt:=rfl
 bg:=rfl
 id:=fun h=>(by cases h)
theorem UN.last{k q:Nat}{n:NS}(h:UN k q n)(hq:q≤16){gs:List (List UInt8)}(hg:gs.length=q):zqI gs n=true:=by
 have hk:=(h.inv.c 0 (by omega)).pkOk (by unfold zbm;omega);have b:(n.c 0).acks=([],n.c 0):=by unfold CS.acks;rw[h.an];rfl
 rw[b]at hk;have a:(n.c 0).packets=CS.pkts (12-(n.c 0).flight.length+0+1) (n.c 0) []:=by
  unfold CS.packets;rw[b];rfl
 obtain⟨d,bg,f,l3⟩:=zj4 (12-(n.c 0).flight.length+0+1) (n.c 0) (n.setC 0 (n.c 0).packets.2) (-1) gs.length hk h.pl (by rw[h.wl,hg]) (fun x=>absurd x (by omega)) h.mt h.ct h.nw.1;unfold zqI NS.flush;rw[a]at d f ⊢;rw[if_pos d,f];have e:(n.setC 0 (CS.pkts (12-(n.c 0).flight.length+0+1) (n.c 0) []).2).bag=[]:=h.bg;rw[e,List.nil_append];exact l3
theorem UN.grams{k:Nat}(c:List (List UInt8))(d:c.length≤16):∀(gs:List (List UInt8)) (q:Nat) (n:NS),UN k q n→q+gs.length=c.length→(match zqH gs n with|.error b=>b|.ok n=>zqI c n)=true
 | [],q,n,h,hq=>h.last (by simp at hq;omega) (by simpa using hq.symm)
 | t::gs,q,n,h,hq=>by
  rw[zqH];by_cases hb:24<t.length
  ·rw[if_pos hb]
  ·rw[if_neg hb];simp only[List.length_cons]at hq;obtain⟨a,b⟩:=h.gram (by omega) (t:=t) (by omega);rw[if_pos a];exact UN.grams c d gs (q+1) _ b (by omega)
theorem UN.sends(gs:List (List UInt8))(c:gs.length≤16):∀(d:List (List UInt8)) (k:Nat) (n:NS),UN k 0 n→k+d.length≤8→(match zpv d k n with|.error b=>b|.ok n=>urgM gs n)=true
 | [],k,n,h,_=>UN.grams gs c gs 0 n h (by omega)
 | t::d,k,n,h,hk=>by
  rw[zpv];by_cases hb:300<t.length
  ·rw[if_pos hb]
  ·rw[if_neg hb];simp only[List.length_cons]at hk;obtain⟨a,b⟩:=h.send (by omega) (t:=t) (by omega);rw[if_pos a];exact UN.sends gs c d (k+1) _ b (by omega)
theorem urgent_true(a gs:List (List UInt8))(mtu:Int):zfe a gs mtu=true:=by
 unfold zfe;by_cases h:8<a.length∨16<gs.length
 ·rw[if_pos h]
 ·rw[if_neg h];exact UN.sends gs (by omega) a 0 _ (UN.start mtu) (by omega)
end Go.Proofs.YtddfdpbaiedcjaaGreatDoor
