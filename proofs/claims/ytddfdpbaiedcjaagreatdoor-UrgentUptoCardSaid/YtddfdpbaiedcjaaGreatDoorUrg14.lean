/- A part of Urgent's proof. Conditions: none. Part 14 of 32. -/
import Derived.Test.YtddfdpbaiedcjaaGreatDoorUrg13
set_option maxRecDepth 100000
set_option maxHeartbeats 16000000
set_option linter.all false
namespace Go.Proofs.YtddfdpbaiedcjaaGreatDoor
open Go.RowKit
theorem zfp{fn a:Nat→Value}:∀{l:List Nat},(∀x∈l,fn x=a x)→zN fn l=zN a l:=by
 intro l
 induction l with
 | nil=>intro _;rfl
 | cons x l ih =>
  intro h;have e:=ih (fun y hy=>h y (List.mem_cons_of_mem _ hy));show [Value.int .i64 (x:Int),fn x]++zN fn l=[Value.int .i64 (x:Int),a x]++zN a l;rw[e,h x List.mem_cons_self]
theorem zak.congr{sb:Nat}{fn d:Nat→Value}{l:List Nat}{g cap:Nat}{W:World}(h:zak sb fn l g cap W)(he:∀x∈l,fn x=d x)(hf:∀c,∃f a b,d c = .func f a b):zak sb d l g cap W :=
 {h with own:=by rw[←zfp he];exact h.own,fns:=hf }
def zeL(b cb:Nat)(kb:Nat→Nat):Nat→Value
 | 0=>.func (.func 145) #[.pointer (some ⟨b,0,none⟩)] #[]
 | 1=>.func (.func 146) #[.pointer (some ⟨b,0,none⟩)] #[]
 | k+2=>.func (.func 148) #[] #[.pointer (some ⟨cb,0,none⟩),.pointer (some ⟨kb k,0,none⟩)]
theorem zdc(b cb:Nat)(kb:Nat→Nat):∀c,∃f a x,zeL b cb kb c = .func f a x
 | 0=>⟨_,_,_,rfl⟩
 | 1=>⟨_,_,_,rfl⟩
 | _+2=>⟨_,_,_,rfl⟩
theorem zI.then{tag:Nat→Nat×Nat}{i b db:Nat}{W:World}{c c':CS}{d g:Drf}{tag':Nat→Nat×Nat}{V':CV}{a f:Value}{l':List (Frm×Value)}{W' W'':World}{r:Bool}{e:Ending}(h:zI tag i b db W c d tag' V' a f l' W')(hp:za7 tag' i b db W' c' g r e W'') :
  e = .returned (.bool r)∧∃tag2 V2 bv2 fv2 l2,zI tag i b db W c' g tag2 V2 bv2 fv2 l2 W''∧Ext i tag' tag2 W' W''∧Mod (zaf i tag') W' W'':=by
 obtain⟨rfl,tag2,V2,bv2,fv2,l2,h1,h2,h3,h4⟩:=hp;exact⟨rfl,tag2,V2,bv2,fv2,l2,⟨h1,h2,h.e.trans h3 h.m.size,zan h.e h.m h4,h.p⟩,h3,h4⟩
theorem za7.from0{tag:Nat→Nat×Nat}{i b db:Nat}{W j W':World}{c:CS}{d:Drf}{r:Bool}{e:Ending}(ht:zP tag W)(a:Mod NoB W j)(h:za7 tag i b db j c d r e W'):za7 tag i b db W c d r e W':=by
 obtain⟨rfl,tag2,V2,f,g,l2,h1,h2,h3,h4⟩:=h;refine⟨rfl,tag2,V2,f,g,l2,h1,h2,(Ext.same ht a).trans h3 a.size,(a.mono (fun _ x=>x.elim)).trans h4⟩
structure zaS(tag:Nat→Nat×Nat)(i b db:Nat)(W0:World)(cb:Nat)(kb:Nat→Nat)(n:Nat)(l:List Nat)(sb g cap:Nat)(tag':Nat→Nat×Nat)(W:World):Prop where
 heap:zak sb (zeL b cb kb) l g cap W
 hc:W.cell? ⟨cb,0,none⟩=some (.pointer (some ⟨b,0,none⟩))
 hk:∀k,k<n→W.cell? ⟨kb k,0,none⟩=some (.int .i64 (k:Int))
 fr:∀q,(q=sb∨q=g∨q=cb∨∃k,k<n∧q=kb k)→W0.heap.size≤q∧tag' q=(0,0)
 ne:∀q,(q=cb∨∃k,k<n∧q=kb k)→q≠sb∧q≠g
theorem zaS.mod{S:Nat→Prop}{tag:Nat→Nat×Nat}{i b db:Nat}{a:World}{cb:Nat}{c:Nat→Nat}{n:Nat}{l:List Nat}{sb g cap:Nat}{tag' tag2:Nat→Nat×Nat}{W W':World}(h:zaS tag i b db a cb c n l sb g cap tag' W)(m:Mod S W W')(hS:∀q,S q→a.heap.size≤q→tag' q≠(0,0))(ht:∀q,q<W.heap.size→tag2 q=tag' q) :
  zaS tag i b db a cb c n l sb g cap tag2 W':=by
 have q:∀{q:Nat},(q=sb∨q=g∨q=cb∨∃k,k<n∧q=c k)→¬S q:=fun f x=>hS _ x (h.fr _ f).1 (h.fr _ f).2
 have d:=zk h.heap.c0;have lg:=zE h.heap.own g rfl;refine⟨h.heap.mod m (q (.inl rfl)) (q (.inr (.inl rfl))),m.cell (q (.inr (.inr (.inl rfl)))) h.hc,fun k hk=>m.cell (q (.inr (.inr (.inr ⟨k,hk,rfl⟩)))) (h.hk k hk),fun x e=>⟨(h.fr x e).1,?_⟩,h.ne⟩;rw[ht x ?_]
 ·exact(h.fr x e).2
 ·rcases e with rfl|rfl|rfl|⟨k,hk,rfl⟩
  ·exact d
  ·exact lg
  ·exact zk h.hc
  ·exact zk (h.hk k hk)
theorem zaS.src{tag:Nat→Nat×Nat}{i b db:Nat}{c:World}{cb:Nat}{d:Nat→Nat}{n:Nat}{l:List Nat}{sb g cap:Nat}{tag' tag2:Nat→Nat×Nat}{W W':World}(h:zaS tag i b db c cb d n l sb g cap tag' W)(hi:0<i)(e:Ext i tag' tag2 W W')(m:Mod (zaf i tag') W W') :
  zaS tag i b db c cb d n l sb g cap tag2 W' :=
 h.mod m.ofC (fun q a _ x=>by rw[x]at a;simp at a;omega) (fun q a=>e.old q a)
theorem zaS.mod0{tag:Nat→Nat×Nat}{i b db:Nat}{a:World}{cb:Nat}{c:Nat→Nat}{n:Nat}{l:List Nat}{sb g cap:Nat}{tag':Nat→Nat×Nat}{W W':World}(h:zaS tag i b db a cb c n l sb g cap tag' W)(m:Mod NoB W W'):zaS tag i b db a cb c n l sb g cap tag' W' :=
 h.mod m (fun _ x=>x.elim) (fun _ _=>rfl)
theorem zaS.heaped{tag:Nat→Nat×Nat}{i b db:Nat}{j:World}{cb:Nat}{d:Nat→Nat}{n:Nat}{l p:List Nat}{sb g cap f a:Nat}{tag':Nat→Nat×Nat}{W W':World}(h:zaS tag i b db j cb d n l sb g cap tag' W)(ht:zP tag' W)(hw:j.heap.size≤W.heap.size)(hh:zak sb (zeL b cb d) p f a W')(hg:f=g∨W.heap.size≤f)(m:Mod (fun q=>q=sb∨q=g) W W') :
  zaS tag i b db j cb d n p sb f a tag' W':=by
 have q:∀{q:Nat},(q=cb∨∃k,k<n∧q=d k)→¬(q=sb∨q=g):=fun o x=>by
  have:=h.ne _ o;rcases x with x|x
  ·exact this.1 x
  ·exact this.2 x
 have lt:∀{q:Nat},(q=cb∨∃k,k<n∧q=d k)→q<W.heap.size:=fun o=>by
  rcases o with rfl|⟨k,hk,rfl⟩
  ·exact zk h.hc
  ·exact zk (h.hk k hk)
 refine⟨hh,m.cell (q (.inl rfl)) h.hc,fun k hk=>m.cell (q (.inr ⟨k,hk,rfl⟩)) (h.hk k hk),fun x c=>?_,fun x c=>⟨(h.ne x c).1,fun e=>?_⟩⟩
 ·rcases c with rfl|rfl|c
  ·exact h.fr _ (.inl rfl)
  ·rcases hg with rfl|hg
   ·exact h.fr _ (.inr (.inl rfl))
   ·exact⟨by omega,ht _ hg⟩
  ·exact h.fr _ (.inr (.inr c))
 ·rcases hg with rfl|hg
  ·exact(h.ne x c).2 e
  ·have:=lt c;omega
theorem zI.own{S:Nat→Prop}{tag:Nat→Nat×Nat}{i b db:Nat}{W:World}{c:CS}{d:Drf}{tag':Nat→Nat×Nat}{f:CV}{a e:Value}{j:List (Frm×Value)}{W' W'':World}(h:zI tag i b db W c d tag' f a e j W')(m:Mod S W' W'')(k:∀g,S g→W.heap.size≤g∧tag' g=(0,0)) :
  zI tag i b db W c d tag' f a e j W'':=h.free m (fun g hg=>⟨(k g hg).2,(k g hg).1⟩)
theorem zmh{tag:Nat→Nat×Nat}{i b db cb f:Nat}{c:CS}{V:CV}{d:Drf}{bv fv:Value}{l:List (Frm×Value)}{W:World}(h:zg tag i b c V W)(g:zae tag i db d bv fv l W)(E:Env i tag W)(k:Nat)(ok:ziD c k)(hd:d.Ok)
  (h1:W.cell? ⟨cb,0,none⟩=some (.pointer (some ⟨b,0,none⟩))) (h2:W.cell? ⟨f,0,none⟩=some (.int .i64 (k:Int))) :
  Calls Tryz.prog 148 #[.pointer (some ⟨db,0,none⟩),.pointer (some ⟨cb,0,none⟩),.pointer (some ⟨f,0,none⟩)] W (za7 tag i b db W (c.bytes d k).2.1 (c.bytes d k).2.2 (c.bytes d k).1):=by
 have j:∀W1,Mod NoB W W1→Calls Tryz.prog 149 #[.pointer (some ⟨b,0,none⟩),.pointer (some ⟨db,0,none⟩),.int .i64 (k:Int)] W1 (za7 tag i b db W (c.bytes d k).2.1 (c.bytes d k).2.2 (c.bytes d k).1):=fun W1 m =>
  (zl4 (h.mod0 m) (g.modN m (fun _ x=>x.elim)) (E.mod0 m) k ok (by have:=hd.b;omega) (by have:=hd.fs;have:=hd.b;omega) (by have:=hd.room;omega)).mono fun e W' a=>a.from0 E.ok m
 have n:=zb j;obtain⟨r,o⟩:=nm ((c.bytes d k).1);rw[o]at n ⊢;clear h g E ok hd j o;go_enter Tryz.func148,Tryz.ntmps148;go_wp2_with (go_at_call 149;refine(n.out _ (Mod.refl _ _)).mono ?_;rintro e w2 ⟨rfl,a⟩;have HP:=zb a;clear a);go_ret;exact⟨rfl,HP.out⟩
def zfq(sb:Nat)(w:World):Nat:=match w.cell? ⟨sb,0,none⟩with|some (.slice _ n _)=>n|_=>0
theorem zak.sbLen_is{sb:Nat}{fn:Nat→Value}{l:List Nat}{g cap:Nat}{W:World}(h:zak sb fn l g cap W):zfq sb W=l.length:=by
 unfold zfq;rw[h.c0]
theorem zae.sbLen_is{tag:Nat→Nat×Nat}{i db:Nat}{d:Drf}{c fv:Value}{l:List (Frm×Value)}{W:World}(h:zae tag i db d c fv l W):zfq db W=d.b.length:=by
 obtain⟨a,cap,e,_⟩:=zj h.ob;have c0:W.cell? ⟨db,0,none⟩=some c:=za h.obj rfl;unfold zfq;rw[c0,e]
theorem zkr(v:Value)(w:World):(Instr.typeAssert (.iface 266 v) 20 266 false).run Tryz.prog w = .ok v w:=by kernel_rfl
theorem zeM{w w':World}{a:Nat}{x y:Value}{t:TypeId}(h:w.heap[a]?=some (.cells #[x,y] t (0,0)))(h':∃o,w'.heap[a]?=some o∧w.heap[a]?=some o):w'.cell? ⟨a,0,none⟩=some x∧w'.cell? ⟨a,1,none⟩=some y:=by
 obtain⟨o,h1,h2⟩:=h';rw[h]at h2;cases h2;exact⟨za h1 rfl,za h1 rfl⟩
def zow(b db cb:Nat)(kb:Nat→Nat)(q:Nat)(W:World)(Q:Ending→World→Prop):Prop :=
 match q with
 | 0=>Calls Tryz.prog 145 #[.pointer (some ⟨b,0,none⟩),.pointer (some ⟨db,0,none⟩)] W Q
 | 1=>Calls Tryz.prog 146 #[.pointer (some ⟨b,0,none⟩),.pointer (some ⟨db,0,none⟩)] W Q
 | k+2=>Calls Tryz.prog 148 #[.pointer (some ⟨db,0,none⟩),.pointer (some ⟨cb,0,none⟩),.pointer (some ⟨kb k,0,none⟩)] W Q
theorem zqb{tag:Nat→Nat×Nat}{i b db cb:Nat}{e:Nat→Nat}{c:CS}{V:CV}{d:Drf}{bv fv:Value}{l:List (Frm×Value)}{W:World}(h:zg tag i b c V W)(a:zae tag i db d bv fv l W)(E:Env i tag W)(ok:c.Ok)(hd:d.Ok){q:Nat}(hq:q<10)
  (h1:W.cell? ⟨cb,0,none⟩=some (.pointer (some ⟨b,0,none⟩))) (h2:∀k,k<8→W.cell? ⟨e k,0,none⟩=some (.int .i64 (k:Int))) :
  zow b db cb e q W (za7 tag i b db W (c.put d q).2.1 (c.put d q).2.2 (c.put d q).1):=by
 have b1:=hd.b;have b2:=hd.fs;have b3:l.length=d.fs.length:=by rw[←a.lf,List.length_map]
 match q,hq with
 | 0,_=>exact ziz h a E ok.ctl (by omega) (by omega)
 | 1,_=>exact zfo h a E ok.waits (by omega) (by omega)
 | k+2,hk=>exact zmh h a E k (ok.by_ (by omega)) hd h1 (h2 k (by omega))
def zjK(tag:Nat→Nat×Nat)(i b db:Nat)(W:World)(c':CS)(d':Drf)(e:Ending)(W':World):Prop :=
 e = .returned (.tuple #[])∧∃tag' V' bv' fv' l',zI tag i b db W c' d' tag' V' bv' fv' l' W'
theorem zks{tag:Nat→Nat×Nat}{i b db:Nat}{c:CS}{V:CV}{d:Drf}{n fv:Value}{l:List (Frm×Value)}{W:World}(o:zI tag i b db W c d tag V n fv l W)(kb:Nat→Nat){t:TypeId} :
  zI tag i b db W c d tag V n fv l (((W.alloc (.cells #[.pointer (some ⟨b,0,none⟩)] t)).alloc (.cells #[.int .i64 0,.func (.func 145) #[.pointer (some ⟨b,0,none⟩)] #[],.int .i64 1,.func (.func 146) #[.pointer (some ⟨b,0,none⟩)] #[]] 266)).alloc (.cells #[.slice (some ⟨W.heap.size+1,0,none⟩) 2 2] 268)) ∧
  zaS tag i b db W W.heap.size kb 0 (List.range 2) (W.heap.size+1+1) (W.heap.size+1) 2 tag (((W.alloc (.cells #[.pointer (some ⟨b,0,none⟩)] t)).alloc (.cells #[.int .i64 0,.func (.func 145) #[.pointer (some ⟨b,0,none⟩)] #[],.int .i64 1,.func (.func 146) #[.pointer (some ⟨b,0,none⟩)] #[]] 266)).alloc (.cells #[.slice (some ⟨W.heap.size+1,0,none⟩) 2 2] 268)):=by
 obtain⟨o1,g⟩:=nm (Obj.cells #[.pointer (some ⟨b,0,none⟩)] t);obtain⟨a,e⟩:=nm (Obj.cells #[.int .i64 0,.func (.func 145) #[.pointer (some ⟨b,0,none⟩)] #[],.int .i64 1,.func (.func 146) #[.pointer (some ⟨b,0,none⟩)] #[]] 266);obtain⟨f,h⟩:=nm (Obj.cells #[.slice (some ⟨W.heap.size+1,0,none⟩) 2 2] 268);rw[g,e,h];have s1:(W.alloc o1).heap.size=W.heap.size+1:=by simp
 have s2:((W.alloc o1).alloc a).heap.size=W.heap.size+1+1:=by simp
 have a3:(((W.alloc o1).alloc a).alloc f).heap[W.heap.size+1+1]?=some f:=by
  have:=heap_alloc_new ((W.alloc o1).alloc a) f;rw[s2]at this;exact this
 have p:(((W.alloc o1).alloc a).alloc f).heap[W.heap.size+1]?=some a:=by
  have:=heap_alloc_new (W.alloc o1) a;rw[s1]at this;rw[Below.heap_alloc _ _ _ (by omega)];exact this
 have a1:(((W.alloc o1).alloc a).alloc f).heap[W.heap.size]?=some o1:=by
  rw[Below.heap_alloc _ _ _ (by omega),Below.heap_alloc _ _ _ (by omega)];exact heap_alloc_new W o1
 have m:Mod NoB W (((W.alloc o1).alloc a).alloc f):=(((Mod.refl _ _).alloc _).alloc _).alloc _;rw[←e]at p;refine⟨o.mod0 m,⟨⟨?_,⟨rfl,.inr ⟨_,_,_,rfl,Nat.zero_le _,by rw[←e];exact p,Nat.le_refl _,by decide,rfl,rfl⟩⟩,by omega,by decide,zdc _ _ _⟩,?_,fun k hk=>absurd hk (Nat.not_lt_zero k),fun q j=>?_,fun q j=>?_⟩⟩
 ·rw[a3,←h];rfl
 ·exact za (a1.trans (congrArg some g.symm)) rfl
 ·have:W.heap.size≤q:=by
   rcases j with rfl|rfl|rfl|⟨k,hk,_⟩
   ·omega
   ·omega
   ·omega
   ·omega
  exact⟨this,o.ok _ this⟩
 ·rcases j with rfl|⟨k,hk,_⟩
  ·omega
  ·omega
theorem zaS.count{tag:Nat→Nat×Nat}{i b db:Nat}{f:World}{cb:Nat}{d:Nat→Nat}{n:Nat}{sb g cap:Nat}{tag':Nat→Nat×Nat}{W W':World}(h:zaS tag i b db f cb d n (List.range (n+2)) sb g cap tag' W)(ht:zP tag' W)(hw:f.heap.size≤W.heap.size)(m:Mod NoB W W')(hc:W'.cell? ⟨W.heap.size,0,none⟩=some (.int .i64 (n:Int))) :
  zaS tag i b db f cb (upd d n W.heap.size) (n+1) (List.range (n+2)) sb g cap tag' W':=by
 have j:=h.mod0 m;have e:∀k,k<n→upd d n W.heap.size k=d k:=fun k hk=>ze _ _ (by omega)
 have lsb:=zk h.heap.c0;have lg:=zE h.heap.own g rfl;refine⟨j.heap.congr (fun x l=>?_) (zdc _ _ _),j.hc,fun k hk=>?_,fun q a=>?_,fun q a=>?_⟩
 ·have l:x<n+2:=List.mem_range.1 l
  match x,l with
  | 0,_=>rfl
  | 1,_=>rfl
  | k+2,hk =>
   show Value.func _ #[] #[.pointer (some ⟨cb,0,none⟩),.pointer (some ⟨d k,0,none⟩)]=Value.func _ #[] #[.pointer (some ⟨cb,0,none⟩),.pointer (some ⟨upd d n W.heap.size k,0,none⟩)];rw[e k (by omega)]
 ·by_cases a:k=n
  ·rw[a,zf];exact hc
  ·rw[e k (by omega)];exact j.hk k (by omega)
 ·rcases a with a|a|a|⟨k,hk,a⟩
  ·exact h.fr q (.inl a)
  ·exact h.fr q (.inr (.inl a))
  ·exact h.fr q (.inr (.inr (.inl a)))
  ·by_cases c:k=n
   ·rw[c,zf]at a;rw[a];exact⟨hw,ht _ (Nat.le_refl _)⟩
   ·rw[e k (by omega)]at a;exact h.fr q (.inr (.inr (.inr ⟨k,by omega,a⟩)))
 ·rcases a with a|⟨k,hk,a⟩
  ·exact h.ne q (.inl a)
  ·by_cases c:k=n
   ·rw[c,zf]at a;omega
   ·rw[e k (by omega)]at a;exact h.ne q (.inr ⟨k,by omega,a⟩)
theorem zox{tag:Nat→Nat×Nat}{i b db:Nat}{c:CS}{V:CV}{d:Drf}{bv fv:Value}{l:List (Frm×Value)}{W:World}(h:zg tag i b c V W)(hD:zae tag i db d bv fv l W)(E:Env i tag W)(ok:c.Ok)(hd:d.Ok) :
  Calls Tryz.prog 85 #[.pointer (some ⟨b,0,none⟩),.pointer (some ⟨db,0,none⟩)] W (zjK tag i b db W (c.fill d).1 (c.fill d).2):=by
 have S0:Hid (zI tag i b db W c d tag V bv fv l W):=zb ⟨h,hD,Ext.same E.ok (Mod.refl NoB _),Mod.refl _ _,E.pos⟩;obtain⟨R,hR⟩:=nm (c.fill d);rw[hR];have HR:=zb hR;have OK:=zb ok;have HD:=zb hd;have EE:=zb E;clear h hD E ok hd hR;go_enter Tryz.func85,Tryz.ntmps85;go_upto_region 2 with fail;have st:=zks (t:=69) S0.out id;obtain⟨W3,ao⟩:=nm ((((W.alloc (.cells #[.pointer (some ⟨b,0,none⟩)] 69)).alloc (.cells #[.int .i64 0,.func (.func 145) #[.pointer (some ⟨b,0,none⟩)] #[],.int .i64 1,.func (.func 146) #[.pointer (some ⟨b,0,none⟩)] #[]] 266)).alloc (.cells #[.slice (some ⟨W.heap.size+1,0,none⟩) 2 2] 268)));rw[ao]at st ⊢;clear ao;obtain⟨cb,ai⟩:=nm W.heap.size;have HCB:=zb ai;obtain⟨sb,ap⟩:=nm (W.heap.size+1+1);have F0:=zb st.2;have w:=zb st.1;rw[ap]at F0 ⊢;obtain⟨g0,aq⟩:=nm (W.heap.size+1);rw[aq]at F0 ⊢;rw[ai]at F0 ⊢;clear ai ap aq st;go_wp2_with fail
 go_loopw [15] (fun iv wr=>∃(k:Nat) (F:Nat→Nat) (g cap:Nat),iv = .int .i64 (k:Int)∧k≤8∧Hid (zI tag i b db W c d tag V bv fv l wr)∧Hid (zaS tag i b db W cb F k (List.range (k+2)) sb g cap tag wr)) (fun iv _=>8-(intOf iv).toNat)
 case atStart=>exact⟨0,id,g0,2,rfl,by omega,w,F0⟩
 case round =>
  obtain⟨k,F,g,cap,rfl,hk,P,N⟩:=hrel;by_cases aD:k<8
  ·have q1:IntKind.i64.wrap (2+(k:Int))=((k+2:Nat):Int):=by rw[IntWalk.i64_in _ (by omega)];omega
   have q3:IntKind.i64.wrap ((k:Int)+1)=((k+1:Nat):Int):=by rw[IntWalk.i64_in _ (by omega)];omega
   have d1:(k:Int)<8:=by omega
   go_upto_region 5 with fail;obtain⟨W4,aa⟩:=nm (wr.alloc (.cells #[.int .i64 (k:Int)] 3));have m4:Mod NoB wr W4:=by rw[←aa];exact(Mod.refl _ _).alloc _
   have c4:W4.cell? ⟨wr.heap.size,0,none⟩=some (.int .i64 (k:Int)):=by rw[←aa];exact za (heap_alloc_new wr _) rfl
   have fc:=N.out.count P.out.ok P.out.m.size m4 c4;have G:=zko fc.heap (k+2) (by rw[List.length_range];omega) (by rw[List.length_range];omega) (fun x hx=>Nat.le_of_lt (List.mem_range.1 hx));rw[show zeL b cb (upd F k wr.heap.size) (k+2) = .func (.func 148) #[] #[.pointer (some ⟨cb,0,none⟩),.pointer (some ⟨upd F k wr.heap.size k,0,none⟩)]from rfl,zf]at G;have S4:=zb (P.out.mod0 m4);have FC:=zb fc;have Q:=zb G;unfold hI at Q;rw[aa];have HW:wr.heap.size≤W4.heap.size:=m4.size;have HHW:=zb HW;clear fc G m4 aa HW;go_wp2_with (go_at_call 147;refine Q.out.mono ?_;rintro e w5 ⟨rfl,g',ar,h5,hg,m5⟩;have H5:=zb h5;have HG:=zb hg;have M5:=zb m5;clear h5 hg m5);go_roundw
   case rel =>
    have B:∀q,(q=sb∨q=g)→W.heap.size≤q∧tag q=(0,0):=fun q B=>FC.out.fr q (by
     rcases B with B|B
     ·exact .inl B
     ·exact .inr (.inl B))
    refine⟨k+1,upd F k wr.heap.size,g',ar,rfl,by omega,zb (S4.out.own M5.out B),zb ?_⟩;have h5:=H5.out;rw[←List.range_succ]at h5;exact FC.out.heaped S4.out.ok S4.out.m.size h5 HG.out M5.out
   case measure =>
    simp[intOf];omega
  ·have d1:¬(k:Int)<8:=by omega
   have af:k=8:=by omega
   rw[af]at N;have n0:Hid (zI tag i b db W c d tag V bv fv l wr∧zaS tag i b db W cb F 8 (zdz 0) sb g cap tag wr):=zb ⟨P.out,N.out⟩;clear P N hk aD w F0 S0 af;go_wp2_with fail;clear d1
   go_loopw [6] (fun _ wr=>∃(n:Nat) (c':CS) (D:Drf) (g cap:Nat) (tag':Nat→Nat×Nat) (V':CV) (ab ac:Value) (l':List (Frm×Value)),n≤10∧Hid (zI tag i b db W c' D tag' V' ab ac l' wr)∧Hid (zaS tag i b db W cb F 8 (zdz (10-n)) sb g cap tag' wr)∧Hid (c'.Ok∧D.Ok∧CS.fillN n c' D=R)) (fun _ wr=>zfq sb wr)
   case atStart=>exact⟨10,c,d,g,cap,tag,V,bv,fv,l,Nat.le_refl _,zb n0.out.1,zb n0.out.2,zb ⟨OK.out,HD.out,HR.out⟩⟩
   case round =>
    clear n0;obtain⟨n,c',D,g,cap,tag',V',ab,ac,l',hn,P,N,S⟩:=hrel;have ad:=zec (10-n) (by omega);rw[show 10-(10-n)=n by omega]at ad;have c0:=N.out.heap.c0;rw[ad]at c0;have kl:=zgj (some ⟨g,0,none⟩) n cap wr;have KL:=zb kl;have aj:=zb ad;clear kl ad;cases n with
    | zero =>
     go_wp2_with (go_at_call 150;refine KL.out.mono ?_;rintro e K ⟨rfl,rfl⟩);refine bodyPost_end (results_none rfl _ _ _) rfl ⟨rfl,tag',V',ab,ac,l',?_⟩;have e:(c',D)=R:=S.out.2.2;rw[←e];exact P.out
    | succ n =>
     obtain⟨q,B⟩:∃q,q+n=9:=⟨9-n,by omega⟩;have e1:10-(n+1)=q:=by omega
     have e2:10-n=q+1:=by omega
     rw[e1]at N aj;have hp:=zmc N.out.heap (by rw[aj.out];omega) (zme q (by omega));have au:CS.fillN n (CS.reps q (D.room+1) c' D).1 (CS.reps q (D.room+1) c' D).2=R:=by
      have:CS.fillN (n+1) c' D=R:=S.out.2.2;have e9:9-n=q:=by omega
      rw[←this,CS.fillN,e9]
     obtain⟨f,fa,fx,L⟩:=zdc b cb F q;rw[L]at hp;have av:=zb au;have HP:=zb hp;have aE:=zb L;have HQ:=zb B;have E2:=zb e2;have HRM:Hid (∃r,r=D.room):=zb ⟨_,rfl⟩;unfold hI at HP;have d1:(0:Int)<(n:Int)+1:=by omega
     clear hp au L e1 e2 B;go_upto_region 8 with(go_at_call 150;refine KL.out.mono ?_;rintro e K ⟨rfl,rfl⟩);go_upto_region 9 with(go_at_call 151;refine HP.out.mono ?_;rintro e K ⟨rfl,h2,m2⟩;have H2:=zb h2;have M2:=zb m2;have aF:=zkr (.agg #[.int .i64 (q:Int),.func f fa fx]) K;clear h2 m2);have aw:∀q,(q=sb∨q=g)→W.heap.size≤q∧tag' q=(0,0):=fun q B=>N.out.fr q (by
      rcases B with B|B
      ·exact .inl B
      ·exact .inr (.inl B))
     have s2:=P.out.own M2.out aw;have f2:=N.out.heaped P.out.ok P.out.m.size H2.out (.inl rfl) M2.out;obtain⟨W5,ae⟩:=nm (K.alloc (.cells #[.int .i64 (q:Int),.func f fa fx] 266));have m5:Mod NoB K W5:=by rw[←ae];exact(Mod.refl _ _).alloc _
     have ax:W5.heap[K.heap.size]?=some (.cells #[.int .i64 (q:Int),.func f fa fx] 266 (0,0)):=by rw[←ae];exact heap_alloc_new K _
     have S5:=zb (s2.mod0 m5);have F5:=zb (f2.mod0 m5);have ak:W.heap.size≤K.heap.size∧tag' K.heap.size=(0,0):=⟨s2.m.size,s2.ok _ (Nat.le_refl _)⟩;have X5:Hid (W5.heap[K.heap.size]?=some (.cells #[.int .i64 (q:Int),.func f fa fx] 266 (0,0))∧W.heap.size≤K.heap.size∧tag' K.heap.size=(0,0)):=⟨ax,ak.1,ak.2⟩;rw[ae];have HL:Hid (zfq sb wr=n+1):=N.out.heap.sbLen_is.trans aj.out;have T:Hid ((zdz (q+1)).length=n):=by
      have:=zec (q+1) (by have:=HQ.out;omega);have:=HQ.out;show _=n;omega
     clear aw s2 f2 ae m5 ax ak aF c0 d1
     go_loopw [6] (fun xv U=>∃(M m:Nat) (c2:CS) (A:Drf) (tag2:Nat→Nat×Nat) (V2:CV) (ay az:Value) (X:List (Frm×Value)),xv = .pointer (some ⟨M,0,none⟩)∧Hid (zI tag i b db W c2 A tag2 V2 ay az X U)∧Hid (zaS tag i b db W cb F 8 (zdz (q+1)) sb g cap tag2 U) ∧
       Hid (U.heap[M]?=some (.cells #[.int .i64 (q:Int),.func f fa fx] 266 (0,0))∧W.heap.size≤M∧tag2 M=(0,0))∧Hid (c2.Ok∧A.Ok∧1≤m∧A.room=D.room∧A.room<A.b.length+m∧CS.fillN n (CS.reps q m c2 A).1 (CS.reps q m c2 A).2=R)) (fun _ U=>D.room+1-zfq db U)
     case atStart=>exact⟨K.heap.size,D.room+1,c',D,tag',V',ab,ac,l',rfl,S5,F5,X5,zb ⟨S.out.1,S.out.2.1,by omega,rfl,by omega,av.out⟩⟩
     case round =>
      clear X5 S5 F5 P N S av KL HP M2 H2;obtain⟨M,m,c2,A,tag2,V2,ay,az,X,rfl,C,FF,H,RR⟩:=hrel;have ah:q<10:=by have:=HQ.out;omega
      have G:=zqb C.out.c C.out.d (EE.out.left C.out.e C.out.m.ofC) RR.out.1 RR.out.2.1 ah FF.out.hc FF.out.hk;have pk:=zfI (d:=A) RR.out.1 ah;have pd:=pk.drf RR.out.2.1;have cx0:wr.cell? ⟨M,0,none⟩=some (.int .i64 (q:Int)):=za H.out.1 rfl;have cx1:wr.cell? ⟨M,1,none⟩=some (.func f fa fx):=za H.out.1 rfl;obtain⟨m',al⟩:∃m',m=m'+1:=⟨m-1,by have:=RR.out.2.2.1;omega⟩;have Y:CS.reps q m c2 A=if (c2.put A q).1=true then CS.reps q m' (c2.put A q).2.1 (c2.put A q).2.2 else((c2.put A q).2.1,(c2.put A q).2.2):=by rw[al];rfl
      have L:=aE.out;obtain⟨r,hr⟩:=nm ((c2.put A q).1);obtain⟨c3,aA⟩:=nm ((c2.put A q).2.1);obtain⟨O,am⟩:=nm ((c2.put A q).2.2);rw[hr,am]at pd;rw[hr,aA,am]at G Y pk;have PK:=zb pk;have PD:=zb pd;have HM:=zb al;have z:=zb Y;clear pk pd al Y hr aA am;obtain hq0|hq1|⟨k,hqk⟩:q=0∨q=1∨∃k,q=k+2:=by
       rcases q with _|_|k
       ·exact .inl rfl
       ·exact .inr (.inl rfl)
       ·exact .inr (.inr ⟨k,rfl⟩)
      ·rw[hq0]at G L;have Q:Hid (Calls Tryz.prog 145 #[.pointer (some ⟨b,0,none⟩),.pointer (some ⟨db,0,none⟩)] wr _):=G;simp only[zeL,Value.func.injEq]at L;obtain⟨rfl,rfl,rfl⟩:=L;clear G hq0;have KQ:Hid (Calls Tryz.prog 145 #[.pointer (some ⟨b,0,none⟩),.pointer (some ⟨db,0,none⟩)] wr fun e u=>e = .returned (.bool r)∧∃(a:Nat→Nat×Nat) (y:CV) (j s:Value) (v:List (Frm×Value)),Hid (zI tag i b db W c3 O a y j s v u)∧Hid (zaS tag i b db W cb F 8 (zdz (q+1)) sb g cap a u) ∧
         Hid (∃o,u.heap[M]?=some o∧wr.heap[M]?=some o)):=zb (Q.out.mono (by
        intro e u Z;obtain⟨rfl,a,y,j,s,v,s3,e3,m3⟩:=C.out.then Z;exact⟨rfl,a,y,j,s,v,s3,FF.out.src C.out.p e3 m3,⟨_,m3.obj (fun x=>by
         have h1:=H.out.2.2;have h2:=C.out.p;have x:=x.1;rw[h1]at x;have x:(0:Nat)=i:=x;omega) H.out.1,H.out.1⟩⟩))
       clear Q;cases r with
       | true =>
        go_wp2_with (go_at_call 145;refine KQ.out.mono ?_;rintro e u ⟨rfl,a,y,j,s,v,w,I,X3⟩;obtain⟨aB,aC⟩:=zeM H.out.1 X3.out);go_roundw
        case rel =>
         have J:=RR.out;have hd:=PD.out;have hm:=HM.out;have hl:=(hd.2.2.1 (by trivial));refine⟨u.heap.size,m',c3,O,a,y,j,s,v,rfl,zb (w.out.mod0 ((Mod.refl _ _).alloc _)),zb (I.out.mod0 ((Mod.refl _ _).alloc _)),zb ⟨heap_alloc_new u _,w.out.m.size,w.out.ok _ (Nat.le_refl _)⟩,zb ⟨PK.out.ok,hd.1,by omega,by omega,by omega,?_⟩⟩;have e:=z.out;rw[if_pos (by trivial)]at e;rw[←e];exact J.2.2.2.2.2
        case measure =>
         have l1:=C.out.d.sbLen_is;have X:∀o,zfq db (u.alloc o)=O.b.length:=fun o=>(w.out.mod0 ((Mod.refl NoB u).alloc o)).d.sbLen_is
         have hl:=(PD.out.2.2.1 (by trivial));have hr:=RR.out.2.2.2.1;rw[l1,X];omega
       | false =>
        go_wp2_with (go_at_call 145;refine KQ.out.mono ?_;rintro e u ⟨rfl,a,y,j,s,v,w,I,X3⟩);go_roundw
        case rel =>
         refine⟨n,c3,O,g,cap,a,y,j,s,v,by omega,w,by rw[E2.out];exact I,zb ⟨PK.out.ok,PD.out.1,?_⟩⟩;have e:=z.out;rw[if_neg (by simp)]at e;have J:=RR.out.2.2.2.2.2;rw[e]at J;exact J
        case measure =>
         have l1:=I.out.heap.sbLen_is;have X:=HL.out;have v:=T.out;omega
      ·rw[hq1]at G L;have Q:Hid (Calls Tryz.prog 146 #[.pointer (some ⟨b,0,none⟩),.pointer (some ⟨db,0,none⟩)] wr _):=G;simp only[zeL,Value.func.injEq]at L;obtain⟨rfl,rfl,rfl⟩:=L;clear G hq1;have KQ:Hid (Calls Tryz.prog 146 #[.pointer (some ⟨b,0,none⟩),.pointer (some ⟨db,0,none⟩)] wr fun e u=>e = .returned (.bool r)∧∃(a:Nat→Nat×Nat) (y:CV) (j s:Value) (v:List (Frm×Value)),Hid (zI tag i b db W c3 O a y j s v u)∧Hid (zaS tag i b db W cb F 8 (zdz (q+1)) sb g cap a u) ∧
         Hid (∃o,u.heap[M]?=some o∧wr.heap[M]?=some o)):=zb (Q.out.mono (by
        intro e u Z;obtain⟨rfl,a,y,j,s,v,s3,e3,m3⟩:=C.out.then Z;exact⟨rfl,a,y,j,s,v,s3,FF.out.src C.out.p e3 m3,⟨_,m3.obj (fun x=>by
         have h1:=H.out.2.2;have h2:=C.out.p;have x:=x.1;rw[h1]at x;have x:(0:Nat)=i:=x;omega) H.out.1,H.out.1⟩⟩))
       clear Q;cases r with
       | true =>
        go_wp2_with (go_at_call 146;refine KQ.out.mono ?_;rintro e u ⟨rfl,a,y,j,s,v,w,I,X3⟩;obtain⟨aB,aC⟩:=zeM H.out.1 X3.out);go_roundw
        case rel =>
         have J:=RR.out;have hd:=PD.out;have hm:=HM.out;have hl:=(hd.2.2.1 (by trivial));refine⟨u.heap.size,m',c3,O,a,y,j,s,v,rfl,zb (w.out.mod0 ((Mod.refl _ _).alloc _)),zb (I.out.mod0 ((Mod.refl _ _).alloc _)),zb ⟨heap_alloc_new u _,w.out.m.size,w.out.ok _ (Nat.le_refl _)⟩,zb ⟨PK.out.ok,hd.1,by omega,by omega,by omega,?_⟩⟩;have e:=z.out;rw[if_pos (by trivial)]at e;rw[←e];exact J.2.2.2.2.2
        case measure =>
         have l1:=C.out.d.sbLen_is;have X:∀o,zfq db (u.alloc o)=O.b.length:=fun o=>(w.out.mod0 ((Mod.refl NoB u).alloc o)).d.sbLen_is
         have hl:=(PD.out.2.2.1 (by trivial));have hr:=RR.out.2.2.2.1;rw[l1,X];omega
       | false =>
        go_wp2_with (go_at_call 146;refine KQ.out.mono ?_;rintro e u ⟨rfl,a,y,j,s,v,w,I,X3⟩);go_roundw
        case rel =>
         refine⟨n,c3,O,g,cap,a,y,j,s,v,by omega,w,by rw[E2.out];exact I,zb ⟨PK.out.ok,PD.out.1,?_⟩⟩;have e:=z.out;rw[if_neg (by simp)]at e;have J:=RR.out.2.2.2.2.2;rw[e]at J;exact J
        case measure =>
         have l1:=I.out.heap.sbLen_is;have X:=HL.out;have v:=T.out;omega
      ·rw[hqk]at G L;have Q:Hid (Calls Tryz.prog 148 #[.pointer (some ⟨db,0,none⟩),.pointer (some ⟨cb,0,none⟩),.pointer (some ⟨F k,0,none⟩)] wr _):=G;simp only[zeL,Value.func.injEq]at L;obtain⟨rfl,rfl,rfl⟩:=L;clear G hqk;have KQ:Hid (Calls Tryz.prog 148 #[.pointer (some ⟨db,0,none⟩),.pointer (some ⟨cb,0,none⟩),.pointer (some ⟨F k,0,none⟩)] wr fun e u=>e = .returned (.bool r)∧∃(a:Nat→Nat×Nat) (y:CV) (j s:Value) (v:List (Frm×Value)),Hid (zI tag i b db W c3 O a y j s v u)∧Hid (zaS tag i b db W cb F 8 (zdz (q+1)) sb g cap a u) ∧
         Hid (∃o,u.heap[M]?=some o∧wr.heap[M]?=some o)):=zb (Q.out.mono (by
        intro e u Z;obtain⟨rfl,a,y,j,s,v,s3,e3,m3⟩:=C.out.then Z;exact⟨rfl,a,y,j,s,v,s3,FF.out.src C.out.p e3 m3,⟨_,m3.obj (fun x=>by
         have h1:=H.out.2.2;have h2:=C.out.p;have x:=x.1;rw[h1]at x;have x:(0:Nat)=i:=x;omega) H.out.1,H.out.1⟩⟩))
       clear Q;cases r with
       | true =>
        go_wp2_with (go_at_call 148;refine KQ.out.mono ?_;rintro e u ⟨rfl,a,y,j,s,v,w,I,X3⟩;obtain⟨aB,aC⟩:=zeM H.out.1 X3.out);go_roundw
        case rel =>
         have J:=RR.out;have hd:=PD.out;have hm:=HM.out;have hl:=(hd.2.2.1 (by trivial));refine⟨u.heap.size,m',c3,O,a,y,j,s,v,rfl,zb (w.out.mod0 ((Mod.refl _ _).alloc _)),zb (I.out.mod0 ((Mod.refl _ _).alloc _)),zb ⟨heap_alloc_new u _,w.out.m.size,w.out.ok _ (Nat.le_refl _)⟩,zb ⟨PK.out.ok,hd.1,by omega,by omega,by omega,?_⟩⟩;have e:=z.out;rw[if_pos (by trivial)]at e;rw[←e];exact J.2.2.2.2.2
        case measure =>
         have l1:=C.out.d.sbLen_is;have X:∀o,zfq db (u.alloc o)=O.b.length:=fun o=>(w.out.mod0 ((Mod.refl NoB u).alloc o)).d.sbLen_is
         have hl:=(PD.out.2.2.1 (by trivial));have hr:=RR.out.2.2.2.1;rw[l1,X];omega
       | false =>
        go_wp2_with (go_at_call 148;refine KQ.out.mono ?_;rintro e u ⟨rfl,a,y,j,s,v,w,I,X3⟩);go_roundw
        case rel =>
         refine⟨n,c3,O,g,cap,a,y,j,s,v,by omega,w,by rw[E2.out];exact I,zb ⟨PK.out.ok,PD.out.1,?_⟩⟩;have e:=z.out;rw[if_neg (by simp)]at e;have J:=RR.out.2.2.2.2.2;rw[e]at J;exact J
        case measure =>
         have l1:=I.out.heap.sbLen_is;have X:=HL.out;have v:=T.out;omega
theorem ziI:(Tryz.prog.info? 60).map (fun i=>(i.zero,i.size,i.bytes))=some (some (.slice none 0 0),1,24):=by kernel_rfl
theorem ziJ:(Tryz.prog.info? 173).map (fun i=>(i.zero,i.size,i.bytes))=some (some (.agg #[.int .u64 0,.int .u64 0,.slice none 0 0]),3,40):=by kernel_rfl
theorem zoy(w:World)(v:Value)(b:List Value)(a:Option Addr)(n c:Nat)(h:w.ownsRow 0 60 1 v b.length b)(hl:b.length≤1099511627776) :
  ∃v' w',(∀ty,(Builtin.append_ #[130,130] ty #[v,.slice (some ⟨w.heap.size,0,none⟩) 1 1]).run Tryz.prog (w.alloc (.cells #[.slice a n c] 60)) = .ok v' w') ∧
   w'.ownsRow 0 60 1 v' (b.length+1) (b++[.slice a n c])∧w.grownBy w' v.ownBlock∧zaG w v v':=by
 obtain⟨i,e,hz,f,g⟩:=info_parts ziI;have d:∀(j:Nat) u,([Value.slice a n c])[j]?=some u→(w.alloc (.cells #[.slice a n c] 60)).cell? ((⟨w.heap.size,0,none⟩:Addr).add j)=some u:=by
  intro j u hj;rw[addr_add];refine za (heap_alloc_new w _) ?_;rw[Nat.zero_add,←Array.getElem?_toList];exact hj
 obtain⟨v',w',h1,h2,h3,h4,h5⟩:=zas (P:=Tryz.prog) (w.alloc (.cells #[.slice a n c] 60)) 130 60 i _ 1 24 Tryz.underlying130 e hz f g rfl (by decide) v b.length b (World.ownsRow.alloc h _)
  ⟨w.heap.size,0,none⟩ 1 1 [.slice a n c] rfl d (by intro u l;simp at l;rcases l with rfl;rfl) (by unfold maxLen;omega) (by omega)
 refine⟨v',w',h1,h2,?_,?_⟩
 ·exact⟨h3.os,h3.tape,h3.output,Nat.le_trans (by simp) h3.size,fun k hk hn=>(h3.block k (by simp;omega) hn).trans (Below.heap_alloc w _ k hk)⟩
 ·intro k hk;rcases h4 k hk with x|x
  ·exact .inl x
  ·exact .inr (by simp at x;omega)
theorem zoz(w:World)(v:Value)(b:List (Fly×Value))(f:Fly)(a:Option Addr)(n c:Nat)(h:w.ownsRow 0 173 3 v b.length (zu b))(hl:b.length≤1099511627776) :
  ∃v' w',(∀ty,(Builtin.append_ #[123,123] ty #[v,.slice (some ⟨w.heap.size,0,none⟩) 1 1]).run Tryz.prog (w.alloc (.cells #[.int .u64 (f.n:Int),.int .u64 (f.at_:Int),.slice a n c] 173)) = .ok v' w') ∧
   w'.ownsRow 0 173 3 v' (b.length+1) (zu (b++[(f,.slice a n c)]))∧w.grownBy w' v.ownBlock∧zaG w v v':=by
 obtain⟨i,e,hz,g,l⟩:=info_parts ziJ;have e1:zu [(f,.slice a n c)]=[.int .u64 (f.n:Int),.int .u64 (f.at_:Int),.slice a n c]:=rfl;have d:∀(j:Nat) u,(zu [(f,.slice a n c)])[j]?=some u→(w.alloc (.cells #[.int .u64 (f.n:Int),.int .u64 (f.at_:Int),.slice a n c] 173)).cell? ((⟨w.heap.size,0,none⟩:Addr).add j)=some u:=by
  intro j u hj;rw[addr_add];refine za (heap_alloc_new w _) ?_;rw[Nat.zero_add,←Array.getElem?_toList];exact hj
 obtain⟨v',w',h1,h2,h3,h4,h5⟩:=zas (P:=Tryz.prog) (w.alloc (.cells #[.int .u64 (f.n:Int),.int .u64 (f.at_:Int),.slice a n c] 173)) 123 173 i _ 3 40 Tryz.underlying123 e hz g l rfl (by decide) v b.length (zu b) (World.ownsRow.alloc h _)
  ⟨w.heap.size,0,none⟩ 1 1 (zu [(f,.slice a n c)]) rfl d (by rw[e1];intro u m;simp at m;rcases m with rfl|rfl|rfl<;>rfl) (by unfold maxLen;omega) (by omega)
 have e2:zu b++zu [(f,.slice a n c)]=zu (b++[(f,.slice a n c)]):=by simp[zu]
 rw[e2]at h2;refine⟨v',w',h1,h2,?_,?_⟩
 ·exact⟨h3.os,h3.tape,h3.output,Nat.le_trans (by simp) h3.size,fun k hk hn=>(h3.block k (by simp;omega) hn).trans (Below.heap_alloc w _ k hk)⟩
 ·intro k hk;rcases h4 k hk with x|x
  ·exact .inl x
  ·exact .inr (by simp at x;omega)
theorem zg.retag{tag tag':Nat→Nat×Nat}{i b:Nat}{c:CS}{V:CV}{W:World}(h:zg tag i b c V W)(ht:∀g r,r<90→tag g=(i,r)→tag' g=(i,r)):zg tag' i b c V W:=by
 have e:∀{g r:Nat},tag g=(i,r)→r<90→tag' g=(i,r):=fun hg hr=>ht _ _ hr hg
 exact
  {obj:=h.obj
   tb:=e h.tb (by decide)
   got:=h.got
   tg:=e h.tg (by decide)
   tgv:=fun g hg=>e (h.tgv g hg) (by decide)
   wb:=h.wb
   ws:=h.ws
   wc:=h.wc
   rb:=h.rb
   rc:=h.rc
   twb:=fun k hk g hg=>e (h.twb k hk g hg) (by omega)
   tws:=fun k hk g hg=>e (h.tws k hk g hg) (by omega)
   twc:=fun k hk g hg=>e (h.twc k hk g hg) (by omega)
   trb:=fun k hk g hg=>e (h.trb k hk g hg) (by omega)
   trc:=fun k hk g hg=>e (h.trc k hk g hg) (by omega)
   ft:=h.ft
   fl:=h.fl
   fs:=fun p hp=>(h.fs p hp).mod (Mod.refl NoB W) (fun _ x=>x.elim) (fun g hg=>e hg (by decide))
   tft:=fun g hg=>e (h.tft g hg) (by decide)
   wt:=h.wt
   twt:=fun g hg=>e (h.twt g hg) (by decide)
   sn:=h.sn
   tsn:=e h.tsn (by decide)
   cm:=h.cm
   tcm:=fun g hg=>e (h.tcm g hg) (by decide) }
structure zcU(tag:Nat→Nat×Nat)(W0 W:World)(ov:Value)(vs:List Value)(bs:List (List UInt8)):Prop where
 own:W.ownsRow 0 60 1 ov vs.length vs
 tov:∀g,ov.ownBlock=some g→W0.heap.size≤g∧tag g=(0,0)
 len:vs.length=bs.length
 each:∀(k:Nat) (v:Value) (l:List UInt8),vs[k]?=some v→bs[k]?=some l→OB W v l∧∀g,v.ownBlock=some g→W0.heap.size≤g∧tag g=(0,0)
 apart:∀(j k:Nat) (u v:Value),j<k→vs[j]?=some u→vs[k]?=some v→∀g,u.ownBlock=some g→v.ownBlock≠some g
theorem zcU.nil(tag:Nat→Nat×Nat)(W0 W:World):zcU tag W0 W (.slice none 0 0) [] [] :=
 ⟨World.ownsRow_nil _ 0 _ 1,(fun g hg=>by cases hg),rfl,(fun k v l hv _=>by simp at hv),(fun j k u v _ hu _=>by simp at hu)⟩
theorem zcU.mod{S:Nat→Prop}{tag tag':Nat→Nat×Nat}{c W W':World}{d:Value}{e:List Value}{bs:List (List UInt8)}(h:zcU tag c W d e bs)(m:Mod S W W')(hS:∀g,S g→tag g≠(0,0))(f:∀g,g<W.heap.size→tag g=(0,0)→tag' g=(0,0)):zcU tag' c W' d e bs:=by
 have q:∀g,tag g=(0,0)→¬S g:=fun g hg x=>hS g x hg
 refine⟨m.owns h.own (fun g hg=>q g (h.tov g hg).2),fun g hg=>⟨(h.tov g hg).1,f g (zE h.own g hg) (h.tov g hg).2⟩,h.len,fun k v l hv hl=>?_,h.apart⟩;obtain⟨a,b⟩:=h.each k v l hv hl;exact⟨m.owns a (fun g hg=>q g (b g hg).2),fun g hg=>⟨(b g hg).1,f g (zE a g hg) (b g hg).2⟩⟩
theorem zcU.push{tag tag':Nat→Nat×Nat}{q W W':World}{o i v:Value}{f:List Value}{bs:List (List UInt8)}{l:List UInt8}(h:zcU tag q W o f bs)(m:Mod (fun g=>o.ownBlock=some g) W W')(hw:q.heap.size≤W.heap.size)(ho:W'.ownsRow 0 60 1 i (f.length+1) (f++[v]))(hn:zaG W o i)(hv:OB W v l)
  (hb:∀g,v.ownBlock=some g→q.heap.size≤g∧tag' g=(0,0)) (r:∀g,v.ownBlock=some g→o.ownBlock≠some g) (s:∀(k:Nat) (u:Value),f[k]?=some u→∀g,u.ownBlock=some g→v.ownBlock≠some g) (z:∀g,g<W.heap.size→tag g=(0,0)→tag' g=(0,0)) (t:∀g,W.heap.size≤g→tag' g=(0,0)) (w:∀(k:Nat) (u:Value),f[k]?=some u→∀g,u.ownBlock=some g→o.ownBlock≠some g):zcU tag' q W' i (f++[v]) (bs++[l]):=by
 refine⟨by rw[List.length_append,List.length_singleton];exact ho,fun g hg=>?_,by simp[h.len],fun k u l' d p=>?_,fun j k u u' y d c=>?_⟩
 ·rcases hn g hg with x|x
  ·exact⟨(h.tov g x).1,z g (zE h.own g x) (h.tov g x).2⟩
  ·exact⟨by omega,t g x⟩
 ·by_cases hk:k<f.length
  ·rw[List.getElem?_append_left hk]at d;rw[List.getElem?_append_left (by rw[←h.len];exact hk)]at p;obtain⟨a,b⟩:=h.each k u l' d p;exact⟨m.owns a (fun g hg x=>w k u d g hg x),fun g hg=>⟨(b g hg).1,z g (zE a g hg) (b g hg).2⟩⟩
  ·have e:=(List.getElem?_eq_some_iff.1 d).1;rw[List.length_append,List.length_singleton]at e;have n:k=f.length:=by omega
   subst n;rw[List.getElem?_append_right (Nat.le_refl _)]at d;rw[h.len,List.getElem?_append_right (Nat.le_refl _)]at p;simp at d p;subst d;subst p;exact⟨m.owns hv (fun g hg x=>r g hg x),hb⟩
 ·have e:=(List.getElem?_eq_some_iff.1 c).1;rw[List.length_append,List.length_singleton]at e;rw[List.getElem?_append_left (by omega)]at d;by_cases hk:k<f.length
  ·rw[List.getElem?_append_left hk]at c;exact h.apart j k u u' y d c
  ·have n:k=f.length:=by omega
   subst n;rw[List.getElem?_append_right (Nat.le_refl _)]at c;simp at c;subst c;exact s j u d
def CS.pkDraft(c:CS):Drf:=⟨zL c.next,[],c.mtu,false,false⟩
def zz(d:Drf)(l:zD):Drf×zD:=if l=[]then(d,l)else zem d l
def CS.pkFill(c:CS)(d:Drf):CS×Drf:=if c.flight.length<12 then c.fill d else(c,d)
def CS.pkDone(c:CS)(d:Drf):CS:={ c with flight:=if d.wants then c.flight++[⟨c.next,c.now,d.fs⟩]else c.flight,next:=c.next+1 }
def zb3(l:List UInt8):List UInt8:=l++zla (crc l)
def CS.pkts:Nat→CS→zD→List (List UInt8)×CS
 | 0,c,_=>([],c)
 | n+1,c,l =>
  if (c.pkFill (zz c.pkDraft l).1).2.fs=[]then([],(c.pkFill (zz c.pkDraft l).1).1)
  else(zb3 (c.pkFill (zz c.pkDraft l).1).2.b::(CS.pkts n ((c.pkFill (zz c.pkDraft l).1).1.pkDone (c.pkFill (zz c.pkDraft l).1).2) (zz c.pkDraft l).2).1,
   (CS.pkts n ((c.pkFill (zz c.pkDraft l).1).1.pkDone (c.pkFill (zz c.pkDraft l).1).2) (zz c.pkDraft l).2).2)
def CS.packets(c:CS):List (List UInt8)×CS:=CS.pkts (12-c.flight.length+c.acks.1.length+1) c.acks.2 c.acks.1
theorem zmi{q:Nat}(hq:q<10):∀n (c:CS) (d:Drf),c.Ok→d.Ok→(CS.reps q n c d).1.Ok∧(CS.reps q n c d).2.Ok∧(CS.reps q n c d).2.room=d.room∧((CS.reps q n c d).2.wants=true∨(CS.reps q n c d).2.fs=d.fs)∧(d.wants=true→(CS.reps q n c d).2.wants=true)∧(d.fs≠[]→(CS.reps q n c d).2.fs≠[]) ∧
  ((CS.reps q n c d).1.next=c.next∧(CS.reps q n c d).1.now=c.now∧(CS.reps q n c d).1.closed=c.closed∧(CS.reps q n c d).1.flight=c.flight∧(CS.reps q n c d).1.mtu=c.mtu∧(CS.reps q n c d).1.answer=c.answer∧(CS.reps q n c d).1.got=c.got):=by
 intro n
 induction n with
 | zero=>intro c d hc hd;exact⟨hc,hd,rfl,.inr rfl,id,id,⟨rfl,rfl,rfl,rfl,rfl,rfl,rfl⟩⟩
 | succ n ih =>
  intro c d hc hd;have pk:=zfI (d:=d) hc hq;have a:=pk.drf hd;unfold CS.reps;split
  ·rename_i hr;obtain⟨f,_,hk,ha⟩:=pk.yes hr;obtain⟨_,e2,e3,_,e5,_⟩:=Drf.add_some ha;have i:(c.put d q).2.2.wants=true:=by
    rw[e5];simp[hk]
   obtain⟨i1,i2,i3,i4,j,i6,i7⟩:=ih _ _ pk.ok a.1;obtain⟨x1,x2,x3,x4,x5,x6,x7⟩:=pk.next;obtain⟨y1,y2,y3,y4,y5,y6,y7⟩:=i7;exact⟨i1,i2,i3.trans a.2.1,.inl (j i),fun _=>j i,fun _=>i6 (by rw[e2];simp),y1.trans x1,y2.trans x2,y3.trans x3,y4.trans x4,y5.trans x5,y6.trans x6,y7.trans x7⟩
  ·rename_i hr;have b:(c.put d q).1=false:=by simpa using hr
   obtain⟨hc',g⟩:=pk.no b;have e:(c.put d q).2.2.fs=d.fs∧(c.put d q).2.2.wants=d.wants:=by
    rcases g with e|e
    ·rw[e];exact⟨rfl,rfl⟩
    ·rw[e];exact⟨rfl,rfl⟩
   exact⟨pk.ok,a.1,a.2.1,.inr e.1,fun h=>by rw[e.2];exact h,fun h=>by rw[e.1];exact h,pk.next⟩
theorem zgn:∀n (c:CS) (d:Drf),n≤10→c.Ok→d.Ok→(CS.fillN n c d).1.Ok∧(CS.fillN n c d).2.Ok∧(CS.fillN n c d).2.room=d.room∧((CS.fillN n c d).2.wants=true∨(CS.fillN n c d).2.fs=d.fs)∧(d.wants=true→(CS.fillN n c d).2.wants=true)∧(d.fs≠[]→(CS.fillN n c d).2.fs≠[]) ∧
  ((CS.fillN n c d).1.next=c.next∧(CS.fillN n c d).1.now=c.now∧(CS.fillN n c d).1.closed=c.closed∧(CS.fillN n c d).1.flight=c.flight∧(CS.fillN n c d).1.mtu=c.mtu∧(CS.fillN n c d).1.answer=c.answer∧(CS.fillN n c d).1.got=c.got):=by
 intro n
 induction n with
 | zero=>intro c d _ hc hd;exact⟨hc,hd,rfl,.inr rfl,id,id,⟨rfl,rfl,rfl,rfl,rfl,rfl,rfl⟩⟩
 | succ n ih =>
  intro c d hn hc hd;obtain⟨h1,h2,h3,h4,h5,h6,x1,x2,x3,x4,x5,x6,x7⟩:=zmi (q:=9-n) (by omega) (d.room+1) c d hc hd;obtain⟨i1,i2,i3,a,b,i6,y1,y2,y3,y4,y5,y6,y7⟩:=ih _ _ (by omega) h1 h2;unfold CS.fillN;refine⟨i1,i2,i3.trans h3,?_,fun h=>b (h5 h),fun h=>i6 (h6 h),y1.trans x1,y2.trans x2,y3.trans x3,y4.trans x4,y5.trans x5,y6.trans x6,y7.trans x7⟩;rcases h4 with h4|h4
  ·exact .inl (b h4)
  ·rcases a with a|a
   ·exact .inl a
   ·exact .inr (a.trans h4)
structure zgF(tag:Nat→Nat×Nat)(i b:Nat)(W0:World)(c:CS)(told:zD)(outs:List (List UInt8))(tag':Nat→Nat×Nat)(V:CV)(vs:List Value)(ov tv:Value)(W:World):Prop where
 c:zg tag' i b c V W
 e:Ext i tag tag' W0 W
 m:Mod (zaf i tag) W0 W
 o:zcU tag' W0 W ov vs outs
 t:RRT tag' (i,5) W tv told
 p:0<i
structure zb4(tag:Nat→Nat×Nat)(i b db:Nat)(W0:World)(c:CS)(d:Drf)(told:zD)(outs:List (List UInt8))(tag':Nat→Nat×Nat)(V:CV)(bv fv:Value)(l:List (Frm×Value))(vs:List Value)(ov tv:Value)(W:World):Prop where
 s:zI tag i b db W0 c d tag' V bv fv l W
 o:zcU tag' W0 W ov vs outs
 t:RRT tag' (i,5) W tv told
theorem zI.comp{tag:Nat→Nat×Nat}{i b db:Nat}{W W1 W2:World}{c c':CS}{d l:Drf}{a tag2:Nat→Nat×Nat}{V1 n:CV}{j k f g:Value}{l1 o:List (Frm×Value)}(h:zI tag i b db W c d a V1 j k l1 W1)(h2:zI a i b db W1 c' l tag2 n f g o W2) :
  zI tag i b db W c' l tag2 n f g o W2:=⟨h2.c,h2.d,h.e.trans h2.e h.m.size,zan h.e h.m h2.m,h.p⟩
theorem zcU.own_{i:Nat}{tag tag':Nat→Nat×Nat}{a W W':World}{b:Value}{c:List Value}{bs:List (List UInt8)}(h:zcU tag a W b c bs)(hi:0<i)(e:Ext i tag tag' W W')(m:Mod (zaf i tag) W W'):zcU tag' a W' b c bs :=
 h.mod m.ofC (fun g hg x=>by rw[x]at hg;have hg:(0:Nat)=i:=hg;omega) (fun g hg x=>by rw[e.old g hg,x])
theorem zb4.mod0{tag:Nat→Nat×Nat}{i b db:Nat}{e:World}{c:CS}{d:Drf}{told:zD}{a:List (List UInt8)}{tag':Nat→Nat×Nat}{V:CV}{f fv:Value}{l:List (Frm×Value)}{g:List Value}{j k:Value}{W W':World}(h:zb4 tag i b db e c d told a tag' V f fv l g j k W)(m:Mod NoB W W'):zb4 tag i b db e c d told a tag' V f fv l g j k W' :=
 ⟨h.s.mod0 m,h.o.mod m (fun _ x=>x.elim) (fun _ _ x=>x),h.t.mod m (fun _ x=>x.elim) (fun _ x=>x)⟩
theorem zb4.tell{tag:Nat→Nat×Nat}{i b db:Nat}{g:World}{c:CS}{d j:Drf}{told a:zD}{f:List (List UInt8)}{tag':Nat→Nat×Nat}{V:CV}{bv fv:Value}{l:List (Frm×Value)}{k:List Value}{n tv:Value}{W W':World}{e:Ending}(h:zb4 tag i b db g c d told f tag' V bv fv l k n tv W)(hp:zew tag' i b db W c j a e W') :
  ∃v tag2 V2 bv2 fv2 l2,e = .returned v∧zb4 tag i b db g c j a f tag2 V2 bv2 fv2 l2 k n v W':=by
 obtain⟨v,tag2,V2,bv2,fv2,l2,rfl,ht,hs⟩:=hp;exact⟨v,tag2,V2,bv2,fv2,l2,rfl,h.s.comp hs,h.o.own_ h.s.p hs.e hs.m,ht⟩
theorem zb4.fill{tag:Nat→Nat×Nat}{i b db:Nat}{f:World}{c c':CS}{d j:Drf}{told:zD}{a:List (List UInt8)}{tag':Nat→Nat×Nat}{V:CV}{bv fv:Value}{l:List (Frm×Value)}{k:List Value}{n q:Value}{W W':World}{e:Ending}(h:zb4 tag i b db f c d told a tag' V bv fv l k n q W)(hp:zjK tag' i b db W c' j e W') :
  e = .returned (.tuple #[])∧∃tag2 V2 bv2 fv2 l2,zb4 tag i b db f c' j told a tag2 V2 bv2 fv2 l2 k n q W':=by
 obtain⟨rfl,tag2,V2,bv2,fv2,l2,hs⟩:=hp;exact⟨rfl,tag2,V2,bv2,fv2,l2,h.s.comp hs,h.o.own_ h.s.p hs.e hs.m,h.t.mod hs.m (fun g hg x=>hg.2 (by rw[x])) (fun g hg=>by rw[hs.e.old g (zaA h.s.ok hg h.s.p),hg])⟩
theorem zgF.draft{tag:Nat→Nat×Nat}{i b:Nat}{v:World}{c:CS}{told:zD}{j:List (List UInt8)}{tag':Nat→Nat×Nat}{V:CV}{l:Value}{w:List Value}{y z:Value}{W W1 W2:World}(h:zgF tag i b v c told j tag' V w y z W)(m1:Mod NoB W W1)(q:App W1 (.slice none 0 0) [] (zL c.next) l W2) :
  ∃tag1,zb4 tag i b W2.heap.size v c c.pkDraft told j tag1 V l (.slice none 0 0) [] w y z (W2.alloc (.cells #[l,.slice none 0 0,.int .i64 (c.mtu:Int),.bool false,.bool false] 180)):=by
 have hk:=h.e.out;have A:=h.p;have B:Mod NoB W W2:=m1.trans ((Mod.refl NoB W1).grown q.grown (fun g hg=>by simp[Value.ownBlock]at hg));obtain⟨o,C⟩:=nm (Obj.cells #[l,.slice none 0 0,.int .i64 (c.mtu:Int),.bool false,.bool false] 180);rw[C];have s:Mod NoB W (W2.alloc o):=B.alloc _;have hs1:=m1.size;have hs2:=B.size;have u:(W2.alloc o).heap.size=W2.heap.size+1:=by simp
 have k:∀g,l.ownBlock=some g→W.heap.size≤g∧g<W2.heap.size:=fun g hg=>by
  refine⟨?_,zE q.own g hg⟩;rcases q.at_ g hg with x|x
  ·simp[Value.ownBlock]at x
  ·omega
 obtain⟨tag1,a⟩:∃tag1:Nat→Nat×Nat,(fun g=>if g=W2.heap.size then(i,90)else if l.ownBlock=some g then(i,91)else tag' g)=tag1:=⟨_,rfl⟩;have d:∀g,g<W.heap.size→tag1 g=tag' g:=fun g hg=>by
  rw[←a];simp only;rw[if_neg (by omega),if_neg (fun x=>by have:=(k g x).1;omega)]
 have f:∀g,(tag' g).1=i→tag1 g=tag' g:=fun g hg=>d g (zaA hk (i:=i) (r:=(tag' g).2) (by rw[←hg]) A)
 have n:Ext i tag' tag1 W (W2.alloc o):=by
  refine⟨d,fun g hg=>?_,fun g hg=>?_⟩
  ·rw[←a];simp only;split
   ·exact .inl rfl
   ·split
    ·exact .inl rfl
    ·exact .inr (hk g hg)
  ·rw[u]at hg;rw[←a];simp only;rw[if_neg (by omega),if_neg (fun x=>by have:=(k g x).2;omega)];exact hk g (by omega)
 refine⟨tag1,⟨h.c.mod s (fun _ x=>x.elim) f,⟨?_,?_,World.ownsRow.alloc q.own _,fun g hg=>?_,World.ownsRow_nil _ 0 _ 10,rfl,fun x hx=>absurd hx List.not_mem_nil,fun g hg=>by simp[Value.ownBlock]at hg⟩,h.e.trans n h.m.size,h.m.trans (s.mono (fun _ x=>x.elim)),A⟩,h.o.mod s (fun _ x=>x.elim) (fun g hg x=>by rw[d g hg,x]),h.t.mod s (fun _ x=>x.elim) (fun g hg=>by rw[f g (by rw[hg]),hg])⟩
 ·rw[heap_alloc_new W2 o,←C];rfl
 ·rw[←a];simp
 ·rw[←a];simp only;rw[if_neg (by have:=(k g hg).2;omega),if_pos hg]
theorem frs_of{w:World}{v:Value}{fs:List (Frm×Value)}(h:w.ownsRow 0 65 10 v fs.length (zaY fs))(hr:∀x∈fs,RR w x.2 x.1.rngs):zc5 w v fs:=by
 obtain⟨a,cap,rfl,h1,h2,h3⟩:=zj h;refine⟨a,cap,rfl,h1,h2,fun i fr hi=>⟨?_,hr fr (List.mem_of_getElem? hi)⟩⟩;have hlt:i<fs.length:=(List.getElem?_eq_some_iff.1 hi).1;obtain⟨g,rfl⟩:=h3 (by omega);refine⟨g,0,rfl,fun j x hx=>?_⟩;have:=h.cells (g:=g) rfl _ _ (zgW fs i fr hi j x hx);rw[addr_add]at this;rw[Nat.zero_add]at this
 rwa [Nat.zero_add]
theorem zhf{w:World}{c d s1 s2 n1 n2:Nat}{e f:Value}{x1 x2:List Value}(h1:w.ownsRow 0 c s1 e n1 x1)(h2:w.ownsRow 0 d s2 f n2 x2)(he:c≠d){g:Nat}(hg:e.ownBlock=some g):f.ownBlock≠some g:=fun a=>by
 rcases h1.2 with⟨rfl,_⟩|⟨g1,c1,u1,rfl,_,a1,_⟩
 ·simp[Value.ownBlock]at hg
 ·rcases h2.2 with⟨rfl,_⟩|⟨g2,c2,u2,rfl,_,b,_⟩
  ·simp[Value.ownBlock]at a
  ·simp[Value.ownBlock]at hg a;subst hg;subst a;rw[a1]at b;simp at b;exact he b.2
structure zjL(tag:Nat→Nat×Nat)(i b db:Nat)(W0:World)(c:CS)(d:Drf)(told:zD)(outs:List (List UInt8))(tag':Nat→Nat×Nat)(V:CV)(bv fv:Value)(vs:List Value)(ov tv:Value)(W:World):Prop where
 h:zgF tag i b W0 c told outs tag' V vs ov tv W
 obj:W.heap[db]?=some (.cells #[bv,fv,.int .i64 (d.room:Int),.bool d.wants,.bool d.full] 180 (0,0))
 fr:zjz tag' (i,5) W fv d.fs
 fv:∃a cap,fv = .slice a d.fs.length cap
 db:tag' db=(i,90)
theorem zb4.sealed{tag:Nat→Nat×Nat}{i b db:Nat}{I:World}{c:CS}{d:Drf}{told:zD}{j:List (List UInt8)}{tag':Nat→Nat×Nat}{V:CV}{A fv:Value}{l:List (Frm×Value)}{G:List Value}{n U C v':Value}{new:List UInt8}{W W1 H:World}(h:zb4 tag i b db I c d told j tag' V A fv l G n U W)(nd:∀g r,90≤r→tag g≠(i,r))
  (Q:App W A d.b new v' W1) (ho:H.ownsRow 0 60 1 C (G.length+1) (G++[v'])) (hg:W1.grownBy H n.ownBlock) (hn:zaG W1 n C) :
  ∃tag3,zjL tag i b db I c d told (j++[d.b++new]) tag3 V A fv (G++[v']) C U H:=by
 have hk:=h.s.ok;have X:=h.s.p;have f:=h.s.d;have m1:Mod (fun g=>A.ownBlock=some g) W W1:=(Mod.refl (fun g=>A.ownBlock=some g) W).grown Q.grown (fun g hg=>.inl hg);have L:Mod (fun g=>n.ownBlock=some g) W1 H:=(Mod.refl (fun g=>n.ownBlock=some g) W1).grown hg (fun g hg=>.inl hg);have J:Mod (fun g=>A.ownBlock=some g∨n.ownBlock=some g) W H:=(m1.mono (fun g x=>.inl (.inl x))).trans (L.mono (fun g x=>.inl (.inr x)));have hs0:=h.s.m.size;have hs1:=m1.size;have hs2:=L.size;have z:∀r,((0:Nat),(0:Nat))≠(i,r):=fun r x=>by simp at x;omega
 obtain⟨tag3,D⟩:∃tag3:Nat→Nat×Nat,(fun g=>if tag' g=(i,91)then(0,0)else if tag' g=(i,92)then(i,5)else tag' g)=tag3:=⟨_,rfl⟩;have Y:∀g,tag' g=(i,91)→tag3 g=(0,0):=fun g hg=>by rw[←D];simp only;rw[if_pos hg]
 have Z:∀g,tag' g=(i,92)→tag3 g=(i,5):=fun g hg=>by rw[←D];simp only;rw[if_neg (by rw[hg];simp),if_pos hg]
 have k3:∀g,tag' g≠(i,91)→tag' g≠(i,92)→tag3 g=tag' g:=fun g h1 h2=>by rw[←D];simp only;rw[if_neg h1,if_neg h2]
 have k4:∀g r,r≠91→r≠92→tag' g=(i,r)→tag3 g=(i,r):=fun g r h1 h2 hg=>by rw[k3 g (by rw[hg];simpa using h1) (by rw[hg];simpa using h2),hg]
 have M:∀g,tag' g=(0,0)→tag3 g=(0,0):=fun g hg=>by rw[k3 g (by rw[hg];exact z _) (by rw[hg];exact z _),hg]
 have v:∀g r,90≤r→tag' g=(i,r)→I.heap.size≤g:=fun g r N hg=>by
  by_cases q:g<I.heap.size
  ·rw[h.s.e.old g q]at hg;exact absurd hg (nd g r N)
  ·omega
 have K:∀g,v'.ownBlock=some g→(A.ownBlock=some g∧tag' g=(i,91))∨W.heap.size≤g:=fun g hg=>by
  rcases Q.at_ g hg with x|x
  ·exact .inl ⟨x,f.tbv g x⟩
  ·exact .inr x
 have w:∀g,n.ownBlock=some g→g<W.heap.size∧tag' g=(0,0):=fun g hg=>⟨zE h.o.own g hg,(h.o.tov g hg).2⟩
 have E:∀(k:Nat) (u:Value),G[k]?=some u→(∃lb,OB W u lb)∧∀g,u.ownBlock=some g→g<W.heap.size∧tag' g=(0,0):=fun k u F=>by
  have R:k<j.length:=by rw[←h.o.len];exact(List.getElem?_eq_some_iff.1 F).1
  obtain⟨a,b⟩:=h.o.each k u j[k] F (List.getElem?_eq_getElem R);exact⟨⟨_,a⟩,fun g hg=>⟨zE a g hg,(b g hg).2⟩⟩
 have B:∀g,tag' g=(0,0)→g<W.heap.size→v'.ownBlock≠some g:=fun g h1 h2 x=>by
  rcases K g x with y|y
  ·rw[y.2]at h1;exact z _ h1.symm
  ·omega
 have S:zg tag' i b c V W1:=h.s.c.modR hk X (m1.mono (fun g hg=>.inl ⟨91,by decide,f.tbv g hg⟩)) (fun _ _=>rfl);have T:zg tag' i b c V H:=S.mod L (fun g hg=>by rw[(w g hg).2];simp;omega) (fun _ _=>rfl);have O:∀{g r:Nat},tag' g=(i,r)→r≠91→¬(A.ownBlock=some g∨n.ownBlock=some g):=fun hg N x=>by
  rcases x with x|x
  ·have:=f.tbv _ x;rw[hg]at this;simp at this;exact N this
  ·have:=(w _ x).2;rw[hg]at this;exact z _ this.symm
 refine⟨tag3,⟨⟨T.retag (fun g r N hg=>k4 g r (by omega) (by omega) hg),⟨fun g hg=>?_,fun g hg=>?_,fun g hg=>M g (hk g (by omega))⟩,h.s.m.then J (fun g hg=>.inr ?_),?_,?_,X⟩,J.obj (O f.tb (by decide)) f.obj,?_,?_,k4 _ 90 (by decide) (by decide) f.tb⟩⟩
 ·rw[k3 g (fun x=>by have:=v g 91 (by decide) x;omega) (fun x=>by have:=v g 92 (by decide) x;omega),h.s.e.old g hg]
 ·by_cases q1:tag' g=(i,91)
  ·exact .inr (Y g q1)
  ·by_cases q2:tag' g=(i,92)
   ·exact .inl (by rw[Z g q2])
   ·rw[k3 g q1 q2];exact h.s.e.new g hg
 ·rcases hg with x|x
  ·exact v g 91 (by decide) (f.tbv g x)
  ·exact(h.o.tov g x).1
 ·have o1:zcU tag' I W1 n G j:=h.o.mod m1 (fun g hg x=>by rw[f.tbv g hg]at x;exact z _ x.symm) (fun _ _ x=>x);refine o1.push L (by omega) ho hn Q.own (fun g hg=>?_) (fun g hg x=>?_) (fun k u F g hg=>B g ((E k u F).2 g hg).2 ((E k u F).2 g hg).1) (fun g _ hg=>M g hg) (fun g hg=>M g (hk g (by omega))) (fun k u F g hg=>?_)
  ·rcases K g hg with y|y
   ·exact⟨v g 91 (by decide) y.2,Y g y.2⟩
   ·exact⟨by omega,M g (hk g y)⟩
  ·exact B g (w g x).2 (w g x).1 hg
  ·obtain⟨⟨lb,hb⟩,_⟩:=E k u F;exact zhf hb h.o.own (by decide) hg
 ·exact h.t.mod J (fun g hg x=>O x (by decide) hg) (fun g hg=>k4 g 5 (by decide) (by decide) hg)
 ·refine⟨l,f.lf,frs_of (J.owns f.own (fun g hg=>O (f.tfv g hg) (by decide))) (fun x P=>(f.rr x P).1.mod J (zaB fun g hg=>O ((f.rr x P).2 g hg) (by decide))),fun g hg=>Z g (f.tfv g (ziG f.own hg)),fun x P g hg=>k4 g 5 (by decide) (by decide) ((f.rr x P).2 g hg)⟩
 ·obtain⟨a,cap,e,_⟩:=zj f.own;have hl:l.length=d.fs.length:=by rw[←f.lf,List.length_map]
  exact⟨a,cap,by rw[e,hl]⟩
theorem zjL.fly{tag:Nat→Nat×Nat}{i b db:Nat}{G:World}{c:CS}{d:Drf}{told:zD}{n:List (List UInt8)}{tag':Nat→Nat×Nat}{V:CV}{bv fv:Value}{H:List Value}{I J v':Value}{W W1 W2:World}(h:zjL tag i b db G c d told n tag' V bv fv H I J W)(B:Mod NoB W W1)
  (K:W2.ownsRow 0 173 3 v' (c.flight.length+1) (zu (c.flight.zip V.fts++[(⟨c.next,c.now,d.fs⟩,fv)]))) (hg:W1.grownBy W2 V.ft.ownBlock) (L:zaG W1 V.ft v') :
  ∃tag4,zgF tag i b G { c with flight:=c.flight++[⟨c.next,c.now,d.fs⟩] } told n tag4 { V with ft:=v',fts:=V.fts++[fv] } H I J (W2.setCell ⟨b,236,none⟩ v'):=by
 have j:=h.h;have hk:=j.e.out;have M:=j.p;have a:=j.c;have C:Mod (fun g=>V.ft.ownBlock=some g) W1 W2:=(Mod.refl (fun g=>V.ft.ownBlock=some g) W1).grown hg (fun g hg=>.inl hg);have u:Mod (fun g=>g=b∨V.ft.ownBlock=some g) W (W2.setCell ⟨b,236,none⟩ v'):=((B.mono (fun _ x=>x.elim)).trans (C.mono (fun g x=>.inl (.inr x)))).setCell (p:=⟨b,236,none⟩) (.inl (.inl rfl)) _;have hs0:=B.size;have hs2:=C.size;have D:(W2.setCell ⟨b,236,none⟩ v').heap.size=W2.heap.size:=by simp
 have v:∀g,(g=b∨V.ft.ownBlock=some g)→∃r,(r=1∨r=4)∧tag' g=(i,r):=fun g hg=>by
  rcases hg with hg|hg
  ·exact⟨1,.inl rfl,by rw[hg,a.tb]⟩
  ·exact⟨4,.inr rfl,a.tft g hg⟩
 have f:∀{g r:Nat},tag' g=(i,r)→g<W.heap.size:=fun hg=>zaA hk hg M
 have w:∀g,(tag' g).1=i→Go.Proofs.YtddfdpbaiedcjaaGreatDoor.retag tag' W W2 (i,4) g=tag' g:=fun g hg=>zw (f (r:=(tag' g).2) (by rw[←hg]))
 have E:W2.heap[b]?=some (.cells (zr c V).toArray 127 (0,0)):=C.obj (fun x=>by
  have:=a.tft b x;rw[a.tb]at this;simp at this) (B.obj (fun x=>x) a.obj)
 have F:∀g,v'.ownBlock=some g→g≠b:=fun g hg x=>by
  subst x;rcases L g hg with y|y
  ·have:=a.tft g y;rw[a.tb]at this;simp at this
  ·have:=f a.tb;omega
 have z:∀g,tag' g=(0,0)→¬(g=b∨V.ft.ownBlock=some g):=fun g hg x=>by
  obtain⟨r,_,e⟩:=v g x;rw[hg]at e;simp at e;omega
 have A:Ext i tag' (Go.Proofs.YtddfdpbaiedcjaaGreatDoor.retag tag' W W2 (i,4)) W (W2.setCell ⟨b,236,none⟩ v'):=by
  refine⟨fun g hg=>zw hg,fun g hg=>?_,fun g hg=>?_⟩
  ·by_cases q:g<W2.heap.size
   ·exact .inl (by rw[zaj hg q])
   ·exact .inr (by simp only[Go.Proofs.YtddfdpbaiedcjaaGreatDoor.retag,show ¬g<W.heap.size by omega,q,if_neg,not_false_eq_true])
  ·rw[D]at hg;simp only[Go.Proofs.YtddfdpbaiedcjaaGreatDoor.retag,show ¬g<W.heap.size by omega,show ¬g<W2.heap.size by omega,if_neg,not_false_eq_true]
 have s:(c.flight++[(⟨c.next,c.now,d.fs⟩:Fly)]).zip (V.fts++[fv])=c.flight.zip V.fts++[(⟨c.next,c.now,d.fs⟩,fv)]:=by
  rw[List.zip_append a.fl.symm];rfl
 refine⟨_,?_,j.e.trans A j.m.size,zan j.e j.m (u.mono (fun g hg=>.inl ?_)),j.o.mod u (fun g hg x=>z g x hg) (fun g hg x=>by rw[zw hg,x]),j.t.mod u (fun g hg x=>?_) (fun g hg=>by rw[zw (f hg),hg]),M⟩
 ·refine a.build (R:=fun r=>r=1∨r=4) u v w ?_ (.inl ⟨rfl,rfl,rfl,by omega,by omega⟩) (fun k hk=>.inl ⟨rfl,rfl,by omega⟩) (fun k hk=>.inl ⟨rfl,rfl,by omega⟩) (fun k hk=>.inl ⟨rfl,rfl,by omega⟩) (fun k hk=>.inl ⟨rfl,rfl,by omega⟩) (fun k hk=>.inl ⟨rfl,rfl,by omega⟩) (.inr ⟨?_,?_,?_,?_⟩) (.inl ⟨rfl,rfl,by omega⟩) (.inl ⟨rfl,rfl,by omega⟩) (.inl ⟨rfl,rfl,by omega⟩)
  ·rw[zc E,List.setIfInBounds_toArray];rw[show(236:Nat)=233+3 from rfl,zV c { c with flight:=c.flight++[⟨c.next,c.now,d.fs⟩] } V { V with ft:=v',fts:=V.fts++[fv] } _ rfl rfl rfl rfl]
  ·rw[s];have:=((Mod.refl (fun g=>g=b) W2).setCell (p:=⟨b,236,none⟩) (.inl rfl) v').owns K (fun g hg x=>F g hg x);rw[List.length_append,List.length_singleton];exact this
  ·rw[List.length_append,List.length_append,a.fl];rfl
  ·intro p l;have l:p∈(c.flight++[(⟨c.next,c.now,d.fs⟩:Fly)]).zip (V.fts++[fv]):=l;rw[s]at l;have N:∀g,(g=b∨V.ft.ownBlock=some g)→tag' g≠(i,5):=fun g hg x=>by
    obtain⟨r,O,e⟩:=v g hg;rw[x]at e;simp at e;omega
   rcases List.mem_append.1 l with q|q
   ·exact(a.fs p q).mod u N (fun g hg=>by rw[zw (f hg),hg])
   ·simp at q;subst q;exact h.fr.mod u N (fun g hg=>by rw[zw (f hg),hg])
  ·intro g hg;rcases L g hg with y|y
   ·rw[zw (f (a.tft g y)),a.tft g y]
   ·exact zaj (by omega) (zE K g hg)
 ·obtain⟨r,O,e⟩:=v g hg;exact zbk e (by omega)
 ·obtain⟨r,O,e⟩:=v g hg;rw[x]at e;simp at e;omega
theorem zgF.next{tag:Nat→Nat×Nat}{i b:Nat}{d:World}{c:CS}{told:zD}{a:List (List UInt8)}{tag':Nat→Nat×Nat}{V:CV}{f:List Value}{k l:Value}{W:World}(h:zgF tag i b d c told a tag' V f k l W) :
  zgF tag i b d { c with next:=c.next+1 } told a tag' V f k l (W.setCell ⟨b,6,none⟩ (.int .u64 ((c.next+1:Nat):Int))):=by
 have m:Mod (fun g=>g=b) W (W.setCell ⟨b,6,none⟩ (.int .u64 ((c.next+1:Nat):Int))):=(Mod.refl (fun g=>g=b) W).setCell (p:=⟨b,6,none⟩) (.inl rfl) _;have tb:=h.c.tb;have hp:=h.p;exact⟨h.c.store 6 _ (za4 c { c with next:=c.next+1 } V V (j:=6) _ (by decide) rfl rfl rfl rfl) ⟨rfl,fun _ _=>⟨rfl,rfl,rfl⟩,fun _ _=>⟨rfl,rfl⟩,rfl,rfl,rfl,rfl⟩,⟨h.e.old,h.e.new,h.e.out.mod m⟩,
  zan h.e h.m (m.mono (fun q hq=>.inl (zbk (r:=1) (by rw[show q=b from hq];exact tb) (by decide)))),h.o.mod m (fun g hg x=>by rw[show g=b from hg,tb]at x;simp at x) (fun _ _ x=>x),h.t.mod m (fun g hg x=>by rw[show g=b from hg,tb]at x;simp at x) (fun _ x=>x),hp⟩
end Go.Proofs.YtddfdpbaiedcjaaGreatDoor
