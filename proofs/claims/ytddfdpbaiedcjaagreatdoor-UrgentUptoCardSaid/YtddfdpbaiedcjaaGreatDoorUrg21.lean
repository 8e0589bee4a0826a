/- A part of Urgent's proof. Conditions: none. Part 21 of 32. -/
import Derived.Test.YtddfdpbaiedcjaaGreatDoorUrg16
set_option maxRecDepth 100000
set_option maxHeartbeats 16000000
set_option linter.all false
namespace Go.Proofs.YtddfdpbaiedcjaaGreatDoor
open Go.RowKit
theorem zef{b e:Nat}:∀(c:List Value) (o:Nat) (w:World) (a:Array Value),w.heap[b]?=some (.cells a e (0,0))→∃cur',(w.setCells b o c).heap[b]?=some (.cells cur' e (0,0))∧cur'.size=a.size
 | [],_,_,a,h=>⟨a,h,rfl⟩
 | v::c,o,w,a,h=>by
  obtain⟨cur',h1,h2⟩:=zef c (o+1) (w.setCell ⟨b,o,none⟩ v) _ (zc h);exact⟨cur',h1,by rw[h2];simp⟩
theorem zeg{b:Nat}:∀(a:List Value) (o:Nat) (w:World),Mod (fun g=>g=b) w (w.setCells b o a)
 | [],_,w=>Mod.refl _ _
 | v::a,o,w=>((Mod.refl (fun g=>g=b) w).setCell (p:=⟨b,o,none⟩) (.inl rfl) v).trans (zeg a (o+1) _)
theorem zc8.of_cells{w:World}{g e size n o cap:Nat}{a:Array Value}{xs:List Value}(hg:w.heap[g]?=some (.cells a e (0,0)))(hl:xs.length=n*size)(b:n≤cap)(hc:cap≤maxLen)(hs:(o+cap)*size≤a.size)(hx:∀j u,xs[j]?=some u→w.cell? ⟨g,o*size+j,none⟩=some u) :
  zc8 w e size (.slice (some ⟨g,o*size,none⟩) n cap) n xs:=by
 have hle:o*size+n*size≤a.size:=by
  have:n*size≤cap*size:=Nat.mul_le_mul_right _ b;rw[Nat.add_mul]at hs;omega
 refine⟨hl,.inr ⟨g,o,cap,a,rfl,hg,b,hc,hs,?_⟩⟩;apply List.ext_getElem?;intro j;by_cases c:j<xs.length
 ·have h1:=hx j xs[j] (List.getElem?_eq_getElem c);rw[List.getElem?_eq_getElem c,←h1];rw[List.getElem?_take,if_pos (by omega),List.getElem?_drop];unfold World.cell?;simp only[hg];simp
 ·rw[List.getElem?_eq_none (by rw[List.length_take];omega),List.getElem?_eq_none (by omega)]
theorem zc8.cells{w:World}{e size n:Nat}{v:Value}{xs:List Value}(h:zc8 w e size v n xs){g o cap:Nat}(c:v = .slice (some ⟨g,o,none⟩) n cap):∀j u,xs[j]?=some u→w.cell? ⟨g,o+j,none⟩=some u:=by
 intro j u a;rcases h.2 with⟨rfl,rfl⟩|⟨g',o',d,cur,rfl,hg,_,_,hs,ht⟩
 ·cases c
 ·cases c;have b:j<n*size:=by
   have:=(List.getElem?_eq_some_iff.1 a).1;rw[h.1]at this;exact this
  rw[←ht,List.getElem?_take,if_pos b,List.getElem?_drop]at a;unfold World.cell?;simp only[hg];simpa using a
def BlkOr(w:World)(v v':Value):Prop:=∀g,Value.blk v'=some g→Value.blk v=some g∨w.heap.size≤g
theorem zi4{w:World}{e size n:Nat}{v:Value}{xs:List Value}(h:w.ownsRow 0 e size v n xs):zc8 w e size v n xs:=by
 refine⟨h.1,?_⟩;rcases h.2 with⟨rfl,rfl⟩|⟨g,cap,a,rfl,_,hg,hn,hc,hs,ht⟩
 ·exact .inl ⟨rfl,rfl⟩
 ·exact .inr ⟨g,0,cap,a,by simp,hg,hn,hc,by rw[Nat.zero_add];exact Nat.le_of_eq hs.symm,by simpa using ht⟩
theorem zi5:(Tryz.prog.info? 65).map (fun i=>(i.zero,i.size,i.bytes))=some (some (.agg #[.int .i64 0,.int .i64 0,.int .u64 0,.int .u64 0,.int .u64 0,.bool false,.int .u64 0,.int .u64 0,.string ⟨#[]⟩,.slice none 0 0]),10,104):=by kernel_rfl
theorem zoP(w:World)(v:Value)(n:Nat)(xs:List Value)(f:Frm)(h:zc8 w 65 10 v n xs)(hl:n≤1099511627776) :
  ∃v' w',(∀ty,(Builtin.append_ #[54,54] ty #[v,.slice (some ⟨w.heap.size,0,none⟩) 1 1]).run Tryz.prog (w.alloc (.cells (zh f (.slice none 0 0)) 65)) = .ok v' w') ∧
   zc8 w' 65 10 v' (n+1) (xs++(zh f (.slice none 0 0)).toList)∧Mod (fun g=>Value.blk v=some g) w w'∧BlkOr w v v':=by
 obtain⟨i,s,J,t,y⟩:=info_parts zi5;obtain⟨o,K⟩:=nm (Obj.cells (zh f (.slice none 0 0)) 65);have c:∀(j:Nat) u,(zh f (.slice none 0 0)).toList[j]?=some u→(w.alloc o).cell? ((⟨w.heap.size,0,none⟩:Addr).add j)=some u:=by
  intro j u d;rw[addr_add,←K];refine za (heap_alloc_new w _) ?_;rw[Nat.zero_add,←Array.getElem?_toList];exact d
 have h1:∀u∈(zh f (.slice none 0 0)).toList,u.oneCell'=true:=by
  intro u L;simp[zh]at L;rcases L with rfl|rfl|rfl|rfl|rfl|rfl|rfl|rfl|rfl|rfl<;>rfl
 have a:(zh f (.slice none 0 0)).toList.length=1*10:=rfl;rw[K];have z:Mod NoB w (w.alloc o):=(Mod.refl NoB w).alloc o;have hsz:(w.alloc o).heap.size=w.heap.size+1:=by simp
 rcases h.2 with⟨rfl,rfl⟩|⟨g,off,cap,A,rfl,hg,hn,hc,hs,ht⟩
 ·have hx:xs=[]:=List.eq_nil_of_length_eq_zero (by simpa using h.1);subst hx;obtain⟨v',w',k1,M,k3,k4⟩:=zH (P:=Tryz.prog) (w.alloc o) 54 65 i _ 10 104 Tryz.underlying54 s J t y rfl (by decide) (.slice none 0 0) 0 [] (World.ownsRow_nil _ 0 _ 10)
   ⟨w.heap.size,0,none⟩ 1 1 _ a c h1 (by unfold maxLen;omega) (by omega)
  refine⟨v',w',k1,zi4 M,(z.mono (fun _ x=>x.elim)).trans ((Mod.refl _ (w.alloc o)).grown k3 (fun k hk=>by cases hk)),fun g hg=>?_⟩;rcases k4 g (ziG M hg)with x|x
  ·cases x
  ·exact .inr (by omega)
 ·have b:i.size=10:=t;have p:=z.obj (fun x=>x) hg;have B:=(h.mod z (fun _ _ x=>x)).cells (g:=g) (o:=off*10) (cap:=cap) rfl;have l:xs.length=n*10:=h.1;by_cases m:n+1≤cap
  ·have hb:∀j,j<10→off*10+n*10+j<A.size:=fun j d=>by
    have:(off+(n+1))*10≤(off+cap)*10:=Nat.mul_le_mul_right _ (by omega);omega
   have D:=fun ty=>run_append_room_cells (P:=Tryz.prog) (w.alloc o) 54 ty 65 i Tryz.underlying54 s g (off*10) n cap ⟨w.heap.size,0,none⟩ 1 1 _ (by rw[b];exact a) c h1 m
    (fun j d=>by
     rw[b,za p (Array.getElem?_eq_getElem (hb j d))];rfl) (fun j _=>zd p)
   rw[b]at D;obtain⟨N,E,F⟩:=zef (zh f (.slice none 0 0)).toList (off*10+n*10) (w.alloc o) A p;refine⟨_,_,D,?_,(z.mono (fun _ x=>x.elim)).trans ((zeg _ _ _).mono (fun q C=>.inl (by rw[C];rfl))),fun q C=>.inl C⟩;refine zc8.of_cells E (by rw[List.length_append,l,a];omega) m hc (by rw[F];exact hs) (fun j u d=>?_);by_cases G:j<xs.length
   ·rw[List.getElem?_append_left G]at d;rw[World.cell?_setCells_out g _ _ _ _ (fun _ _=>.inl (by show off*10+j<_;omega))];exact B j u d
   ·rw[List.getElem?_append_right (by omega)]at d;have r:=(List.getElem?_eq_some_iff.1 d).1;have:=World.cell?_setCells_in g (zh f (.slice none 0 0)).toList (off*10+n*10) (w.alloc o) (fun j d=>by rw[za p (Array.getElem?_eq_getElem (hb j d))];rfl) (j-xs.length) r;rw[show off*10+j=off*10+n*10+(j-xs.length)by omega,this,←d];rw[List.getElem?_eq_getElem r]
  ·have D:=fun ty=>run_append_grow (P:=Tryz.prog) (w.alloc o) 54 ty 65 i _ Tryz.underlying54 s J ⟨g,off*10,none⟩ n cap xs (by rw[b];exact l) (fun j u d=>by rw[addr_add];exact B j u d)
    ⟨w.heap.size,0,none⟩ 1 1 _ (by rw[b];exact a) c (by omega) (by omega) (growslice_fits (by omega) (by rw[y];omega))
   have H:=grownCap_ge (w.alloc o) (n+1) cap 65;have I:grownCap (w.alloc o) (n+1) cap 65≤maxLen:=grownCap_le_maxLen (w.alloc o) (n+1) cap _ (by unfold maxLen;omega);refine⟨_,_,D,⟨by rw[List.length_append,l,a];omega,.inr ⟨(w.alloc o).heap.size,0,_,_,by simp,heap_alloc_new (w.alloc o).drew _,H,I,?_,?_⟩⟩,((z.mono (fun _ x=>x.elim)).drew).alloc _,fun q C=>.inr (by simp[Value.blk]at C;omega)⟩
   ·simp only[Array.size_append,List.size_toArray,size_zeroCells,l,a];have:(Value.agg #[.int .i64 0,.int .i64 0,.int .u64 0,.int .u64 0,.int .u64 0,.bool false,.int .u64 0,.int .u64 0,.string ⟨#[]⟩,.slice none 0 0]).cells.size=10:=rfl;rw[this];omega
   ·simp only[Array.toList_append,List.append_assoc,Nat.zero_mul,List.drop_zero];rw[←List.append_assoc];have e:(xs++(zh f (.slice none 0 0)).toList).length=(n+1)*10:=by rw[List.length_append,l,a];omega
    rw[←e];exact List.take_left
theorem zeo(l:List Frm)(f:Frm):zp (l++[f])=zp l++(zh f (.slice none 0 0)).toList:=by
 simp[zp]
theorem zZ(l:List Frm):(zp l).length=l.length*10:=by
 induction l with
 | nil=>rfl
 | cons f l ih =>
  have:zp (f::l)=(zh f (.slice none 0 0)).toList++zp l:=by simp[zp]
  rw[this,List.length_append,ih,List.length_cons];have e:(zh f (.slice none 0 0)).toList.length=10:=rfl;omega
theorem zg.waitPush{tag:Nat→Nat×Nat}{i b:Nat}{c:CS}{V:CV}{W W1 W2:World}(h:zg tag i b c V W)(ht:zP tag W)(hi:0<i){f:Frm}{v':Value}(s:Mod NoB W W1)(t:zc8 W2 65 10 v' (c.waits.length+1) (zp c.waits++(zh f (.slice none 0 0)).toList))(m:Mod (fun g=>Value.blk V.wt=some g) W1 W2)(u:BlkOr W1 V.wt v') :
  zbc tag i b W { c with waits:=c.waits++[f] } (W2.setCell ⟨b,238,none⟩ v'):=by
 have k:Mod (fun g=>Value.blk V.wt=some g) W W2:=(s.mono (fun _ x=>x.elim)).trans m;have hb:∀g,Value.blk V.wt=some g→g≠b:=fun g hg e=>zg.apart (h.twt g hg) (e ▸ h.tb) (by decide) rfl
 have a:∀{g r:Nat},tag g=(i,r)→g<W.heap.size:=fun hg=>zaA ht hg hi
 have o2:=k.obj (fun x=>hb b x rfl) h.obj;have hs0:=s.size;have hs2:=m.size;have l:∀g,Value.blk v'=some g→g≠b:=fun g hg e=>by
  rcases u g hg with x|x
  ·exact hb g x e
  ·have:=a h.tb;omega
 have d:∀g,Value.blk v'=some g→g<W2.heap.size:=fun g hg=>by
  rcases t.2 with⟨rfl,_⟩|⟨g',o,cap,cur,rfl,n,_⟩
  ·simp[Value.blk]at hg
  ·simp[Value.blk]at hg;subst hg;exact(Array.getElem?_eq_some_iff.1 n).1
 have v:Mod (fun g=>g=b) W2 (W2.setCell ⟨b,238,none⟩ v'):=(Mod.refl (fun g=>g=b) _).setCell (p:=⟨b,238,none⟩) (.inl rfl) _;have w:Mod (fun g=>Value.blk V.wt=some g∨g=b) W (W2.setCell ⟨b,238,none⟩ v'):=(k.mono (fun g hg=>.inl (.inl hg))).trans (v.mono (fun g hg=>.inl (.inr hg)));refine⟨Go.Proofs.YtddfdpbaiedcjaaGreatDoor.retag tag W W2 (i,6),{ V with wt:=v' },?_,?_,w.mono (fun g hg=>.inl ?_)⟩
 ·refine h.build (R:=fun r=>r=1∨r=6) w (fun g hg=>?_) (fun g hg=>zw (a (r:=(tag g).2) (by rw[←hg]))) ?_ (.inl ⟨rfl,rfl,rfl,by omega,by omega⟩) (fun q j=>.inl ⟨rfl,rfl,by omega⟩) (fun q j=>.inl ⟨rfl,rfl,by omega⟩) (fun q j=>.inl ⟨rfl,rfl,by omega⟩) (fun q j=>.inl ⟨rfl,rfl,by omega⟩) (fun q j=>.inl ⟨rfl,rfl,by omega⟩) (.inl ⟨rfl,rfl,rfl,by omega,by omega⟩) (.inr ⟨?_,fun g hg=>?_⟩) (.inl ⟨rfl,rfl,by omega⟩) (.inl ⟨rfl,rfl,by omega⟩)
  ·rcases hg with hg|hg
   ·exact⟨6,.inr rfl,h.twt g hg⟩
   ·exact⟨1,.inl rfl,by rw[hg,h.tb]⟩
  ·rw[zc o2,List.setIfInBounds_toArray];rw[show(238:Nat)=233+5 from rfl,zV c { c with waits:=c.waits++[f] } V { V with wt:=v' } _ rfl rfl rfl rfl]
  ·rw[List.length_append,List.length_singleton,zeo];exact t.mod v (fun g hg x=>l g hg x)
  ·rcases u g hg with y|y
   ·rw[zw (a (h.twt g y)),h.twt g y]
   ·exact zaj (by omega) (d g hg)
 ·have:=zbj (i:=i) (r:=6) (tag:=tag) k.size;exact⟨this.old,this.new,fun g hg=>this.out g (by simpa using hg)⟩
 ·rcases hg with hg|hg
  ·rw[h.twt g hg]
  ·rw[hg,h.tb]
theorem zbc.after{tag:Nat→Nat×Nat}{i b:Nat}{W W1 W2:World}{c:CS}(ht:zP tag W)(m:Mod (fun g=>(tag g).1=i) W W1)(h:zbc tag i b W1 c W2):zbc tag i b W c W2:=by
 obtain⟨tag',V',h1,h2,h3⟩:=h;exact⟨tag',V',h1,(Ext.same ht m).trans h2 m.size,m.trans h3⟩
theorem zhC{tag:Nat→Nat×Nat}{i b:Nat}{c:CS}{V:CV}{W:World}(h:zg tag i b c V W)(id:Nat):zg tag i b { c with anyID:=true,lastID:=id } V ((W.setCell ⟨b,240,none⟩ (.bool true)).setCell ⟨b,239,none⟩ (.int .u64 (id:Int))):=by
 have h1:zg tag i b { c with anyID:=true } V (W.setCell ⟨b,240,none⟩ (.bool true)):=h.store (233+7) _ (zV c { c with anyID:=true } V V _ rfl rfl rfl rfl) ⟨rfl,fun _ _=>⟨rfl,rfl,rfl⟩,fun _ _=>⟨rfl,rfl⟩,rfl,rfl,rfl,rfl⟩;exact h1.store (233+6) _ (zV { c with anyID:=true } { c with anyID:=true,lastID:=id } V V _ rfl rfl rfl rfl) ⟨rfl,fun _ _=>⟨rfl,rfl,rfl⟩,fun _ _=>⟨rfl,rfl⟩,rfl,rfl,rfl,rfl⟩
theorem zgs{tag:Nat→Nat×Nat}{i b:Nat}{c:CS}{V:CV}{W:World}(h:zg tag i b c V W)(O:zP tag W)(hi:0<i)(id dl:Nat)(a:Addr)(cap:Nat)(s:List UInt8)(r:BR W (.slice (some a) s.length cap) s)(G:tag a.block=(0,0))(hm:c.mtu≤65536)(hsl:s.length≤1099511627776)(aw:c.waits.length≤1099511627776) :
  Calls Tryz.prog 124 #[.pointer (some ⟨b,0,none⟩),.int .u64 (id:Int),.int .u64 (dl:Int),.slice (some a) s.length cap] W (zbd tag i b W (zdt (c.datagram id dl s).1) (c.datagram id dl s).2):=by
 have H0:=zb (h.left O (Mod.refl _ _));have HH:=zb h;have HT:=zb O;have c2:W.cell? ⟨b,4,none⟩=some (.int .i64 (c.closed:Int)):=h.hd (j:=4) rfl;have c0:W.cell? ⟨b,0,none⟩=some (.int .i64 (c.mtu:Int)):=h.hd (j:=0) rfl;have c3:W.cell? ⟨b,3,none⟩=some (.int .u64 (c.now:Int)):=h.hd (j:=3) rfl;have P:W.cell? ⟨b,238,none⟩=some V.wt:=h.tl (j:=5) rfl;have ab:W.cell? ⟨b,239,none⟩=some (.int .u64 (c.lastID:Int)):=h.tl (j:=6) rfl;have ac:W.cell? ⟨b,240,none⟩=some (.bool c.anyID):=h.tl (j:=7) rfl;have fz:∀p,W.frozen? ⟨b,p,none⟩=false:=fun p=>h.fz p
 have aj:∀p v p',(W.setCell ⟨b,p,none⟩ v).frozen? ⟨b,p',none⟩=false:=fun p v p'=>zd (zc h.obj)
 obtain⟨H,I,k⟩:=zha h.wt;rw[k]at P;obtain⟨N,l⟩:=nm c.waits.length;obtain⟨mt,t⟩:=nm c.mtu;obtain⟨nw,n⟩:=nm c.now;obtain⟨li,u⟩:=nm c.lastID;obtain⟨an,q⟩:=nm c.anyID;rw[l]at P;rw[t]at c0 hm;rw[n]at c3;rw[u]at ab;rw[q]at ac;have ax:=zb k;have ay:=zb r;have az:Hid (zaX (fun g=>g=b) (.slice (some a) s.length cap)):=zb (zaB fun g hg x=>by
  have x:g=b:=x;simp[Value.blk]at hg;rw[hg,x,h.tb]at G;simp at G)
 have ak:Hid (zaX (fun g=>Value.blk V.wt=some g) (.slice (some a) s.length cap)):=zb (zaB fun g hg x=>by
  have h1:=h.twt g x;simp[Value.blk]at hg;rw[hg,h1]at G;simp at G)
 clear G;have ym:IntKind.i64.wrap ((mt:Int)-40)=(mt:Int)-40:=IntWalk.i64_in _ (by omega);by_cases f:c.closed=0;rotate_left
 ·have B:Hid (c.datagram id dl s=(12,c)):=by
   show _=_;unfold CS.datagram;rw[if_pos f]
  rw[B.out];have dc:((c.closed:Int)==0)=false:=beq_eq_false_iff_ne.2 (by omega);clear h O r k f l t n u q;go_enter Tryz.func124,Tryz.ntmps124;go_wp2_with fail;go_ret;exact⟨rfl,H0.out⟩
 rw[f]at c2;by_cases h1:zA<id
 ·have B:Hid (c.datagram id dl s=(5,c)):=by
   show _=_;unfold CS.datagram;rw[if_neg (by simpa using f),if_pos (.inl h1)]
  rw[B.out];have d1:(4611686018427387903:Int)<id:=by unfold zA at h1;omega
  clear h O r k f l t n u q h1;go_enter Tryz.func124,Tryz.ntmps124;go_wp2_with fail;go_ret;exact⟨rfl,H0.out⟩
 have d1:¬(4611686018427387903:Int)<id:=by unfold zA at h1;omega
 by_cases h2:zA<dl
 ·have B:Hid (c.datagram id dl s=(5,c)):=by
   show _=_;unfold CS.datagram;rw[if_neg (by simpa using f),if_pos (.inr (.inl h2))]
  rw[B.out];have d2:(4611686018427387903:Int)<dl:=by unfold zA at h2;omega
  clear h O r k f l t n u q h1 h2;go_enter Tryz.func124,Tryz.ntmps124;go_wp2_with fail;go_ret;exact⟨rfl,H0.out⟩
 have d2:¬(4611686018427387903:Int)<dl:=by unfold zA at h2;omega
 by_cases h3:c.anyID=true∧id≤c.lastID
 ·have B:Hid (c.datagram id dl s=(5,c)):=by
   show _=_;unfold CS.datagram;rw[if_neg (by simpa using f),if_pos (.inr (.inr h3))]
  rw[B.out];have d3:(id:Int)≤li:=by omega
  have e4:an=true:=by rw[←q];exact h3.1
  subst e4;clear h O r k f l t n u q h1 h2 h3;go_enter Tryz.func124,Tryz.ntmps124;go_wp2_with fail;go_ret;exact⟨rfl,H0.out⟩
 have d3:an=false∨(an=true∧¬(id:Int)≤li):=by
  cases an
  ·exact .inl rfl
  ·refine .inr ⟨rfl,fun x=>h3 ⟨q,by omega⟩⟩
 have E:¬(zA<id∨zA<dl∨(c.anyID=true∧id≤c.lastID)):=by
  rintro(x|x|x)
  ·exact h1 x
  ·exact h2 x
  ·exact h3 x
 by_cases h4:c.mtu<s.length+40
 ·have B:Hid (c.datagram id dl s=(6,c)):=by
   show _=_;unfold CS.datagram;rw[if_neg (by simpa using f),if_neg E,if_pos h4]
  rw[B.out];have d4:(mt:Int)-40<s.length:=by omega
  clear h O r k f l t n u q h1 h2 h3 E h4;rcases d3 with rfl|⟨rfl,d3⟩;all_goals
   go_enter Tryz.func124,Tryz.ntmps124;go_wp2_with fail;go_ret;exact⟨rfl,H0.out⟩
 have d4:¬(mt:Int)-40<s.length:=by omega
 by_cases h5:c.waits.length=16
 ·have B:Hid (c.datagram id dl s=(3,c)):=by
   show _=_;unfold CS.datagram;rw[if_neg (by simpa using f),if_neg E,if_neg h4,if_pos h5]
  rw[B.out];have e5:N=16:=by omega
  subst e5;clear h O r k f l t n u q h1 h2 h3 E h4 h5;rcases d3 with rfl|⟨rfl,d3⟩;all_goals
   go_enter Tryz.func124,Tryz.ntmps124;go_wp2_with fail;go_ret;exact⟨rfl,H0.out⟩
 have d5:((N:Int)==16)=false:=beq_eq_false_iff_ne.2 (by omega);have B:Hid (c.datagram id dl s=(0,{ c with anyID:=true,lastID:=id,waits:=if c.now≤dl then c.waits++[dgF id dl s]else c.waits })):=by
  show _=_;unfold CS.datagram;rw[if_neg (by simpa using f),if_neg E,if_neg h4,if_neg h5]
 rw[B.out];obtain⟨Q,J⟩:=nm ((if c.now≤dl then c.waits++[dgF id dl s]else c.waits));rw[J];have C:=zb J;clear J B;have F:=zhC h id;obtain⟨W2,R⟩:=nm ((W.setCell ⟨b,240,none⟩ (.bool true)).setCell ⟨b,239,none⟩ (.int .u64 (id:Int)));rw[R]at F;have m2:Mod (fun g=>g=b) W W2:=by
  rw[←R];exact((Mod.refl (fun g=>g=b) W).setCell (p:=⟨b,240,none⟩) (.inl rfl) _).setCell (p:=⟨b,239,none⟩) (.inl rfl) _
 have y:=zb F;have M2:=zb m2;have al:=zb R;have HCL:=zb f;have S:=zb l;have D:=zb n;have am:W2.cell? ⟨b,3,none⟩=some (.int .u64 (nw:Int)):=by rw[←n];exact F.hd (j:=3) rfl
 have X:W2.cell? ⟨b,238,none⟩=some (.slice H N I):=by rw[←l,←k];exact F.tl (j:=5) rfl
 have ao:∀p,W2.frozen? ⟨b,p,none⟩=false:=fun p=>F.fz p
 have L:=zb (And.intro am (And.intro X ao));clear h O r k f l t n u q h1 h2 h3 E h4 h5 F m2 R am X ao;have ap:∀{w:World},Mod (fun g=>g=b) W w→BR w (.slice (some a) s.length cap) s:=fun m=>BR.mod ay.out m (az.out)
 have M:Hid (BR W2 (.slice (some a) s.length cap) s):=zb (ap M2.out);clear ap;obtain⟨wv,W3,happ,ad,m3,aq⟩:=zoP W2.drew V.wt N (zp c.waits) (dgF id dl s) (by rw[←S.out];exact(y.out.mod0 (Mod.refl NoB W2).drew).wt) (by rw[←S.out];exact aw);have ae:∀g,Value.blk V.wt=some g→g≠b:=fun g hg e=>zg.apart (y.out.twt g hg) (e ▸ y.out.tb) (by decide) rfl
 have ar:Hid (zbc tag i b W { c with anyID:=true,lastID:=id,waits:=c.waits++[dgF id dl s] } (W3.setCell ⟨b,238,none⟩ wv)):=by
  have h1:=y.out.waitPush (HT.out.mod M2.out) hi ((Mod.refl NoB W2).drew) (by rw[S.out];exact ad) m3 aq;exact h1.after HT.out (M2.out.mono (fun g hg=>.inl (by rw[hg,y.out.tb])))
 have au:Hid (zbc tag i b W { c with anyID:=true,lastID:=id } W2):=zb (y.out.left HT.out (M2.out.mono (fun g hg=>.inl (by rw[hg,y.out.tb]))));have Y:W3.cell? ⟨b,238,none⟩=some (.slice H N I):=m3.cell (a:=⟨b,238,none⟩) (fun x=>ae b x rfl) L.out.2.1;have f3:∀p,W3.frozen? ⟨b,p,none⟩=false:=fun p=>zd (m3.obj (fun x=>ae b x rfl) ((y.out.mod0 (Mod.refl NoB W2).drew)).obj)
 have Z:Hid (BR W3 (.slice (some a) s.length cap) s):=zb (BR.mod M.out (((Mod.refl NoB W2).drew.mono (fun _ x=>x.elim)).trans m3) (ak.out));have T:=zb (And.intro Y f3);rw[ax.out,S.out]at happ;obtain⟨aA,aB,av⟩:∃wa wc,wv = .slice wa (N+1) wc:=by
  rcases ad.2 with⟨_,e⟩|⟨g,o,cc,cur,e,_⟩
  ·omega
  ·exact⟨_,_,e⟩
 subst av;have aa:Hid (∀ty,(Builtin.append_ #[54,54] ty #[.slice H N I,.slice (some ⟨W2.drew.heap.size,0,none⟩) 1 1]).run Tryz.prog (W2.drew.alloc (.cells #[.int .i64 7,.int .i64 0,.int .u64 0,.int .u64 0,.int .u64 0,.bool false,.int .u64 (id:Int),.int .u64 (dl:Int),.string (zq s),.slice none 0 0] 65)) = .ok (.slice aA (N+1) aB) W3):=happ;clear happ ad m3 aq ae Y f3;rcases d3 with rfl|⟨rfl,d3⟩
 ·go_enter Tryz.func124,Tryz.ntmps124;go_upto_region 10 with fail;all_goals first|(exfalso;omega)|skip
  try rw[al.out]
  obtain⟨w3,af,wf⟩:=L.out;clear c0 c2 c3 P ab ac fz aj;by_cases U:nw≤dl
  ·have d6:(nw:Int)≤dl:=by omega
   have A:Q=c.waits++[dgF id dl s]:=by
    rw[←C.out,if_pos (by rw[D.out];exact U)]
   subst A;clear U;go_upto_region 11 with fail;refine zl 14 (fun w'=>w'.cell? ⟨b,238,none⟩=some (.slice H N I)∧BR w' (.slice (some a) s.length cap) s) (⟨af,M.out⟩) ?_;refine GI 0 ?_;iterate 8
    refine GS rfl ?_ ?_ ?_;rotate_left
    ·(intro wx d;(try dsimp only at d);obtain⟨ah,ai⟩:=d;go_simp)<;>(try with_reducible rfl)
    try simp only[PS]
   refine zby (i:=8) (v:=.string (zq s)) rfl (by kernel_rfl) (fun _ _ _ h=>h) (Or.inl ⟨by rfl,?_⟩) ?_
   ·(intro wx d;(try dsimp only at d);have aC:=zbh d.2;go_simp)<;>(try with_reducible rfl)
   try simp only[PS]
   refine zby (i:=9) (v:=.agg #[.int .i64 7,.int .i64 0,.int .u64 0,.int .u64 0,.int .u64 0,.bool false,.int .u64 (id:Int),.int .u64 (dl:Int),.string (zq s),.slice none 0 0]) rfl (by kernel_rfl) (fun _ _ _ h=>h) (Or.inl ⟨by rfl,?_⟩) ?_
   ·(intro wx d;(try dsimp only at d);go_simp)<;>(try with_reducible rfl)
   try simp only[PS]
   refine zx 10 rfl (fun K z=>?_);go_simp;refine z.out _ _ ⟨((Mod.refl NoB W2.drew).alloc _).cell (a:=⟨b,238,none⟩) (fun x=>x) L.out.2.1,BR.mod M.out (((Mod.refl NoB W2).drew).alloc _) (fun _ _ _ _ _ x=>x)⟩ ?_;clear z K;try simp only[PS]
   refine zx 11 rfl (fun K z=>?_);refine zF rfl _ _ _ _ rfl _ _ _ rfl rfl aa.out ?_;refine z.out _ _ ⟨T.out.1,Z.out⟩ ?_;clear z K;try simp only[PS]
   refine GI 12 ?_;iterate 2
    refine GS rfl ?_ ?_ ?_;rotate_left
    ·(intro wx d;(try dsimp only at d);obtain⟨ah,ai⟩:=d;go_simp)<;>(try with_reducible rfl)
    try simp only[PS]
   refine zQ rfl (fun K z=>?_);obtain⟨aD,f3⟩:=T.out;go_simp;refine z.out _ _ ?_;clear z K;try simp only[PS]
   refine zo ?_;go_wp2_with fail;go_ret;exact⟨rfl,ar.out⟩
  ·have d6:¬(nw:Int)≤dl:=by omega
   have A:Q=c.waits:=by
    rw[←C.out,if_neg (by rw[D.out];exact U)]
   subst A;clear U;go_wp2_with fail;all_goals first|(exfalso;omega)|skip
   go_ret;exact⟨rfl,au.out⟩
 ·go_enter Tryz.func124,Tryz.ntmps124;go_upto_region 10 with fail;all_goals first|(exfalso;omega)|skip
  try rw[al.out]
  obtain⟨w3,af,wf⟩:=L.out;clear c0 c2 c3 P ab ac fz aj;by_cases U:nw≤dl
  ·have d6:(nw:Int)≤dl:=by omega
   have A:Q=c.waits++[dgF id dl s]:=by
    rw[←C.out,if_pos (by rw[D.out];exact U)]
   subst A;clear U;go_upto_region 11 with fail;refine zl 14 (fun w'=>w'.cell? ⟨b,238,none⟩=some (.slice H N I)∧BR w' (.slice (some a) s.length cap) s) (⟨af,M.out⟩) ?_;refine GI 0 ?_;iterate 8
    refine GS rfl ?_ ?_ ?_;rotate_left
    ·(intro wx d;(try dsimp only at d);obtain⟨ah,ai⟩:=d;go_simp)<;>(try with_reducible rfl)
    try simp only[PS]
   refine zby (i:=8) (v:=.string (zq s)) rfl (by kernel_rfl) (fun _ _ _ h=>h) (Or.inl ⟨by rfl,?_⟩) ?_
   ·(intro wx d;(try dsimp only at d);have aC:=zbh d.2;go_simp)<;>(try with_reducible rfl)
   try simp only[PS]
   refine zby (i:=9) (v:=.agg #[.int .i64 7,.int .i64 0,.int .u64 0,.int .u64 0,.int .u64 0,.bool false,.int .u64 (id:Int),.int .u64 (dl:Int),.string (zq s),.slice none 0 0]) rfl (by kernel_rfl) (fun _ _ _ h=>h) (Or.inl ⟨by rfl,?_⟩) ?_
   ·(intro wx d;(try dsimp only at d);go_simp)<;>(try with_reducible rfl)
   try simp only[PS]
   refine zx 10 rfl (fun K z=>?_);go_simp;refine z.out _ _ ⟨((Mod.refl NoB W2.drew).alloc _).cell (a:=⟨b,238,none⟩) (fun x=>x) L.out.2.1,BR.mod M.out (((Mod.refl NoB W2).drew).alloc _) (fun _ _ _ _ _ x=>x)⟩ ?_;clear z K;try simp only[PS]
   refine zx 11 rfl (fun K z=>?_);refine zF rfl _ _ _ _ rfl _ _ _ rfl rfl aa.out ?_;refine z.out _ _ ⟨T.out.1,Z.out⟩ ?_;clear z K;try simp only[PS]
   refine GI 12 ?_;iterate 2
    refine GS rfl ?_ ?_ ?_;rotate_left
    ·(intro wx d;(try dsimp only at d);obtain⟨ah,ai⟩:=d;go_simp)<;>(try with_reducible rfl)
    try simp only[PS]
   refine zQ rfl (fun K z=>?_);obtain⟨aD,f3⟩:=T.out;go_simp;refine z.out _ _ ?_;clear z K;try simp only[PS]
   refine zo ?_;go_wp2_with fail;go_ret;exact⟨rfl,ar.out⟩
  ·have d6:¬(nw:Int)≤dl:=by omega
   have A:Q=c.waits:=by
    rw[←C.out,if_neg (by rw[D.out];exact U)]
   subst A;clear U;go_wp2_with fail;all_goals first|(exfalso;omega)|skip
   go_ret;exact⟨rfl,au.out⟩
theorem zgt{tag:Nat→Nat×Nat}{i b:Nat}{c:CS}{V:CV}{W:World}(h:zg tag i b c V W)(E:Env i tag W)(id dl:Nat)(s:List UInt8)(hm:c.mtu≤65536)(q:s.length≤1099511627776)(r:c.waits.length≤1099511627776) :
  Calls Tryz.prog 72 #[.pointer (some ⟨b,0,none⟩),.int .u64 (id:Int),.int .u64 (dl:Int),.string (zq s)] W (zbd tag i b W (.int .i64 ((c.datagram id dl s).1:Int)) (c.datagram id dl s).2):=by
 obtain⟨cap,W1,t,a,m1,d,f⟩:=zdW W s (by omega);have J:=zgs (h.mod0 m1) (E.ok.mod m1) E.pos id dl ⟨W.heap.size,0,none⟩ cap s a (E.ok _ (Nat.le_refl _)) hm q r;have u:s.length≤cap∧cap≤maxLen:=by
  obtain⟨_,_,e,v,n,_⟩:=a;cases e;exact⟨v,n⟩
 obtain⟨hc1,w⟩:=u;unfold maxLen at w;have k:=zb E;have K:=zb m1;have HB:=zb f;have HS:=zb d;clear h E a m1 f d;go_enter Tryz.func72,Tryz.ntmps72;go_wp2_with fail;refine J.mono ?_;rintro _ W2 ⟨rfl,y⟩;clear J;obtain⟨tag',V',v,n,z⟩:=_root_.id y;have L:Env i tag' W2:=(k.out.mod0 K.out).left n z;have l:za6 W2 W.heap.size s.length:=HB.out.mod z (fun x=>by
  have:=k.out.ok W.heap.size (Nat.le_refl _);rw[this]at x;have:=k.out.pos;simp at x;omega)
 have M:=zbL (c.datagram id dl s).1 W2 L.err;have HL:=zb y;have A:=zb l;clear y v n z L l t;go_wp2_with fail;refine M.mono ?_;rintro _ W3 ⟨rfl,B⟩;have C:=zb (A.out.mod B (fun x=>x));have D:=zb (HL.out.then0 B);clear B M;go_wp2_with fail
 go_loopw [22] (fun F wr=>∃j:Nat,j≤s.length∧F = .int .i64 j∧za6 wr W.heap.size s.length∧Mod (fun g=>g=W.heap.size) W3 wr) (fun F _=>s.length-(intOf F).toNat)
 case atStart=>exact⟨0,Nat.zero_le _,rfl,C.out,Mod.refl _ _⟩
 case round =>
  obtain⟨j,hj,rfl,o,m⟩:=hrel;by_cases G:j<s.length
  ·obtain⟨⟨v0,e0⟩,z0⟩:=o.cell G;have I:=zb (o.set j (.int .u8 33));have HM:=zb (m.setCell (p:=⟨W.heap.size,j,none⟩) (.inl rfl) (.int .u8 33));clear o m;go_wp2_with fail;go_roundw
   case rel=>exact⟨j+1,by omega,by go_num,I.out,HM.out⟩
   case measure=>simp[intOf];omega
  ·have H:=zb (D.out.thenS k.out.ok k.out.pos K.out m (fun g hg=>by
    have hg:g=W.heap.size:=hg;have:=HS.out;omega))
   clear o m;go_wp2_with fail;go_ret;exact⟨rfl,H.out⟩
end Go.Proofs.YtddfdpbaiedcjaaGreatDoor
