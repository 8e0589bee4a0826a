/- A part of Carried's proof. Conditions: none. Part 6 of 13. -/
import Derived.Test.YtddfdpbaiedcjaaGreatDoorCar5
set_option maxRecDepth 100000
set_option maxHeartbeats 16000000
set_option linter.all false
namespace Go.Proofs.YtddfdpbaiedcjaaGreatDoor
open Go.RowKit Go.Proofs.Tryz
theorem zdJ(n lo hi:Int)(w:World):Calls prog 123 #[.int .i64 n,.int .i64 lo,.int .i64 hi] w fun e w'=>e = .returned (.bool (decide (lo≤n)&&decide (n≤hi)))∧w=w':=by
 by_cases h1:lo≤n
 ·by_cases h2:n≤hi
  ·have d1:decide (lo≤n)=true:=by simp[h1]
   have d2:decide (n≤hi)=true:=by simp[h2]
   go_enter func123,ntmps123;go_wp2_with fail;go_ret;exact⟨by simp[h1,h2],rfl⟩
  ·have d1:decide (lo≤n)=true:=by simp[h1]
   have d2:decide (n≤hi)=false:=by simp;omega
   go_enter func123,ntmps123;go_wp2_with fail;go_ret;exact⟨by simp[h1,h2],rfl⟩
 ·have d1:decide (lo≤n)=false:=by simp;omega
  go_enter func123,ntmps123;go_wp2_with fail;go_ret;exact⟨by simp[h1],rfl⟩
section
variable {P:Program} {ops:Array Oper} {Q:Exit→Act→World→Prop} {md:Region.Mode} {F:World→Prop} {k:Nat}
variable{L:Array Bool}{fuel i j:Nat}{w:World}
theorem GT_two{o e:Oper}{a:Act}(ho:ops[i]?=some o)(f:ops[j]?=some e)(m:Region.ready md ops L=[i,j])
  (h:∀K':Act→World→Prop,Shut (∀a w,F w→GT P md ops Q k F fuel (L.setIfInBounds i true) a w→K' a w)→if Region.wanted o (yielded ops a.tmps)=true then Oper.wp P o a w K' Q else K' (a.put o.dst undef) w)
  (h':∀K':Act→World→Prop,Shut (∀a w,F w→GT P md ops Q k F fuel (L.setIfInBounds j true) a w→K' a w)→if Region.wanted e (yielded ops a.tmps)=true then Oper.wp P e a w K' Q else K' (a.put e.dst undef) w) :
  GT P md ops Q k F (fuel+1) L a w:=fun c _=>by
 refine⟨fun h0=>(by rw[m]at h0;cases h0),fun q b=>?_⟩;have hc:=c.set b;rw[m]at b;simp only[List.mem_cons,List.not_mem_nil,or_false]at b;rcases b with b|b
 ·subst b;exact wpOp_step ho (fun K' g=>h K' (fun a w d l=>g a w ⟨.inr d,l hc (.inr d)⟩))
 ·subst b;exact wpOp_step f (fun K' g=>h' K' (fun a w d l=>g a w ⟨.inr d,l hc (.inr d)⟩))
end
theorem zdK(W:World)(o:Obj):(W.alloc o).heap[W.heap.size]?=some o:=by
 show(W.heap.push o)[W.heap.size]?=some o;simp
structure zeY(W1:World)(g m:Nat)(W3:World):Prop where
 ne:g≠m
 g1:W1.heap.size≤g
 m1:W1.heap.size≤m
 sz:W3.heap.size=W1.heap.size+2
 set:W3.heap[g]?=some (.cells #[.slice none 0 0,.int .u64 0,.int .i64 8] 116 (0,0))
 map:W3.heap[m]?=some (.map #[] 0)
 mod:Mod NoB W1 W3
theorem np_a(W1:World):zeY W1 W1.heap.size (W1.heap.size+1) ((W1.drew.alloc (.cells #[.slice none 0 0,.int .u64 0,.int .i64 (max 8 1)] 116)).alloc (.map #[] 0)):=by
 have e:(W1.drew.alloc (.cells #[.slice none 0 0,.int .u64 0,.int .i64 (max 8 1)] 116)).heap.size=W1.heap.size+1:=by simp
 refine⟨by omega,Nat.le_refl _,Nat.le_succ _,by simp,?_,?_,((Mod.refl NoB W1).drew.alloc _).alloc _⟩
 ·exact((Mod.refl NoB _).alloc _).obj (fun x=>x) (heap_alloc_new W1.drew _)
 ·rw[←e];exact zdK _ _
theorem np_b(W1:World):zeY W1 (W1.heap.size+1) W1.heap.size ((W1.drew.alloc (.map #[] 0)).alloc (.cells #[.slice none 0 0,.int .u64 0,.int .i64 (max 8 1)] 116)):=by
 have e:(W1.drew.alloc (.map #[] 0)).heap.size=W1.heap.size+1:=by simp
 refine⟨by omega,Nat.le_succ _,Nat.le_refl _,by simp,?_,?_,((Mod.refl NoB W1).drew.alloc _).alloc _⟩
 ·rw[←e];exact heap_alloc_new _ _
 ·exact((Mod.refl NoB _).alloc _).obj (fun x=>x) (zdK W1.drew _)
def WS.zero:WS:=⟨[],⟨[],0,0⟩,⟨[],0,0⟩,0,false,false,false,0,0,false,0⟩
def RS.zero:RS:=⟨[],⟨[],0,0⟩,0,0,false,false,0,0,0,0,false⟩
def WS.new(window:Nat):WS:=⟨[],⟨[],0,2048⟩,⟨[],0,2048⟩,0,false,false,false,0,0,false,window⟩
def RS.new(window:Nat):RS:=⟨[],⟨[],0,4097⟩,0,0,false,false,0,0,0,window,false⟩
def CS.laid(mtu window total k:Nat):CS :=
 {mtu:=mtu,window:=window,total:=total,now:=0,closed:=0,said:=false,next:=0,got:=⟨[],0,8⟩,answer:=false,ws:=fun j=>if j<k then WS.new window else WS.zero,rs:=fun j=>if j<k then RS.new window else RS.zero,credit:=total,grant:=total,anew:=false,flight:=[],largest:=0,waits:=[],lastID:=0,anyID:=false,seen:=[],most:=0,came:=[] }
def CS.new(mtu window total:Nat):CS:={ CS.laid mtu window total 0 with ws:=fun _=>WS.new window,rs:=fun _=>RS.new window }
def CV.new(g m:Nat):CV:=⟨g,.slice none 0 0,fun _=>.slice none 0 0,fun _=>.slice none 0 0,fun _=>.slice none 0 0,fun _=>.slice none 0 0,fun _=>.slice none 0 0,.slice none 0 0,[],.slice none 0 0,m,.slice none 0 0⟩
theorem zmW(mtu window total k g m:Nat)(hk:k<8):((((((zr (CS.laid mtu window total k) (CV.new g m)).set (9+15*k+14) (.int .u64 (window:Int))).set (9+15*k+3) (.int .i64 2048)).set (9+15*k+6) (.int .i64 2048)).set (129+13*k+11) (.int .u64 (window:Int))).set (129+13*k+3) (.int .i64 4097))=zr (CS.laid mtu window total (k+1)) (CV.new g m):=by
 have e1:=zat (CS.laid mtu window total k) { CS.laid mtu window total k with ws:=upd (CS.laid mtu window total k).ws k { WS.zero with credit:=window } } (CV.new g m) (CV.new g m) (k:=k) (j:=14) (.int .u64 (window:Int)) hk (by decide) (fun q _=>by
  by_cases a:q=k
  ·subst a;simp[upd,CS.laid];rfl
  ·simp[upd,CS.laid,a]) rfl rfl rfl
 rw[e1];have e2:=zat { CS.laid mtu window total k with ws:=upd (CS.laid mtu window total k).ws k { WS.zero with credit:=window } } { CS.laid mtu window total k with ws:=upd (CS.laid mtu window total k).ws k { WS.zero with credit:=window,sent:=⟨[],0,2048⟩ } } (CV.new g m) (CV.new g m) (k:=k) (j:=3) (.int .i64 2048) hk (by decide) (fun q _=>by
  by_cases a:q=k
  ·subst a;simp[upd];rfl
  ·simp[upd,a]) rfl rfl rfl
 rw[e2];have e3:=zat { CS.laid mtu window total k with ws:=upd (CS.laid mtu window total k).ws k { WS.zero with credit:=window,sent:=⟨[],0,2048⟩ } } { CS.laid mtu window total k with ws:=upd (CS.laid mtu window total k).ws k (WS.new window) } (CV.new g m) (CV.new g m) (k:=k) (j:=6) (.int .i64 2048) hk (by decide) (fun q _=>by
  by_cases a:q=k
  ·subst a;simp[upd];rfl
  ·simp[upd,a]) rfl rfl rfl
 rw[e3];have e4:=zbr { CS.laid mtu window total k with ws:=upd (CS.laid mtu window total k).ws k (WS.new window) } { CS.laid mtu window total k with ws:=upd (CS.laid mtu window total k).ws k (WS.new window),rs:=upd (CS.laid mtu window total k).rs k { RS.zero with grant:=window } } (CV.new g m) (CV.new g m) (k:=k) (j:=11) (.int .u64 (window:Int)) hk (by decide) (fun q _=>by
  by_cases a:q=k
  ·subst a;simp[upd,CS.laid];rfl
  ·simp[upd,CS.laid,a]) rfl rfl rfl
 rw[e4];have e5:=zbr { CS.laid mtu window total k with ws:=upd (CS.laid mtu window total k).ws k (WS.new window),rs:=upd (CS.laid mtu window total k).rs k { RS.zero with grant:=window } } (CS.laid mtu window total (k+1)) (CV.new g m) (CV.new g m) (k:=k) (j:=3) (.int .i64 4097) hk (by decide) (fun q _=>by
  by_cases a:q=k
  ·subst a;simp[upd,CS.laid];rfl
  ·by_cases h2:q<k
   ·simp[upd,CS.laid,a,h2,show q<k+1 by omega]
   ·simp[upd,CS.laid,a,h2,show ¬q<k+1 by omega]) rfl (by
  unfold zeO
  congr 1
  funext q;by_cases a:q=k
  ·subst a;simp[upd,CS.laid]
  ·by_cases h2:q<k
   ·simp[upd,CS.laid,a,h2,show q<k+1 by omega]
   ·simp[upd,CS.laid,a,h2,show ¬q<k+1 by omega]) rfl
 rw[e5]
theorem zk2(mtu window total g m:Nat):zr (CS.laid mtu window total 8) (CV.new g m)=zr (CS.new mtu window total) (CV.new g m):=rfl
theorem zmX(mtu window total g m:Nat):(((((((zeroCells127.setIfInBounds 0 (.int .i64 (mtu:Int))).setIfInBounds 1 (.int .i64 (window:Int))).setIfInBounds 2 (.int .i64 (total:Int))).setIfInBounds 7 (.pointer (some ⟨g,0,none⟩))).setIfInBounds 233 (.int .u64 (total:Int))).setIfInBounds 234 (.int .u64 (total:Int))).setIfInBounds 241 (.map (some m)))=(zr (CS.laid mtu window total 0) (CV.new g m)).toArray:=by rfl
def IsNew(tag:Nat→Nat×Nat)(i mtu window total:Nat)(w:World)(e:Ending)(W':World):Prop :=
 ∃b tag' V,e = .returned (.tuple #[.pointer (some ⟨b,0,none⟩),.nilIface])∧zg tag' i b (CS.new mtu window total) V W'∧Ext i tag tag' w W'∧Mod NoB w W'∧w.heap.size≤b
variable{w:World}
theorem new_at(tag:Nat→Nat×Nat)(i:Nat)(ht:zR tag w)(hi:0<i)(mtu window total:Nat)(W1 h n wr:World)(g m b:Nat)(m1:Mod NoB w W1)(hs1:W1.heap.size=w.heap.size+1)(c:zeY W1 g m h)(hb:h.heap.size=b)(k:Mod NoB h n)(l:Mod (fun q=>q=b) n wr)
  (o:wr.heap[b]?=some (.cells (zr (CS.laid mtu window total 8) (CV.new g m)).toArray 127 (0,0))) :
  IsNew tag i mtu window total w (.returned (.tuple #[.pointer (some ⟨b,0,none⟩),.nilIface])) wr:=by
 have hg:g<b:=by
  rw[←hb];exact(Array.getElem?_eq_some_iff.1 c.set).1
 have hmb:m<b:=by
  rw[←hb];exact(Array.getElem?_eq_some_iff.1 c.map).1
 have g1:=c.g1;have g2:=c.m1;have g3:=c.ne;have a:wr.heap[g]?=some (.cells #[.slice none 0 0,.int .u64 0,.int .i64 8] 116 (0,0)):=l.obj (show ¬g=b by omega) (k.obj (fun x=>x) c.set);have f:wr.heap[m]?=some (.map #[] 0):=l.obj (show ¬m=b by omega) (k.obj (fun x=>x) c.map);have hbr:b<wr.heap.size:=(Array.getElem?_eq_some_iff.1 o).1;have d:∀g,(Value.slice none 0 0).ownBlock=some g→False:=fun g hg=>by simp[Value.ownBlock]at hg
 have nb:∀g,Value.blk (Value.slice none 0 0)=some g→False:=fun g hg=>by simp[Value.blk]at hg
 have hT:∀q,q<w.heap.size→∀t:Nat×Nat,(if q<w.heap.size then tag q else t)=tag q:=fun q e t=>if_pos e
 refine⟨b,fun q=>if q<w.heap.size then tag q else if q=b then(i,1)else if q=g then(i,2)else if q=m then(i,7)else(0,0),CV.new g m,rfl,?_,⟨fun q e=>hT q e _,fun q e=>?_,fun q e=>?_⟩,(m1.trans (c.mod.trans k)).then l (fun q e=>.inr (by omega)),by omega⟩
 ·exact
   {obj:=by rw[o,zk2]
    tb:=by simp only[show ¬b<w.heap.size by omega,if_neg,not_false_eq_true,if_true]
    got:=⟨za a rfl,za a rfl,za a rfl,World.ownsRow_nil wr 0 _ 2,by simp[CS.new,CS.laid],fun j=>zf a⟩
    tg:=by simp only[CV.new,show ¬g<w.heap.size by omega,show ¬g=b by omega,if_neg,not_false_eq_true,if_true]
    tgv:=fun _ hg=>(d _ hg).elim
    wb:=fun _ _=>OB.nil wr
    ws:=fun _ _=>World.ownsRow_nil wr 0 _ 2
    wc:=fun _ _=>World.ownsRow_nil wr 0 _ 2
    rb:=fun _ _=>OB.nil wr
    rc:=fun _ _=>World.ownsRow_nil wr 0 _ 2
    twb:=fun _ _ _ hg=>(d _ hg).elim
    tws:=fun _ _ _ hg=>(d _ hg).elim
    twc:=fun _ _ _ hg=>(d _ hg).elim
    trb:=fun _ _ _ hg=>(d _ hg).elim
    trc:=fun _ _ _ hg=>(d _ hg).elim
    ft:=World.ownsRow_nil wr 0 _ 3
    fl:=rfl
    fs:=fun p hp=>by simp[CS.new,CS.laid]at hp
    tft:=fun _ hg=>(d _ hg).elim
    wt:=zez.nil wr _ _
    twt:=fun _ hg=>(nb _ hg).elim
    sn:=⟨.map [],⟨#[],0,f,⟨by simp,Go.MapKept.stamped_empty 0,by simp⟩,Nat.le_refl _,rfl⟩,rfl,fun _ _=>rfl⟩
    tsn:=by simp only[CV.new,show ¬m<w.heap.size by omega,show ¬m=b by omega,show ¬m=g by omega,if_neg,not_false_eq_true,if_true]
    cm:=World.ownsRow_nil wr 0 _ 2
    tcm:=fun _ hg=>(d _ hg).elim }
 ·simp only[show ¬q<w.heap.size by omega,if_neg,not_false_eq_true];split
  ·exact .inl rfl
  ·split
   ·exact .inl rfl
   ·split
    ·exact .inl rfl
    ·exact .inr rfl
 ·simp only[show ¬q<w.heap.size by have:=m1.size;omega,show ¬q=b by omega,show ¬q=g by omega,show ¬q=m by omega,if_neg,not_false_eq_true]
theorem new_ok(tag:Nat→Nat×Nat)(i:Nat)(mtu window total:Nat)(w:World)(Q:zR tag w)(hi:0<i)(h1:64≤mtu∧mtu≤400)(h2:16≤window∧window≤4096)(h3:16≤total∧total≤4096):Calls prog 68 #[.agg #[.int .i64 (mtu:Int),.int .i64 (window:Int),.int .i64 (total:Int)]] w (IsNew tag i mtu window total w):=by
 have R:(decide ((64:Int)≤mtu)&&decide ((mtu:Int)≤400))=true:=by simp;omega
 have S:(decide ((16:Int)≤window)&&decide ((window:Int)≤4096))=true:=by simp;omega
 have T:(decide ((16:Int)≤total)&&decide ((total:Int)≤4096))=true:=by simp;omega
 obtain⟨W1,l⟩:=nm (w.alloc (.cells #[.int .i64 (mtu:Int),.int .i64 (window:Int),.int .i64 (total:Int)] 45));have m1:Mod NoB w W1:=by rw[←l];exact(Mod.refl _ _).alloc _
 have o1:W1.heap[w.heap.size]?=some (.cells #[.int .i64 (mtu:Int),.int .i64 (window:Int),.int .i64 (total:Int)] 45 (0,0)):=by rw[←l];exact heap_alloc_new w _
 have y:W1.heap.size=w.heap.size+1:=by rw[←l];simp
 have U:Hid (W1.drew.cell? ⟨w.heap.size,0,none⟩=some (.int .i64 (mtu:Int))∧W1.drew.cell? ⟨w.heap.size,1,none⟩=some (.int .i64 (window:Int))∧W1.drew.cell? ⟨w.heap.size,2,none⟩=some (.int .i64 (total:Int))):=⟨za o1 rfl,za o1 rfl,za o1 rfl⟩;have f:Hid (∀X,Mod NoB W1 X→X.cell? ⟨w.heap.size,0,none⟩=some (.int .i64 (mtu:Int))∧X.cell? ⟨w.heap.size,1,none⟩=some (.int .i64 (window:Int))∧X.cell? ⟨w.heap.size,2,none⟩=some (.int .i64 (total:Int))):=zb (fun X m=>⟨za (m.obj (fun x=>x) o1) rfl,za (m.obj (fun x=>x) o1) rfl,za (m.obj (fun x=>x) o1) rfl⟩);have D:=zb l;have M1:=zb m1;have HO1:=zb o1;have z:=zb y;clear l m1 o1 y;go_enter func68,ntmps68;go_wp2_with (go_at_call 123;refine(zdJ _ _ _ _).mono ?_;(first|rw[R]|rw[S]|rw[T]);rintro _ _ ⟨rfl,rfl⟩);rw[D.out];refine zm 12 (fun w'=>w'.cell? ⟨w.heap.size,0,none⟩=some (.int .i64 (mtu:Int))∧w'.cell? ⟨w.heap.size,1,none⟩=some (.int .i64 (window:Int))∧w'.cell? ⟨w.heap.size,2,none⟩=some (.int .i64 (total:Int))) (U.out) ?_;refine GI 0 ?_;refine GS rfl ?_ ?_ ?_;rotate_left
 ·(intro E c;obtain⟨r,s,t⟩:=c;go_simp;try with_reducible rfl)
 try simp only[PS]
 refine GI 2 ?_;iterate 6
  refine GS rfl ?_ ?_ ?_;rotate_left
  ·(intro E c;obtain⟨r,s,t⟩:=c;go_simp;try with_reducible rfl)
  try simp only[PS]
 refine GT_two (i:=1) (j:=8) rfl rfl (by kernel_rfl) (fun K e=>?_) (fun K e=>?_);go_simp;refine(zeL 8 _ (by omega) (by omega)).mono ?_;rintro _ _ ⟨rfl,rfl⟩;refine e.out _ _ (f.out _ ((Mod.refl NoB W1).drew.alloc (.cells #[.slice none 0 0,.int .u64 0,.int .i64 (max 8 1)] 116))) ?_;clear e K;try simp only[PS]
 refine zz 8 rfl (fun K e=>?_);go_simp;refine e.out _ _ (f.out _ (((Mod.refl NoB W1).drew.alloc (.cells #[.slice none 0 0,.int .u64 0,.int .i64 (max 8 1)] 116)).alloc (.map #[] 0))) ?_;clear e K;try simp only[PS]
 change GT _ _ _ _ _ _ _ _ _ ((W1.drew.alloc (.cells #[.slice none 0 0,.int .u64 0,.int .i64 (max 8 1)] 116)).alloc (.map #[] 0));obtain⟨n,d⟩:=nm ((W1.drew.alloc (.cells #[.slice none 0 0,.int .u64 0,.int .i64 (max 8 1)] 116)).alloc (.map #[] 0));rw[d];have h:zeY W1 (W1.heap.size) (W1.heap.size+1) n:=by rw[←d];exact np_a W1
 clear d;try simp only[World.size_drew,World.size_alloc]
 try simp only[World.size_drew,World.size_alloc]at h
 generalize W1.heap.size+1=m at h ⊢;generalize W1.heap.size=g at h ⊢;rotate_left;go_simp;refine e.out _ _ (f.out _ ((Mod.refl NoB W1).drew.alloc (.map #[] 0))) ?_;clear e K;try simp only[PS]
 change GT _ _ _ _ _ _ _ _ _ (W1.drew.alloc (.map #[] 0));refine zz 1 rfl (fun K e=>?_);go_simp;refine(zeL 8 _ (by omega) (by omega)).mono ?_;rintro _ _ ⟨rfl,rfl⟩;refine e.out _ _ (f.out _ (((Mod.refl NoB W1).drew.alloc (.map #[] 0)).alloc (.cells #[.slice none 0 0,.int .u64 0,.int .i64 (max 8 1)] 116))) ?_;clear e K;try simp only[PS]
 change GT _ _ _ _ _ _ _ _ _ ((W1.drew.alloc (.map #[] 0)).alloc (.cells #[.slice none 0 0,.int .u64 0,.int .i64 (max 8 1)] 116));obtain⟨n,d⟩:=nm ((W1.drew.alloc (.map #[] 0)).alloc (.cells #[.slice none 0 0,.int .u64 0,.int .i64 (max 8 1)] 116));rw[d];have h:zeY W1 (W1.heap.size+1) (W1.heap.size) n:=by rw[←d];exact np_b W1
 clear d;try simp only[World.size_drew,World.size_alloc]
 try simp only[World.size_drew,World.size_alloc]at h
 generalize W1.heap.size+1=g at h ⊢;generalize W1.heap.size=m at h ⊢;all_goals
  refine GI 9 ?_;refine GS rfl ?_ ?_ ?_;rotate_left
  ·(intro E c;obtain⟨r,s,t⟩:=c;go_simp;try with_reducible rfl)
  try simp only[PS]
  refine zz 10 rfl (fun K e=>?_);go_simp;refine e.out _ _ (f.out _ (h.mod.alloc _)) ?_;clear e K;try simp only[PS]
  refine GI 11 ?_;refine GS rfl ?_ ?_ ?_;rotate_left
  ·(intro E c;obtain⟨r,s,t⟩:=c;go_simp;try with_reducible rfl)
  try simp only[PS]
  refine zo ?_;have A:IntKind.u64.wrap (total:Int)=(total:Int):=by rw[IntKind.wrap_u64];omega
  rw[A,zmX];obtain⟨B,o⟩:=nm (n.alloc (.cells (zr (CS.laid mtu window total 0) (CV.new g m)).toArray 127));rw[o];have F:B.heap[n.heap.size]?=some (.cells (zr (CS.laid mtu window total 0) (CV.new g m)).toArray 127 (0,0)):=by rw[←o];exact heap_alloc_new n _
  have G:Mod NoB n B:=by rw[←o];exact(Mod.refl _ _).alloc _
  have hb:W1.heap.size+2=n.heap.size:=h.sz.symm;have H:w.heap.size<n.heap.size:=by have:=z.out;omega
  obtain⟨b,u⟩:=nm n.heap.size;rw[u]at F H hb ⊢;have O4:=zb F;have M4:=zb (h.mod.trans G);have I:=zb G;have J:=zb h;have HB:=zb hb;have L:=zb u;have hww:IntKind.u64.wrap (window:Int)=(window:Int):=by rw[IntKind.wrap_u64];omega
  clear F G hb o h U u A;go_wp2_with fail
  go_loopw [38] (fun M wr=>∃k:Nat,k≤8∧M = .int .i64 k∧Hid (wr.heap[b]?=some (.cells (zr (CS.laid mtu window total k) (CV.new g m)).toArray 127 (0,0)))∧Mod (fun q=>q=b) B wr) (fun M _=>8-(intOf M).toNat)
  case atStart=>exact⟨0,by omega,rfl,O4,Mod.refl _ _⟩
  case round =>
   obtain⟨k,hk,rfl,C,N⟩:=hrel;have V:=zb N;obtain⟨x0,x1,x2⟩:=f.out wr (M4.out.then N (fun q hq=>.inr (by have:=HB.out;omega)));clear N;by_cases O:k<8
   ·have a:∀p,p<244→∃v,wr.cell? ⟨b,p,none⟩=some v:=fun p hp=>by
     have hl:(zr (CS.laid mtu window total k) (CV.new g m)).length=244:=by
      simp only[zr,List.length_append,zag,zaS];rfl
     exact⟨_,za C.out (by rw[List.getElem?_toArray];exact List.getElem?_eq_getElem (by omega))⟩
    obtain⟨v1,c1⟩:=a (9+k*15+14) (by omega);obtain⟨v2,c2⟩:=a (9+k*15+3) (by omega);obtain⟨v3,c3⟩:=a (9+k*15+6) (by omega);obtain⟨v4,c4⟩:=a (129+k*13+11) (by omega);obtain⟨v5,c5⟩:=a (129+k*13+3) (by omega);have hfz:∀p,wr.frozen? ⟨b,p,none⟩=false:=fun p=>zf C.out
    have hne:¬w.heap.size=b:=by omega
    have W:¬b=w.heap.size:=by omega
    clear a;clear R S T h1 h2 h3;go_wp2_with fail
    go_region
    go_wp2_with fail
    go_region
    go_wp2_with fail
    go_region
    go_wp2_with fail;go_roundw
    case rel =>
     refine⟨k+1,by omega,by go_num,?_,?_⟩
     ·show(((((wr.setCell ⟨b,9+k*15+14,none⟩ (.int .u64 (window:Int))).setCell ⟨b,9+k*15+3,none⟩ (.int .i64 2048)).setCell ⟨b,9+k*15+6,none⟩ (.int .i64 2048)).setCell ⟨b,129+k*13+11,none⟩ (.int .u64 (window:Int))).setCell ⟨b,129+k*13+3,none⟩ (.int .i64 4097)).heap[b]?=_;rw[zc (zc (zc (zc (zc C.out)))),←zmW mtu window total k g m O];simp only[List.setIfInBounds_toArray,Nat.mul_comm 15 k,Nat.mul_comm 13 k]
     ·exact(((((V.out.setCell (p:=⟨b,9+k*15+14,none⟩) (.inl rfl) _).setCell (p:=⟨b,9+k*15+3,none⟩) (.inl rfl) _).setCell (p:=⟨b,9+k*15+6,none⟩) (.inl rfl) _).setCell (p:=⟨b,129+k*13+11,none⟩) (.inl rfl) _).setCell (p:=⟨b,129+k*13+3,none⟩) (.inl rfl) _).drew.drew.drew
    case measure=>simp[intOf];omega
   ·have P:k=8:=by omega
    subst P;have HI:=zb (new_at tag i Q hi mtu window total W1 n B wr g m b M1.out z.out J.out L.out I.out V.out C.out);clear x0 x1 x2 Q;go_wp2_with fail;go_ret2;exact HI.out
def zhx(mtu window total:Int):Bool:=(decide (64≤mtu)&&decide (mtu≤400))&&(decide (16≤window)&&decide (window≤4096))&&(decide (16≤total)&&decide (total≤4096))
theorem zq8(mtu window total:Int)(w:World)(h:zhx mtu window total=false):Calls prog 68 #[.agg #[.int .i64 mtu,.int .i64 window,.int .i64 total]] w fun e w'=>e = .returned (.tuple #[.pointer none,.iface 57 (.int .i64 1)])∧Mod NoB w w':=by
 obtain⟨p1,c⟩:=nm ((decide (64≤mtu)&&decide (mtu≤400)));obtain⟨p2,d⟩:=nm ((decide (16≤window)&&decide (window≤4096)));obtain⟨p3,f⟩:=nm ((decide (16≤total)&&decide (total≤4096)));unfold zhx at h;rw[c,d,f]at h;obtain⟨W1,a⟩:=nm (w.alloc (.cells #[.int .i64 mtu,.int .i64 window,.int .i64 total] 45));have g:Hid (Mod NoB w W1):=by rw[←a];exact(Mod.refl NoB _).alloc _
 have b:=zb a;clear a;cases p1
 ·clear h;go_enter func68,ntmps68;go_wp2_with (go_at_call 123;refine(zdJ _ _ _ _).mono ?_;(first|rw[c]|rw[d]|rw[f]);rintro _ _ ⟨rfl,rfl⟩);rw[b.out];go_ret2;exact⟨rfl,g.out⟩
 ·cases p2
  ·clear h;go_enter func68,ntmps68;go_wp2_with (go_at_call 123;refine(zdJ _ _ _ _).mono ?_;(first|rw[c]|rw[d]|rw[f]);rintro _ _ ⟨rfl,rfl⟩);rw[b.out];go_ret2;exact⟨rfl,g.out⟩
  ·cases p3
   ·clear h;go_enter func68,ntmps68;go_wp2_with (go_at_call 123;refine(zdJ _ _ _ _).mono ?_;(first|rw[c]|rw[d]|rw[f]);rintro _ _ ⟨rfl,rfl⟩);rw[b.out];go_ret2;exact⟨rfl,g.out⟩
   ·simp at h
variable{W W' W0:World}{i:Nat}{tag tag':Nat→Nat×Nat}
theorem Ext.from0(ht:zR tag W)(m:Mod NoB W W0)(h:Ext i tag tag' W0 W'):Ext i tag tag' W W':=by
 refine⟨fun g hg=>h.old g (Nat.lt_of_lt_of_le hg m.size),fun g hg=>?_,h.out⟩;by_cases q:g<W0.heap.size
 ·exact .inr (by rw[h.old g q];exact ht g hg)
 ·exact h.new g (by omega)
def PNew(tag:Nat→Nat×Nat)(i:Nat)(mtu window total:Int)(w:World)(e:Ending)(W':World):Prop :=
 (zhx mtu window total=false∧e = .returned (.tuple #[.pointer none,.int .i64 1])∧Mod NoB w W') ∨
 ∃b tag' V,zhx mtu window total=true∧e = .returned (.tuple #[.pointer (some ⟨b,0,none⟩),.int .i64 0])∧zg tag' i b (CS.new mtu.toNat window.toNat total.toNat) V W'∧Ext i tag tag' w W'∧Mod NoB w W'∧w.heap.size≤b
theorem zpi(tag:Nat→Nat×Nat)(i:Nat)(mtu window total:Int)(w:World)(E:Env i tag w):Calls prog 36 #[.agg #[.int .i64 mtu,.int .i64 window,.int .i64 total]] w (PNew tag i mtu window total w):=by
 cases hc:zhx mtu window total
 ·obtain⟨j,d⟩:=nm (w.alloc (.cells #[.int .i64 mtu,.int .i64 window,.int .i64 total] 45));have h:Mod NoB w j:=by rw[←d];exact(Mod.refl NoB _).alloc _
  have k:=zq8 mtu window total j hc;have o:=zb E;have r:=zb hc;have f:=zb h;have g:=zb d;clear E hc h d;go_enter func36,ntmps36;go_wp2_with fail;rw[g.out];refine k.mono ?_;rintro _ W1 ⟨rfl,m1⟩;have kn:=zca 1 W1 ((o.out.mod0 f.out).mod0 m1).err;have M1:=zb (f.out.trans m1);clear m1 k;rw[zbZ (by decide)]at kn;go_wp2_with fail;refine kn.mono ?_;rintro _ W2 ⟨rfl,l⟩;have m:=zb (M1.out.trans l);clear l;go_wp2_with fail;go_ret2;exact .inl ⟨r.out,rfl,m.out⟩
 ·have s:=hc;unfold zhx at s;simp at s;obtain⟨a,rfl⟩:∃a:Nat,mtu=(a:Int):=⟨mtu.toNat,by omega⟩;obtain⟨b,rfl⟩:∃b:Nat,window=(b:Int):=⟨window.toNat,by omega⟩;obtain⟨c,rfl⟩:∃c:Nat,total=(c:Int):=⟨total.toNat,by omega⟩;obtain⟨j,d⟩:=nm (w.alloc (.cells #[.int .i64 (a:Int),.int .i64 (b:Int),.int .i64 (c:Int)] 45));have h:Mod NoB w j:=by rw[←d];exact(Mod.refl NoB _).alloc _
  have k:=new_ok tag i a b c j (E.ok.mod h) E.pos (by omega) (by omega) (by omega);have o:=zb E;have r:=zb hc;have f:=zb h;have g:=zb d;clear E hc s h d;go_enter func36,ntmps36;go_wp2_with fail;rw[g.out];refine k.mono ?_;rintro _ W1 ⟨bb,tag',V,rfl,p,e,n,q⟩;have kn:=zca 0 W1 ((o.out.mod0 f.out).mod0 n).err;have H:=zb (And.intro p (And.intro e (And.intro n q)));clear p e n q k;rw[zmr]at kn;go_wp2_with fail;refine kn.mono ?_;rintro _ W2 ⟨rfl,l⟩;have m:=zb l;clear l;go_wp2_with fail;go_ret2;obtain⟨p,e,n,q⟩:=H.out;have e:=e.from0 o.out.ok f.out;exact .inr ⟨bb,tag',V,r.out,rfl,p.mod0 m.out,⟨e.old,e.new,e.out.mod m.out⟩,f.out.trans (n.trans m.out),Nat.le_trans f.out.size q⟩
end Go.Proofs.YtddfdpbaiedcjaaGreatDoor
