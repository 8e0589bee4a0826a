/- A part of Live's proof. Conditions: none. Part 6 of 15. -/
import Derived.Test.YtddfdpbaiedcjaaGreatDoorLiv5
set_option maxRecDepth 100000
set_option maxHeartbeats 16000000
set_option linter.all false
namespace Go.Proofs.YtddfdpbaiedcjaaGreatDoor
section
open Go.RowKit Go.Proofs.Tryz
def PI(n lo hi:Int)(w:World):Calls prog 123 #[[n],[lo],[hi]] w λe w'=>e=.returned (.bool (decide (lo<=n)&&decide (n<=hi)))/\w=w':=by
 by_cases h1:lo<=n
 .by_cases h2:n<=hi
  .have d1:decide (lo<=n)=true:=by simp[h1]
   have d2:decide (n<=hi)=true:=by simp[h2]
   go_enter func123,ntmps123;go_wp2_with fail;go_ret;exact⟨by simp[h1,h2],rfl⟩
  have d1:decide (lo<=n)=true:=by simp[h1]
  have d2:decide (n<=hi)=false:=my;go_enter func123,ntmps123;go_wp2_with fail;go_ret;exact⟨by simp[h1,h2],rfl⟩
 have d1:decide (lo<=n)=false:=my;go_enter func123,ntmps123;go_wp2_with fail;go_ret;exact⟨by simp[h1],rfl⟩
section
variable {P:Program} {ops:Array Oper} {Q:Exit->Act->World->Prop} {md:Region.Mode} {F:World->Prop} {k:Nat}
variable{L:Array Bool}{fuel i j:Nat}{w:World}
def Lt{o e:Oper}{a:Act}(ho:ops[i]?=some o)(f:ops[j]?=some e)(m:Region.ready md ops L=[i,j])
  (h:∀K':Act->World->Prop,AE (∀a w,F w->GT P md ops Q k F fuel (L.setIfInBounds i true) a w->K' a w)->if Region.wanted o (yielded ops a.tmps)=true then Oper.wp P o a w K' Q else K' (a.put o.dst undef) w)
  (h':∀K':Act->World->Prop,AE (∀a w,F w->GT P md ops Q k F fuel (L.setIfInBounds j true) a w->K' a w)->if Region.wanted e (yielded ops a.tmps)=true then Oper.wp P e a w K' Q else K' (a.put e.dst undef) w) :
  GT P md ops Q k F (fuel+1) L a w:=λc _=>by
 refine⟨λh0=>(by rw[m]at h0;cases h0),λq b=>?_⟩;have hc:=c.set b;rw[m]at b;simp only[Av,Cf,or_false]at b;rcases b with b|b
 .subst b;exact wpOp_step ho (λK' g=>h K' (λa w d l=>g a w ⟨.inr d,l hc (.inr d)⟩))
 subst b;exact wpOp_step f (λK' g=>h' K' (λa w d l=>g a w ⟨.inr d,l hc (.inr d)⟩))
end
def WZ(W:World)(o:Obj):(W.alloc o).heap[W.heap.size]?=some o:=by
 show(W.heap.push o)[W.heap.size]?=some o;simp
structure NM(W1:World)(g m:Nat)(W3:World):Prop where
 ne:g≠m
 g1:W1.heap.size<=g
 m1:W1.heap.size<=m
 sz:W3.heap.size=W1.heap.size+2
 set:W3.heap[g]?=some (.cells #[.slice none 0 0,.int .u64 0,.int .i64 8] 116 (0,0))
 map:W3.heap[m]?=some (.map #[] 0)
 mod:DW DY W1 W3
def SK(W1:World):NM W1 W1.heap.size (W1.heap.size+1) ((W1.drew.alloc (.cells #[.slice none 0 0,.int .u64 0,.int .i64 (max 8 1)] 116)).alloc (.map #[] 0)):=by
 have e:(W1.drew.alloc (.cells #[.slice none 0 0,.int .u64 0,.int .i64 (max 8 1)] 116)).heap.size=W1.heap.size+1:=mv;refine⟨I,AF _,Bv _,mv,?_,?_,((DW.refl DY W1).drew.alloc _).alloc _⟩
 .exact((DW.refl DY _).alloc _).obj (λx=>x) (heap_alloc_new W1.drew _)
 rw[<-e];exact WZ _ _
def SJ(W1:World):NM W1 (W1.heap.size+1) W1.heap.size ((W1.drew.alloc (.map #[] 0)).alloc (.cells #[.slice none 0 0,.int .u64 0,.int .i64 (max 8 1)] 116)):=by
 have e:(W1.drew.alloc (.map #[] 0)).heap.size=W1.heap.size+1:=mv;refine⟨I,Bv _,AF _,mv,?_,?_,((DW.refl DY W1).drew.alloc _).alloc _⟩
 .rw[<-e];exact heap_alloc_new _ _
 exact((DW.refl DY _).alloc _).obj (λx=>x) (WZ W1.drew _)
def WS.zero:WS:=⟨[],⟨[],0,0⟩,⟨[],0,0⟩,0,false,false,false,0,0,false,0⟩
def RS.zero:RS:=⟨[],⟨[],0,0⟩,0,0,false,false,0,0,0,0,false⟩
def WS.new(window:Nat):WS:=⟨[],⟨[],0,2048⟩,⟨[],0,2048⟩,0,false,false,false,0,0,false,window⟩
def RS.new(window:Nat):RS:=⟨[],⟨[],0,4097⟩,0,0,false,false,0,0,0,window,false⟩
def CS.laid(mtu window total k:Nat):CS :=
 {mtu:=mtu,window:=window,total:=total,now:=0,closed:=0,said:=false,next:=0,got:=⟨[],0,8⟩,answer:=false,ws:=λj=>if j<k then WS.new window else WS.zero,rs:=λj=>if j<k then RS.new window else RS.zero,credit:=total,grant:=total,anew:=false,flight:=[],largest:=0,waits:=[],lastID:=0,anyID:=false,seen:=[],most:=0,came:=[] }
def CS.new(mtu window total:Nat):CS:={ CS.laid mtu window total 0 with ws:=λ_=>WS.new window,rs:=λ_=>RS.new window }
def CV.new(g m:Nat):CV:=⟨g,.slice none 0 0,λ_=>.slice none 0 0,λ_=>.slice none 0 0,λ_=>.slice none 0 0,λ_=>.slice none 0 0,λ_=>.slice none 0 0,.slice none 0 0,[],.slice none 0 0,m,.slice none 0 0⟩
def gR(mtu window total k g m:Nat)(hk:k<8):((((((zw (CS.laid mtu window total k) (CV.new g m)).set (9+15*k+14) (.int .u64 window)).set (9+15*k+3) (.int .i64 2048)).set (9+15*k+6) (.int .i64 2048)).set (129+13*k+11) (.int .u64 window)).set (129+13*k+3) (.int .i64 4097))=zw (CS.laid mtu window total (k+1)) (CV.new g m):=by
 have e1:=Ht (CS.laid mtu window total k) { CS.laid mtu window total k with ws:=zf (CS.laid mtu window total k).ws k { WS.zero with credit:=window } } (CV.new g m) (CV.new g m) (k:=k) (j:=14) (.int .u64 window) hk mu (λq _=>by
  by_cases a:q=k
  .subst a;simp[zf,CS.laid];rfl
  simp[zf,CS.laid,a]) rfl rfl rfl
 rw[e1];have e2:=Ht { CS.laid mtu window total k with ws:=zf (CS.laid mtu window total k).ws k { WS.zero with credit:=window } } { CS.laid mtu window total k with ws:=zf (CS.laid mtu window total k).ws k { WS.zero with credit:=window,sent:=⟨[],0,2048⟩ } } (CV.new g m) (CV.new g m) (k:=k) (j:=3) (.int .i64 2048) hk mu (λq _=>by
  by_cases a:q=k
  .subst a;simp[zf];rfl
  simp[zf,a]) rfl rfl rfl
 rw[e2];have e3:=Ht { CS.laid mtu window total k with ws:=zf (CS.laid mtu window total k).ws k { WS.zero with credit:=window,sent:=⟨[],0,2048⟩ } } { CS.laid mtu window total k with ws:=zf (CS.laid mtu window total k).ws k (WS.new window) } (CV.new g m) (CV.new g m) (k:=k) (j:=6) (.int .i64 2048) hk mu (λq _=>by
  by_cases a:q=k
  .subst a;simp[zf];rfl
  simp[zf,a]) rfl rfl rfl
 rw[e3];have e4:=Ky { CS.laid mtu window total k with ws:=zf (CS.laid mtu window total k).ws k (WS.new window) } { CS.laid mtu window total k with ws:=zf (CS.laid mtu window total k).ws k (WS.new window),rs:=zf (CS.laid mtu window total k).rs k { RS.zero with grant:=window } } (CV.new g m) (CV.new g m) (k:=k) (j:=11) (.int .u64 window) hk mu (λq _=>by
  by_cases a:q=k
  .subst a;simp[zf,CS.laid];rfl
  simp[zf,CS.laid,a]) rfl rfl rfl
 rw[e4];have e5:=Ky { CS.laid mtu window total k with ws:=zf (CS.laid mtu window total k).ws k (WS.new window),rs:=zf (CS.laid mtu window total k).rs k { RS.zero with grant:=window } } (CS.laid mtu window total (k+1)) (CV.new g m) (CV.new g m) (k:=k) (j:=3) (.int .i64 4097) hk mu (λq _=>by
  by_cases a:q=k
  .subst a;simp[zf,CS.laid];rfl
  .by_cases h2:q<k
   .simp[zf,CS.laid,a,h2,(I:q<k+1)]
   simp[zf,CS.laid,a,h2,(I:¬q<k+1)]) rfl (by
  unfold IL;congr 1;funext q;by_cases a:q=k
  .subst a;simp[zf,CS.laid]
  by_cases h2:q<k
  .simp[zf,CS.laid,a,h2,(I:q<k+1)]
  simp[zf,CS.laid,a,h2,(I:¬q<k+1)]) rfl
 rw[e5]
def jN(mtu window total g m:Nat):zw (CS.laid mtu window total 8) (CV.new g m)=zw (CS.new mtu window total) (CV.new g m):=rfl
def gQ(mtu window total g m:Nat):(((((((zeroCells127.setIfInBounds 0 (.int .i64 mtu)).setIfInBounds 1 (.int .i64 window)).setIfInBounds 2 (.int .i64 total)).setIfInBounds 7 (.pointer g)).setIfInBounds 233 (.int .u64 total)).setIfInBounds 234 (.int .u64 total)).setIfInBounds 241 (.map (some m)))=(zw (CS.laid mtu window total 0) (CV.new g m)).toArray:=by rfl
def KU(tag:nH)(i mtu window total:Nat)(w:World)(e:Ending)(W':World):Prop :=
 ∃b tag' V,e=.returned (.tuple #[.pointer (some ⟨b,0,none⟩),.nilIface])/\zi tag' i b (CS.new mtu window total) V W'/\Dn i tag tag' w W'/\DW DY w W'/\w.heap.size<=b
variable{w:World}
def LP(tag:nH)(i:Nat)(ht:Dv tag w)(hi:0<i)(mtu window total:Nat)(W1 h n wr:World)(g m b:Nat)(m1:DW DY w W1)(hs1:W1.heap.size=w.heap.size+1)(c:NM W1 g m h)(hb:h.heap.size=b)(k:DW DY h n)(l:DW (λq=>q=b) n wr)
  (o:wr.heap[b]?=some (.cells (zw (CS.laid mtu window total 8) (CV.new g m)).toArray 127 (0,0))) :
  KU tag i mtu window total w (.returned (.tuple #[(b,0),.nilIface])) wr:=by
 have hg:g<b:=by
  rw[<-hb];exact(AH.1 c.set).1
 have hmb:m<b:=by
  rw[<-hb];exact(AH.1 c.map).1
 have g1:=c.g1;have g2:=c.m1;have g3:=c.ne;have a:=l.obj (I:¬g=b) (k.obj (λx=>x) c.set);have f:=l.obj (I:¬m=b) (k.obj (λx=>x) c.map);have hbr:=(AH.1 o).1;have d:∀g,(Value.slice none 0 0).ownBlock=some g->False:=λg hg=>by simp[Value.ownBlock]at hg
 have nb:∀g,Value.blk (Value.slice none 0 0)=some g->False:=λg hg=>by simp[Value.blk]at hg
 have hT:∀q,q<w.heap.size->∀t:Nat×Nat,(if q<w.heap.size then tag q else t)=tag q:=λq e t=>AQ e
 refine⟨b,λq=>if q<w.heap.size then tag q else if q=b then(i,1)else if q=g then(i,2)else if q=m then(i,7)else(0,0),CV.new g m,rfl,?_,⟨λq e=>hT q e _,λq e=>?_,λq e=>?_⟩,(m1.trans (c.mod.trans k)).then l (λq e=>.inr I),I⟩
 .exact
   {obj:=by rw[o,jN]
    tb:=by simp only[(I:¬b<w.heap.size),AI,As,BC]
    got:=⟨za a rfl,za a rfl,za a rfl,World.ownsRow_nil wr 0 _ 2,by simp[CS.new,CS.laid],λj=>zg a⟩
    tg:=by simp only[CV.new,(I:¬g<w.heap.size),(I:¬g=b),AI,As,BC]
    tgv:=λ_ hg=>(d _ hg).elim
    wb:=λ_ _=>OB.nil wr
    ws:=λ_ _=>World.ownsRow_nil wr 0 _ 2
    wc:=λ_ _=>World.ownsRow_nil wr 0 _ 2
    rb:=λ_ _=>OB.nil wr
    rc:=λ_ _=>World.ownsRow_nil wr 0 _ 2
    twb:=λ_ _ _ hg=>(d _ hg).elim
    tws:=λ_ _ _ hg=>(d _ hg).elim
    twc:=λ_ _ _ hg=>(d _ hg).elim
    trb:=λ_ _ _ hg=>(d _ hg).elim
    trc:=λ_ _ _ hg=>(d _ hg).elim
    ft:=World.ownsRow_nil wr 0 _ 3
    fl:=rfl
    fs:=λp hp=>by simp[CS.new,CS.laid]at hp
    tft:=λ_ hg=>(d _ hg).elim
    wt:=Er.nil wr _ _
    twt:=λ_ hg=>(nb _ hg).elim
    sn:=⟨.map [],⟨#[],0,f,⟨mv,Go.MapKept.stamped_empty 0,mv⟩,AF _,rfl⟩,rfl,λ_ _=>rfl⟩
    tsn:=by simp only[CV.new,(I:¬m<w.heap.size),(I:¬m=b),(I:¬m=g),AI,As,BC]
    cm:=World.ownsRow_nil wr 0 _ 2
    tcm:=λ_ hg=>(d _ hg).elim }
 .simp only[(I:¬q<w.heap.size),AI,As];split
  .exact .inl rfl
  split
  .exact .inl rfl
  split
  .exact .inl rfl
  exact .inr rfl
 simp only[(nC m1.size:¬q<w.heap.size),(I:¬q=b),(I:¬q=g),(I:¬q=m),AI,As]
def LO(tag:nH)(i:Nat)(mtu window total:Nat)(w:World)(R:Dv tag w)(hi:0<i)(h1:64<=mtu/\mtu<=400)(h2:16<=window/\window<=4096)(h3:16<=total/\total<=4096):Calls prog 68 #[.agg #[.int .i64 mtu,.int .i64 window,.int .i64 total]] w (KU tag i mtu window total w):=by
 have S:(decide ((64:Int)<=mtu)&&decide ((mtu:Int)<=400))=true:=my;have T:(decide ((16:Int)<=window)&&decide ((window:Int)<=4096))=true:=my;have V:(decide ((16:Int)<=total)&&decide ((total:Int)<=4096))=true:=my;obtain⟨W1,l⟩:=nm (w.alloc (.cells #[[mtu],[window],[total]] 45));have m1:=AB l;have o1:=AD l;have y:=AC l;have W:AA (W1.drew.cell? w.heap.size=some (.int .i64 mtu)/\W1.drew.cell? (w.heap.size,1)=some (.int .i64 window)/\W1.drew.cell? (w.heap.size,2)=some (.int .i64 total)):=⟨za o1 rfl,za o1 rfl,za o1 rfl⟩;have f:AA (∀X,DW DY W1 X->X.cell? w.heap.size=some (.int .i64 mtu)/\X.cell? (w.heap.size,1)=some (.int .i64 window)/\X.cell? (w.heap.size,2)=some (.int .i64 total)):=zb (λX m=>⟨za (m.obj (λx=>x) o1) rfl,za (m.obj (λx=>x) o1) rfl,za (m.obj (λx=>x) o1) rfl⟩);have D:=zb l;have M1:=zb m1;have HO1:=zb o1;have z:=zb y;clear l m1 o1 y;go_enter func68,ntmps68;go_wp2_with (go_at_call 123;refine(PI _ _ _ _).mono ?_;(first|rw[S]|rw[T]|rw[V]);rintro _ _ ⟨rfl,rfl⟩);rw[D.z];refine zo 12 (λw'=>w'.cell? w.heap.size=some (.int .i64 mtu)/\w'.cell? (U w.heap.size 1)=some (.int .i64 window)/\w'.cell? (U w.heap.size 2)=some (.int .i64 total)) (W.z) ?_;refine GI 0 ?_;refine GV rfl ?_;try simp only[PS]
 refine GI 2 ?_;iterate 6
  refine GV rfl ?_;try simp only[PS]
 refine Lt (i:=1) (j:=8) rfl rfl mr (λK e=>?_) (λK e=>?_);go_simp;refine(WQ 8 _ I I).mono ?_;rintro _ _ ⟨rfl,rfl⟩;refine e.z _ _ (f.z _ ((DW.refl DY W1).drew.alloc (.cells #[.slice none 0 0,.int .u64 0,.int .i64 (max 8 1)] 116))) ?_;clear e K;try simp only[PS]
 refine zE 8 rfl (λK e=>?_);go_simp;refine e.z _ _ (f.z _ (((DW.refl DY W1).drew.alloc (.cells #[.slice none 0 0,.int .u64 0,.int .i64 (max 8 1)] 116)).alloc (.map #[] 0))) ?_;clear e K;try simp only[PS]
 change GT _ _ _ _ _ _ _ _ _ ((W1.drew.alloc (.cells #[.slice none 0 0,.int .u64 0,.int .i64 (max 8 1)] 116)).alloc (.map #[] 0));obtain⟨n,d⟩:=nm ((W1.drew.alloc (.cells #[.slice none 0 0,.int .u64 0,.int .i64 (max 8 1)] 116)).alloc (.map #[] 0));rw[d];have h:NM W1 (W1.heap.size) (W1.heap.size+1) n:=by rw[<-d];exact SK W1
 clear d;try simp only[World.size_drew,World.size_alloc]
 try simp only[World.size_drew,World.size_alloc]at h
 generalize W1.heap.size+1=m at h ⊢;generalize W1.heap.size=g at h ⊢;rotate_left;go_simp;refine e.z _ _ (f.z _ ((DW.refl DY W1).drew.alloc (.map #[] 0))) ?_;clear e K;try simp only[PS]
 change GT _ _ _ _ _ _ _ _ _ (W1.drew.alloc (.map #[] 0));refine zE 1 rfl (λK e=>?_);go_simp;refine(WQ 8 _ I I).mono ?_;rintro _ _ ⟨rfl,rfl⟩;refine e.z _ _ (f.z _ (((DW.refl DY W1).drew.alloc (.map #[] 0)).alloc (.cells #[.slice none 0 0,.int .u64 0,.int .i64 (max 8 1)] 116))) ?_;clear e K;try simp only[PS]
 change GT _ _ _ _ _ _ _ _ _ ((W1.drew.alloc (.map #[] 0)).alloc (.cells #[.slice none 0 0,.int .u64 0,.int .i64 (max 8 1)] 116));obtain⟨n,d⟩:=nm ((W1.drew.alloc (.map #[] 0)).alloc (.cells #[.slice none 0 0,.int .u64 0,.int .i64 (max 8 1)] 116));rw[d];have h:NM W1 (W1.heap.size+1) (W1.heap.size) n:=by rw[<-d];exact SJ W1
 clear d;try simp only[World.size_drew,World.size_alloc]
 try simp only[World.size_drew,World.size_alloc]at h
 generalize W1.heap.size+1=g at h ⊢;generalize W1.heap.size=m at h ⊢;all_goals
  refine GI 9 ?_;refine GV rfl ?_;try simp only[PS]
  refine zE 10 rfl (λK e=>?_);go_simp;refine e.z _ _ (f.z _ (h.mod.alloc _)) ?_;clear e K;try simp only[PS]
  refine GI 11 ?_;refine GV rfl ?_;try simp only[PS]
  refine zr ?_;have A:IntKind.u64.wrap (total:Int)=(total:Int):=by rw[IntKind.wrap_u64];omega
  rw[A,gQ];obtain⟨B,o⟩:=nm (n.alloc (.cells (zw (CS.laid mtu window total 0) (CV.new g m)).toArray 127));rw[o];have F:=AD o;have G:=AB o;have hb:=h.sz.symm;have H:w.heap.size<n.heap.size:=nC z.z;obtain⟨b,u⟩:=nm n.heap.size;rw[u]at F H hb ⊢;have O4:=zb F;have M4:=zb (h.mod.trans G);have J:=zb G;have L:=zb h;have HB:=zb hb;have M:=zb u;have hww:IntKind.u64.wrap (window:Int)=(window:Int):=by rw[IntKind.wrap_u64];omega
  clear F G hb o h W u A;go_wp2_with fail
  go_loopw [38] (λN wr=>∃k:Nat,k<=8/\N=.int .i64 k/\AA (wr.heap[b]?=some (.cells (zw (CS.laid mtu window total k) (CV.new g m)).toArray 127 (0,0)))/\DW (λq=>q=b) B wr) (λN _=>8-(intOf N).toNat)
  case atStart=>exact⟨0,I,rfl,O4,DW.refl _ _⟩
  case round =>
   obtain⟨k,hk,rfl,C,O⟩:=hrel;have Y:=zb O;obtain⟨x0,x1,x2⟩:=f.z wr (M4.z.then O (λq hq=>.inr (nC HB.z)));clear O;by_cases P:k<8
   .have a:∀p,p<244->∃v,wr.cell? ⟨b,p,none⟩=some v:=λp hp=>by
     have hl:(zw (CS.laid mtu window total k) (CV.new g m)).length=244:=by
      simp only[zw,AG,IR,K4];rfl
     exact⟨_,za C.z (by rw[BY];exact AK I)⟩
    obtain⟨v1,c1⟩:=a (9+k*15+14) I;obtain⟨v2,c2⟩:=a (9+k*15+3) I;obtain⟨v3,c3⟩:=a (9+k*15+6) I;obtain⟨v4,c4⟩:=a (129+k*13+11) I;obtain⟨v5,c5⟩:=a (129+k*13+3) I;have hfz:∀p,wr.frozen? ⟨b,p,none⟩=false:=λp=>zg C.z
    have hne:¬w.heap.size=b:=I;have Z:¬b=w.heap.size:=I;clear a;clear S T V h1 h2 h3;go_wp2_with fail
    go_region
    go_wp2_with fail
    go_region
    go_wp2_with fail
    go_region
    go_wp2_with fail;go_roundw
    case rel =>
     refine⟨k+1,I,by go_num,?_,?_⟩
     .show(((((wr.setCell (b,9+k*15+14) (.int .u64 window)).setCell (b,9+k*15+3) (.int .i64 2048)).setCell (b,9+k*15+6) (.int .i64 2048)).setCell (b,129+k*13+11) (.int .u64 window)).setCell (b,129+k*13+3) (.int .i64 4097)).heap[b]?=_;rw[zc (zc (zc (zc (zc C.z)))),<-gR mtu window total k g m P];simp only[Aq,AL 15 k,AL 13 k]
     exact(((((Y.z.setCell (p:=(b,9+k*15+14)) (.inl rfl) _).setCell (p:=(b,9+k*15+3)) (.inl rfl) _).setCell (p:=(b,9+k*15+6)) (.inl rfl) _).setCell (p:=(b,129+k*13+11)) (.inl rfl) _).setCell (p:=(b,129+k*13+3)) (.inl rfl) _).drew.drew.drew
    simp[intOf];omega
   have Q:k=8:=I;subst Q;have HI:=zb (LP tag i R hi mtu window total W1 n B wr g m b M1.z z.z L.z M.z J.z Y.z C.z);clear x0 x1 x2 R;go_wp2_with fail;go_ret2;exact HI.z
def JS(mtu window total:Int):Bool:=(decide (64<=mtu)&&decide (mtu<=400))&&(decide (16<=window)&&decide (window<=4096))&&(decide (16<=total)&&decide (total<=4096))
def XJ(mtu window total:Int)(w:World)(h:JS mtu window total=false):Calls prog 68 #[.agg #[.int .i64 mtu,.int .i64 window,.int .i64 total]] w λe w'=>e=.returned (.tuple #[.pointer none,.iface 57 (.int .i64 1)])/\DW DY w w':=by
 obtain⟨p1,c⟩:=nm ((decide (64<=mtu)&&decide (mtu<=400)));obtain⟨p2,d⟩:=nm ((decide (16<=window)&&decide (window<=4096)));obtain⟨p3,f⟩:=nm ((decide (16<=total)&&decide (total<=4096)));unfold JS at h;rw[c,d,f]at h;obtain⟨W1,a⟩:=nm (w.alloc (.cells #[[mtu],[window],[total]] 45));have g:AA (DW DY w W1):=by rw[<-a];exact(DW.refl DY _).alloc _
 have b:=zb a;clear a;cases p1
 .clear h;go_enter func68,ntmps68;go_wp2_with (go_at_call 123;refine(PI _ _ _ _).mono ?_;(first|rw[c]|rw[d]|rw[f]);rintro _ _ ⟨rfl,rfl⟩);rw[b.z];go_ret2;exact⟨rfl,g.z⟩
 cases p2
 .clear h;go_enter func68,ntmps68;go_wp2_with (go_at_call 123;refine(PI _ _ _ _).mono ?_;(first|rw[c]|rw[d]|rw[f]);rintro _ _ ⟨rfl,rfl⟩);rw[b.z];go_ret2;exact⟨rfl,g.z⟩
 cases p3
 .clear h;go_enter func68,ntmps68;go_wp2_with (go_at_call 123;refine(PI _ _ _ _).mono ?_;(first|rw[c]|rw[d]|rw[f]);rintro _ _ ⟨rfl,rfl⟩);rw[b.z];go_ret2;exact⟨rfl,g.z⟩
 simp at h
variable{W W' W0:World}{i:Nat}{tag tag':nH}
def Dn.from0(ht:Dv tag W)(m:DW DY W W0)(h:Dn i tag tag' W0 W'):Dn i tag tag' W W':=by
 refine⟨λg hg=>h.old g (A7 hg m.size),λg hg=>?_,h.z⟩;by_cases q:g<W0.heap.size
 .exact .inr (by rw[h.old g q];exact ht g hg)
 exact h.new g I
def SV(tag:nH)(i:Nat)(mtu window total:Int)(w:World)(e:Ending)(W':World):Prop :=
 (JS mtu window total=false/\e=.returned (.tuple #[.pointer none,.int .i64 1])/\DW DY w W') \/
 ∃b tag' V,JS mtu window total=true/\e=.returned (.tuple #[.pointer (some ⟨b,0,none⟩),.int .i64 0])/\zi tag' i b (CS.new mtu.toNat window.toNat total.toNat) V W'/\Dn i tag tag' w W'/\DW DY w W'/\w.heap.size<=b
def YS(tag:nH)(i:Nat)(mtu window total:Int)(w:World)(E:EC i tag w):Calls prog 36 #[.agg #[.int .i64 mtu,.int .i64 window,.int .i64 total]] w (SV tag i mtu window total w):=by
 cases hc:JS mtu window total
 .obtain⟨h,d⟩:=nm (w.alloc (.cells #[[mtu],[window],[total]] 45));have m0:DW DY w h:=by rw[<-d];exact(DW.refl DY _).alloc _
  have j:=XJ mtu window total h hc;have n:=zb E;have q:=zb hc;have f:=zb m0;have g:=zb d;clear E hc m0 d;go_enter func36,ntmps36;go_wp2_with fail;rw[g.z];refine j.mono ?_;rintro _ W1 ⟨rfl,m1⟩;have kn:=Nf 1 W1 ((n.z.mod0 f.z).mod0 m1).err;have M1:=zb (f.z.trans m1);clear m1 j;rw[Jf mu]at kn;go_wp2_with fail;refine kn.mono ?_;rintro _ W2 ⟨rfl,k⟩;have l:=zb (M1.z.trans k);clear k;go_wp2_with fail;go_ret2;exact .inl ⟨q.z,rfl,l.z⟩
 have r:=hc;unfold JS at r;simp at r;obtain⟨a,rfl⟩:∃a:Nat,mtu=(a:Int):=⟨mtu.toNat,I⟩;obtain⟨b,rfl⟩:∃b:Nat,window=(b:Int):=⟨window.toNat,I⟩;obtain⟨c,rfl⟩:∃c:Nat,total=(c:Int):=⟨total.toNat,I⟩;obtain⟨h,d⟩:=nm (w.alloc (.cells #[[a],[b],[c]] 45));have m0:DW DY w h:=by rw[<-d];exact(DW.refl DY _).alloc _
 have j:=LO tag i a b c h (E.ok.mod m0) E.pos I I I;have n:=zb E;have q:=zb hc;have f:=zb m0;have g:=zb d;clear E hc r m0 d;go_enter func36,ntmps36;go_wp2_with fail;rw[g.z];refine j.mono ?_;rintro _ W1 ⟨bb,tag',V,rfl,o,e,m,p⟩;have kn:=Nf 0 W1 ((n.z.mod0 f.z).mod0 m).err;have H:=zb (And.intro o (And.intro e (And.intro m p)));clear o e m p j;rw[fw]at kn;go_wp2_with fail;refine kn.mono ?_;rintro _ W2 ⟨rfl,k⟩;have l:=zb k;clear k;go_wp2_with fail;go_ret2;obtain⟨o,e,m,p⟩:=H.z;have e:=e.from0 n.z.ok f.z;exact .inr ⟨bb,tag',V,q.z,rfl,o.mod0 l.z,⟨e.old,e.new,e.z.mod l.z⟩,f.z.trans (m.trans l.z),AJ f.z.size p⟩
end
end Go.Proofs.YtddfdpbaiedcjaaGreatDoor
