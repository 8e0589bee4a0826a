/- A part of Once's proof. Conditions: none. Part 4 of 15. -/
import Derived.Lib.ConvBytes
import Derived.Test.YtddfdpbaiedcjaaGreatDoorOnc3
import Derived.LaidHandle
import Derived.Lib.LaidTab
import Derived.Deep.DeepHandedRow
import Derived.ProofKit
import Derived.OpenShut
set_option maxRecDepth 100000
set_option maxHeartbeats 16000000
set_option linter.all false
namespace Go.Proofs.YtddfdpbaiedcjaaGreatDoor
section
open Go.RowKit Go.Proofs.Tryz
def dT(w:World)(l:List UInt8)(hl:l.length<=4611686018427387904):∃cap w',(convert 9 60 (.string (zq l))).run prog w = .ok (.slice (some ⟨w.heap.size,0,none⟩) l.length cap) w'/\BR w' (.slice (some ⟨w.heap.size,0,none⟩) l.length cap) l/\DW DX w w'/\w'.heap.size=w.heap.size+1:=by
 have h:=Lib.run_convert_string_bytes (P:=prog) w 9 60 5 (zq l) (u:=.string) underlying9 underlying60 underlying5;have a:=grownCap_ge w (zq l).size 0 5;have b:grownCap w (zq l).size 0 5<=maxLen:=grownCap_le_maxLen w _ 0 _ (by rw[zE];unfold maxLen;omega);rw[zE]at h a b;refine⟨_,_,h,⟨_,_,rfl,a,b,λi c hc=>⟨_,_,rfl,?_⟩⟩,⟨?_,?_,?_,?_,?_⟩,Lib.bytesWorld_size _ _ _⟩
 ·have hi:=(AM.1 hc).1;have:=Lib.bytesWorld_cell w 5 (zq l) i (by rw[zE];exact hi);rw[Au,this];simp only[zq,List.getD,hc,Option.getD_some]
 ·simp[Lib.bytesWorld,World.freeze,World.alloc,World.drew,-World.alloc_eq,-World.drew_eq]
 ·simp[Lib.bytesWorld,World.freeze,World.alloc,World.drew,-World.alloc_eq,-World.drew_eq]
 ·simp[Lib.bytesWorld,World.freeze,World.alloc,World.drew,-World.alloc_eq,-World.drew_eq]
 ·rw[Lib.bytesWorld_size];omega
 ·intro k hk _;exact Lib.bytesWorld_at_old w _ _ k hk
def DZ(c:Int)(n:Nat):Nat:=((if c<0 then -(c+1)else c) % (n:Int)).toNat
def zQ(c:Int)(n:Nat)(h:0<n):DZ c n<n:=by
 unfold DZ;have h1:=Int.emod_lt_of_pos (if c<0 then -(c+1)else c) (show(0:Int)<n by omega);have h2:=Int.emod_nonneg (if c<0 then -(c+1)else c) (show(n:Int)≠0 by omega);omega
def Gk(c:Int)(n:Nat)(w:World)(h1 : -9223372036854775808<=c)(h2:c<=9223372036854775807)(hn:0<n)(hn2:n<=9223372036854775807):Calls prog 24 #[.int .i64 c,.int .i64 n] w λe w'=>e = .returned (.int .i64 (DZ c n:Int))/\w=w':=by
 have a:∀x:Int,(if c<0 then -(c+1)else c)=x->0<=x->x % (n:Int)=(DZ c n:Int):=by
  intro x hx _;unfold DZ;rw[hx];have:=Int.emod_nonneg x (show(n:Int)≠0 by omega);omega
 have hn':(1:Int)<=n:=by omega
 by_cases hc:c<0
 ·have H:=zb (a (-(c+1)) (by rw[AN hc]) (by omega));have E:AA (-((c+1).tmod (n:Int))=(-(c+1)) % (n:Int)):=by
   show _=_;rw[<-Int.neg_tmod,Int.tmod_eq_emod_of_nonneg (by omega)]
  clear a;go_enter func24,ntmps24;go_wp2_with fail;go_ret;exact⟨by rw[<-H.z,<-E.z];rfl,rfl⟩
 ·have H:=zb (a c (by rw[AH hc]) (by omega));clear a;go_enter func24,ntmps24;go_wp2_with fail;go_ret;exact⟨by rw[<-H.z];rfl,rfl⟩
end
section
open Go
open Go.Proofs.Tryz
variable{P:Program}{Q:Exit->Act->World->Prop}
def fH{o:Oper}{a:Act}{K:Act->World->Prop}{r:Result Next}(l n:Nat)(h:o.upon P a K Q r):o.uponIn (Fence.wide.inRound l) n P a K Q r:=by
 unfold Oper.upon at h;unfold Oper.uponIn;split at h<;>simp only[]at h ⊢
 ·exact h
 ·exact h
 ·exact h
 ·exact⟨λx=>by simp[Fence.wide]at x,callsIn_wide.2 h⟩
 ·refine⟨λx=>by simp[Fence.wide]at x,λc cs _=>?_⟩;obtain⟨v,w',hr,s⟩:=h c cs;exact⟨v,w',hr,stepsIn_wide.2 s⟩
 ·exact h
variable{ops:Array Oper}
theorem Tt{md:Region.Mode}(l n:Nat)(hd:∀(i:Nat) o,ops[i]?=some o->∀c,o.op≠.defer c)(b:¬LetsOut Q):∀(fuel:Nat) (L:Array Bool) (a:Act) (w:World),wpAny P md ops Q fuel L a w->wpAnyIn (Fence.wide.inRound l) n P md ops Q fuel L a w
 | 0,_,_,_,h=>h
 | fuel+1,L,a,w,h=>by
  refine⟨h.1,λi hi=>?_⟩;have h1:=h.2 i hi;have hk:∀a w,wpAny P md ops Q fuel (L.setIfInBounds i true) a w->wpAnyIn (Fence.wide.inRound l) n P md ops Q fuel (L.setIfInBounds i true) a w:=λa w x=>Tt l n hd b fuel _ a w x
  refine wpOpIn_mono hk ?_;unfold wpOp at h1;unfold wpOpIn;cases ho:ops[i]? with
  | none =>
   rw[ho]at h1;exact h1
  | some o =>
   rw[ho]at h1;simp only[]at h1 ⊢;by_cases d:Region.wanted o (yielded ops a.tmps)=true
   ·simp only[d,A5]at h1 ⊢;rcases h1 with h1|⟨_,h1⟩
    ·refine⟨λ_ _=>trivial,?_⟩;rw[show(Fence.wide.inRound l).round=some l from rfl,Oper.semAt_some l _ _ (hd i o ho)];exact fH l n h1
    ·exact absurd h1 b
   ·simp only[d,BQ,BY]at h1 ⊢;exact⟨λ_ _=>trivial,h1⟩
def Pd(ops:Array Oper):Bool:=ops.all λo=>match o.op with|.defer _=>false|_=>true
def iV(h:Pd ops=true)(i:Nat)(o:Oper)(a:ops[i]?=some o):∀c,o.op≠.defer c:=by
 intro c e;have:=(Array.all_eq_true.1 h) i (AI.1 a).1;rw[(AI.1 a).2,e]at this;cases this
variable{w:World}
def iU{id:Nat}{a:Act}{l n:Nat}(hm:P.follows .mixedOrders=true)(hd:Pd ops=true)(hq:¬LetsOut Q)
  (h:wpAny P .any ops Q ops.size (Array.replicate ops.size false) a w.drew):(Code.region id ops true).wpIn (Fence.wide.inRound l) n P Q a w :=
 wpIn_region_any hm (Tt l n (iV hd) hq _ _ _ _ h)
def XA{id:Nat}{a:Act}{l n:Nat}(k:Nat)(F:World->Prop)(hm:P.follows .mixedOrders=true)(hd:Pd ops=true)(hs:Region.noSelect ops=true)(hF:F w.drew)
  (h:GT P .any ops (λe a w=>e = .normal/\Q .normal a w) k F ops.size (Array.replicate ops.size false) a w.drew):(Code.region id ops true).wpIn (Fence.wide.inRound l) n P Q a w:=by
 have hx:(Code.region id ops true).wpIn (Fence.wide.inRound l) n P (λe a w=>e = .normal/\Q .normal a w) a w:=by
  refine iU hm hd ?_ (QH _ _ _ _ (h ⟨hs,by simp,λj oj _ hl=>?_⟩ (.inr hF)))
  ·rintro⟨_,_,x,_⟩;cases x
  ·have:=getD_replicate_false ops.size j;rw[this]at hl;cases hl
 exact Go.wpIn_mono hx (λe a w k=>by rw[k.1];exact k.2)
end
section
open Go.RowKit Go.Proofs.Tryz
theorem U9(w:World)(v:Value)(l:List UInt8)(h:BR w v l)(hl:l.length<=70368744177664):∃v' w',(∀ty,(Builtin.append_ #[60,60] ty #[.slice none 0 0,v]).run prog w = .ok v' w')/\OB w' v' l/\DW DX w w'/\(∀g,v'.ownBlock=some g->w.heap.size<=g):=by
 obtain⟨i,b,q,f,m⟩:=info_parts Nf;obtain⟨a,cap,rfl,h1,h2,h3⟩:=id h;by_cases h0:l.length=0
 ·have n:=Ah h0;subst n;cases a with
  | none =>
   refine⟨.slice none 0 0,w,λty=>?_,OB.nil w,DW.refl _ _,λg hg=>by cases hg⟩;simp[Builtin.append_,run_underlying underlying60,sizeOf,typeInfo,b,Builtin.lenOf,Builtin.firstCells,loadCells,loadCellsFrom]
  | some a =>
   obtain⟨v',w',p,k2,k3,k4⟩:=zJ (P:=prog) w 60 5 i (.int .u8 0) 1 1 underlying60 b q f m rfl (by decide) (.slice none 0 0) 0 [] (World.ownsRow_nil w 0 _ 1)
    a 0 cap [] rfl (by intro j u d;cases d) (by intro u d;cases d) (by unfold maxLen;omega) (by omega)
   exact⟨v',w',p,k2,(DW.refl _ w).grown k3 (λk hk=>by cases hk),λg hg=>(k4 g hg).elim (λx=>by cases x) id⟩
 ·obtain⟨g,o,rfl,_⟩:=h3 0 l[0] (AJ (by omega));obtain⟨v',w',p,k2,k3,k4⟩:=zJ (P:=prog) w 60 5 i (.int .u8 0) 1 1 underlying60 b q f m rfl (by decide) (.slice none 0 0) 0 [] (World.ownsRow_nil w 0 _ 1)
   ⟨g,o,none⟩ l.length cap (zR l) (by rw[Ig,DN]) (by
    intro j u d;simp only[zR,BW,CM]at d;obtain⟨c,hc,rfl⟩:=d;obtain⟨g',o',e,hh⟩:=h3 j c hc;cases e;rw[zS];exact hh) (QI l) (by unfold maxLen;omega) (by omega)
  refine⟨v',w',p,?_,(DW.refl _ w).grown k3 (λk hk=>by cases hk),λg hg=>(k4 g hg).elim (λx=>by cases x) id⟩;rw[Au,Am]at k2;exact k2
end
section
open Go.ChangeShapes Go.WideShapes Go.ChangeAt Go.RowKit
open Go.Proofs.Tryz
def OV {H : Type} : List (String × DataW H) := [("errors.errorType", Rows.laid_errors_errorType), ("mediawire/wire.table", Rows.laid_mediawire_wire_table)]
def QV : prog.globalNamed "errors.errorType" = some 0 := by kernel_rfl
def Mp : prog.globalNamed "mediawire/wire.table" = some 1 := by kernel_rfl
def MR:(prog.globals[1]?).map (·.type)=some 281:=by kernel_rfl
def X8:prog.cellsOf 281=16:=by kernel_rfl
def X7:prog.cellsOf 189=1:=by kernel_rfl
def X6 : (prog.cutTypes.find? (·.1 == "internal/reflectlite.rtype")).map (·.2) = some 286 := by kernel_rfl
def X2:((List.range prog.types.size).filter λt=>prog.rowNamed t [101,114,114,111,114])=[98]:=by kernel_rfl
def Y7:typeHandle prog 98 = .pointer (some ⟨2,98,none⟩):=by kernel_rfl
def Lg:List Int:=[0,498536548,997073096,651767980,1994146192,1802195444,1303535960,1342533948,3988292384,4027552580,3604390888,3412177804,2607071920,2262029012,2685067896,3183342108]
variable{W:World}
def tab_of(h:laidMetH prog OV W):Fc W:=by
 have h' : laidMet prog [("mediawire/wire.table", Lib.tabData .u32 Lg)] W /\ handlesMet prog [("errors.errorType", Rows.laid_errors_errorType)] W := h;have ht:=Lib.tabIs_of_head (rest:=[]) Mp MR underlying281 underlying189 X7 X8 h'.1;intro i hi;have:=ht.cell Mp i (by simpa [Lg]using hi);rw[this];have e:∀j:Fin 16,Lg.getD j.val 0=(ct j.val:Int):=by decide
 rw[e ⟨i,hi⟩]
theorem errT_of(h:laidMetH prog OV W):Er W:=by
 have h' : laidMet prog [("mediawire/wire.table", Lib.tabData .u32 Lg)] W /\ handlesMet prog [("errors.errorType", Rows.laid_errors_errorType)] W := h;obtain⟨name,u,ty,e1,e2,e3,e4,a⟩:=h'.2 _ (Ab.2 rfl);have en:name=[101,114,114,111,114]:=(Bk e1).symm;subst en;obtain rfl:=Bk (X6.symm.trans e2);have b:ty∈(List.range prog.types.size).filter λt=>prog.rowNamed t [101,114,114,111,114]:=BV.2 ⟨Bg.2 e3,e4⟩
 rw[X2]at b;obtain rfl:=Ab.1 b;rw[Y7]at a;unfold Er;simpa using World.var?_cell QV a 0
noncomputable def laidWorld(os:Os):World :=
 let w0:=World.holding prog os ⟨#[],#[],[]⟩
 let w1:World:={ w0 with heap:=w0.heap.modify 0 fun
   | .cells _ t frozen=>.cells #[.iface 286 (.agg #[.pointer (some ⟨2,98,none⟩)])] t frozen
   | o=>o }
 {w1 with heap:=w1.heap.modify 1 fun
   | .cells _ t frozen=>.cells (Lg.map λz=>Value.int .u32 z).toArray t frozen
   | o=>o }
def laid_met(os:Os)(args:Array Value):laidMetH prog OV ((laidWorld os).forCall (λ_ _=>0) ⟨#[],args,[]⟩).memory :=
 laidMetH_of_parts (laidMet_of_run' 8 (by kernel_rfl) (by kernel_rfl)) (by kernel_rfl)
variable{P:Program}{W':World}
theorem Ss{H:Type}{enc:TypeId×Value->H}(hl:laidOutB P=true)(hb:Below W.heap.size W W'):∀{a:List TypeId} {f:List Value} {g:List (DataW H)} {c:List MemPlace},(∀t∈a,P.readableRec t=true/\t<P.types.size) ->
   DataW.TrodAll enc P W 0 (λ_=>true) true a f g c->(∀x∈c,x.block<W.heap.size)->DataW.TrodAll enc P W' 0 (λb=>decide (b<W.heap.size)) true a f g c
 | [],[],[],_,_,h,_=>h
 | t::_,_::_,_::_,_,hT,⟨p,q,h1,h2,e⟩,hs =>
  ⟨p,q,Below.trod hl (hT t (BP.2 (Or.inl rfl))).1 (hT t (BP.2 (Or.inl rfl))).2 h1 hb (λx d=>hs x (by rw[e];exact CU _ d)),
   Ss hl hb (λt ht=>hT t (BP.2 (Or.inr ht))) h2 (λx d=>hs x (by rw[e];exact List.mem_append_right _ d)),e⟩
def post_true{H:Type}{enc:TypeId×Value->H}{f:Func}{s:ChangeSpec}{apart c a:Bool}{args:Array Value}{e gs:List (DataW H)}{b:List MemPlace}{tb:TypeId}
  (i:DataW.Whole enc P f.params.toList s.vars apart W args.toList e gs b) (hl:laidOutB P=true) (j:∀t∈f.params.toList,P.readableRec t=true/\t<P.types.size)
  (u:s.vars=[]) (g:(s.fn H (e++gs)).results=[.lit (.bool true)]) (d:(s.fn H (e++gs)).args=e) (k:(s.fn H (e++gs)).vars=[])
  (l:f.resultTypes=#[tb]) (m:P.underlying tb=some .bool) (hb:Below W.heap.size W W') :
  s.post enc P f apart c a false W args (.bool true) W':=by
 have n:=λx o=>by simpa using i.lt x o
 have r:=i;obtain⟨p,q,hA,v,rfl,hfz,hnd⟩:=i;rw[u]at v;obtain⟨rfl,rfl⟩:=trodVars_none v;refine⟨e,[],p++[],[],p,[],r,?_,?_,?_,hb.frame _,λh=>by cases h⟩
 ·rw[g,l];exact trodAll_mk1 (shut_bool m true)
 ·rw[d];exact Ss hl hb j hA (λx o=>n x (CU _ o))
 ·rw[u,k];exact rfl
end
end Go.Proofs.YtddfdpbaiedcjaaGreatDoor
