/- A part of Once's proof. Conditions: none. Part 7 of 15. -/
import Derived.Test.YtddfdpbaiedcjaaGreatDoorOnc6
set_option maxRecDepth 100000
set_option maxHeartbeats 16000000
set_option linter.all false
namespace Go.Proofs.YtddfdpbaiedcjaaGreatDoor
section
open Go.RowKit Go.Proofs.Tryz
def Em(p:Nat->Bool)(n:Nat):Nat:=(List.range n).findIdx p
variable{m:Nat}
def Tk{p:Nat->Bool}{n:Nat}(h:Eo n p m)(b:∀i j,i<=j->j<n->p i=true->p j=true):Em p n=m:=by
 obtain⟨h1,h2,h3⟩:=h;unfold Em;by_cases hn:m=n
 ·subst hn;have:∀x∈List.range m,p x=false:=λx a=>by
   have a:x<m:=by simpa using a
   cases hq:p x
   ·rfl
   ·have:=b x (m-1) (by omega) (by omega) hq;rw[h2 (by omega)]at this;cases this
  rw[List.findIdx_eq_length.2 (λx a=>by rw[this x a])];simp
 ·refine(List.findIdx_eq (by rw[CF];omega)).2 ⟨by rw[List.getElem_range];exact h3 (by omega),λj hj=>?_⟩;simp only[List.getElem_range];cases hq:p j
  ·rfl
  ·have:=b j (m-1) (by omega) (by omega) hq;rw[h2 (by omega)]at this;cases this
def Dh.add(s:Dh)(lo hi:Nat):Dh :=
 if hi<max lo s.fl then s else
 if s.most<(EB s.rs (max lo s.fl) hi (Em (D6 s.rs (max lo s.fl)) s.rs.length) (Em (D9 s.rs hi) s.rs.length)).length then
  ⟨(EB s.rs (max lo s.fl) hi (Em (D6 s.rs (max lo s.fl)) s.rs.length) (Em (D9 s.rs hi) s.rs.length)).drop 1,DY (EB s.rs (max lo s.fl) hi (Em (D6 s.rs (max lo s.fl)) s.rs.length) (Em (D9 s.rs hi) s.rs.length)) 0+1,s.most⟩
 else⟨EB s.rs (max lo s.fl) hi (Em (D6 s.rs (max lo s.fl)) s.rs.length) (Em (D9 s.rs hi) s.rs.length),s.fl,s.most⟩
variable{rs:zC}
def Ya(hw:WF rs):∀i j,i<=j->j<rs.length->D6 rs m i=true->D6 rs m j=true:=by
 intro i j a hj h;have hm:=(LQ hw a hj).2;simp only[D6,Bm,Af]at h ⊢;omega
def fu(hw:WF rs):∀i j,i<=j->j<rs.length->D9 rs m i=true->D9 rs m j=true:=by
 intro i j a hj h;have hm:=(LQ hw a hj).1;simp only[D9,AZ,Af]at h ⊢;omega
def Oc(s:Dh)(b o lo hi:Nat)(v:Value)(w:World)(e:Ending)(w':World):Prop :=
 ∃v',e = .returned (.tuple #[])/\w'.ownsRow 0 214 2 v' (s.add lo hi).rs.length (zo (s.add lo hi).rs)/\w'.heap[b]?=((w.setCell ⟨b,o,none⟩ v').setCell ⟨b,o+1,none⟩ (.int .u64 ((s.add lo hi).fl:Int))).heap[b]? /\
  DW (λk=>k=b\/v.ownBlock=some k) w w'/\Dy w v v'
def Jo(s:Dh)(b o lo hi:Nat)(v:Value)(w:World)(h:ET w b o v s.rs s.fl s.most)(a:WF s.rs)(r:lo<18446744073709551616)(j:hi<18446744073709551616)(t:s.fl<18446744073709551616)
  (u:v.ownBlock≠some b) (d:1<=s.most) (c:s.most<=9223372036854775807) :
  Calls prog 88 #[.pointer (some ⟨b,o,none⟩),.int .u64 lo,.int .u64 hi] w (Oc s b o lo hi v w):=by
 have B:=zF h.own;by_cases k:max lo s.fl<=hi
 ·refine(Kv s.rs s.fl s.most b o lo hi v w h a r j t B u k d c (λm1 m2 h1 h2=>PQ a k j h1 h2)).mono ?_;rintro e w' ⟨m1,m2,v',y,z,h1,h2,f,rfl,l,i,n,A⟩;have q:=Tk h1 (Ya a);have e2:=Tk h2 (fu a);have p:s.add lo hi=⟨y,z,s.most⟩:=by
   unfold Dh.add;rw[AH (by omega),q,e2];split at f
   ·rename_i hc;rw[AN hc];cases f;rfl
   ·rename_i hc;rw[AH hc];cases f;rfl
  refine⟨v',rfl,?_,?_,n,A⟩
  ·rw[p];exact l
  ·rw[p];exact i
 ·have p:s.add lo hi=s:=by
   unfold Dh.add;rw[AN (by omega)]
  refine(Uy s.rs s.fl s.most b o lo hi v w h B (by omega)).mono ?_;rintro e w' ⟨rfl,m⟩;have hb:=zk h.cl;refine⟨v,rfl,?_,?_,m.mono (λ_ x=>x.elim),λg hg=>.inl hg⟩
  ·rw[p];exact m.owns h.own (λ_ _ x=>x)
  ·rw[p,m.block b hb (λx=>x)];have q:=MO h.cl;have c2:=(World.cell?_of_block q).trans h.cf;rw[MO c2,q]
def EU(k lo:Nat)(fin:Bool)(s:List UInt8):Db:=⟨4,(k:Int),lo,0,0,fin,0,0,s,[]⟩
def CS.end0(c:CS)(k:Nat):Nat:=min (min (c.ws k).b.length (c.ws k).credit) ((c.ws k).high+c.credit-min c.credit c.spent)
def CS.endOf(c:CS)(k:Nat):Nat:=if (c.ws k).cut then min (c.end0 k) (c.ws k).keep else c.end0 k
def PP(c:CS)(k:Nat):c.endOf k<=c.end0 k:=by
 unfold CS.endOf;split
 ·exact Bw _ _
 ·exact AG _
def WS.fin(x:WS):Bool:=x.finished && !x.cut
def CS.bytesAdd(c:CS)(d:Dd)(k lo hi:Nat)(fin:Bool):Bool×CS×Dd :=
 match d.add (EU k lo fin (((c.ws k).b.drop lo).take (hi-lo)))with
 | none=>(false,c,{ d with full:=true })
 | some d'=>(true,{ c with ws:=upd c.ws k { c.ws k with sent:=if lo<hi then(c.ws k).sent.add lo (hi-1)else(c.ws k).sent,ending:=(c.ws k).ending||fin,high:=max (c.ws k).high hi } },d')
def CS.bytesGot(c:CS)(d:Dd)(k lo hi:Nat)(fin:Bool):Option Dd->Bool×CS×Dd
 | none=>(false,c,{ d with full:=true })
 | some d'=>(true,{ c with ws:=upd c.ws k { c.ws k with sent:=if lo<hi then(c.ws k).sent.add lo (hi-1)else(c.ws k).sent,ending:=(c.ws k).ending||fin,high:=max (c.ws k).high hi } },d')
def fo(c:CS)(d:Dd)(k lo hi:Nat)(fin:Bool):c.bytesAdd d k lo hi fin=c.bytesGot d k lo hi fin (d.add (EU k lo fin (((c.ws k).b.drop lo).take (hi-lo)))):=by
 unfold CS.bytesAdd;cases d.add (EU k lo fin (((c.ws k).b.drop lo).take (hi-lo)))<;>rfl
def Jl(c:CS)(d:Dd)(k lo hi:Nat):Int :=
 (d.room:Int)-4-d.b.length-(((zA (EU k lo false (((c.ws k).b.drop lo).take (hi-lo)))).length:Int)-((hi:Int)-lo))
def CS.bytesR(c:CS)(d:Dd)(k lo hi:Nat):Bool×CS×Dd :=
 if Jl c d k lo hi<(hi:Int)-lo then
  if Jl c d k lo hi<1 then(false,c,{ d with full:=true })
  else c.bytesAdd d k lo (lo+(Jl c d k lo hi).toNat) false
 else c.bytesAdd d k lo hi ((c.ws k).fin&&hi==(c.ws k).b.length)
def CS.bytes(c:CS)(d:Dd)(k:Nat):Bool×CS×Dd :=
 if c.waits≠[]\/d.full=true then(false,c,d)else
 if (Dk (c.ws k).sent.rs 0 (c.endOf k)).2<=(Dk (c.ws k).sent.rs 0 (c.endOf k)).1 then
  if (!(c.ws k).fin||(c.ws k).ending)||decide (c.endOf k<(c.ws k).b.length)then(false,c,d)
  else c.bytesR d k (c.ws k).b.length (c.ws k).b.length
 else c.bytesR d k (Dk (c.ws k).sent.rs 0 (c.endOf k)).1 (Dk (c.ws k).sent.rs 0 (c.endOf k)).2
variable{S:Nat->Prop}{W W':World}{bv fv:Value}{d:Dd}{db i:Nat}{tag:Nat->Nat×Nat}
def ES.modN{l:List (Db×Value)}(h:ES tag i db d bv fv l W)(m:DW S W W')(hS:∀g,S g->(tag g).1≠i):ES tag i db d bv fv l W':=by
 have q:∀{g r:Nat},tag g=(i,r)->¬S g:=λhg x=>hS _ x (by rw[hg])
 exact⟨m.obj (q h.tb) h.obj,h.tb,m.owns h.ob (λg hg=>q (h.tbv g hg)),h.tbv,m.owns h.own (λg hg=>q (h.tfv g hg)),h.lf,λx a=>⟨(h.rr x a).1.mod m (GE λg hg=>q ((h.rr x a).2 g hg)),(h.rr x a).2⟩,h.tfv⟩
variable{V':CV}{W'':World}{b:Nat}{bv' fv':Value}{c:CS}{l':List (Db×Value)}{tag':Nat->Nat×Nat}
def zL.free(h:zL tag i b db W c d tag' V' bv' fv' l' W')(m:DW S W' W'')(a:∀g,S g->tag' g=(0,0)/\W.heap.size<=g):zL tag i b db W c d tag' V' bv' fv' l' W'':=by
 have hp:=h.p;have q:∀g,S g->(tag' g).1≠i:=λg hg=>by rw[(a g hg).1];simp;omega
 exact⟨h.c.mod m q (λ_ _=>rfl),h.d.modN m q,⟨h.e.old,h.e.new,h.e.z.mod m⟩,h.m.then m (λg hg=>.inr (a g hg).2),h.p⟩
def zL.setFull(h:zL tag i b db W c d tag' V' bv' fv' l' W'):zL tag i b db W c { d with full:=true } tag' V' bv' fv' l' (W'.setCell ⟨db,4,none⟩ (.bool true)):=by
 have m:DW (λg=>g=db) W' (W'.setCell ⟨db,4,none⟩ (.bool true)):=(DW.refl (λg=>g=db) _).setCell (p:=⟨db,4,none⟩) (.inl rfl) _;have f:DW (It i tag') W' (W'.setCell ⟨db,4,none⟩ (.bool true)):=m.mono (λg hg=>.inl ⟨90,by decide,by rw[hg,h.d.tb]⟩);refine⟨h.c.modR h.e.z h.p f (λ_ _=>rfl),⟨?_,h.d.tb,m.owns h.d.ob (λg hg x=>?_),h.d.tbv,m.owns h.d.own (λg hg x=>?_),h.d.lf,λx a=>⟨(h.d.rr x a).1.mod m (GE λg hg y=>?_),(h.d.rr x a).2⟩,h.d.tfv⟩,⟨h.e.old,h.e.new,h.e.z.mod m⟩,Ec h.e h.m (LV f),h.p⟩
 ·rw[zc h.d.obj];rfl
 ·exact zg.apart (h.d.tbv g hg) (x ▸ h.d.tb) (by decide) rfl
 ·exact zg.apart (h.d.tfv g hg) (x ▸ h.d.tb) (by decide) rfl
 ·exact zg.apart ((h.d.rr x a).2 g hg) (y ▸ h.d.tb) (by decide) rfl
def KU(c:CS)(k:Nat)(x:WS)(h1:x.b=(c.ws k).b)(h2:x.sent.rs=(c.ws k).sent.rs)(h3:x.came.rs=(c.ws k).came.rs):Id c { c with ws:=upd c.ws k x } :=
 ⟨rfl,λq _=>by
  by_cases a:q=k
  ·subst a;simp only[ze];exact⟨h1,h2,h3⟩
  ·simp[zd _ _ a],λ_ _=>⟨rfl,rfl⟩,rfl,rfl,rfl,rfl⟩
variable{k:Nat}
def zL.storeW(h:zL tag i b db W c d tag' V' bv' fv' l' W')(hk:k<8)(j:Nat)(hj:j<15)(v:Value)(x:WS)(hx:FZ x (V'.wb k) (V'.ws k) (V'.wc k)=(FZ (c.ws k) (V'.wb k) (V'.ws k) (V'.wc k)).set j v)(h1:x.b=(c.ws k).b)(h2:x.sent.rs=(c.ws k).sent.rs)(h3:x.came.rs=(c.ws k).came.rs):zL tag i b db W { c with ws:=upd c.ws k x } d tag' V' bv' fv' l' (W'.setCell ⟨b,9+15*k+j,none⟩ v):=by
 refine h.store _ _ (GY _ _ _ _ _ hk hj (λq _=>?_) rfl rfl rfl) (KU c k x h1 h2 h3);by_cases a:q=k
 ·subst a;simp only[ze,A5];exact hx
 ·simp only[zd _ _ a,AH a]
def zL.sentHigh(h:zL tag i b db W c d tag' V' bv' fv' l' W')(hk:k<8)(e:Bool)(m:Nat):zL tag i b db W { c with ws:=upd c.ws k { c.ws k with ending:=e,high:=m } } d tag' V' bv' fv' l' ((W'.setCell ⟨b,9+15*k+9,none⟩ (.bool e)).setCell ⟨b,9+15*k+7,none⟩ (.int .u64 m)):=by
 have h1:=h.storeW hk 9 (by decide) (.bool e) { c.ws k with ending:=e } rfl rfl rfl rfl;have h2:=h1.storeW hk 7 (by decide) (.int .u64 m) { c.ws k with ending:=e,high:=m } (by simp only[ze];rfl) (by simp only[ze]) (by simp only[ze]) (by simp only[ze]);simp only[Jn]at h2;exact h2
variable{hi lo:Nat}
def zL.sentAdd{e:Ending}(h:zL tag i b db W c d tag' V' bv' fv' l' W')(hk:k<8)(ha:Oc (c.ws k).sent b (9+15*k+1) lo hi (V'.ws k) W' e W'')(hm:((c.ws k).sent.add lo hi).most=(c.ws k).sent.most):e = .returned (.tuple #[])/\∃tag2 V2,zL tag i b db W { c with ws:=upd c.ws k { c.ws k with sent:=(c.ws k).sent.add lo hi } } d tag2 V2 bv' fv' l' W'':=by
 obtain⟨v',rfl,l,o,f,u⟩:=ha;have w:=h.p;have s:∀{g r:Nat},tag' g=(i,r)->g<W'.heap.size:=λhg=>EQ h.e.z hg w
 have n:∀g,(tag' g).1=i->retag tag' W' W'' (i,20+k) g=tag' g:=λg hg=>zz (s (r:=(tag' g).2) (by rw[<-hg]))
 have v:∀g,(g=b\/(V'.ws k).ownBlock=some g)->∃r,(r=1\/r=20+k)/\tag' g=(i,r):=λg hg=>by
  rcases hg with hg|hg
  ·exact⟨1,.inl rfl,by rw[hg,h.c.tb]⟩
  ·exact⟨20+k,.inr rfl,h.c.tws k hk g hg⟩
 refine⟨rfl,retag tag' W' W'' (i,20+k),{ V' with ws:=upd V'.ws k v' },?_,?_,h.e.trans (Ib f.size) h.m.size,Ec h.e h.m (f.mono (λg hg=>.inl ?_)),w⟩
 ·refine h.c.build (R:=λr=>r=1\/r=20+k) f v n ?_ (.inl ⟨rfl,rfl,rfl,by omega,by omega⟩) (λq t=>.inl ⟨?_,rfl,by omega⟩) (λq t=>?_) (λq t=>.inl ⟨?_,rfl,by omega⟩) (λq t=>.inl ⟨rfl,rfl,by omega⟩) (λq t=>.inl ⟨rfl,rfl,by omega⟩) (.inl ⟨rfl,rfl,rfl,by omega,by omega⟩) (.inl ⟨rfl,rfl,by omega⟩) (.inl ⟨rfl,rfl,by omega⟩) (.inl ⟨rfl,rfl,by omega⟩)
  ·rw[o,zc (zc h.c.obj)];simp only[Ap];have e1:=GY c c V' { V' with ws:=upd V'.ws k v' } (k:=k) (j:=1) v' hk (by decide) (λq _=>by
    by_cases a:q=k
    ·subst a;simp only[ze,A5];rfl
    ·simp only[zd _ _ a,AH a]) rfl rfl rfl
   rw[e1];have e2:=GY c { c with ws:=upd c.ws k { c.ws k with sent:=(c.ws k).sent.add lo hi } } { V' with ws:=upd V'.ws k v' } { V' with ws:=upd V'.ws k v' } (k:=k) (j:=2) (.int .u64 (((c.ws k).sent.add lo hi).fl:Int)) hk (by decide) (λq _=>by
    by_cases a:q=k
    ·subst a;simp only[ze,A5,FZ,hm];rfl
    ·simp only[zd _ _ a,AH a]) rfl rfl rfl
   rw[show 9+15*k+1+1=9+15*k+2 from rfl,e2]
  ·by_cases a:q=k
   ·subst a;simp only[ze]
   ·simp only[zd _ _ a]
  ·by_cases a:q=k
   ·subst a;simp only[ze];refine .inr ⟨l,λg hg=>?_⟩;rcases u g hg with y|y
    ·rw[zz (s (h.c.tws q hk g y)),h.c.tws q hk g y]
    ·exact Fr y (zF l g hg)
   ·exact .inl ⟨by simp only[zd _ _ a],by simp only[zd _ _ a],by omega⟩
  ·by_cases a:q=k
   ·subst a;simp only[ze]
   ·simp only[zd _ _ a]
 ·exact h.d.modC f (λg hg=>by
   obtain⟨r,hr,e⟩:=v g hg;exact⟨r,by omega,by omega,e⟩) n
 ·obtain⟨r,hr,e⟩:=v g hg;exact EK e (by omega)
def G8(s:Dh)(lo hi:Nat):(s.add lo hi).most=s.most:=by
 unfold Dh.add;split
 ·rfl
 ·split<;>rfl
def TL{fin:Bool}{s:List UInt8}(hk:k<8)(hl:s.length<=1048576)(a:lo+s.length<=zB):(EU k lo fin s).Fits:=by
 have hb:=LU (EU k lo fin s) rfl;have hd:(EU k lo fin s).data.length=s.length:=rfl;refine⟨?_,rfl,by rw[hd];exact hl,by rw[hd]at hb;omega⟩;unfold zB at a;simp[zT,EM,Ff,ER,zN,EU]
 and_intros<;>first|omega|exact Aq (by omega)
variable{f:Db}
def zL.add2{e:Ending}(h:zL tag i b db W c d tag' V' bv' fv' l' W')(hd:In tag' i db W' d f e W''):e = .returned (.bool (d.add f).isSome)/\∃tag2 bv2 fv2 l2,zL tag i b db W c ((d.add f).getD d) tag2 V' bv2 fv2 l2 W''/\(∀g,g<W'.heap.size->tag2 g=tag' g)/\DW (It i tag') W' W'':=by
 obtain⟨rfl,tag2,bv2,fv2,l2,h1,h2,h3⟩:=hd;exact⟨rfl,tag2,bv2,fv2,l2,⟨h.c.modR h.e.z h.p h3 h2.old,h1,h.e.trans h2.ext h.m.size,Ec h.e h.m (LV h3),h.p⟩,h2.old,h3⟩
structure O6(c:CS)(k:Nat):Prop where
 lt:k<8
 cut:(c.ws k).keep<=zB
 len:(c.ws k).b.length<=1048576
 credit:(c.ws k).credit<=zB
 high:(c.ws k).high<=zB
 all:c.credit<=zB
 spent:c.spent<=zB
 wf:WF (c.ws k).sent.rs
 hi:∀j,j<(c.ws k).sent.rs.length->DY (c.ws k).sent.rs j<9223372036854775808
 fl:(c.ws k).sent.fl<=zB
 most:1<=(c.ws k).sent.most/\(c.ws k).sent.most<=1099511627776
 rl:(c.ws k).sent.rs.length<=1099511627776
theorem LP(rs:zC):∀lo hi,(Dk rs lo hi).2<=hi:=by
 induction rs with
 | nil=>intro lo hi;exact AG _
 | cons r l ih =>
  intro lo hi;unfold Dk;split
  ·exact ih lo hi
  ·split
   ·exact Bw _ _
   ·exact ih _ _
theorem Q7(rs:zC)(h:∀r∈rs,r.2<9223372036854775808):∀lo hi,lo<=9223372036854775808->(Dk rs lo hi).1<=9223372036854775808:=by
 induction rs with
 | nil=>intro lo hi hl;exact hl
 | cons r l ih =>
  intro lo hi hl;have hr:=h r Ae;have a:=ih (λx hx=>h x (Aj _ hx));unfold Dk;split
  ·exact a lo hi hl
  ·split
   ·exact hl
   ·exact a _ _ (by omega)
variable{v:Value}{xs:List Value}
def TK{n:Nat}(h:ED W 65 10 v n xs):∃a cap,v = .slice a n cap:=by
 rcases h.2 with⟨e,e2⟩|⟨g,o,cap,cur,e,_⟩
 ·exact⟨none,0,by rw[e,e2]⟩
 ·exact⟨_,cap,e⟩
variable{N:Nat}{new:List UInt8}{w w':World}
def UV{e:Ending}(h:Nl w (.slice none 0 0) [] true new e w')(hN:new.length=N):∃a c,e = .returned (.slice a N c)/\DW DX w w':=by
 rcases h with⟨_,v',rfl,b⟩|⟨hx,_⟩
 ·obtain⟨a,c,e,_⟩:=zi b.own;rw[Am,hN]at e;exact⟨a,c,by rw[e],(DW.refl DX w).grown b.grown (λg hg=>by simp[Value.ownBlock]at hg)⟩
 ·cases hx
variable{V:CV}
def zg.sentAt(h:zg tag i b c V W)(hk:k<8)(hl:(c.ws k).sent.rs.length<=1099511627776):ET W b (9+15*k+1) (V.ws k) (c.ws k).sent.rs (c.ws k).sent.fl (c.ws k).sent.most :=
 ⟨h.w (j:=1) hk rfl,h.w (j:=2) hk rfl,h.w (j:=3) hk rfl,h.ws k hk,hl,λj=>h.fz j⟩
theorem YZ{l:List (Db×Value)}(h:zg tag i b c V W)(hD:ES tag i db d bv fv l W)(E:Dx i tag W)(k:Nat)(ok:O6 c k)(bO:d.b.length<=1073741824)(bP:d.fs.length<=1073741824)(bQ:d.room<=1073741824):Calls prog 149 #[.pointer (some ⟨b,0,none⟩),.pointer (some ⟨db,0,none⟩),.int .i64 k] W (GA tag i b db W (c.bytes d k).2.1 (c.bytes d k).2.2 (c.bytes d k).1):=by
 have S0:AA (zL tag i b db W c d tag V bv fv l W):=zb ⟨h,hD,Dj.same E.ok (DW.refl DX _),DW.refl _ _,E.pos⟩;have hk:=ok.lt;have hk0:(0:Int)<=k:=by omega
 have hk8:(k:Int)<8:=by omega
 have c5:W.cell? ⟨b,238,none⟩=some V.wt:=h.tl (j:=5) rfl;obtain⟨wta,wtc,a8⟩:=TK h.wt;rw[a8]at c5;have e4:W.cell? ⟨db,4,none⟩=some (.bool d.full):=za hD.obj rfl;have w0:W.cell? ⟨b,9+k*15,none⟩=some (V.wb k):=by rw[AK];exact h.w (j:=0) hk rfl
 obtain⟨wa,n,ae,_⟩:=zi (h.wb k hk);rw[ae]at w0;have w7:W.cell? ⟨b,9+k*15+7,none⟩=some (.int .u64 ((c.ws k).high:Int)):=by rw[AK];exact h.w (j:=7) hk rfl
 have af:W.cell? ⟨b,9+k*15+14,none⟩=some (.int .u64 ((c.ws k).credit:Int)):=by rw[AK];exact h.w (j:=14) hk rfl
 have U:W.cell? ⟨b,9+k*15+10,none⟩=some (.bool (c.ws k).cut):=by rw[AK];exact h.w (j:=10) hk rfl
 have ah:W.cell? ⟨b,9+k*15+11,none⟩=some (.int .u64 ((c.ws k).keep:Int)):=by rw[AK];exact h.w (j:=11) hk rfl
 have g0:W.cell? ⟨b,233,none⟩=some (.int .u64 c.credit):=h.tl (j:=0) rfl;have ks:=dQ (h.mod0 ((DW.refl DX W).drew)) (by have:=ok.spent;unfold zB at this;omega);obtain⟨R,hR⟩:=nm (c.bytes d k);rw[hR];have HR:=zb hR;have OK:=zb ok;obtain⟨L,hL⟩:=nm ((c.ws k).b.length);obtain⟨hh,aL⟩:=nm ((c.ws k).high);obtain⟨cr,aM⟩:=nm ((c.ws k).credit);obtain⟨cc,aN⟩:=nm c.credit;obtain⟨cu,ai⟩:=nm ((c.ws k).cut);obtain⟨kp,aO⟩:=nm ((c.ws k).keep);obtain⟨sp,aP⟩:=nm c.spent;obtain⟨nw,aQ⟩:=nm c.waits.length;obtain⟨df,aR⟩:=nm d.full;have b1:=ok.len;have b2:=ok.credit;have b3:=ok.high;have b4:=ok.all;have b5:=ok.spent;have b6:=ok.cut;unfold zB at b2 b3 b4 b5 b6;have HE:AA (c.endOf k=if cu=true then min (min (min L cr) (hh+cc-min cc sp)) kp else min (min L cr) (hh+cc-min cc sp)):=by
  show _=_;rw[CS.endOf,CS.end0,hL,aL,aM,aN,aP,ai,aO]
 rw[hL]at w0 b1;rw[aL]at w7 b3;rw[aM]at af b2;rw[aN]at g0 b4;rw[ai]at U;rw[aO]at ah b6;have bR:=zb ai;rw[aP]at ks b5;rw[aQ]at c5;rw[aR]at e4;have HL:=zb hL;have X:AA (V.wb k = .slice wa L n):=by rw[hL]at ae;exact ae
 have a9:=zb aQ;have bb:=zb aR;have aj:0<nw\/(nw=0/\df=true)\/(nw=0/\df=false):=by
  cases df
  ·by_cases e:nw=0
   ·exact .inr (.inr ⟨e,rfl⟩)
   ·exact .inl (by omega)
  ·by_cases e:nw=0
   ·exact .inr (.inl ⟨e,rfl⟩)
   ·exact .inl (by omega)
 clear h hD E ok hR a8 ae hL aL aM aN aP aQ aR ai aO;rcases aj with hA|⟨rfl,rfl⟩|⟨rfl,rfl⟩
 ·have D:AA (R=(false,c,d)):=by
   show _=_;rw[<-HR.z,CS.bytes,AN (.inl (λe=>by have:=a9.z;rw[e]at this;simp at this;omega))]
  have d1:(0:Int)<nw:=by omega
  clear hA ks w0 w7 af U ah g0;go_enter func149,ntmps149;go_wp2_with fail;go_ret;rw[D.z];exact S0.z.post false
 ·have D:AA (R=(false,c,d)):=by
   show _=_;rw[<-HR.z,CS.bytes,AN (.inr bb.z)]
  clear ks w0 w7 af U ah g0;go_enter func149,ntmps149;go_wp2_with fail;go_ret;rw[D.z];exact S0.z.post false
 have bd:AA (R=if (Dk (c.ws k).sent.rs 0 (c.endOf k)).2<=(Dk (c.ws k).sent.rs 0 (c.endOf k)).1 then
  if (!(c.ws k).fin||(c.ws k).ending)||decide (c.endOf k<(c.ws k).b.length)then(false,c,d)
  else c.bytesR d k (c.ws k).b.length (c.ws k).b.length
 else c.bytesR d k (Dk (c.ws k).sent.rs 0 (c.endOf k)).1 (Dk (c.ws k).sent.rs 0 (c.endOf k)).2):=by
  show _=_;rw[<-HR.z,CS.bytes,AH];rintro(e|e)
  ·exact e (Ah a9.z)
  ·rw[bb.z]at e;cases e
 obtain⟨q1,aS⟩:=nm (min cc sp);obtain⟨t,aT⟩:=nm (min (min L cr) (hh+cc-q1));obtain⟨en,aU⟩:=nm ((if cu=true then min t kp else t));have bS:AA (c.endOf k=en):=by
  show _=_;rw[HE.z,aS,aT,aU]
 have be:=zb aS;have Y:=zb aU;have bf:=zb aT;have x1:IntKind.u64.wrap (L:Int)=(L:Int):=by rw[IntKind.wrap_u64];omega
 have x2:=wu ((hh:Int)+cc) (by omega);have x3:=wu ((hh:Int)+cc-q1) (by omega);clear aS aU aT HE HR;go_enter func149,ntmps149;go_upto_region 4 with fail
 go_cut [8] (λev o=>ev = .int .u64 t/\o=W.drew)
 case first=>as_aux_lemma =>
  refine zl 29 (λw'=>w'=W.drew) (rfl) ?_;refine GI 0 ?_;iterate 24
   refine GV rfl ?_;try simp only[PS]
  refine zw 24 rfl (λK hK=>?_);go_simp;refine ks.mono ?_;rintro _ _ ⟨rfl,rfl⟩;refine hK.z _ _ rfl ?_;clear hK K;try simp only[PS]
  refine Gn (i:=25) (v:=.int .u64 q1) rfl (by kernel_rfl) (λ_ _ _ h=>h) (Or.inl ⟨by rfl,?_⟩) ?_
  ·intro o q;subst q;go_simp;have:=be.z;split<;>omega
  try simp only[PS]
  refine GI 26 ?_;refine GV rfl ?_;try simp only[PS]
  refine Gn (i:=27) (v:=.int .u64 t) rfl (by kernel_rfl) (λ_ _ _ h=>h) (Or.inl ⟨by rfl,?_⟩) ?_
  ·intro o q;subst q;go_simp;have h1:=be.z;have h2:=bf.z
   (repeat' split)<;>omega
  try simp only[PS]
  refine GI 28 ?_;refine GV rfl ?_;try simp only[PS]
  refine zn ?_;go_wp2_with fail;go_meet;exact⟨rfl,rfl⟩
 case rest =>
 obtain⟨rfl,S⟩:=hcut;subst S;go_upto_if 64 with fail
 go_cut [8] (λev o=>ev = .int .u64 en/\o=W.drew)
 case first=>as_aux_lemma =>
  cases cu
  ·have h2:t=en:=Y.z;subst h2;go_wp2_with fail;go_meet;exact⟨rfl,rfl⟩
  ·go_wp2_with fail;all_goals
    go_meet;have h2:min t kp=en:=Y.z;exact⟨by congr 1;omega,rfl⟩
 case rest =>
 obtain⟨rfl,S⟩:=hcut;subst S;have bh:en<=L:=by
  have h1:(if cu=true then min t kp else t)=en:=Y.z;have h2:min (min L cr) (hh+cc-q1)=t:=bf.z;have h3:t<=L:=by rw[<-h2];exact AO (Bw _ _) (Bw _ _)
  clear h2;split at h1
  ·have:=Bw t kp;omega
  ·omega
 have S1:=zb (S0.z.mod0 (DW.refl DX W).drew);have kg:=O7 (c.ws k).sent.rs (c.ws k).sent.fl (c.ws k).sent.most b (9+15*k+1) 0 en (V.ws k) W.drew (S1.z.c.sentAt hk OK.z.rl) (by omega) OK.z.hi;rw[AK 15 k]at kg;have aE:=Q7 (c.ws k).sent.rs (λr hr=>by
  obtain⟨j,hj⟩:=Cu hr;have bi:=(AM.1 hj).1;have e:=LH bi;rw[hj]at e;cases e;exact OK.z.hi j bi) 0 en (by omega)
 have aF:=LP (c.ws k).sent.rs 0 en;obtain⟨y,P⟩:=nm ((Dk (c.ws k).sent.rs 0 en).1);obtain⟨A,Q⟩:=nm ((Dk (c.ws k).sent.rs 0 en).2);rw[P]at aE;rw[Q]at aF;have bj:AA (R=if A<=y then(if (!(c.ws k).fin||(c.ws k).ending)||decide (en<L)then(false,c,d)else c.bytesR d k L L)else c.bytesR d k y A):=by
  show _=_;rw[bd.z,bS.z,P,Q,HL.z]
 rw[P,Q]at kg;have KG:=zb kg;clear kg P Q bd ks x1 x2 x3 w0 w7 af ah g0 c5 e4;go_upto_region 7 with fail
 go_cut [9,10] (λlv hv o=>lv = .int .u64 y/\hv = .int .u64 A/\AA (DW DX W.drew o))
 case first=>as_aux_lemma =>
  go_wp2_with (go_at_call 91;refine KG.z.mono ?_;rintro _ W2 ⟨rfl,m2⟩);go_meet;exact⟨rfl,rfl,m2⟩
 case rest =>
 obtain⟨rfl,rfl,m2⟩:=hcut;obtain⟨W2,aV⟩:=nn wc;subst aV;have S2:=zb (S1.z.mod0 m2.z);have w0:W2.cell? ⟨b,9+k*15,none⟩=some (.slice wa L n):=by
  rw[AK k 15,<-X.z];exact S2.z.c.w (j:=0) hk rfl
 have w8:W2.cell? ⟨b,9+k*15+8,none⟩=some (.bool (c.ws k).finished):=by
  rw[AK k 15];exact S2.z.c.w (j:=8) hk rfl
 have w9:W2.cell? ⟨b,9+k*15+9,none⟩=some (.bool (c.ws k).ending):=by
  rw[AK k 15];exact S2.z.c.w (j:=9) hk rfl
 have bk:W2.cell? ⟨b,9+k*15+10,none⟩=some (.bool cu):=m2.z.cell (a:=⟨b,_,none⟩) id U;obtain⟨fi,ak⟩:=nm ((c.ws k).fin);obtain⟨fq,aW⟩:=nm ((c.ws k).finished);have bT:AA ((fq && !cu)=fi):=by
  show _=_;rw[<-aW,<-bR.z,<-ak];rfl
 obtain⟨eg,al⟩:=nm ((c.ws k).ending);have bU:=zb ak;have am:=zb al;have F:=bj.z;rw[ak,al]at F;rw[aW]at w8;rw[al]at w9;replace F:=zb F;have M2:=zb m2.z;have x1:IntKind.u64.wrap (L:Int)=(L:Int):=by rw[IntKind.wrap_u64];omega
 clear ak aW al bj m2 U;go_upto_region 9 with fail
 go_cut [12] (λfv o=>fv = .bool fi/\o=W2)
 case first=>as_aux_lemma =>
  cases fq;all_goals
   cases cu;all_goals
    have bm:=bT.z;subst bm;go_wp2_with fail;go_meet;exact⟨rfl,rfl⟩
 case rest =>
 obtain⟨rfl,S⟩:=hcut;obtain⟨W2,aV⟩:=nn wc;subst aV;subst S;go_upto_if 98 with fail
 go_cut [9,10] (λlv hv o=>∃lo hi:Nat,lv = .int .u64 lo/\hv = .int .u64 hi/\o=W2/\lo<=hi/\hi<=L/\AA (R=c.bytesR d k lo hi))
 case first=>as_aux_lemma =>
  by_cases an:A<=y
  ·have H:AA (R=if (!fi||eg)||decide (en<L)then(false,c,d)else c.bytesR d k L L):=by
    show _=_;rw[F.z,AN an]
   have d1:(A:Int)<=y:=by omega
   clear an F;cases fi
   ·have D:AA (R=(false,c,d)):=by
     show _=_;rw[H.z];simp
    clear H;go_wp2_with fail;go_ret;rw[D.z];exact S2.z.post false
   ·cases eg
    ·by_cases ao:en<L
     ·have D:AA (R=(false,c,d)):=by
       show _=_;rw[H.z];simp[ao]
      have d2:(en:Int)<L:=by omega
      clear H ao;go_wp2_with fail;go_ret;rw[D.z];exact S2.z.post false
     ·have D:AA (R=c.bytesR d k L L):=by
       show _=_;rw[H.z];simp[ao]
      have d2:¬(en:Int)<L:=by omega
      clear H ao;go_wp2_with fail;go_meet;exact⟨L,L,rfl,rfl,rfl,AG _,AG _,D⟩
    ·have D:AA (R=(false,c,d)):=by
      show _=_;rw[H.z];simp
     clear H;go_wp2_with fail;go_ret;rw[D.z];exact S2.z.post false
  ·have D:AA (R=c.bytesR d k y A):=by
    show _=_;rw[F.z,AH an]
   have d1:¬(A:Int)<=y:=by omega
   have bV:y<=A:=by omega
   clear an F;go_wp2_with fail;go_meet;exact⟨y,A,rfl,rfl,rfl,bV,by omega,D⟩
 case rest =>
 obtain⟨lo,hi,rfl,rfl,S,bW,hhL,bn⟩:=hcut;clear F;have S:=S.symm;subst S;obtain⟨f0,bo⟩:=nm ((fi&&hi==L));have ap:=zb bo;clear bo;obtain⟨W3,aq⟩:=nm (W2.alloc (.cells (zh (EU k lo f0 []) (.slice none 0 0)) 65));go_upto_region 14 with fail
 go_cut [13] (λpv o=>pv = .pointer (some ⟨W2.heap.size,0,none⟩)/\o=W3)
 case first=>as_aux_lemma =>
  have hd:W3=W2.alloc (.cells #[.int .i64 4,.int .i64 k,.int .u64 lo,.int .u64 0,.int .u64 0,.bool f0,.int .u64 0,.int .u64 0,.string ⟨#[]⟩,.slice none 0 0] 65):=aq.symm;have aX:=zb hd;clear hd;cases fi
  ·have t:f0=false:=by rw[<-ap.z];rfl
   subst t;go_wp2_with fail;go_meet;exact⟨rfl,aX.z.symm⟩
  ·by_cases e:hi=L
   ·have t:f0=true:=by rw[<-ap.z,e];simp
    have e1:((hi:Int)==(L:Int))=true:=by rw[e];simp
    subst t;clear e;go_wp2_with fail;go_meet;exact⟨rfl,aX.z.symm⟩
   ·have t:f0=false:=by rw[<-ap.z];simp[e]
    have e1:((hi:Int)==(L:Int))=false:=AR.2 (by omega);subst t;clear e;go_wp2_with fail;go_meet;exact⟨rfl,aX.z.symm⟩
 case rest =>
 obtain⟨rfl,S⟩:=hcut;obtain⟨Z,bX⟩:=nn wc;subst bX;subst S;have bp:=AB aq
 have oF:=AD aq
 have S4:=zb (S2.z.mod0 bp);have OF:=zb oF;obtain⟨s,hs⟩:=nm (((c.ws k).b.drop lo).take (hi-lo));have bY:s.length=hi-lo:=by
  rw[<-hs,AS,Ad,HL.z];omega
 have I:BR Z (.slice wa L n) (c.ws k).b:=by
  have:=(S4.z.c.wb k hk).br;rw[X.z]at this;exact this
 have bq:L<=n/\n<=9223372036854775807:=by
  obtain⟨a',c',e,q1,q2,_⟩:=I;cases e;rw[HL.z]at q1;unfold maxLen at q2;exact⟨q1,by omega⟩
 obtain⟨bZ,b0⟩:=bq;rw[<-HL.z]at I;have aa:(convert 60 9 (.slice (wa.map λx=>x.add lo) (hi-lo) (n-lo))).run prog Z = .ok (.string (zq s)) Z:=by
  rw[<-hs];exact IN (I.sub (by rw[HL.z];omega))
 have ab:∀a,(convert 60 9 (.slice a 0 0)).run prog Z = .ok (.string (zq [])) Z:=λa=>IN (BR.nil _ a 0 (by unfold maxLen;omega))
 have bt:zT (EU k lo false s)=true:=by
  have e1:decide ((k:Int)<8)=true:=Aq (by omega);simp[zT,EM,Ff,ER,zN,EU]
  and_intros<;>first|omega|exact Aq (by omega)
 have bu:=LU (EU k lo false s) rfl;have aY:(EU k lo false s).data.length=hi-lo:=bY;rw[aY]at bu;have aZ:=QG (.slice none 0 0) [] (EU k lo false s) (.slice none 0 0) Z (OB.nil Z) (λh=>absurd h (BA _)) ⟨none,0,rfl,AG _,AL _,λi hi=>absurd hi (BA i)⟩ (AL _) (by rw[aY];omega) (AL _);rw[bt]at aZ;obtain⟨N,hN⟩:=nm ((zA (EU k lo false s)).length);rw[hN]at bu;have D:=zb hN;have b7:=zb hs;have bw:=zb aZ;have w0:Z.cell? ⟨b,9+k*15,none⟩=some (.slice wa L n):=by
  rw[AK k 15,<-X.z];exact S4.z.c.w (j:=0) hk rfl
 have x1:=wu ((hi:Int)-lo) (by omega);have x2:IntKind.i64.wrap ((hi:Int)-lo)=(hi:Int)-lo:=IntWalk.i64_in _ (by omega);have x3:IntKind.i64.wrap ((N:Int)-((hi:Int)-lo))=(N:Int)-((hi:Int)-lo):=IntWalk.i64_in _ (by omega);clear hs hN aZ I w8 w9 bk aq oF aE aF b2 b3 b4 b5 bh bt aY bp;go_upto_region 15 with fail
 go_cut [14] (λhv o=>hv = .int .i64 ((N:Int)-((hi:Int)-lo))/\AA (DW DX Z o))
 case first=>as_aux_lemma =>
  by_cases hc:lo=n
  ·have a0:hi=lo:=by omega
   subst a0;have a1:s=[]:=Ah (by omega);subst a1;subst hc;go_wp2_with (go_at_call 144;refine bw.z.mono ?_;intro e W5 ac;obtain⟨va,vc,rfl,m5⟩:=UV ac D.z;have M5:=zb m5;clear ac m5);all_goals
    go_meet;exact⟨by congr 1;omega,M5⟩
  ·have b8:¬n=lo:=λh=>hc h.symm
   go_wp2_with (go_at_call 144;refine bw.z.mono ?_;intro e W5 ac;obtain⟨va,vc,rfl,m5⟩:=UV ac D.z;have M5:=zb m5;clear ac m5);all_goals
    go_meet;exact⟨rfl,M5⟩
 case rest =>
 obtain⟨rfl,m4⟩:=hcut;obtain⟨W5,b9⟩:=nn wc;subst b9;have S5:=zb (S4.z.mod0 m4.z);have ca:=zb (m4.z.obj (λx=>x) OF.z);obtain⟨cy,a2,bz,l5,D5⟩:∃(t5:Nat->Nat×Nat) (a2 bz:Value) (l5:List (Db×Value)),AA (ES t5 i db d a2 bz l5 W5):=⟨_,_,_,_,S5.z.d⟩;have t:W5.cell? ⟨db,0,none⟩=some a2:=za D5.z.obj rfl;have e2:W5.cell? ⟨db,2,none⟩=some (.int .i64 d.room):=za D5.z.obj rfl;obtain⟨ba,bc,bA,_⟩:=zi D5.z.ob;rw[bA]at t;obtain⟨B,hB⟩:=nm d.b.length;obtain⟨Rm,ar⟩:=nm d.room;have J:AA (Jl c d k lo hi=(Rm:Int)-4-B-((N:Int)-((hi:Int)-lo))):=by
  show _=_;rw[Jl,b7.z,D.z,hB,ar]
 rw[hB]at t bO;rw[ar]at e2 bQ;have HB:=zb hB;have HRm:=zb ar;have y1:IntKind.i64.wrap ((Rm:Int)-4)=(Rm:Int)-4:=IntWalk.i64_in _ (by omega);have y2:IntKind.i64.wrap ((Rm:Int)-4-B)=(Rm:Int)-4-B:=IntWalk.i64_in _ (by omega);have y3:IntKind.i64.wrap ((Rm:Int)-4-B-((N:Int)-((hi:Int)-lo)))=(Rm:Int)-4-B-((N:Int)-((hi:Int)-lo)):=IntWalk.i64_in _ (by omega);clear bA hB ar w0 ab aa x3;go_upto_region 16 with fail
 go_cut [15] (λrv o=>rv = .int .i64 (Jl c d k lo hi)/\AA (DW DX W5 o))
 case first=>as_aux_lemma =>
  go_quiet (fail);go_wp2_with fail;go_meet;exact⟨by rw[J.z],(DW.refl DX W5).drewN _⟩
 case rest =>
 obtain⟨rfl,m5⟩:=hcut;obtain⟨W6,cd⟩:=nn wc;subst cd;have S6:=zb (S5.z.mod0 m5.z);have au:=zb (m5.z.obj (λx=>x) ca.z);obtain⟨z,hz⟩:=nm (Jl c d k lo hi);have HZ:=zb hz;have hzb : -2199023255552<=z/\z<=2199023255552:=by
  have:=J.z;rw[hz]at this;omega
 rw[hz];have M:AA (R=if z<(hi:Int)-lo then(if z<1 then(false,c,{ d with full:=true })else c.bytesAdd d k lo (lo+z.toNat) false)else c.bytesAdd d k lo hi f0):=by
  show _=_;rw[bn.z,CS.bytesR,hz,bU.z,HL.z,ap.z]
 have bB:W.heap.size<=W2.heap.size:=S2.z.m.size;have e4:W6.cell? ⟨db,4,none⟩=some (.bool d.full):=za S6.z.d.obj rfl;have bC:∀j,W6.frozen? ⟨db,j,none⟩=false:=λj=>zf S6.z.d.obj
 have ce:W6.cell? ⟨W2.heap.size,5,none⟩=some (.bool f0):=za au.z rfl;have ci:∀j,W6.frozen? ⟨W2.heap.size,j,none⟩=false:=λj=>zf au.z
 have av:AA (tag W2.heap.size=(0,0)):=zb (S2.z.e.z _ (AG _));clear hz bn m5 t e2 y1 y2 y3 J;go_upto_if 159 with fail
 go_cut [10] (λhv o=>∃(f:Nat) (f2:Bool),hv = .int .u64 f/\lo<=f/\f<=hi/\AA (R=c.bytesAdd d k lo f f2)/\AA (o.heap[W2.heap.size]?=some (.cells (zh (EU k lo f2 []) (.slice none 0 0)) 65 (0,0)))/\AA (DW (λg=>g=W2.heap.size) W6 o))
 case first=>as_aux_lemma =>
  by_cases a3:z<(hi:Int)-lo
  ·by_cases bD:z<1
   ·have C:AA (R=(false,c,{ d with full:=true })):=by
     show _=_;rw[M.z,AN a3,AN bD]
    clear M;go_wp2_with fail;go_ret;rw[C.z];exact S6.z.setFull.post false
   ·have C:AA (R=c.bytesAdd d k lo (lo+z.toNat) false):=by
     show _=_;rw[M.z,AN a3,AH bD]
    have z1:IntKind.u64.wrap z=z:=by rw[IntKind.wrap_u64];omega
    have z2:=wu ((lo:Int)+z) (by omega);have cj:AA ((W6.setCell ⟨W2.heap.size,5,none⟩ (.bool false)).heap[W2.heap.size]?=some (.cells (zh (EU k lo false []) (.slice none 0 0)) 65 (0,0))):=by
     show _=_;rw[zc au.z];rfl
    clear M;go_wp2_with fail;go_meet;exact⟨lo+z.toNat,false,by congr 1;omega,by omega,by omega,C,cj,(DW.refl (λg=>g=W2.heap.size) _).setCell (p:=⟨W2.heap.size,5,none⟩) (.inl rfl) _⟩
  ·have C:AA (R=c.bytesAdd d k lo hi f0):=by
    show _=_;rw[M.z,AH a3]
   clear M;go_wp2_with fail;go_meet;exact⟨hi,f0,rfl,bW,AG _,C,au,DW.refl _ _⟩
 case rest =>
 obtain⟨f,f2,rfl,hl2,hh2,bE,a4,m7⟩:=hcut;obtain⟨W7,ck⟩:=nn wc;subst ck;have S7:=zb (S6.z.free m7.z (λg hg=>by
  have hg:g=W2.heap.size:=hg;rw[hg];exact⟨av.z,bB⟩))
 obtain⟨s2,aw⟩:=nm (((c.ws k).b.drop lo).take (f-lo));have bF:s2.length=f-lo:=by
  rw[<-aw,AS,Ad,HL.z];omega
 have I:BR W7 (.slice wa L n) (c.ws k).b:=by
  have:=(S7.z.c.wb k hk).br;rw[X.z]at this;exact this
 rw[<-HL.z]at I;have aa:(convert 60 9 (.slice (wa.map λx=>x.add lo) (f-lo) (n-lo))).run prog W7 = .ok (.string (zq s2)) W7:=by
  rw[<-aw];exact IN (I.sub (by rw[HL.z];omega))
 have ab:∀a,(convert 60 9 (.slice a 0 0)).run prog W7 = .ok (.string (zq [])) W7:=λa=>IN (BR.nil _ a 0 (by unfold maxLen;omega))
 have w0:W7.cell? ⟨b,9+k*15,none⟩=some (.slice wa L n):=by
  rw[AK k 15,<-X.z];exact S7.z.c.w (j:=0) hk rfl
 have v8:W7.cell? ⟨W2.heap.size,8,none⟩=some (.string ⟨#[]⟩):=za a4.z rfl;have co:∀j,W7.frozen? ⟨W2.heap.size,j,none⟩=false:=λj=>zf a4.z
 obtain⟨W8,ax⟩:=nm (W7.setCell ⟨W2.heap.size,8,none⟩ (.string (zq s2)));have a5:AA (zj W8 W2.heap.size (EU k lo f2 s2) (.slice none 0 0)):=by
  show _=_;rw[<-ax,zc a4.z];rfl
 have S8:=zb (S7.z.free (show DW (λg=>g=W2.heap.size) W7 W8 by rw[<-ax];exact(DW.refl (λg=>g=W2.heap.size) _).setCell (p:=⟨W2.heap.size,8,none⟩) (.inl rfl) _) (λg hg=>by
  have hg:g=W2.heap.size:=hg;rw[hg];exact⟨av.z,bB⟩))
 have cp:=zb aw;have bG:=zb ax;clear aw I ax ce ci e4 bC M;go_upto_region 23 with fail
 go_cut [] (λo=>o=W8)
 case first=>as_aux_lemma =>
  by_cases hc:lo=n
  ·have a0:f=lo:=by omega
   subst a0;have a1:s2=[]:=Ah (by omega);subst a1;subst hc;go_wp2_with fail;all_goals
    go_meet;exact bG.z
  ·have b8:¬n=lo:=λh=>hc h.symm
   go_wp2_with fail;all_goals
    go_meet;exact bG.z
 case rest =>
 have S:=hcut.symm;subst S;clear ab aa w0 v8 co hcut;have cq:(EU k lo f2 s2).Fits:=TL hk (by omega) (by rw[bF];unfold zB;omega);have aG:=MK S8.z.d S8.z.ok S8.z.p (EU k lo f2 s2) cq (by rw[HB.z];omega) bP;obtain⟨dn,a6⟩:=nm (d.add (EU k lo f2 s2));have ay:=zb a6;have az:AA (R=c.bytesGot d k lo f f2 dn):=by
  show _=_;rw[bE.z,fo,cp.z,a6]
 have aH:=zb aG;obtain⟨y0,y1,y2,y3,y4,y5,y6,y7,y8,y9⟩:=a5.z.cells;have cv:W2.heap.size<W8.heap.size:=(AI.1 a5.z).1;clear aG a6 bE;cases dn with
 | none=>as_aux_lemma =>
  go_wp2_with fail;refine aH.z.mono ?_;intro e W9 hd;obtain⟨rfl,ad,bH,bI,l9,u,_,_⟩:=S8.z.add2 hd;rw[ay.z]at u;rw[ay.z];clear hd;have e4:W9.cell? ⟨db,4,none⟩=some (.bool d.full):=za u.d.obj rfl;have bC:∀j,W9.frozen? ⟨db,j,none⟩=false:=λj=>zf u.d.obj
  have u:=zb u;have C:AA (R=(false,c,{ d with full:=true })):=az.z;clear az y0 y1 y2 y3 y4 y5 y6 y7 y8 y9;go_wp2_with fail;go_ret;rw[C.z];exact u.z.setFull.post false
 | some d1 =>
  go_wp2_with fail;refine aH.z.mono ?_;intro e W9 hd;obtain⟨rfl,ad,bH,bI,l9,u,bJ,bK⟩:=S8.z.add2 hd;rw[ay.z]at u;rw[ay.z];have cz:=S8.z.p;have aA:zj W9 W2.heap.size (EU k lo f2 s2) (.slice none 0 0):=bK.obj (λ⟨r,hr,hx⟩=>by
   rw[av.z]at hx;simp at hx;omega) a5.z
  have aB:ad W2.heap.size=(0,0):=by rw[bJ _ cv,av.z]
  have C:AA (R=(true,{ c with ws:=upd c.ws k { c.ws k with sent:=if lo<f then(c.ws k).sent.add lo (f-1)else(c.ws k).sent,ending:=(c.ws k).ending||f2,high:=max (c.ws k).high f } },d1)):=az.z;clear hd az y0 y1 y2 y3 y4 y5 y6 y7 y8 y9 bK bJ;have bL:∀(tx:Nat->Nat×Nat) (Vx:CV) (WX:World) (sn:Dh),sn=(if lo<f then(c.ws k).sent.add lo (f-1)else(c.ws k).sent)->zL tag i b db W { c with ws:=upd c.ws k { c.ws k with sent:=sn } } d1 tx Vx bH bI l9 WX->GA tag i b db W R.2.1 R.2.2 R.1 (.returned (.bool true)) ((WX.setCell ⟨b,9+k*15+9,none⟩ (.bool ((c.ws k).ending||f2))).setCell ⟨b,9+k*15+7,none⟩ (.int .u64 ((max (c.ws k).high f:Nat):Int))):=λtx Vx WX sn cw SX=>by
   have G:=SX.sentHigh hk ((c.ws k).ending||f2) (max (c.ws k).high f);simp only[Jn,ze]at G;rw[C.z];rw[AK 15 k]at G;rw[cw]at G;exact G.post true
  have aI:=zb bL;have u:=zb u;have aA:=zb aA;clear bL;obtain⟨h7,bM⟩:=nm ((c.ws k).high);have aC:=zb bM;clear bM;by_cases aD:lo<f
  ·as_aux_lemma =>
   have ka:=Jo (c.ws k).sent b (9+15*k+1) lo (f-1) (V.ws k) W9 (u.z.c.sentAt hk OK.z.rl) OK.z.wf (by omega) (by omega) (by have:=OK.z.fl;unfold zB at this;omega) (λx=>zg.apart u.z.c.tb (u.z.c.tws k hk b x) (by omega) rfl) OK.z.most.1 (by have:=OK.z.most.2;omega);rw[AK 15 k]at ka;have KA:=zb ka;have d1:(lo:Int)<f:=by omega
   have y1:IntKind.u64.wrap ((f:Int)-1)=((f-1:Nat):Int):=by rw[IntKind.wrap_u64];omega
   have cx:=zb aD;clear ka aD;go_wp2_with fail;refine KA.z.mono ?_;intro e T ha;have a7:=ha;rw[AK k 15]at a7;obtain⟨rfl,tx,Vx,SX⟩:=u.z.sentAdd hk a7 (G8 _ _ _);obtain⟨v',_,_,_,aJ,_⟩:=ha;have bN:¬(W2.heap.size=b\/(V.ws k).ownBlock=some W2.heap.size):=by
    rintro(x|x)
    ·rw[x,u.z.c.tb]at aB;simp at aB
    ·rw[u.z.c.tws k hk _ x]at aB;simp at aB
   have aK:zj T W2.heap.size (EU k lo f2 s2) (.slice none 0 0):=aJ.obj bN aA.z;have w9:T.cell? ⟨b,9+k*15+9,none⟩=some (.bool eg):=by
    rw[AK k 15,<-am.z];exact SX.c.w (j:=9) hk (by simp only[ze];rfl)
   have w7:T.cell? ⟨b,9+k*15+7,none⟩=some (.int .u64 h7):=by
    rw[AK k 15,<-aC.z];exact SX.c.w (j:=7) hk (by simp only[ze];rfl)
   have wf:∀p,T.frozen? ⟨b,p,none⟩=false:=λp=>SX.c.fz p
   have v5:T.cell? ⟨W2.heap.size,5,none⟩=some (.bool f2):=aK.cells.2.2.2.2.2.1;have G:=aI.z tx Vx T _ (by rw[AN cx.z]) SX;rw[am.z,aC.z]at G;clear a7 SX aJ aK bN;rcases CD h7 f with hx|hx|hx;all_goals
    first
     | (have O:max h7 f=f:=by omega)
     | (have O:max h7 f=h7:=by omega)
    rw[O]at G;have HG:=zb G;clear G O;cases eg;all_goals
     go_wp2_with fail;all_goals first
      | (exfalso;omega)
      | (go_ret;exact HG.z)
      | (go_ret;subst hx;exact HG.z)
  ·as_aux_lemma =>
   have d1:¬(lo:Int)<f:=by omega
   have w9:W9.cell? ⟨b,9+k*15+9,none⟩=some (.bool eg):=by
    rw[AK k 15,<-am.z];exact u.z.c.w (j:=9) hk rfl
   have w7:W9.cell? ⟨b,9+k*15+7,none⟩=some (.int .u64 h7):=by
    rw[AK k 15,<-aC.z];exact u.z.c.w (j:=7) hk rfl
   have wf:∀p,W9.frozen? ⟨b,p,none⟩=false:=λp=>u.z.c.fz p
   have v5:W9.cell? ⟨W2.heap.size,5,none⟩=some (.bool f2):=aA.z.cells.2.2.2.2.2.1;have G:=aI.z ad V W9 _ (by rw[AH aD]) (by
    have:=u.z;have e:{ c with ws:=upd c.ws k { c.ws k with sent:=(c.ws k).sent } }=c:=by
     show{ c with ws:=upd c.ws k (c.ws k) }=c;rw[Fj]
    rw[e];exact this)
   rw[am.z,aC.z]at G;clear aD;rcases CD h7 f with hx|hx|hx;all_goals
    first
     | (have O:max h7 f=f:=by omega)
     | (have O:max h7 f=h7:=by omega)
    rw[O]at G;have HG:=zb G;clear G O;cases eg;all_goals
     go_wp2_with fail;all_goals first
      | (exfalso;omega)
      | (go_ret;exact HG.z)
      | (go_ret;subst hx;exact HG.z)
def Lc(p:Nat->Bool)(n:Nat):Eo n p (Em p n):=by
 have a:=List.findIdx_le_length (xs:=List.range n) (p:=p);rw[CF]at a;refine⟨a,λh=>?_,λh=>?_⟩
 ·have:=List.not_of_lt_findIdx (p:=p) (xs:=List.range n) (i:=Em p n-1) (by unfold Em at h ⊢;omega);simpa using this
 ·have:=List.findIdx_getElem (xs:=List.range n) (p:=p) (w:=by rw[CF];exact h);simpa [Em]using this
structure Dh.Ok(s:Dh):Prop where
 wf:WF s.rs
 hi:∀j,j<s.rs.length->DY s.rs j<=zB
 fl:s.fl<=zB
 most:1<=s.most/\s.most<=1099511627776
 rl:s.rs.length<=s.most
def P3{m1 a B:Nat}(h1:m1<=a)(h2:a<=rs.length)(b:∀j,j<rs.length->DY rs j<=B)(hb:hi<=B):∀i,i<(EB rs m hi m1 a).length->DY (EB rs m hi m1 a) i<=B:=by
 intro i hl;rw[OR rs m hi m1 a h1 h2]at hl;rcases CD i m1 with hc|hc|hc
 ·rw[(LZ rs m hi m1 a i h1 h2 hc).2];exact b i (by omega)
 ·subst hc;rw[(P4 rs m hi i a h1 h2).2];unfold EO;split
  ·have:=b (a-1) (by omega);exact Nat.max_le.2 ⟨hb,this⟩
  ·exact hb
 ·rw[(I6 rs m hi m1 a i h1 h2 hc).2];exact b _ (by omega)
def VO(h:WF rs)(k:Nat):WF (rs.drop k):=by
 refine⟨λi hi=>?_,λi j hij hj=>?_⟩
 ·rw[(G9 rs k i).1,(G9 rs k i).2];exact h.1 _ (by rw[Ad]at hi;omega)
 ·rw[(G9 rs k i).2,(G9 rs k j).1];exact h.2 _ _ (by omega) (by rw[Ad]at hj;omega)
def Dh.Ok.add{s:Dh}(h:s.Ok)(lo:Nat)(i:hi<=zB):(s.add lo hi).Ok:=by
 have hb:hi<18446744073709551616:=by unfold zB at i;omega
 unfold Dh.add;split
 ·exact h
 ·rename_i hin;have s1:=Lc (D6 s.rs (max lo s.fl)) s.rs.length;have s2:=Lc (D9 s.rs hi) s.rs.length;have d:=Lb h.wf (by omega) s1 s2;have e:=PQ h.wf (by omega) hb s1 s2;have hl:=OR s.rs (max lo s.fl) hi _ _ d s2.1;have f:=P3 (m:=max lo s.fl) d s2.1 h.hi i;have g:=h.rl;have k:=h.most;have hs2:=s2.1;have hL:(EB s.rs (max lo s.fl) hi (Em (D6 s.rs (max lo s.fl)) s.rs.length) (Em (D9 s.rs hi) s.rs.length)).length<=s.rs.length+1:=by
   rw[hl];omega
  split
  ·rename_i hgt;refine⟨VO e 1,λj hj=>?_,?_,k,?_⟩
   ·rw[(G9 _ 1 j).2];exact f _ (by rw[Ad]at hj;omega)
   ·have a:=e.2 0 1 (by omega) (by omega);have b:=e.1 1 (by omega);have c:=f 1 (by omega);show _+1<=zB;omega
   ·rw[Ad];exact AO (Nat.sub_le_of_le_add hL) g
  ·rename_i hgt;exact⟨e,f,h.fl,k,DD hgt⟩
structure WS.Ok(x:WS):Prop where
 sent:x.sent.Ok
 came:x.came.Ok
 cut:x.keep<=x.final/\x.final<=zB/\x.keep<=zB
 len:x.b.length<=1048576
 credit:x.credit<=zB
 high:x.high<=x.b.length
structure CS.Ok(c:CS):Prop where
 mtu:c.mtu<=65536
 win:c.window<=4096
 tot:c.total<=4096
 grant:c.grant<=zB
 credit:c.credit<=zB
 ws:∀k,k<8->(c.ws k).Ok
 rs:∀k,k<8->((c.rs k).used<=zB/\(c.rs k).grant<=zB)/\((c.rs k).hopes=true->(c.rs k).used<=2305843009213693951)
 waits:∀f∈c.waits,f.Fits
def CS.Ok.ctl(h:c.Ok):JR c :=
 ⟨h.win,h.tot,h.grant,λk hk=>(h.rs k hk).1,λk hk q=>by have:=(h.rs k hk).2 q;have:=h.win;unfold zB;omega,λk hk=>⟨(h.ws k hk).cut.1,(h.ws k hk).cut.2.1⟩⟩
theorem dk{f:Nat->WS}{B:Nat}:∀n,(∀k,k<n->(f k).high<=B)->zG f n<=n*B:=by
 intro n
 induction n with
 | zero=>intro _;simp[zG]
 | succ n ih =>
  intro h;have h1:=ih (λk hk=>h k (by omega));have h2:=h n (by omega);have:zG f (n+1)=zG f n+(f n).high:=rfl;rw[this,DO];omega
def CS.Ok.by_(h:c.Ok)(hk:k<8):O6 c k:=by
 have w:=h.ws k hk;have hi:=w.high;have hl:=w.len;refine⟨hk,w.cut.2.2,hl,w.credit,by unfold zB;omega,h.credit,?_,w.sent.wf,λj hj=>by have:=w.sent.hi j hj;unfold zB at this;omega,w.sent.fl,w.sent.most,AO w.sent.rl w.sent.most.2⟩;have:=dk (f:=c.ws) (B:=1048576) 8 (λk hk=>by have a:=(h.ws k hk).high;have b:=(h.ws k hk).len;omega);show zG c.ws 8<=zB;unfold zB;omega
def CS.put(c:CS)(d:Dd):Nat->Bool×CS×Dd
 | 0=>((c.control d).isSome,((c.control d).getD (c,d)).1,((c.control d).getD (c,d)).2)
 | 1=>((c.datagrams d).isSome,((c.datagrams d).getD (c,d)).1,((c.datagrams d).getD (c,d)).2)
 | k+2=>c.bytes d k
structure GJ(c:CS)(d:Dd)(r:Bool)(c':CS)(d':Dd):Prop where
 ok:c'.Ok
 yes:r=true->∃f,f.Fits/\f.kind≠2/\d.add f=some d'
 no:r=false->c'=c/\(d'=d\/d'={ d with full:=true })
 next:c'.next=c.next/\c'.now=c.now/\c'.closed=c.closed/\c'.flight=c.flight/\c'.mtu=c.mtu/\c'.answer=c.answer/\c'.got=c.got
theorem VN(h:c.Ok):∀n k t,n+k=8->t<=zB->(ctlR c d n k t).2<=zB/\∀x,(ctlR c d n k t).1=some x->GJ c d true x.1 x.2:=by
 intro n
 induction n with
 | zero=>intro k t _ g;exact⟨g,λx f=>by cases f⟩
 | succ n ih =>
  intro k t hk g;have a:k<8:=by omega
  have i:min (t+(c.rs k).used) zB<=zB:=Nat.min_le_right _ _;have b:=ih (k+1) (min (t+(c.rs k).used) zB) (by omega) i;unfold ctlR;split
  ·rename_i hcond;simp only[AZ]at hcond;split
   ·rename_i d' hd;refine⟨i,λx f=>?_⟩;cases f;have g1:=(h.rs k a).2 hcond.2;have g0:=(h.rs k a).1.1;have g2:=(h.rs k a).1.2;have hw:=h.win;have hg:max (c.rs k).grant ((c.rs k).used+c.window)<=zB:=by unfold zB at g2 ⊢;omega
    refine⟨⟨h.mtu,h.win,h.tot,h.grant,h.credit,h.ws,λj hj=>?_,h.waits⟩,λ_=>⟨_,O8 a hg,by simp[Gu],hd⟩,(by intro x;cases x),⟨rfl,rfl,rfl,rfl,rfl,rfl,rfl⟩⟩;by_cases e:j=k
    ·subst e;show(((upd c.rs j _) j).used<=_/\((upd c.rs j _) j).grant<=_)/\(((upd c.rs j _) j).hopes=true->((upd c.rs j _) j).used<=_);rw[ze];exact⟨⟨g0,hg⟩,λ_=>g1⟩
    ·show(((upd c.rs k _) j).used<=_/\((upd c.rs k _) j).grant<=_)/\(((upd c.rs k _) j).hopes=true->((upd c.rs k _) j).used<=_);rw[zd _ _ e];exact h.rs j hj
   ·exact b
  ·exact b
theorem VM(h:c.Ok):∀n k,n+k=8->∀x,Eg c d n k=some x->GJ c d true x.1 x.2:=by
 intro n
 induction n with
 | zero=>intro k _ x a;cases a
 | succ n ih =>
  intro k hk x a;have b:k<8:=by omega
  have f:=ih (k+1) (by omega);unfold Eg at a;split at a
  ·split at a
   ·rename_i d' hd;cases a;have w:=h.ws k b;refine⟨⟨h.mtu,h.win,h.tot,h.grant,h.credit,λj hj=>?_,h.rs,h.waits⟩,λ_=>⟨_,Q9 b w.cut.2.1 w.cut.1,by simp[Ht],hd⟩,(by intro x;cases x),⟨rfl,rfl,rfl,rfl,rfl,rfl,rfl⟩⟩;by_cases e:j=k
    ·subst e;show(upd c.ws j _ j).Ok;rw[ze];exact⟨w.sent,w.came,w.cut,w.len,w.credit,w.high⟩
    ·show(upd c.ws k _ j).Ok;rw[zd _ _ e];exact h.ws j hj
   ·exact f x a
  ·exact f x a
def dj(h:c.Ok):∀x,c.control d=some x->GJ c d true x.1 x.2:=by
 intro x a;have b:=VN (d:=d) h 8 0 c.total rfl (by have:=h.tot;unfold zB;omega);unfold CS.control at a;split at a
 ·rename_i y hy;cases a;exact b.2 _ hy
 ·unfold JW at a;have e:=VM (d:=d) h 8 0 rfl;split at a
  ·split at a
   ·rename_i d' hd;cases a;have hg:=Nat.max_le.2 ⟨b.1,h.grant⟩;exact⟨⟨h.mtu,h.win,h.tot,hg,h.credit,h.ws,h.rs,h.waits⟩,λ_=>⟨_,RE hg,by simp[Gd],hd⟩,(by intro x;cases x),⟨rfl,rfl,rfl,rfl,rfl,rfl,rfl⟩⟩
   ·exact e x a
  ·exact e x a
def Tu{fin:Bool}(h:c.Ok)(hk:k<8)(hlo:lo<=(c.ws k).b.length)(hh:hi<=(c.ws k).b.length):GJ c d (c.bytesAdd d k lo hi fin).1 (c.bytesAdd d k lo hi fin).2.1 (c.bytesAdd d k lo hi fin).2.2:=by
 have w:=h.ws k hk;have hl:=w.len;unfold CS.bytesAdd;split
 ·exact⟨h,(by intro x;cases x),λ_=>⟨rfl,.inr rfl⟩,⟨rfl,rfl,rfl,rfl,rfl,rfl,rfl⟩⟩
 ·rename_i d' hd;refine⟨⟨h.mtu,h.win,h.tot,h.grant,h.credit,λj hj=>?_,h.rs,h.waits⟩,λ_=>⟨_,TL hk ?_ ?_,by simp[EU],hd⟩,(by intro x;cases x),⟨rfl,rfl,rfl,rfl,rfl,rfl,rfl⟩⟩
  ·by_cases e:j=k
   ·subst e;show(upd c.ws j _ j).Ok;rw[ze];refine⟨?_,w.came,w.cut,w.len,w.credit,Nat.max_le.2 ⟨w.high,hh⟩⟩;split
    ·exact w.sent.add lo (by unfold zB;omega)
    ·exact w.sent
   ·show(upd c.ws k _ j).Ok;rw[zd _ _ e];exact h.ws j hj
  ·rw[AS,Ad];omega
  ·rw[AS,Ad];unfold zB;omega
def TJ(h:c.Ok)(hk:k<8)(a:lo<=(c.ws k).b.length)(hh:hi<=(c.ws k).b.length):GJ c d (c.bytesR d k lo hi).1 (c.bytesR d k lo hi).2.1 (c.bytesR d k lo hi).2.2:=by
 unfold CS.bytesR;split
 ·rename_i hr;split
  ·exact⟨h,(by intro x;cases x),λ_=>⟨rfl,.inr rfl⟩,⟨rfl,rfl,rfl,rfl,rfl,rfl,rfl⟩⟩
  ·exact Tu h hk a (by omega)
 ·exact Tu h hk a hh
def XL(h:c.Ok)(hk:k<8):GJ c d (c.bytes d k).1 (c.bytes d k).2.1 (c.bytes d k).2.2:=by
 have hle:=LP (c.ws k).sent.rs 0 (c.endOf k);have hen:=AO (PP c k) (AO (Bw _ _) (Bw _ _));have no:GJ c d false c d:=⟨h,(by intro x;cases x),λ_=>⟨rfl,.inl rfl⟩,⟨rfl,rfl,rfl,rfl,rfl,rfl,rfl⟩⟩;unfold CS.bytes;split
 ·exact no
 ·split
  ·split
   ·exact no
   ·exact TJ h hk (AG _) (AG _)
  ·exact TJ h hk (by omega) (by omega)
def YS(h:f.Fits)(hr:f.kind=2):False:=by
 have h1:=h.sound;have h2:=h.rn
 revert h1
 simp[zT,hr,h2,zN];intro _ _;rfl
variable{q:Nat}
theorem Lr(h:c.Ok)(hq:q<10):GJ c d (c.put d q).1 (c.put d q).2.1 (c.put d q).2.2:=by
 have no:GJ c d false c d:=⟨h,(by intro x;cases x),λ_=>⟨rfl,.inl rfl⟩,⟨rfl,rfl,rfl,rfl,rfl,rfl,rfl⟩⟩
 match q,hq with
 | 0,_ =>
  show GJ c d (c.control d).isSome ((c.control d).getD (c,d)).1 ((c.control d).getD (c,d)).2;cases hc:c.control d with
  | none=>exact no
  | some x=>exact dj h x hc
 | 1,_ =>
  show GJ c d (c.datagrams d).isSome ((c.datagrams d).getD (c,d)).1 ((c.datagrams d).getD (c,d)).2;unfold CS.datagrams;cases hw:c.waits with
  | nil=>exact no
  | cons f l =>
   cases hd:d.add f with
   | none=>simp only[hd,Option.map_none];exact no
   | some d' =>
    simp only[hd,Ay];have hf:=h.waits f (by rw[hw];exact Ae);exact⟨⟨h.mtu,h.win,h.tot,h.grant,h.credit,h.ws,h.rs,λg hg=>h.waits g (by rw[hw];exact Aj _ hg)⟩,λ_=>⟨f,hf,λe=>YS hf e,hd⟩,(by intro x;cases x),⟨rfl,rfl,rfl,rfl,rfl,rfl,rfl⟩⟩
 | k+2,hk =>
  exact XL h (show k<8 by omega)
structure Dd.Ok(d:Dd):Prop where
 b:d.b.length<=65536
 fs:d.fs.length<=d.b.length
 room:d.room<=65536
def Tj(f:Db):1<=(zA f).length:=by
 unfold zA I1 I0 Iz I9 IF Gg GC;repeat' split
 all_goals simp
variable{d':Dd}
def Dd.add_some(h:d.add f=some d'):d'.b=d.b++zA f/\d'.fs=d.fs++[f]/\d'.room=d.room/\d'.full=d.full/\d'.wants=(d.wants||f.kind != 2)/\d'.b.length+4<=d.room:=by
 unfold Dd.add at h;split at h
 ·cases h
 ·rename_i hn;cases h;exact⟨rfl,rfl,rfl,rfl,rfl,by simp only;omega⟩
variable{c':CS}
theorem GJ.drf{r:Bool}(h:GJ c d r c' d')(hd:d.Ok):d'.Ok/\d'.room=d.room/\(r=true->d.b.length<d'.b.length/\d'.b.length+4<=d.room)/\d.b.length<=d'.b.length:=by
 cases r with
 | true =>
  obtain⟨f,hf,_,ha⟩:=h.yes rfl;obtain⟨h1,h2,h3,_,_,h4⟩:=Dd.add_some ha;have hb:=Tj f;have hl:d'.b.length=d.b.length+(zA f).length:=by rw[h1,AF]
  have hr:=hd.room;have hs:=hd.fs;exact⟨⟨by omega,by rw[h2,AF,Aa];omega,by omega⟩,h3,λ_=>⟨by omega,h4⟩,by omega⟩
 | false =>
  obtain⟨_,e|e⟩:=h.no rfl
  ·rw[e];exact⟨hd,rfl,(by intro x;cases x),AG _⟩
  ·rw[e];exact⟨⟨hd.b,hd.fs,hd.room⟩,rfl,(by intro x;cases x),AG _⟩
def CS.reps(q:Nat):Nat->CS->Dd->CS×Dd
 | 0,c,d=>(c,d)
 | n+1,c,d=>if (c.put d q).1=true then CS.reps q n (c.put d q).2.1 (c.put d q).2.2 else((c.put d q).2.1,(c.put d q).2.2)
def CS.fillN:Nat->CS->Dd->CS×Dd
 | 0,c,d=>(c,d)
 | n+1,c,d=>CS.fillN n (CS.reps (9-n) (d.room+1) c d).1 (CS.reps (9-n) (d.room+1) c d).2
def CS.fill(c:CS)(d:Dd):CS×Dd:=CS.fillN 10 c d
def QS(l:List Nat):List Nat:=(GK (l.length-1) (FH l 0 (l.length-1)) 0 (l.length-1)).take (l.length-1)
def GH:Nat->List Nat
 | 0=>List.range 10
 | n+1=>QS (GH n)
def T4:∀n,n<=10->(GH n).length=10-n:=by decide
def YR:∀n,n<10->GK ((GH n).length-1) (FH (GH n) 0 ((GH n).length-1)) 0 ((GH n).length-1)=GH (n+1)++[n]:=by decide
def FB(tag:Nat->Nat×Nat)(t:Nat×Nat)(W:World)(v:Value)(l:zC):Prop:=RR W v l/\∀g,Value.blk v=some g->tag g=t
def FB.mod{t:Nat×Nat}{l:zC}(h:FB tag t W v l)(m:DW S W W')(hS:∀g,S g->tag g≠t)(ht:∀g,tag g=t->tag' g=t):FB tag' t W' v l :=
 ⟨h.1.mod m (GE λg hg x=>hS g x (h.2 g hg)),λg hg=>ht g (h.2 g hg)⟩
def FB.nil(tag:Nat->Nat×Nat)(t:Nat×Nat)(W:World):FB tag t W (.slice none 0 0) [] :=
 ⟨⟨none,0,rfl,AG _,AL _,λi hi=>absurd hi (BA i)⟩,λg hg=>by simp[Value.blk]at hg⟩
def CS.acks(c:CS):zC×CS:=if c.answer then(c.got.rs.reverse,{ c with answer:=false })else([],c)
def XK(tag:Nat->Nat×Nat)(i b:Nat)(W:World)(l:zC)(c':CS)(e:Ending)(W':World):Prop :=
 ∃v tag' V',e = .returned v/\FB tag' (i,5) W' v l/\zg tag' i b c' V' W'/\Dj i tag tag' W W'/\DW (Dp i tag) W W'
variable{e g sz:Nat}
def O5{n:Nat}(h:w.ownsRow 0 e sz v n xs)(hg:Value.blk v=some g):v.ownBlock=some g:=by
 rcases h.2 with⟨rfl,_⟩|⟨g',cap,cur,rfl,_⟩
 ·simp[Value.blk]at hg
 ·simpa [Value.blk,Value.ownBlock]using hg
theorem XJ(h:zg tag i b c V W)(E:Dx i tag W)(hg:c.got.Ok):Calls prog 82 #[.pointer (some ⟨b,0,none⟩)] W (XK tag i b W c.acks.1 c.acks.2):=by
 have n:=h.hd (j:=8) rfl;have c7:=h.hd (j:=7) rfl;have HH:=zb h;have o:=zb E;have HG:=zb hg;cases ha:c.answer with
 | false =>
  rw[ha]at n;have a:c.acks=([],c):=by simp[CS.acks,ha]
  rw[a];clear h E hg a ha;go_enter func82,ntmps82;go_wp2_with fail;go_ret;exact⟨_,tag,V,rfl,FB.nil _ _ _,HH.z,Dj.same o.z.ok (DW.refl DX _),DW.refl _ _⟩
 | true =>
  rw[ha]at n;have a:c.acks=(c.got.rs.reverse,{ c with answer:=false }):=by simp[CS.acks,ha]
  rw[a];have p:V.g≠b:=λe=>by
   have s:=h.tg;have t:=h.tb;rw[e,t]at s;simp at s
  obtain⟨W1,d⟩:=nm (W.setCell ⟨b,8,none⟩ (.bool false));have h1:zg tag i b { c with answer:=false } V W1:=by
   rw[<-d];exact h.store 8 (.bool false) (Ju c { c with answer:=false } V V (j:=8) (.bool false) (by decide) rfl rfl rfl rfl) ⟨rfl,λ_ _=>⟨rfl,rfl,rfl⟩,λ_ _=>⟨rfl,rfl⟩,rfl,rfl,rfl,rfl⟩
  have m1:DW (λg=>g=b) W W1:=by rw[<-d];exact(DW.refl (λg=>g=b) _).setCell (.inl rfl) _
  have f:DW (Dp i tag) W W1:=m1.mono (λg hg=>.inl (EK (r:=1) (by rw[show g=b from hg];exact h.tb) (by decide)));have D:=λW2 (m:DW DX W1 W2) (F:Nat) (u:W2.cell? ⟨F,0,none⟩=some (.pointer (some ⟨V.g,0,none⟩)))=>g9 c.got.rs c.got.fl c.got.most V.g F V.gv W2 (h1.mod0 m).got (λj w=>by have:=hg.wf.1 j w;omega) u
  have G:=dK V.g W1;have c71:=h1.hd (j:=7) rfl;have fz:=h.fz 8;have H1:=zb h1;have M1:=zb m1;have y:=zb f;have KC:=zb D;have KD:=zb G;clear h E hg a ha h1 m1 f D G p;go_enter func82,ntmps82;go_upto_region 4 with fail;clear d n c7;go_wp2_with (first|(go_at_call 141;refine KD.z.mono ?_;rintro e w2 ⟨rfl,rfl⟩)|(go_at_call 143;refine(KC.z _ ((DW.refl DX W1).alloc _) _ (za (heap_alloc_new W1 _) rfl)).mono ?_;rintro e k ⟨v,rfl,z,hn,hm⟩));go_ret;have H:=((DW.refl DX W1).alloc (.cells #[.pointer (some ⟨V.g,0,none⟩)] 114)).trans hm;have A:=zF z;have hsz:=M1.z.size;have I:=y.z.trans (H.mono (λ_ x=>x.elim));have l:∀g,(tag g).1=i->retag tag W k (i,5) g=tag g:=λg hg=>zz (by
   by_cases q:g<W.heap.size
   ·exact q
   ·have:=o.z.ok g (by omega);rw[this]at hg;have:=o.z.pos;have hg:(0:Nat)=i:=hg;omega)
  refine⟨v,retag tag W k (i,5),V,rfl,⟨?_,λg hg=>?_⟩,H1.z.mod H (λ_ x=>x.elim) l,⟨λg hg=>zz hg,λg hg=>?_,λg hg=>?_⟩,I⟩
  ·have B:c.got.rs.reverse.length=c.got.rs.length:=by simp
   have C:k.ownsRow 0 214 2 v c.got.rs.reverse.length (zo c.got.rs.reverse):=by rw[B];exact z
   exact dM (rs:=c.got.rs) C (λj w=>by have:=HG.z.wf.1 j w;omega) (λx a=>List.mem_reverse.1 a)
  ·have hb:=O5 z hg;have s:=hn g hb;have t:=A g hb;have a3:(W1.alloc (.cells #[.pointer (some ⟨V.g,0,none⟩)] 114)).heap.size=W1.heap.size+1:=by simp
   exact Fr (by omega) t
  ·by_cases q:g<k.heap.size
   ·exact .inl (by rw[Fr hg q])
   ·exact .inr (by simp only[retag,show ¬g<W.heap.size by omega,q,AH,As])
  ·have:=I.size;simp only[retag,show ¬g<W.heap.size by omega,show ¬g<k.heap.size by omega,AH,As]
def ackF(rs:zC):Db:=⟨2,0,0,0,0,false,0,0,[],rs⟩
def Ew(d:Dd)(l:zC):Nat->Nat
 | 0=>0
 | n+1=>if 1<n+1/\d.room<(d.b++zA (ackF (l.take (n+1)))).length+4 then Ew d l n else n+1
def GX(d:Dd)(l:zC):Dd×zC:=((d.add (ackF (l.take (Ew d l l.length)))).getD d,l.drop (Ew d l l.length))
theorem RZ(d:Dd)(l:zC):∀n,Ew d l n<=n
 | 0=>AG _
 | n+1=>by
  unfold Ew;split
  ·exact AO (RZ d l n) (Bz n)
  ·exact AG _
theorem Pn(d:Dd)(l:zC):∀n,1<=n->1<=Ew d l n
 | 0,h=>h
 | n+1,_=>by
  unfold Ew;split
  ·rename_i h;exact Pn d l n (by omega)
  ·omega
def Qg(l:zC):Prop:=∀n,1<=n->n<=l.length->zT (ackF (l.take n))=true
def PN(l:zC):(zA (ackF l)).length<=64+16*l.length:=by
 have e:zA (ackF l)=GC (ackF l):=rfl;have w1:=zu (DY l 0);have w2:=zu (l.length-1);have w3:=zu (DY l 0-Da l 0);have w4:=QE l (l.length-1);have e2:(ackF l).rngs=l:=rfl;rw[e];unfold GC;rw[e2];simp only[AF,AQ,AX];omega
variable{a:Option Addr}{cap:Nat}
def O0{n:Nat}{l:zC}(h:RR w (.slice a l.length cap) l)(hn:n<=l.length)(c2:Nat)(h1:n<=c2)(h2:c2<=maxLen):RR w (.slice a n c2) (l.take n):=by
 obtain⟨a',b,e,_,_,h3⟩:=h;cases e;have hl:(l.take n).length=n:=by rw[AS];omega
 refine⟨a,c2,by rw[hl],by omega,h2,λi hi=>?_⟩;obtain⟨g,o,e,x1,x2,x3⟩:=h3 i (by omega);have c:=MB l n i (by omega);rw[c.1,c.2];exact⟨g,o,e,x1,x2,x3⟩
variable{o:Nat}
def Q6{n:Nat}{l:zC}(h:RR w (.slice (some ⟨g,o,none⟩) l.length cap) l)(hn:n<=l.length):RR w (.slice (some ⟨g,o+n*2,none⟩) (l.length-n) (cap-n)) (l.drop n):=by
 obtain⟨a',a,e,h1,h2,h3⟩:=h;cases e;refine⟨_,cap-n,by rw[Ad],by rw[Ad];omega,by omega,λi hi=>?_⟩;rw[Ad]at hi;obtain⟨g',o',e,x1,x2,x3⟩:=h3 (n+i) (by omega);cases e;have b:=G9 l n i;rw[b.1,b.2];refine⟨g,o+n*2,rfl,?_,?_,x3⟩
 ·rw[show o+n*2+i*2=o+(n+i)*2 by omega];exact x1
 ·rw[show o+n*2+i*2+1=o+(n+i)*2+1 by omega];exact x2
def Q5{n:Nat}{l:zC}(hn:l.length-n=0):RR w (.slice a (l.length-n) 0) (l.drop n):=by
 refine⟨a,0,by rw[Ad],by rw[Ad];omega,AL _,λi hi=>?_⟩;rw[Ad]at hi;omega
variable{W1 W2:World}{v':Value}
def zL.probe(h:zL tag i b db W c d tag' V' bv' fv' l' W1)(n:Dq W1 bv' d.b new v' W2):zL tag i b db W c d (retag tag' W1 W2 (i,91)) V' bv' fv' l' W2/\Dj i tag' (retag tag' W1 W2 (i,91)) W1 W2/\DW (It i tag') W1 W2:=by
 have hk:=h.ok;have a:=h.d;have j:=(DW.refl (λg=>bv'.ownBlock=some g) W1).grown n.grown (λg hg=>.inl hg);have f:∀{g r:Nat},tag' g=(i,r)->g<W1.heap.size:=λhg=>EQ hk hg h.p
 have dd:ES (retag tag' W1 W2 (i,91)) i db d bv' fv' l' W2 :=
  ⟨j.obj (λx=>zg.apart a.tb (a.tbv _ x) (by decide) rfl) a.obj,by rw[zz (f a.tb),a.tb],n.old,λg hg=>by rw[zz (f (a.tbv g hg)),a.tbv g hg],j.owns a.own (λg hg x=>zg.apart (a.tfv g hg) (a.tbv g x) (by decide) rfl),a.lf,
   λx k=>⟨(a.rr x k).1.mod j (GE λg hg y=>zg.apart ((a.rr x k).2 g hg) (a.tbv g y) (by decide) rfl),λg hg=>by rw[zz (f ((a.rr x k).2 g hg)),(a.rr x k).2 g hg]⟩,λg hg=>by rw[zz (f (a.tfv g hg)),a.tfv g hg]⟩
 have md:DW (It i tag') W1 W2:=j.mono (λg hg=>.inl ⟨91,by decide,a.tbv g hg⟩);have l:Il i tag' (retag tag' W1 W2 (i,91)) W1 W2:=by
  refine⟨λg hg=>zz hg,λg hg=>?_,λg hg=>?_⟩
  ·by_cases q:g<W2.heap.size
   ·exact .inl ⟨91,by decide,Fr hg q⟩
   ·exact .inr (by simp only[retag,show ¬g<W1.heap.size by omega,q,AH,As])
  ·have:=j.size;simp only[retag,show ¬g<W1.heap.size by omega,show ¬g<W2.heap.size by omega,AH,As]
 exact⟨⟨h.c.modR hk h.p md l.old,dd,h.e.trans l.ext h.m.size,Ec h.e h.m (LV md),h.p⟩,l.ext,md⟩
def Nh(tag:Nat->Nat×Nat)(i b db:Nat)(W:World)(c:CS)(d':Dd)(l':zC)(e:Ending)(W':World):Prop :=
 ∃v tag' V' bv' fv' fl',e = .returned v/\FB tag' (i,5) W' v l'/\zL tag i b db W c d' tag' V' bv' fv' fl' W'
def FB.drole{l:zC}(h:FB tag (i,5) W v l)(hk:Do tag W)(hi:0<i)(m:DW (It i tag) W W')(e:∀g,g<W.heap.size->tag' g=tag g):FB tag' (i,5) W' v l :=
 h.mod m (λg ⟨r,hr,hx⟩ x=>by rw[hx]at x;simp at x;omega) (λg hg=>by rw[e g (EQ hk hg hi),hg])
def XI{lv:Value}{l:List (Db×Value)}{f:zC}(h:zg tag i b c V W)(Q:ES tag i db d bv fv l W)(E:Dx i tag W)(hl:FB tag (i,5) W lv f)(S:1<=f.length)(G:Qg f)(ab:f.length<=1048576)(hbl:d.b.length<=1073741824)(hll:d.fs.length<=1073741824)(hrm:d.room<=1073741824):Calls prog 84 #[.pointer (some ⟨b,0,none⟩),.pointer (some ⟨db,0,none⟩),lv] W (Nh tag i b db W c (GX d f).1 (GX d f).2):=by
 have S0:AA (zL tag i b db W c d tag V bv fv l W):=zb ⟨h,Q,Dj.same E.ok (DW.refl DX _),DW.refl _ _,E.pos⟩;have w:l.length=d.fs.length:=by rw[<-Q.lf,A9]
 obtain⟨H,m,T,_⟩:=zi Q.ob;subst T;obtain⟨a,cap,e,n1,n2,n3⟩:=hl.1;subst e;obtain⟨g,o,ea,_⟩:=n3 0 (by omega);subst ea;obtain⟨N,U⟩:=nm (Ew d f f.length);have hT:GX d f=((d.add (ackF (f.take N))).getD d,f.drop N):=by unfold GX;rw[U]
 rw[hT];have R0:=zb hl;have F:=zb U;have z:=zb G;have I:=zb w;have X:=n2;unfold maxLen at X;clear h Q E hl n3 G hT U w;go_enter func84,ntmps84;go_wp2_with fail
 go_loopw [7] (λY wr=>∃(n:Nat) (tag':Nat->Nat×Nat),Y = .int .i64 n/\1<=n/\n<=f.length/\AA (Ew d f n=N)/\AA (zL tag i b db W c d tag' V (.slice H d.b.length m) fv l wr)/\AA (FB tag' (i,5) wr (.slice (some ⟨g,o,none⟩) f.length cap) f)) (λY _=>(intOf Y).toNat)
 case atStart=>exact⟨f.length,tag,rfl,S,AG _,F,S0,R0⟩
 case round =>
  clear S0 R0 F;obtain⟨n,tag',rfl,h1,h2,F,SS,J⟩:=hrel;have d1:(0:Int)<=n:=by omega
  have d2:(n:Int)<=cap:=by omega
  have hnt:((n:Int)).toNat=n:=by omega
  by_cases M:1<n
  ·have d3:(1:Int)<n:=by omega
   have ht:(f.take n).length=n:=by rw[AS];omega
   have Z:=PN (f.take n);have A:=SS.z.mod0 ((DW.refl DX wr).drew);have rd:=J.z.mod ((DW.refl DX wr).drew) (λ_ x=>x.elim) (λ_ x=>x);have od:=A.d.obj;have ka:=QG (.slice H d.b.length m) d.b (ackF (f.take n)) (.slice (some ⟨g,o,none⟩) n cap) wr.drew A.d.ob (λ_=>GE λq r x=>zg.apart (rd.2 q r) (A.d.tbv q x) (by decide) rfl) (O0 rd.1 h2 cap (by omega) n2) (by show(f.take n).length<=_;omega) (by show(0:Nat)<=_;omega) (by omega);rw [show zh (ackF (f.take n)) (.slice (some ⟨g, o, none⟩) n cap) = #[.int .i64 2, .int .i64 0, .int .u64 0, .int .u64 0, .int .u64 0, .bool false, .int .u64 0, .int .u64 0, .string "".toUTF8, .slice (some ⟨g, o, none⟩) n cap] from rfl] at ka;have kb:∀e w2,Nl wr.drew (.slice H d.b.length m) d.b (zT (ackF (f.take n))) (zA (ackF (f.take n))) e w2->∃a2 c2 tag2,e = .returned (.slice a2 (d.b++zA (ackF (f.take n))).length c2)/\AA (zL tag i b db W c d tag2 V (.slice H d.b.length m) fv l w2)/\AA (FB tag2 (i,5) w2 (.slice (some ⟨g,o,none⟩) f.length cap) f):=by
    rintro e w2 (⟨_,v',rfl,hA⟩|⟨hx,_⟩)
    ·obtain⟨s2,e2,m2⟩:=A.probe hA;obtain⟨a2,c2,e3,_⟩:=zi hA.own;exact⟨a2,c2,_,by rw[e3],s2,rd.drole A.ok A.p m2 e2.old⟩
    ·rw[z.z n h1 h2]at hx;cases hx
   obtain⟨L,R⟩:=nm ((d.b++zA (ackF (f.take n))).length);rw[R]at kb;have hLb:L<=2147483648:=by rw[<-R,AF];omega
   have q4:IntKind.i64.wrap ((L:Int)+4)=(L:Int)+4:=IntWalk.i64_in _ (by omega);have KA:=zb (ka.mono kb);have HL:=zb R;have aa:=zb od;clear ka kb Z R ht A rd od;go_wp2_with fail;refine zl 20 (λw'=>w'.heap[db]?=some (.cells #[.slice H d.b.length m,fv,.int .i64 d.room,.bool d.wants,.bool d.full] 180 (0,0))) (aa.z) ?_;refine GI 0 ?_;iterate 11
    refine GS rfl ?_ ?_ ?_;rotate_left
    ·(intro wx j;(try dsimp only at j);have c0:=za (o:=0) j rfl;have c2:=za (o:=2) j rfl;go_simp;try with_reducible rfl)
    try simp only[PS]
   refine GI 14 ?_;iterate 4
    refine GS rfl ?_ ?_ ?_;rotate_left
    ·(intro wx j;(try dsimp only at j);have c0:=za (o:=0) j rfl;have c2:=za (o:=2) j rfl;go_simp;try with_reducible rfl)
    try simp only[PS]
   refine zw 11 rfl (λK hK=>?_);go_simp;refine KA.z.mono ?_;rintro e w2 ⟨a2,c2,tag2,rfl,s,v⟩;refine hK.z _ _ s.z.d.obj ?_;clear hK K;try simp only[PS]
   refine GI 12 ?_;iterate 2
    refine GS rfl ?_ ?_ ?_;rotate_left
    ·(intro wx j;(try dsimp only at j);have c0:=za (o:=0) j rfl;have c2:=za (o:=2) j rfl;go_simp;try with_reducible rfl)
    try simp only[PS]
   refine GI 18 ?_;iterate 2
    refine GS rfl ?_ ?_ ?_;rotate_left
    ·(intro wx j;(try dsimp only at j);have c0:=za (o:=0) j rfl;have c2:=za (o:=2) j rfl;go_simp;try with_reducible rfl)
    try simp only[PS]
   refine zn ?_;by_cases y:d.room<L+4
   ·have d4:(d.room:Int)<(L:Int)+4:=by omega
    have q5:IntKind.i64.wrap ((n:Int)-1)=((n-1:Nat):Int):=by rw[IntWalk.i64_in _ (by omega)];omega
    go_wp2_with fail;go_roundw
    case rel =>
     have hl:=HL.z;have hn:=F.z;refine⟨n-1,tag2,rfl,by omega,by omega,zb ?_,s,v⟩;obtain⟨k,rfl⟩:∃k,n=k+1:=⟨n-1,by omega⟩;rw[<-hn,CN]
     conv=>rhs;unfold Ew
     rw[AN ⟨M,by rw[hl];exact y⟩]
    case measure =>
     simp[intOf];omega
   ·have d4:¬(d.room:Int)<(L:Int)+4:=by omega
    have B:N=n:=by
     have hl:=HL.z;rw[<-F.z];obtain⟨k,rfl⟩:∃k,n=k+1:=⟨n-1,by omega⟩;unfold Ew;rw[AH (λx=>y (by have:=x.2;rw[hl]at this;exact this))]
    subst B;go_upto_region 4 with fail;have C:=Ni s.z.d s.z.ok s.z.p (ackF (f.take N)) (some ⟨g,o,none⟩) N N (z.z N h1 h2) (O0 v.z.1 h2 N (AG _) (by omega)) (λq r=>v.z.2 q (by simpa [Value.blk]using r)) (by show(f.take N).length<=_;rw[AS];omega) (by show(0:Nat)<=_;omega) (by omega) (by have:=PN (f.take N);rw[AS]at this;omega) (by rw[I.z];omega);rw [show zh (ackF (f.take N)) (.slice (some ⟨g, o, none⟩) N N) = #[.int .i64 2, .int .i64 0, .int .u64 0, .int .u64 0, .int .u64 0, .bool false, .int .u64 0, .int .u64 0, .string "".toUTF8, .slice (some ⟨g, o, none⟩) N N] from rfl] at C;have KD:=zb (C.mono (R':=λe u=>∃x tag3 bv3 fv3 l3,e = .returned (.bool x)/\AA (zL tag i b db W c ((d.add (ackF (f.take N))).getD d) tag3 V bv3 fv3 l3 u)/\AA (FB tag3 (i,5) u (.slice (some ⟨g,o,none⟩) f.length cap) f)) (λe u D=>by
     obtain⟨e1,tag3,bv3,fv3,l3,s3,t,m3⟩:=s.z.add2 D;exact⟨_,tag3,bv3,fv3,l3,e1,s3,v.z.drole s.z.ok s.z.p m3 t⟩))
    clear C;go_upto_region 5 with(go_at_call 142;refine KD.z.mono ?_;rintro e u ⟨x,tag3,bv3,fv3,l3,rfl,S3,O⟩);have P:AA (∀v2,RR u v2 (f.drop N)->(∀q,Value.blk v2=some q->q=g)->Nh tag i b db W c ((d.add (ackF (f.take N))).getD d) (f.drop N) (.returned v2) u):=zb λv2 hv r=>⟨v2,tag3,V,bv3,fv3,l3,rfl,⟨hv,λq hb=>by rw[r q hb];exact O.z.2 g rfl⟩,S3.z⟩
    have d5:(N:Int)<=f.length:=by omega
    go_wp2_with fail;all_goals go_ret
    ·exact P.z _ (Q5 (by omega)) (λq r=>by simpa [Value.blk]using r.symm)
    ·exact P.z _ (Q6 O.z.1 h2) (λq r=>by simpa [Value.blk]using r.symm)
  ·have d3:¬(1:Int)<n:=by omega
   have B:N=n:=by
    rw[<-F.z];obtain⟨k,rfl⟩:∃k,n=k+1:=⟨n-1,by omega⟩;unfold Ew;rw[AH (λx=>M x.1)]
   subst B;have hd:decide ((1:Int)<N)=false:=by simpa using d3
   go_wp2_with fail;go_quiet (fail);have s:=λa=>zb (SS.z.mod0 ((DW.refl DX wr).drewN a))
   have v:=λa=>zb (J.z.mod ((DW.refl DX wr).drewN a) (λ_ x=>x.elim) (λ_ x=>x))
   replace s:=s ‹Nat›;replace v:=v ‹Nat›;go_upto_region 4 with fail;have C:=Ni s.z.d s.z.ok s.z.p (ackF (f.take N)) (some ⟨g,o,none⟩) N N (z.z N h1 h2) (O0 v.z.1 h2 N (AG _) (by omega)) (λq r=>v.z.2 q (by simpa [Value.blk]using r)) (by show(f.take N).length<=_;rw[AS];omega) (by show(0:Nat)<=_;omega) (by omega) (by have:=PN (f.take N);rw[AS]at this;omega) (by rw[I.z];omega);rw [show zh (ackF (f.take N)) (.slice (some ⟨g, o, none⟩) N N) = #[.int .i64 2, .int .i64 0, .int .u64 0, .int .u64 0, .int .u64 0, .bool false, .int .u64 0, .int .u64 0, .string "".toUTF8, .slice (some ⟨g, o, none⟩) N N] from rfl] at C;have KD:=zb (C.mono (R':=λe u=>∃x tag3 bv3 fv3 l3,e = .returned (.bool x)/\AA (zL tag i b db W c ((d.add (ackF (f.take N))).getD d) tag3 V bv3 fv3 l3 u)/\AA (FB tag3 (i,5) u (.slice (some ⟨g,o,none⟩) f.length cap) f)) (λe u D=>by
    obtain⟨e1,tag3,bv3,fv3,l3,s3,t,m3⟩:=s.z.add2 D;exact⟨_,tag3,bv3,fv3,l3,e1,s3,v.z.drole s.z.ok s.z.p m3 t⟩))
   clear C;go_upto_region 5 with(go_at_call 142;refine KD.z.mono ?_;rintro e u ⟨x,tag3,bv3,fv3,l3,rfl,S3,O⟩);have P:AA (∀v2,RR u v2 (f.drop N)->(∀q,Value.blk v2=some q->q=g)->Nh tag i b db W c ((d.add (ackF (f.take N))).getD d) (f.drop N) (.returned v2) u):=zb λv2 hv r=>⟨v2,tag3,V,bv3,fv3,l3,rfl,⟨hv,λq hb=>by rw[r q hb];exact O.z.2 g rfl⟩,S3.z⟩
   have d5:(N:Int)<=f.length:=by omega
   go_wp2_with fail;all_goals go_ret
   ·exact P.z _ (Q5 (by omega)) (λq r=>by simpa [Value.blk]using r.symm)
   ·exact P.z _ (Q6 O.z.1 h2) (λq r=>by simpa [Value.blk]using r.symm)
variable{fn:Nat->Value}
theorem i8{a:Nat->Value}:∀{l:List Nat},(∀x∈l,fn x=a x)->zP fn l=zP a l:=by
 intro l
 induction l with
 | nil=>intro _;rfl
 | cons x l ih =>
  intro h;have e:=ih (λy hy=>h y (Aj _ hy));show [Value.int .i64 x,fn x]++zP fn l=[Value.int .i64 x,a x]++zP a l;rw[e,h x Ae]
variable{sb:Nat}
def D3.congr{d:Nat->Value}{l:List Nat}(h:D3 sb fn l g cap W)(he:∀x∈l,fn x=d x)(hf:∀c,∃f a b,d c = .func f a b):D3 sb d l g cap W :=
 {h with own:=by rw[<-i8 he];exact h.own,fns:=hf }
def Ji(b cb:Nat)(kb:Nat->Nat):Nat->Value
 | 0=>.func (.func 145) #[.pointer (some ⟨b,0,none⟩)] #[]
 | 1=>.func (.func 146) #[.pointer (some ⟨b,0,none⟩)] #[]
 | k+2=>.func (.func 148) #[] #[.pointer (some ⟨cb,0,none⟩),.pointer (some ⟨kb k,0,none⟩)]
theorem QA(b cb:Nat)(kb:Nat->Nat):∀c,∃f a x,Ji b cb kb c = .func f a x
 | 0=>⟨_,_,_,rfl⟩
 | 1=>⟨_,_,_,rfl⟩
 | _+2=>⟨_,_,_,rfl⟩
def zL.then{r:Bool}{e:Ending}(h:zL tag i b db W c d tag' V' bv' fv' l' W')(hp:GA tag' i b db W' c' d' r e W''):e = .returned (.bool r)/\∃tag2 V2 bv2 fv2 l2,zL tag i b db W c' d' tag2 V2 bv2 fv2 l2 W''/\Dj i tag' tag2 W' W''/\DW (Dp i tag') W' W'':=by
 obtain⟨rfl,tag2,V2,bv2,fv2,l2,h1,h2,h3,h4⟩:=hp;exact⟨rfl,tag2,V2,bv2,fv2,l2,⟨h1,h2,h.e.trans h3 h.m.size,Ec h.e h.m h4,h.p⟩,h3,h4⟩
variable{W0:World}
def GA.from0{r:Bool}{e:Ending}(ht:Do tag W)(a:DW DX W W0)(h:GA tag i b db W0 c d r e W'):GA tag i b db W c d r e W':=by
 obtain⟨rfl,tag2,V2,f,g,l2,h1,h2,h3,h4⟩:=h;refine⟨rfl,tag2,V2,f,g,l2,h1,h2,(Dj.same ht a).trans h3 a.size,(a.mono (λ_ x=>x.elim)).trans h4⟩
structure Ei(tag:Nat->Nat×Nat)(i b db:Nat)(W0:World)(cb:Nat)(kb:Nat->Nat)(n:Nat)(l:List Nat)(sb g cap:Nat)(tag':Nat->Nat×Nat)(W:World):Prop where
 heap:D3 sb (Ji b cb kb) l g cap W
 hc:W.cell? ⟨cb,0,none⟩=some (.pointer (some ⟨b,0,none⟩))
 hk:∀k,k<n->W.cell? ⟨kb k,0,none⟩=some (.int .i64 k)
 fr:∀q,(q=sb\/q=g\/q=cb\/∃k,k<n/\q=kb k)->W0.heap.size<=q/\tag' q=(0,0)
 ne:∀q,(q=cb\/∃k,k<n/\q=kb k)->q≠sb/\q≠g
variable{cb:Nat}
def Ei.mod{a:Nat->Nat}{n:Nat}{l:List Nat}{tag2:Nat->Nat×Nat}(h:Ei tag i b db W0 cb a n l sb g cap tag' W)(m:DW S W W')(hS:∀q,S q->W0.heap.size<=q->tag' q≠(0,0))(ht:∀q,q<W.heap.size->tag2 q=tag' q):Ei tag i b db W0 cb a n l sb g cap tag2 W':=by
 have q:∀{q:Nat},(q=sb\/q=g\/q=cb\/∃k,k<n/\q=a k)->¬S q:=λe x=>hS _ x (h.fr _ e).1 (h.fr _ e).2
 have c:=zk h.heap.c0;have lg:=zF h.heap.own g rfl;refine⟨h.heap.mod m (q (.inl rfl)) (q (.inr (.inl rfl))),m.cell (q (.inr (.inr (.inl rfl)))) h.hc,λk hk=>m.cell (q (.inr (.inr (.inr ⟨k,hk,rfl⟩)))) (h.hk k hk),λx d=>⟨(h.fr x d).1,?_⟩,h.ne⟩;rw[ht x ?_]
 ·exact(h.fr x d).2
 ·rcases d with rfl|rfl|rfl|⟨k,hk,rfl⟩
  ·exact c
  ·exact lg
  ·exact zk h.hc
  ·exact zk (h.hk k hk)
def Ei.src{c:Nat->Nat}{n:Nat}{l:List Nat}{tag2:Nat->Nat×Nat}(h:Ei tag i b db W0 cb c n l sb g cap tag' W)(hi:0<i)(e:Dj i tag' tag2 W W')(m:DW (Dp i tag') W W'):Ei tag i b db W0 cb c n l sb g cap tag2 W' :=
 h.mod m.ofC (λq a _ x=>by rw[x]at a;simp at a;omega) (λq a=>e.old q a)
def Ei.mod0{a:Nat->Nat}{n:Nat}{l:List Nat}(h:Ei tag i b db W0 cb a n l sb g cap tag' W)(m:DW DX W W'):Ei tag i b db W0 cb a n l sb g cap tag' W' :=
 h.mod m (λ_ x=>x.elim) (λ_ _=>rfl)
def Ei.heaped{d:Nat->Nat}{n:Nat}{l j:List Nat}{g2 a:Nat}(h:Ei tag i b db W0 cb d n l sb g cap tag' W)(ht:Do tag' W)(hw:W0.heap.size<=W.heap.size)(hh:D3 sb (Ji b cb d) j g2 a W')(hg:g2=g\/W.heap.size<=g2)(m:DW (λq=>q=sb\/q=g) W W'):Ei tag i b db W0 cb d n j sb g2 a tag' W':=by
 have q:∀{q:Nat},(q=cb\/∃k,k<n/\q=d k)->¬(q=sb\/q=g):=λf x=>by
  have:=h.ne _ f;rcases x with x|x
  ·exact this.1 x
  ·exact this.2 x
 have lt:∀{q:Nat},(q=cb\/∃k,k<n/\q=d k)->q<W.heap.size:=λf=>by
  rcases f with rfl|⟨k,hk,rfl⟩
  ·exact zk h.hc
  ·exact zk (h.hk k hk)
 refine⟨hh,m.cell (q (.inl rfl)) h.hc,λk hk=>m.cell (q (.inr ⟨k,hk,rfl⟩)) (h.hk k hk),λx c=>?_,λx c=>⟨(h.ne x c).1,λe=>?_⟩⟩
 ·rcases c with rfl|rfl|c
  ·exact h.fr _ (.inl rfl)
  ·rcases hg with rfl|hg
   ·exact h.fr _ (.inr (.inl rfl))
   ·exact⟨by omega,ht _ hg⟩
  ·exact h.fr _ (.inr (.inr c))
 ·rcases hg with rfl|hg
  ·exact(h.ne x c).2 e
  ·have:=lt c;omega
def zL.own(h:zL tag i b db W c d tag' V' bv' fv' l' W')(m:DW S W' W'')(a:∀g,S g->W.heap.size<=g/\tag' g=(0,0)):zL tag i b db W c d tag' V' bv' fv' l' W'':=h.free m (λg hg=>⟨(a g hg).2,(a g hg).1⟩)
def YQ{f:Nat}{l:List (Db×Value)}(h:zg tag i b c V W)(g:ES tag i db d bv fv l W)(E:Dx i tag W)(k:Nat)(ok:O6 c k)(hd:d.Ok)
  (h1:W.cell? ⟨cb,0,none⟩=some (.pointer (some ⟨b,0,none⟩))) (h2:W.cell? ⟨f,0,none⟩=some (.int .i64 k)) :
  Calls prog 148 #[.pointer (some ⟨db,0,none⟩),.pointer (some ⟨cb,0,none⟩),.pointer (some ⟨f,0,none⟩)] W (GA tag i b db W (c.bytes d k).2.1 (c.bytes d k).2.2 (c.bytes d k).1):=by
 have j:∀W1,DW DX W W1->Calls prog 149 #[.pointer (some ⟨b,0,none⟩),.pointer (some ⟨db,0,none⟩),.int .i64 k] W1 (GA tag i b db W (c.bytes d k).2.1 (c.bytes d k).2.2 (c.bytes d k).1):=λW1 m =>
  (YZ (h.mod0 m) (g.modN m (λ_ x=>x.elim)) (E.mod0 m) k ok (by have:=hd.b;omega) (by have:=hd.fs;have:=hd.b;omega) (by have:=hd.room;omega)).mono λe W' a=>a.from0 E.ok m
 have n:=zb j;obtain⟨r,o⟩:=nm ((c.bytes d k).1);rw[o]at n ⊢;clear h g E ok hd j o;go_enter func148,ntmps148;go_wp2_with (go_at_call 149;refine(n.z _ (DW.refl _ _)).mono ?_;rintro e w2 ⟨rfl,a⟩;have HP:=zb a;clear a);go_ret;exact⟨rfl,HP.z⟩
def Ja(sb:Nat)(w:World):Nat:=match w.cell? ⟨sb,0,none⟩with|some (.slice _ n _)=>n|_=>0
def D3.sbLen_is{l:List Nat}(h:D3 sb fn l g cap W):Ja sb W=l.length:=by
 unfold Ja;rw[h.c0]
def ES.sbLen_is{l:List (Db×Value)}(h:ES tag i db d bv fv l W):Ja db W=d.b.length:=by
 obtain⟨a,cap,e,_⟩:=zi h.ob;have c0:W.cell? ⟨db,0,none⟩=some bv:=za h.obj rfl;unfold Ja;rw[c0,e]
def dh(v:Value)(w:World):(Instr.typeAssert (.iface 266 v) 20 266 false).run prog w = .ok v w:=by kernel_rfl
def Pm{a:Nat}{x y:Value}{t:TypeId}(h:w.heap[a]?=some (.cells #[x,y] t (0,0)))(h':∃o,w'.heap[a]?=some o/\w.heap[a]?=some o):w'.cell? ⟨a,0,none⟩=some x/\w'.cell? ⟨a,1,none⟩=some y:=by
 obtain⟨o,h1,h2⟩:=h';rw[h]at h2;cases h2;exact⟨za h1 rfl,za h1 rfl⟩
def XH(b db cb:Nat)(kb:Nat->Nat)(q:Nat)(W:World)(Q:Ending->World->Prop):Prop :=
 match q with
 | 0=>Calls prog 145 #[.pointer (some ⟨b,0,none⟩),.pointer (some ⟨db,0,none⟩)] W Q
 | 1=>Calls prog 146 #[.pointer (some ⟨b,0,none⟩),.pointer (some ⟨db,0,none⟩)] W Q
 | k+2=>Calls prog 148 #[.pointer (some ⟨db,0,none⟩),.pointer (some ⟨cb,0,none⟩),.pointer (some ⟨kb k,0,none⟩)] W Q
theorem VL{e:Nat->Nat}{l:List (Db×Value)}(h:zg tag i b c V W)(a:ES tag i db d bv fv l W)(E:Dx i tag W)(ok:c.Ok)(hd:d.Ok)(hq:q<10)
  (h1:W.cell? ⟨cb,0,none⟩=some (.pointer (some ⟨b,0,none⟩))) (h2:∀k,k<8->W.cell? ⟨e k,0,none⟩=some (.int .i64 k)) :
  XH b db cb e q W (GA tag i b db W (c.put d q).2.1 (c.put d q).2.2 (c.put d q).1):=by
 have b1:=hd.b;have b2:=hd.fs;have b3:l.length=d.fs.length:=by rw[<-a.lf,A9]
 match q,hq with
 | 0,_=>exact fw h a E ok.ctl (by omega) (by omega)
 | 1,_=>exact i9 h a E ok.waits (by omega) (by omega)
 | k+2,hk=>exact YQ h a E k (ok.by_ (by omega)) hd h1 (h2 k (by omega))
def RW(tag:Nat->Nat×Nat)(i b db:Nat)(W:World)(c':CS)(d':Dd)(e:Ending)(W':World):Prop :=
 e = .returned (.tuple #[])/\∃tag' V' bv' fv' l',zL tag i b db W c' d' tag' V' bv' fv' l' W'
def de{l:List (Db×Value)}(n:zL tag i b db W c d tag V bv fv l W)(kb:Nat->Nat){t:TypeId}:zL tag i b db W c d tag V bv fv l (((W.alloc (.cells #[.pointer (some ⟨b,0,none⟩)] t)).alloc (.cells #[.int .i64 0,.func (.func 145) #[.pointer (some ⟨b,0,none⟩)] #[],.int .i64 1,.func (.func 146) #[.pointer (some ⟨b,0,none⟩)] #[]] 266)).alloc (.cells #[.slice (some ⟨W.heap.size+1,0,none⟩) 2 2] 268)) /\
  Ei tag i b db W W.heap.size kb 0 (List.range 2) (W.heap.size+1+1) (W.heap.size+1) 2 tag (((W.alloc (.cells #[.pointer (some ⟨b,0,none⟩)] t)).alloc (.cells #[.int .i64 0,.func (.func 145) #[.pointer (some ⟨b,0,none⟩)] #[],.int .i64 1,.func (.func 146) #[.pointer (some ⟨b,0,none⟩)] #[]] 266)).alloc (.cells #[.slice (some ⟨W.heap.size+1,0,none⟩) 2 2] 268)):=by
 obtain⟨o1,g⟩:=nm (Obj.cells #[.pointer (some ⟨b,0,none⟩)] t);obtain⟨a,e⟩:=nm (Obj.cells #[.int .i64 0,.func (.func 145) #[.pointer (some ⟨b,0,none⟩)] #[],.int .i64 1,.func (.func 146) #[.pointer (some ⟨b,0,none⟩)] #[]] 266);obtain⟨f,h⟩:=nm (Obj.cells #[.slice (some ⟨W.heap.size+1,0,none⟩) 2 2] 268);rw[g,e,h];have s1:(W.alloc o1).heap.size=W.heap.size+1:=by simp
 have s2:((W.alloc o1).alloc a).heap.size=W.heap.size+1+1:=by simp
 have a3:(((W.alloc o1).alloc a).alloc f).heap[W.heap.size+1+1]?=some f:=by
  have:=heap_alloc_new ((W.alloc o1).alloc a) f;rw[s2]at this;exact this
 have o:(((W.alloc o1).alloc a).alloc f).heap[W.heap.size+1]?=some a:=by
  have:=heap_alloc_new (W.alloc o1) a;rw[s1]at this;rw[Below.heap_alloc _ _ _ (by omega)];exact this
 have a1:(((W.alloc o1).alloc a).alloc f).heap[W.heap.size]?=some o1:=by
  rw[Below.heap_alloc _ _ _ (by omega),Below.heap_alloc _ _ _ (by omega)];exact heap_alloc_new W o1
 have m:DW DX W (((W.alloc o1).alloc a).alloc f):=(((DW.refl _ _).alloc _).alloc _).alloc _;rw[<-e]at o;refine⟨n.mod0 m,⟨⟨?_,⟨rfl,.inr ⟨_,_,_,rfl,AL _,by rw[<-e];exact o,AG _,by decide,rfl,rfl⟩⟩,by omega,by decide,QA _ _ _⟩,?_,λk hk=>absurd hk (BA k),λq j=>?_,λq j=>?_⟩⟩
 ·rw[a3,<-h];rfl
 ·exact za (a1.trans (A0 some g.symm)) rfl
 ·have:W.heap.size<=q:=by
   rcases j with rfl|rfl|rfl|⟨k,hk,_⟩
   ·omega
   ·omega
   ·omega
   ·omega
  exact⟨this,n.ok _ this⟩
 ·rcases j with rfl|⟨k,hk,_⟩
  ·omega
  ·omega
theorem Ei.count{d:Nat->Nat}{n:Nat}(h:Ei tag i b db W0 cb d n (List.range (n+2)) sb g cap tag' W)(ht:Do tag' W)(hw:W0.heap.size<=W.heap.size)(m:DW DX W W')(hc:W'.cell? ⟨W.heap.size,0,none⟩=some (.int .i64 n)):Ei tag i b db W0 cb (upd d n W.heap.size) (n+1) (List.range (n+2)) sb g cap tag' W':=by
 have f:=h.mod0 m;have e:∀k,k<n->upd d n W.heap.size k=d k:=λk hk=>zd _ _ (by omega)
 have lsb:=zk h.heap.c0;have lg:=zF h.heap.own g rfl;refine⟨f.heap.congr (λx j=>?_) (QA _ _ _),f.hc,λk hk=>?_,λq a=>?_,λq a=>?_⟩
 ·have j:=Bg.1 j
  match x,j with
  | 0,_=>rfl
  | 1,_=>rfl
  | k+2,hk =>
   show Value.func _ #[] #[.pointer (some ⟨cb,0,none⟩),.pointer (some ⟨d k,0,none⟩)]=Value.func _ #[] #[.pointer (some ⟨cb,0,none⟩),.pointer (some ⟨upd d n W.heap.size k,0,none⟩)];rw[e k (by omega)]
 ·by_cases a:k=n
  ·rw[a,ze];exact hc
  ·rw[e k (by omega)];exact f.hk k (by omega)
 ·rcases a with a|a|a|⟨k,hk,a⟩
  ·exact h.fr q (.inl a)
  ·exact h.fr q (.inr (.inl a))
  ·exact h.fr q (.inr (.inr (.inl a)))
  ·by_cases c:k=n
   ·rw[c,ze]at a;rw[a];exact⟨hw,ht _ (AG _)⟩
   ·rw[e k (by omega)]at a;exact h.fr q (.inr (.inr (.inr ⟨k,by omega,a⟩)))
 ·rcases a with a|⟨k,hk,a⟩
  ·exact h.ne q (.inl a)
  ·by_cases c:k=n
   ·rw[c,ze]at a;omega
   ·rw[e k (by omega)]at a;exact h.ne q (.inr ⟨k,by omega,a⟩)
theorem XG{l:List (Db×Value)}(h:zg tag i b c V W)(hD:ES tag i db d bv fv l W)(E:Dx i tag W)(ok:c.Ok)(hd:d.Ok):Calls prog 85 #[.pointer (some ⟨b,0,none⟩),.pointer (some ⟨db,0,none⟩)] W (RW tag i b db W (c.fill d).1 (c.fill d).2):=by
 have S0:AA (zL tag i b db W c d tag V bv fv l W):=zb ⟨h,hD,Dj.same E.ok (DW.refl DX _),DW.refl _ _,E.pos⟩;obtain⟨R,hR⟩:=nm (c.fill d);rw[hR];have HR:=zb hR;have OK:=zb ok;have HD:=zb hd;have EE:=zb E;clear h hD E ok hd hR;go_enter func85,ntmps85;go_upto_region 2 with fail;have st:=de (t:=69) S0.z id;obtain⟨W3,al⟩:=nm ((((W.alloc (.cells #[.pointer (some ⟨b,0,none⟩)] 69)).alloc (.cells #[.int .i64 0,.func (.func 145) #[.pointer (some ⟨b,0,none⟩)] #[],.int .i64 1,.func (.func 146) #[.pointer (some ⟨b,0,none⟩)] #[]] 266)).alloc (.cells #[.slice (some ⟨W.heap.size+1,0,none⟩) 2 2] 268)));rw[al]at st ⊢;clear al;obtain⟨cb,af⟩:=nm W.heap.size;have HCB:=zb af;obtain⟨M,am⟩:=nm (W.heap.size+1+1);have F0:=zb st.2;have w:=zb st.1;rw[am]at F0 ⊢;obtain⟨g0,an⟩:=nm (W.heap.size+1);rw[an]at F0 ⊢;rw[af]at F0 ⊢;clear af am an st;go_wp2_with fail
 go_loopw [15] (λiv wr=>∃(k:Nat) (C:Nat->Nat) (g cap:Nat),iv = .int .i64 k/\k<=8/\AA (zL tag i b db W c d tag V bv fv l wr)/\AA (Ei tag i b db W cb C k (List.range (k+2)) M g cap tag wr)) (λiv _=>8-(intOf iv).toNat)
 case atStart=>exact⟨0,id,g0,2,rfl,by omega,w,F0⟩
 case round =>
  obtain⟨k,C,g,cap,rfl,hk,N,L⟩:=hrel;by_cases aA:k<8
  ·have q1:IntKind.i64.wrap (2+(k:Int))=((k+2:Nat):Int):=by rw[IntWalk.i64_in _ (by omega)];omega
   have q3:IntKind.i64.wrap ((k:Int)+1)=((k+1:Nat):Int):=by rw[IntWalk.i64_in _ (by omega)];omega
   have d1:(k:Int)<8:=by omega
   go_upto_region 5 with fail;obtain⟨W4,Y⟩:=nm (wr.alloc (.cells #[.int .i64 k] 3));have m4:=AB Y
   have c4:W4.cell? ⟨wr.heap.size,0,none⟩=some (.int .i64 k):=by rw[<-Y];exact za (heap_alloc_new wr _) rfl
   have fc:=L.z.count N.z.ok N.z.m.size m4 c4;have D:=dm fc.heap (k+2) (by rw[CF];omega) (by rw[CF];omega) (λx hx=>Nat.le_of_lt (Bg.1 hx));rw[show Ji b cb (upd C k wr.heap.size) (k+2) = .func (.func 148) #[] #[.pointer (some ⟨cb,0,none⟩),.pointer (some ⟨upd C k wr.heap.size k,0,none⟩)]from rfl,ze]at D;have S4:=zb (N.z.mod0 m4);have FC:=zb fc;have O:=zb D;unfold hI at O;rw[Y];have HW:=m4.size;have HHW:=zb HW;clear fc D m4 Y HW;go_wp2_with (go_at_call 147;refine O.z.mono ?_;rintro e w5 ⟨rfl,g',ao,h5,hg,m5⟩;have H5:=zb h5;have HG:=zb hg;have M5:=zb m5;clear h5 hg m5);go_roundw
   case rel =>
    have A:∀q,(q=M\/q=g)->W.heap.size<=q/\tag q=(0,0):=λq A=>FC.z.fr q (by
     rcases A with A|A
     ·exact .inl A
     ·exact .inr (.inl A))
    refine⟨k+1,upd C k wr.heap.size,g',ao,rfl,by omega,zb (S4.z.own M5.z A),zb ?_⟩;have h5:=H5.z;rw[<-List.range_succ]at h5;exact FC.z.heaped S4.z.ok S4.z.m.size h5 HG.z M5.z
   case measure =>
    simp[intOf];omega
  ·have d1:¬(k:Int)<8:=by omega
   have ad:k=8:=by omega
   rw[ad]at L;have n0:AA (zL tag i b db W c d tag V bv fv l wr/\Ei tag i b db W cb C 8 (GH 0) M g cap tag wr):=zb ⟨N.z,L.z⟩;clear N L hk aA w F0 S0 ad;go_wp2_with fail;clear d1
   go_loopw [6] (λ_ wr=>∃(n:Nat) (c':CS) (F:Dd) (g cap:Nat) (tag':Nat->Nat×Nat) (V':CV) (Z aa:Value) (l':List (Db×Value)),n<=10/\AA (zL tag i b db W c' F tag' V' Z aa l' wr)/\AA (Ei tag i b db W cb C 8 (GH (10-n)) M g cap tag' wr)/\AA (c'.Ok/\F.Ok/\CS.fillN n c' F=R)) (λ_ wr=>Ja M wr)
   case atStart=>exact⟨10,c,d,g,cap,tag,V,bv,fv,l,AG _,zb n0.z.1,zb n0.z.2,zb ⟨OK.z,HD.z,HR.z⟩⟩
   case round =>
    clear n0;obtain⟨n,c',F,g,cap,tag',V',Z,aa,l',hn,N,L,P⟩:=hrel;have ab:=T4 (10-n) (by omega);rw[show 10-(10-n)=n by omega]at ab;have c0:=L.z.heap.c0;rw[ab]at c0;have kl:=PO (some ⟨g,0,none⟩) n cap wr;have KL:=zb kl;have ah:=zb ab;clear kl ab;cases n with
    | zero =>
     go_wp2_with (go_at_call 150;refine KL.z.mono ?_;rintro e J ⟨rfl,rfl⟩);refine bodyPost_end (results_none rfl _ _ _) rfl ⟨rfl,tag',V',Z,aa,l',?_⟩;have e:(c',F)=R:=P.z.2.2;rw[<-e];exact N.z
    | succ n =>
     obtain⟨q,A⟩:∃q,q+n=9:=⟨9-n,by omega⟩;have e1:10-(n+1)=q:=by omega
     have e2:10-n=q+1:=by omega
     rw[e1]at L ah;have hp:=YT L.z.heap (by rw[ah.z];omega) (YR q (by omega));have ap:CS.fillN n (CS.reps q (F.room+1) c' F).1 (CS.reps q (F.room+1) c' F).2=R:=by
      have:=P.z.2.2;have e9:9-n=q:=by omega
      rw[<-this,CS.fillN,e9]
     obtain⟨f,fa,fx,hf⟩:=QA b cb C q;rw[hf]at hp;have aq:=zb ap;have HP:=zb hp;have aB:=zb hf;have HQ:=zb A;have E2:=zb e2;have HRM:AA (∃r,r=F.room):=zb ⟨_,rfl⟩;unfold hI at HP;have d1:(0:Int)<(n:Int)+1:=by omega
     clear hp ap hf e1 e2 A;go_upto_region 8 with(go_at_call 150;refine KL.z.mono ?_;rintro e J ⟨rfl,rfl⟩);go_upto_region 9 with(go_at_call 151;refine HP.z.mono ?_;rintro e J ⟨rfl,h2,m2⟩;have H2:=zb h2;have M2:=zb m2;have aC:=dh (.agg #[.int .i64 q,.func f fa fx]) J;clear h2 m2);have ar:∀q,(q=M\/q=g)->W.heap.size<=q/\tag' q=(0,0):=λq A=>L.z.fr q (by
      rcases A with A|A
      ·exact .inl A
      ·exact .inr (.inl A))
     have s2:=N.z.own M2.z ar;have f2:=L.z.heaped N.z.ok N.z.m.size H2.z (.inl rfl) M2.z;obtain⟨W5,ac⟩:=nm (J.alloc (.cells #[.int .i64 q,.func f fa fx] 266));have m5:=AB ac
     have au:=AD ac
     have S5:=zb (s2.mod0 m5);have F5:=zb (f2.mod0 m5);have ai:W.heap.size<=J.heap.size/\tag' J.heap.size=(0,0):=⟨s2.m.size,s2.ok _ (AG _)⟩;have X5:AA (W5.heap[J.heap.size]?=some (.cells #[.int .i64 q,.func f fa fx] 266 (0,0))/\W.heap.size<=J.heap.size/\tag' J.heap.size=(0,0)):=⟨au,ai.1,ai.2⟩;rw[ac];have HL:AA (Ja M wr=n+1):=L.z.heap.sbLen_is.trans ah.z;have Q:AA ((GH (q+1)).length=n):=by
      have:=T4 (q+1) (by have:=HQ.z;omega);have:=HQ.z;show _=n;omega
     clear ar s2 f2 ac m5 au ai aC c0 d1
     go_loopw [6] (λxv S=>∃(K m:Nat) (c2:CS) (d2:Dd) (tag2:Nat->Nat×Nat) (V2:CV) (av aw:Value) (T:List (Db×Value)),xv = .pointer (some ⟨K,0,none⟩)/\AA (zL tag i b db W c2 d2 tag2 V2 av aw T S)/\AA (Ei tag i b db W cb C 8 (GH (q+1)) M g cap tag2 S) /\
       AA (S.heap[K]?=some (.cells #[.int .i64 q,.func f fa fx] 266 (0,0))/\W.heap.size<=K/\tag2 K=(0,0))/\AA (c2.Ok/\d2.Ok/\1<=m/\d2.room=F.room/\d2.room<d2.b.length+m/\CS.fillN n (CS.reps q m c2 d2).1 (CS.reps q m c2 d2).2=R)) (λ_ S=>F.room+1-Ja db S)
     case atStart=>exact⟨J.heap.size,F.room+1,c',F,tag',V',Z,aa,l',rfl,S5,F5,X5,zb ⟨P.z.1,P.z.2.1,by omega,rfl,by omega,aq.z⟩⟩
     case round =>
      clear X5 S5 F5 N L P aq KL HP M2 H2;obtain⟨K,m,c2,d2,tag2,V2,av,aw,T,rfl,B,FF,G,RR⟩:=hrel;have ae:q<10:=by have:=HQ.z;omega
      have D:=VL B.z.c B.z.d (EE.z.left B.z.e B.z.m.ofC) RR.z.1 RR.z.2.1 ae FF.z.hc FF.z.hk;have pk:=Lr (d:=d2) RR.z.1 ae;have pd:=pk.drf RR.z.2.1;have cx0:wr.cell? ⟨K,0,none⟩=some (.int .i64 q):=za G.z.1 rfl;have cx1:wr.cell? ⟨K,1,none⟩=some (.func f fa fx):=za G.z.1 rfl;obtain⟨m',aj⟩:∃m',m=m'+1:=⟨m-1,by have:=RR.z.2.2.1;omega⟩;have U:CS.reps q m c2 d2=if (c2.put d2 q).1=true then CS.reps q m' (c2.put d2 q).2.1 (c2.put d2 q).2.2 else((c2.put d2 q).2.1,(c2.put d2 q).2.2):=by rw[aj];rfl
      have hf:=aB.z;obtain⟨r,hr⟩:=nm ((c2.put d2 q).1);obtain⟨c3,ax⟩:=nm ((c2.put d2 q).2.1);obtain⟨d3,ak⟩:=nm ((c2.put d2 q).2.2);rw[hr,ak]at pd;rw[hr,ax,ak]at D U pk;have PK:=zb pk;have PD:=zb pd;have HM:=zb aj;have z:=zb U;clear pk pd aj U hr ax ak;obtain hq0|hq1|⟨k,hqk⟩:q=0\/q=1\/∃k,q=k+2:=by
       rcases q with _|_|k
       ·exact .inl rfl
       ·exact .inr (.inl rfl)
       ·exact .inr (.inr ⟨k,rfl⟩)
      ·rw[hq0]at D hf;have O:AA (Calls prog 145 #[.pointer (some ⟨b,0,none⟩),.pointer (some ⟨db,0,none⟩)] wr _):=D;simp only[Ji,Value.func.injEq]at hf;obtain⟨rfl,rfl,rfl⟩:=hf;clear D hq0;have KQ:AA (Calls prog 145 #[.pointer (some ⟨b,0,none⟩),.pointer (some ⟨db,0,none⟩)] wr λe u=>e = .returned (.bool r)/\∃(a:Nat->Nat×Nat) (y:CV) (j s:Value) (v:List (Db×Value)),AA (zL tag i b db W c3 d3 a y j s v u)/\AA (Ei tag i b db W cb C 8 (GH (q+1)) M g cap a u) /\
         AA (∃o,u.heap[K]?=some o/\wr.heap[K]?=some o)):=zb (O.z.mono (by
        intro e u X;obtain⟨rfl,a,y,j,s,v,s3,e3,m3⟩:=B.z.then X;exact⟨rfl,a,y,j,s,v,s3,FF.z.src B.z.p e3 m3,⟨_,m3.obj (λx=>by
         have h1:=G.z.2.2;have h2:=B.z.p;have x:=x.1;rw[h1]at x;have x:(0:Nat)=i:=x;omega) G.z.1,G.z.1⟩⟩))
       clear O;cases r with
       | true =>
        go_wp2_with (go_at_call 145;refine KQ.z.mono ?_;rintro e u ⟨rfl,a,y,j,s,v,w,H,X3⟩;obtain⟨ay,az⟩:=Pm G.z.1 X3.z);go_roundw
        case rel =>
         have I:=RR.z;have hd:=PD.z;have hm:=HM.z;have hl:=(hd.2.2.1 (by trivial));refine⟨u.heap.size,m',c3,d3,a,y,j,s,v,rfl,zb (w.z.mod0 ((DW.refl _ _).alloc _)),zb (H.z.mod0 ((DW.refl _ _).alloc _)),zb ⟨heap_alloc_new u _,w.z.m.size,w.z.ok _ (AG _)⟩,zb ⟨PK.z.ok,hd.1,by omega,by omega,by omega,?_⟩⟩;have e:=z.z;rw[AN (by trivial)]at e;rw[<-e];exact I.2.2.2.2.2
        case measure =>
         have l1:=B.z.d.sbLen_is;have T:=λo=>(w.z.mod0 ((DW.refl DX u).alloc o)).d.sbLen_is
         have hl:=(PD.z.2.2.1 (by trivial));have hr:=RR.z.2.2.2.1;rw[l1,T];omega
       | false =>
        go_wp2_with (go_at_call 145;refine KQ.z.mono ?_;rintro e u ⟨rfl,a,y,j,s,v,w,H,X3⟩);go_roundw
        case rel =>
         refine⟨n,c3,d3,g,cap,a,y,j,s,v,by omega,w,by rw[E2.z];exact H,zb ⟨PK.z.ok,PD.z.1,?_⟩⟩;have e:=z.z;rw[AH (by simp)]at e;have I:=RR.z.2.2.2.2.2;rw[e]at I;exact I
        case measure =>
         have l1:=H.z.heap.sbLen_is;have T:=HL.z;have v:=Q.z;omega
      ·rw[hq1]at D hf;have O:AA (Calls prog 146 #[.pointer (some ⟨b,0,none⟩),.pointer (some ⟨db,0,none⟩)] wr _):=D;simp only[Ji,Value.func.injEq]at hf;obtain⟨rfl,rfl,rfl⟩:=hf;clear D hq1;have KQ:AA (Calls prog 146 #[.pointer (some ⟨b,0,none⟩),.pointer (some ⟨db,0,none⟩)] wr λe u=>e = .returned (.bool r)/\∃(a:Nat->Nat×Nat) (y:CV) (j s:Value) (v:List (Db×Value)),AA (zL tag i b db W c3 d3 a y j s v u)/\AA (Ei tag i b db W cb C 8 (GH (q+1)) M g cap a u) /\
         AA (∃o,u.heap[K]?=some o/\wr.heap[K]?=some o)):=zb (O.z.mono (by
        intro e u X;obtain⟨rfl,a,y,j,s,v,s3,e3,m3⟩:=B.z.then X;exact⟨rfl,a,y,j,s,v,s3,FF.z.src B.z.p e3 m3,⟨_,m3.obj (λx=>by
         have h1:=G.z.2.2;have h2:=B.z.p;have x:=x.1;rw[h1]at x;have x:(0:Nat)=i:=x;omega) G.z.1,G.z.1⟩⟩))
       clear O;cases r with
       | true =>
        go_wp2_with (go_at_call 146;refine KQ.z.mono ?_;rintro e u ⟨rfl,a,y,j,s,v,w,H,X3⟩;obtain⟨ay,az⟩:=Pm G.z.1 X3.z);go_roundw
        case rel =>
         have I:=RR.z;have hd:=PD.z;have hm:=HM.z;have hl:=(hd.2.2.1 (by trivial));refine⟨u.heap.size,m',c3,d3,a,y,j,s,v,rfl,zb (w.z.mod0 ((DW.refl _ _).alloc _)),zb (H.z.mod0 ((DW.refl _ _).alloc _)),zb ⟨heap_alloc_new u _,w.z.m.size,w.z.ok _ (AG _)⟩,zb ⟨PK.z.ok,hd.1,by omega,by omega,by omega,?_⟩⟩;have e:=z.z;rw[AN (by trivial)]at e;rw[<-e];exact I.2.2.2.2.2
        case measure =>
         have l1:=B.z.d.sbLen_is;have T:=λo=>(w.z.mod0 ((DW.refl DX u).alloc o)).d.sbLen_is
         have hl:=(PD.z.2.2.1 (by trivial));have hr:=RR.z.2.2.2.1;rw[l1,T];omega
       | false =>
        go_wp2_with (go_at_call 146;refine KQ.z.mono ?_;rintro e u ⟨rfl,a,y,j,s,v,w,H,X3⟩);go_roundw
        case rel =>
         refine⟨n,c3,d3,g,cap,a,y,j,s,v,by omega,w,by rw[E2.z];exact H,zb ⟨PK.z.ok,PD.z.1,?_⟩⟩;have e:=z.z;rw[AH (by simp)]at e;have I:=RR.z.2.2.2.2.2;rw[e]at I;exact I
        case measure =>
         have l1:=H.z.heap.sbLen_is;have T:=HL.z;have v:=Q.z;omega
      ·rw[hqk]at D hf;have O:AA (Calls prog 148 #[.pointer (some ⟨db,0,none⟩),.pointer (some ⟨cb,0,none⟩),.pointer (some ⟨C k,0,none⟩)] wr _):=D;simp only[Ji,Value.func.injEq]at hf;obtain⟨rfl,rfl,rfl⟩:=hf;clear D hqk;have KQ:AA (Calls prog 148 #[.pointer (some ⟨db,0,none⟩),.pointer (some ⟨cb,0,none⟩),.pointer (some ⟨C k,0,none⟩)] wr λe u=>e = .returned (.bool r)/\∃(a:Nat->Nat×Nat) (y:CV) (j s:Value) (v:List (Db×Value)),AA (zL tag i b db W c3 d3 a y j s v u)/\AA (Ei tag i b db W cb C 8 (GH (q+1)) M g cap a u) /\
         AA (∃o,u.heap[K]?=some o/\wr.heap[K]?=some o)):=zb (O.z.mono (by
        intro e u X;obtain⟨rfl,a,y,j,s,v,s3,e3,m3⟩:=B.z.then X;exact⟨rfl,a,y,j,s,v,s3,FF.z.src B.z.p e3 m3,⟨_,m3.obj (λx=>by
         have h1:=G.z.2.2;have h2:=B.z.p;have x:=x.1;rw[h1]at x;have x:(0:Nat)=i:=x;omega) G.z.1,G.z.1⟩⟩))
       clear O;cases r with
       | true =>
        go_wp2_with (go_at_call 148;refine KQ.z.mono ?_;rintro e u ⟨rfl,a,y,j,s,v,w,H,X3⟩;obtain⟨ay,az⟩:=Pm G.z.1 X3.z);go_roundw
        case rel =>
         have I:=RR.z;have hd:=PD.z;have hm:=HM.z;have hl:=(hd.2.2.1 (by trivial));refine⟨u.heap.size,m',c3,d3,a,y,j,s,v,rfl,zb (w.z.mod0 ((DW.refl _ _).alloc _)),zb (H.z.mod0 ((DW.refl _ _).alloc _)),zb ⟨heap_alloc_new u _,w.z.m.size,w.z.ok _ (AG _)⟩,zb ⟨PK.z.ok,hd.1,by omega,by omega,by omega,?_⟩⟩;have e:=z.z;rw[AN (by trivial)]at e;rw[<-e];exact I.2.2.2.2.2
        case measure =>
         have l1:=B.z.d.sbLen_is;have T:=λo=>(w.z.mod0 ((DW.refl DX u).alloc o)).d.sbLen_is
         have hl:=(PD.z.2.2.1 (by trivial));have hr:=RR.z.2.2.2.1;rw[l1,T];omega
       | false =>
        go_wp2_with (go_at_call 148;refine KQ.z.mono ?_;rintro e u ⟨rfl,a,y,j,s,v,w,H,X3⟩);go_roundw
        case rel =>
         refine⟨n,c3,d3,g,cap,a,y,j,s,v,by omega,w,by rw[E2.z];exact H,zb ⟨PK.z.ok,PD.z.1,?_⟩⟩;have e:=z.z;rw[AH (by simp)]at e;have I:=RR.z.2.2.2.2.2;rw[e]at I;exact I
        case measure =>
         have l1:=H.z.heap.sbLen_is;have T:=HL.z;have v:=Q.z;omega
def fj:(prog.info? 60).map (λi=>(i.zero,i.size,i.bytes))=some (some (.slice none 0 0),1,24):=by kernel_rfl
def fh:(prog.info? 173).map (λi=>(i.zero,i.size,i.bytes))=some (some (.agg #[.int .u64 0,.int .u64 0,.slice none 0 0]),3,40):=by kernel_rfl
def XF(w:World)(v:Value)(b:List Value)(a:Option Addr)(n c:Nat)(h:w.ownsRow 0 60 1 v b.length b)(hl:b.length<=1099511627776):∃v' w',(∀ty,(Builtin.append_ #[130,130] ty #[v,.slice (some ⟨w.heap.size,0,none⟩) 1 1]).run prog (w.alloc (.cells #[.slice a n c] 60)) = .ok v' w') /\
   w'.ownsRow 0 60 1 v' (b.length+1) (b++[.slice a n c])/\w.grownBy w' v.ownBlock/\Dy w v v':=by
 obtain⟨i,e,hz,f,g⟩:=info_parts fj;have d:∀(j:Nat) u,([Value.slice a n c])[j]?=some u->(w.alloc (.cells #[.slice a n c] 60)).cell? ((⟨w.heap.size,0,none⟩:Addr).add j)=some u:=by
  intro j u hj;rw[zS];refine za (heap_alloc_new w _) ?_;rw[Au,<-Array.getElem?_toList];exact hj
 obtain⟨v',w',h1,h2,h3,h4,h5⟩:=Jw (P:=prog) (w.alloc (.cells #[.slice a n c] 60)) 130 60 i _ 1 24 underlying130 e hz f g rfl (by decide) v b.length b (World.ownsRow.alloc h _)
  ⟨w.heap.size,0,none⟩ 1 1 [.slice a n c] rfl d (by intro u l;simp at l;rcases l with rfl;rfl) (by unfold maxLen;omega) (by omega)
 refine⟨v',w',h1,h2,?_,?_⟩
 ·exact⟨h3.os,h3.tape,h3.output,AO (by simp) h3.size,λk hk hn=>(h3.block k (by simp;omega) hn).trans (Below.heap_alloc w _ k hk)⟩
 ·intro k hk;rcases h4 k hk with x|x
  ·exact .inl x
  ·exact .inr (by simp at x;omega)
def XE(w:World)(v:Value)(b:List (Df×Value))(f:Df)(a:Option Addr)(n c:Nat)(h:w.ownsRow 0 173 3 v b.length (zy b))(hl:b.length<=1099511627776):∃v' w',(∀ty,(Builtin.append_ #[123,123] ty #[v,.slice (some ⟨w.heap.size,0,none⟩) 1 1]).run prog (w.alloc (.cells #[.int .u64 f.n,.int .u64 f.at_,.slice a n c] 173)) = .ok v' w') /\
   w'.ownsRow 0 173 3 v' (b.length+1) (zy (b++[(f,.slice a n c)]))/\w.grownBy w' v.ownBlock/\Dy w v v':=by
 obtain⟨i,e,hz,g,l⟩:=info_parts fh;have e1:zy [(f,.slice a n c)]=[.int .u64 f.n,.int .u64 f.at_,.slice a n c]:=rfl;have d:∀(j:Nat) u,(zy [(f,.slice a n c)])[j]?=some u->(w.alloc (.cells #[.int .u64 f.n,.int .u64 f.at_,.slice a n c] 173)).cell? ((⟨w.heap.size,0,none⟩:Addr).add j)=some u:=by
  intro j u hj;rw[zS];refine za (heap_alloc_new w _) ?_;rw[Au,<-Array.getElem?_toList];exact hj
 obtain⟨v',w',h1,h2,h3,h4,h5⟩:=Jw (P:=prog) (w.alloc (.cells #[.int .u64 f.n,.int .u64 f.at_,.slice a n c] 173)) 123 173 i _ 3 40 underlying123 e hz g l rfl (by decide) v b.length (zy b) (World.ownsRow.alloc h _)
  ⟨w.heap.size,0,none⟩ 1 1 (zy [(f,.slice a n c)]) rfl d (by rw[e1];intro u m;simp at m;rcases m with rfl|rfl|rfl<;>rfl) (by unfold maxLen;omega) (by omega)
 have e2:zy b++zy [(f,.slice a n c)]=zy (b++[(f,.slice a n c)]):=by simp[zy]
 rw[e2]at h2;refine⟨v',w',h1,h2,?_,?_⟩
 ·exact⟨h3.os,h3.tape,h3.output,AO (by simp) h3.size,λk hk hn=>(h3.block k (by simp;omega) hn).trans (Below.heap_alloc w _ k hk)⟩
 ·intro k hk;rcases h4 k hk with x|x
  ·exact .inl x
  ·exact .inr (by simp at x;omega)
def zg.retag(h:zg tag i b c V W)(ht:∀g r,r<90->tag g=(i,r)->tag' g=(i,r)):zg tag' i b c V W:=by
 have e:∀{g r:Nat},tag g=(i,r)->r<90->tag' g=(i,r):=λhg hr=>ht _ _ hr hg
 exact
  {obj:=h.obj
   tb:=e h.tb (by decide)
   got:=h.got
   tg:=e h.tg (by decide)
   tgv:=λg hg=>e (h.tgv g hg) (by decide)
   wb:=h.wb
   ws:=h.ws
   wc:=h.wc
   rb:=h.rb
   rc:=h.rc
   twb:=λk hk g hg=>e (h.twb k hk g hg) (by omega)
   tws:=λk hk g hg=>e (h.tws k hk g hg) (by omega)
   twc:=λk hk g hg=>e (h.twc k hk g hg) (by omega)
   trb:=λk hk g hg=>e (h.trb k hk g hg) (by omega)
   trc:=λk hk g hg=>e (h.trc k hk g hg) (by omega)
   ft:=h.ft
   fl:=h.fl
   fs:=λp hp=>(h.fs p hp).mod (DW.refl DX W) (λ_ x=>x.elim) (λg hg=>e hg (by decide))
   tft:=λg hg=>e (h.tft g hg) (by decide)
   wt:=h.wt
   twt:=λg hg=>e (h.twt g hg) (by decide)
   sn:=h.sn
   tsn:=e h.tsn (by decide)
   cm:=h.cm
   tcm:=λg hg=>e (h.tcm g hg) (by decide) }
structure Fz(tag:Nat->Nat×Nat)(W0 W:World)(ov:Value)(vs:List Value)(bs:List (List UInt8)):Prop where
 own:W.ownsRow 0 60 1 ov vs.length vs
 tov:∀g,ov.ownBlock=some g->W0.heap.size<=g/\tag g=(0,0)
 len:vs.length=bs.length
 each:∀(k:Nat) (v:Value) (l:List UInt8),vs[k]?=some v->bs[k]?=some l->OB W v l/\∀g,v.ownBlock=some g->W0.heap.size<=g/\tag g=(0,0)
 apart:∀(j k:Nat) (u v:Value),j<k->vs[j]?=some u->vs[k]?=some v->∀g,u.ownBlock=some g->v.ownBlock≠some g
def Fz.nil(tag:Nat->Nat×Nat)(W0 W:World):Fz tag W0 W (.slice none 0 0) [] [] :=
 ⟨World.ownsRow_nil _ 0 _ 1,(λg hg=>by cases hg),rfl,(λk v l hv _=>by simp at hv),(λj k u v _ hu _=>by simp at hu)⟩
variable{ov:Value}{vs:List Value}
def Fz.mod{bs:List (List UInt8)}(h:Fz tag W0 W ov vs bs)(m:DW S W W')(hS:∀g,S g->tag g≠(0,0))(c:∀g,g<W.heap.size->tag g=(0,0)->tag' g=(0,0)):Fz tag' W0 W' ov vs bs:=by
 have q:∀g,tag g=(0,0)->¬S g:=λg hg x=>hS g x hg
 refine⟨m.owns h.own (λg hg=>q g (h.tov g hg).2),λg hg=>⟨(h.tov g hg).1,c g (zF h.own g hg) (h.tov g hg).2⟩,h.len,λk v l hv hl=>?_,h.apart⟩;obtain⟨a,b⟩:=h.each k v l hv hl;exact⟨m.owns a (λg hg=>q g (b g hg).2),λg hg=>⟨(b g hg).1,c g (zF a g hg) (b g hg).2⟩⟩
variable{l:List UInt8}
def Fz.push{f:Value}{bs:List (List UInt8)}(h:Fz tag W0 W ov vs bs)(m:DW (λg=>ov.ownBlock=some g) W W')(hw:W0.heap.size<=W.heap.size)(ho:W'.ownsRow 0 60 1 f (vs.length+1) (vs++[v]))(hn:Dy W ov f)(hv:OB W v l)
  (hb:∀g,v.ownBlock=some g->W0.heap.size<=g/\tag' g=(0,0)) (n:∀g,v.ownBlock=some g->ov.ownBlock≠some g) (o:∀(k:Nat) (u:Value),vs[k]?=some u->∀g,u.ownBlock=some g->v.ownBlock≠some g) (s:∀g,g<W.heap.size->tag g=(0,0)->tag' g=(0,0)) (p:∀g,W.heap.size<=g->tag' g=(0,0)) (q:∀(k:Nat) (u:Value),vs[k]?=some u->∀g,u.ownBlock=some g->ov.ownBlock≠some g):Fz tag' W0 W' f (vs++[v]) (bs++[l]):=by
 refine⟨by rw[AF,Aa];exact ho,λg hg=>?_,by simp[h.len],λk u l' d hl=>?_,λj k u u' r d c=>?_⟩
 ·rcases hn g hg with x|x
  ·exact⟨(h.tov g x).1,s g (zF h.own g x) (h.tov g x).2⟩
  ·exact⟨by omega,p g x⟩
 ·by_cases hk:k<vs.length
  ·rw[Ag hk]at d;rw[Ag (by rw[<-h.len];exact hk)]at hl;obtain⟨a,b⟩:=h.each k u l' d hl;exact⟨m.owns a (λg hg x=>q k u d g hg x),λg hg=>⟨(b g hg).1,s g (zF a g hg) (b g hg).2⟩⟩
  ·have e:=(AM.1 d).1;rw[AF,Aa]at e;have i:k=vs.length:=by omega
   subst i;rw[AV (AG _)]at d;rw[h.len,AV (AG _)]at hl;simp at d hl;subst d;subst hl;exact⟨m.owns hv (λg hg x=>n g hg x),hb⟩
 ·have e:=(AM.1 c).1;rw[AF,Aa]at e;rw[Ag (by omega)]at d;by_cases hk:k<vs.length
  ·rw[Ag hk]at c;exact h.apart j k u u' r d c
  ·have i:k=vs.length:=by omega
   subst i;rw[AV (AG _)]at c;simp at c;subst c;exact o j u d
def CS.pkDraft(c:CS):Dd:=⟨zM c.next,[],c.mtu,false,false⟩
def zr(d:Dd)(l:zC):Dd×zC:=if l=[]then(d,l)else GX d l
def CS.pkFill(c:CS)(d:Dd):CS×Dd:=if c.flight.length<12 then c.fill d else(c,d)
def CS.pkDone(c:CS)(d:Dd):CS:={ c with flight:=if d.wants then c.flight++[⟨c.next,c.now,d.fs⟩]else c.flight,next:=c.next+1 }
def EP(l:List UInt8):List UInt8:=l++EG (Dv l)
def CS.pkts:Nat->CS->zC->List (List UInt8)×CS
 | 0,c,_=>([],c)
 | n+1,c,l =>
  if (c.pkFill (zr c.pkDraft l).1).2.fs=[]then([],(c.pkFill (zr c.pkDraft l).1).1)
  else(EP (c.pkFill (zr c.pkDraft l).1).2.b::(CS.pkts n ((c.pkFill (zr c.pkDraft l).1).1.pkDone (c.pkFill (zr c.pkDraft l).1).2) (zr c.pkDraft l).2).1,
   (CS.pkts n ((c.pkFill (zr c.pkDraft l).1).1.pkDone (c.pkFill (zr c.pkDraft l).1).2) (zr c.pkDraft l).2).2)
def CS.packets(c:CS):List (List UInt8)×CS:=CS.pkts (12-c.flight.length+c.acks.1.length+1) c.acks.2 c.acks.1
theorem Oz(hq:q<10):∀n (c:CS) (d:Dd),c.Ok->d.Ok->(CS.reps q n c d).1.Ok/\(CS.reps q n c d).2.Ok/\(CS.reps q n c d).2.room=d.room/\((CS.reps q n c d).2.wants=true\/(CS.reps q n c d).2.fs=d.fs)/\(d.wants=true->(CS.reps q n c d).2.wants=true)/\(d.fs≠[]->(CS.reps q n c d).2.fs≠[]) /\
  ((CS.reps q n c d).1.next=c.next/\(CS.reps q n c d).1.now=c.now/\(CS.reps q n c d).1.closed=c.closed/\(CS.reps q n c d).1.flight=c.flight/\(CS.reps q n c d).1.mtu=c.mtu/\(CS.reps q n c d).1.answer=c.answer/\(CS.reps q n c d).1.got=c.got):=by
 intro n
 induction n with
 | zero=>intro c d hc hd;exact⟨hc,hd,rfl,.inr rfl,id,id,⟨rfl,rfl,rfl,rfl,rfl,rfl,rfl⟩⟩
 | succ n ih =>
  intro c d hc hd;have pk:=Lr (d:=d) hc hq;have a:=pk.drf hd;unfold CS.reps;split
  ·rename_i hr;obtain⟨f,_,hk,ha⟩:=pk.yes hr;obtain⟨_,e2,e3,_,e5,_⟩:=Dd.add_some ha;have i:(c.put d q).2.2.wants=true:=by
    rw[e5];simp[hk]
   obtain⟨i1,i2,i3,i4,j,i6,i7⟩:=ih _ _ pk.ok a.1;obtain⟨x1,x2,x3,x4,x5,x6,x7⟩:=pk.next;obtain⟨y1,y2,y3,y4,y5,y6,y7⟩:=i7;exact⟨i1,i2,i3.trans a.2.1,.inl (j i),λ_=>j i,λ_=>i6 (by rw[e2];simp),y1.trans x1,y2.trans x2,y3.trans x3,y4.trans x4,y5.trans x5,y6.trans x6,y7.trans x7⟩
  ·rename_i hr;have b:(c.put d q).1=false:=by simpa using hr
   obtain⟨hc',g⟩:=pk.no b;have e:(c.put d q).2.2.fs=d.fs/\(c.put d q).2.2.wants=d.wants:=by
    rcases g with e|e
    ·rw[e];exact⟨rfl,rfl⟩
    ·rw[e];exact⟨rfl,rfl⟩
   exact⟨pk.ok,a.1,a.2.1,.inr e.1,λh=>by rw[e.2];exact h,λh=>by rw[e.1];exact h,pk.next⟩
theorem Pe:∀n (c:CS) (d:Dd),n<=10->c.Ok->d.Ok->(CS.fillN n c d).1.Ok/\(CS.fillN n c d).2.Ok/\(CS.fillN n c d).2.room=d.room/\((CS.fillN n c d).2.wants=true\/(CS.fillN n c d).2.fs=d.fs)/\(d.wants=true->(CS.fillN n c d).2.wants=true)/\(d.fs≠[]->(CS.fillN n c d).2.fs≠[]) /\
  ((CS.fillN n c d).1.next=c.next/\(CS.fillN n c d).1.now=c.now/\(CS.fillN n c d).1.closed=c.closed/\(CS.fillN n c d).1.flight=c.flight/\(CS.fillN n c d).1.mtu=c.mtu/\(CS.fillN n c d).1.answer=c.answer/\(CS.fillN n c d).1.got=c.got):=by
 intro n
 induction n with
 | zero=>intro c d _ hc hd;exact⟨hc,hd,rfl,.inr rfl,id,id,⟨rfl,rfl,rfl,rfl,rfl,rfl,rfl⟩⟩
 | succ n ih =>
  intro c d hn hc hd;obtain⟨h1,h2,h3,h4,h5,h6,x1,x2,x3,x4,x5,x6,x7⟩:=Oz (q:=9-n) (by omega) (d.room+1) c d hc hd;obtain⟨i1,i2,i3,a,b,i6,y1,y2,y3,y4,y5,y6,y7⟩:=ih _ _ (by omega) h1 h2;unfold CS.fillN;refine⟨i1,i2,i3.trans h3,?_,λh=>b (h5 h),λh=>i6 (h6 h),y1.trans x1,y2.trans x2,y3.trans x3,y4.trans x4,y5.trans x5,y6.trans x6,y7.trans x7⟩;rcases h4 with h4|h4
  ·exact .inl (b h4)
  ·rcases a with a|a
   ·exact .inl a
   ·exact .inr (a.trans h4)
structure FU(tag:Nat->Nat×Nat)(i b:Nat)(W0:World)(c:CS)(told:zC)(outs:List (List UInt8))(tag':Nat->Nat×Nat)(V:CV)(vs:List Value)(ov tv:Value)(W:World):Prop where
 c:zg tag' i b c V W
 e:Dj i tag tag' W0 W
 m:DW (Dp i tag) W0 W
 o:Fz tag' W0 W ov vs outs
 t:FB tag' (i,5) W tv told
 p:0<i
structure Ev(tag:Nat->Nat×Nat)(i b db:Nat)(W0:World)(c:CS)(d:Dd)(told:zC)(outs:List (List UInt8))(tag':Nat->Nat×Nat)(V:CV)(bv fv:Value)(l:List (Db×Value))(vs:List Value)(ov tv:Value)(W:World):Prop where
 s:zL tag i b db W0 c d tag' V bv fv l W
 o:Fz tag' W0 W ov vs outs
 t:FB tag' (i,5) W tv told
def zL.comp{a tag2:Nat->Nat×Nat}{V1 l:CV}{j k f g:Value}{l1 n:List (Db×Value)}(h:zL tag i b db W c d a V1 j k l1 W1)(h2:zL a i b db W1 c' d' tag2 l f g n W2):zL tag i b db W c' d' tag2 l f g n W2:=⟨h2.c,h2.d,h.e.trans h2.e h.m.size,Ec h.e h.m h2.m,h.p⟩
def Fz.own_{bs:List (List UInt8)}(h:Fz tag W0 W ov vs bs)(hi:0<i)(e:Dj i tag tag' W W')(m:DW (Dp i tag) W W'):Fz tag' W0 W' ov vs bs :=
 h.mod m.ofC (λg hg x=>by rw[x]at hg;have hg:(0:Nat)=i:=hg;omega) (λg hg x=>by rw[e.old g hg,x])
variable{outs:List (List UInt8)}{told:zC}{tv:Value}
def Ev.mod0{l:List (Db×Value)}(h:Ev tag i b db W0 c d told outs tag' V bv fv l vs ov tv W)(m:DW DX W W'):Ev tag i b db W0 c d told outs tag' V bv fv l vs ov tv W' :=
 ⟨h.s.mod0 m,h.o.mod m (λ_ x=>x.elim) (λ_ _ x=>x),h.t.mod m (λ_ x=>x.elim) (λ_ x=>x)⟩
def Ev.tell{a:zC}{l:List (Db×Value)}{e:Ending}(h:Ev tag i b db W0 c d told outs tag' V bv fv l vs ov tv W)(hp:Nh tag' i b db W c d' a e W'):∃v tag2 V2 bv2 fv2 l2,e = .returned v/\Ev tag i b db W0 c d' a outs tag2 V2 bv2 fv2 l2 vs ov v W':=by
 obtain⟨v,tag2,V2,bv2,fv2,l2,rfl,ht,f⟩:=hp;exact⟨v,tag2,V2,bv2,fv2,l2,rfl,h.s.comp f,h.o.own_ h.s.p f.e f.m,ht⟩
def Ev.fill{l:List (Db×Value)}{e:Ending}(h:Ev tag i b db W0 c d told outs tag' V bv fv l vs ov tv W)(hp:RW tag' i b db W c' d' e W'):e = .returned (.tuple #[])/\∃tag2 V2 bv2 fv2 l2,Ev tag i b db W0 c' d' told outs tag2 V2 bv2 fv2 l2 vs ov tv W':=by
 obtain⟨rfl,tag2,V2,bv2,fv2,l2,a⟩:=hp;exact⟨rfl,tag2,V2,bv2,fv2,l2,h.s.comp a,h.o.own_ h.s.p a.e a.m,h.t.mod a.m (λg hg x=>hg.2 (by rw[x])) (λg hg=>by rw[a.e.old g (EQ h.s.ok hg h.s.p),hg])⟩
def FU.draft(h:FU tag i b W0 c told outs tag' V vs ov tv W)(m1:DW DX W W1)(l:Dq W1 (.slice none 0 0) [] (zM c.next) bv W2):∃tag1,Ev tag i b W2.heap.size W0 c c.pkDraft told outs tag1 V bv (.slice none 0 0) [] vs ov tv (W2.alloc (.cells #[bv,.slice none 0 0,.int .i64 c.mtu,.bool false,.bool false] 180)):=by
 have hk:=h.e.z;have s:=h.p;have u:=m1.trans ((DW.refl DX W1).grown l.grown (λg hg=>by simp[Value.ownBlock]at hg));obtain⟨o,v⟩:=nm (Obj.cells #[bv,.slice none 0 0,.int .i64 c.mtu,.bool false,.bool false] 180);rw[v];have n:DW DX W (W2.alloc o):=u.alloc _;have hs1:=m1.size;have hs2:=u.size;have q:(W2.alloc o).heap.size=W2.heap.size+1:=by simp
 have j:∀g,bv.ownBlock=some g->W.heap.size<=g/\g<W2.heap.size:=λg hg=>by
  refine⟨?_,zF l.own g hg⟩;rcases l.at_ g hg with x|x
  ·simp[Value.ownBlock]at x
  ·omega
 obtain⟨tag1,a⟩:∃tag1:Nat->Nat×Nat,(λg=>if g=W2.heap.size then(i,90)else if bv.ownBlock=some g then(i,91)else tag' g)=tag1:=⟨_,rfl⟩;have d:∀g,g<W.heap.size->tag1 g=tag' g:=λg hg=>by
  rw[<-a];simp only;rw[AH (by omega),AH (λx=>by have:=(j g x).1;omega)]
 have f:∀g,(tag' g).1=i->tag1 g=tag' g:=λg hg=>d g (EQ hk (i:=i) (r:=(tag' g).2) (by rw[<-hg]) s)
 have k:Dj i tag' tag1 W (W2.alloc o):=by
  refine⟨d,λg hg=>?_,λg hg=>?_⟩
  ·rw[<-a];simp only;split
   ·exact .inl rfl
   ·split
    ·exact .inl rfl
    ·exact .inr (hk g hg)
  ·rw[q]at hg;rw[<-a];simp only;rw[AH (by omega),AH (λx=>by have:=(j g x).2;omega)];exact hk g (by omega)
 refine⟨tag1,⟨h.c.mod n (λ_ x=>x.elim) f,⟨?_,?_,World.ownsRow.alloc l.own _,λg hg=>?_,World.ownsRow_nil _ 0 _ 10,rfl,λx hx=>absurd hx Cp,λg hg=>by simp[Value.ownBlock]at hg⟩,h.e.trans k h.m.size,h.m.trans (n.mono (λ_ x=>x.elim)),s⟩,h.o.mod n (λ_ x=>x.elim) (λg hg x=>by rw[d g hg,x]),h.t.mod n (λ_ x=>x.elim) (λg hg=>by rw[f g (by rw[hg]),hg])⟩
 ·rw[heap_alloc_new W2 o,<-v];rfl
 ·rw[<-a];simp
 ·rw[<-a];simp only;rw[AH (by have:=(j g hg).2;omega),AN hg]
def Kf{fs:List (Db×Value)}(h:w.ownsRow 0 65 10 v fs.length (Ex fs))(hr:∀x∈fs,RR w x.2 x.1.rngs):G6 w v fs:=by
 obtain⟨a,cap,rfl,h1,h2,h3⟩:=zi h;refine⟨a,cap,rfl,h1,h2,λi fr hi=>⟨?_,hr fr (Ac hi)⟩⟩;have hlt:=(AM.1 hi).1;obtain⟨g,rfl⟩:=h3 (by omega);refine⟨g,0,rfl,λj x hx=>?_⟩;have:=h.cells (g:=g) rfl _ _ (TR fs i fr hi j x hx);rw[zS]at this;rw[Au]at this
 rwa [Au]
def TI{c d s1 s2 n1 n2:Nat}{e f:Value}{x1 x2:List Value}(h1:w.ownsRow 0 c s1 e n1 x1)(h2:w.ownsRow 0 d s2 f n2 x2)(he:c≠d)(hg:e.ownBlock=some g):f.ownBlock≠some g:=λa=>by
 rcases h1.2 with⟨rfl,_⟩|⟨g1,c1,u1,rfl,_,a1,_⟩
 ·simp[Value.ownBlock]at hg
 ·rcases h2.2 with⟨rfl,_⟩|⟨g2,c2,u2,rfl,_,b,_⟩
  ·simp[Value.ownBlock]at a
  ·simp[Value.ownBlock]at hg a;subst hg;subst a;rw[a1]at b;simp at b;exact he b.2
structure NK(tag:Nat->Nat×Nat)(i b db:Nat)(W0:World)(c:CS)(d:Dd)(told:zC)(outs:List (List UInt8))(tag':Nat->Nat×Nat)(V:CV)(bv fv:Value)(vs:List Value)(ov tv:Value)(W:World):Prop where
 h:FU tag i b W0 c told outs tag' V vs ov tv W
 obj:W.heap[db]?=some (.cells #[bv,fv,.int .i64 d.room,.bool d.wants,.bool d.full] 180 (0,0))
 fr:GF tag' (i,5) W fv d.fs
 fv:∃a cap,fv = .slice a d.fs.length cap
 db:tag' db=(i,90)
def Ev.sealed{l:List (Db×Value)}{w:Value}{F:World}(h:Ev tag i b db W0 c d told outs tag' V bv fv l vs ov tv W)(nd:∀g r,90<=r->tag g≠(i,r))
  (L:Dq W bv d.b new v' W1) (ho:F.ownsRow 0 60 1 w (vs.length+1) (vs++[v'])) (hg:W1.grownBy F ov.ownBlock) (hn:Dy W1 ov w) :
  ∃tag3,NK tag i b db W0 c d told (outs++[d.b++new]) tag3 V bv fv (vs++[v']) w tv F:=by
 have hk:=h.s.ok;have P:=h.s.p;have f:=h.s.d;have m1:=(DW.refl (λg=>bv.ownBlock=some g) W).grown L.grown (λg hg=>.inl hg);have G:=(DW.refl (λg=>ov.ownBlock=some g) W1).grown hg (λg hg=>.inl hg);have D:DW (λg=>bv.ownBlock=some g\/ov.ownBlock=some g) W F:=(m1.mono (λg x=>.inl (.inl x))).trans (G.mono (λg x=>.inl (.inr x)));have hs0:=h.s.m.size;have hs1:=m1.size;have hs2:=G.size;have z:∀r,((0:Nat),(0:Nat))≠(i,r):=λr x=>by simp at x;omega
 obtain⟨tag3,A⟩:∃tag3:Nat->Nat×Nat,(λg=>if tag' g=(i,91)then(0,0)else if tag' g=(i,92)then(i,5)else tag' g)=tag3:=⟨_,rfl⟩;have Q:∀g,tag' g=(i,91)->tag3 g=(0,0):=λg hg=>by rw[<-A];simp only;rw[AN hg]
 have k2:∀g,tag' g=(i,92)->tag3 g=(i,5):=λg hg=>by rw[<-A];simp only;rw[AH (by rw[hg];simp),AN hg]
 have k3:∀g,tag' g≠(i,91)->tag' g≠(i,92)->tag3 g=tag' g:=λg h1 h2=>by rw[<-A];simp only;rw[AH h1,AH h2]
 have k4:∀g r,r≠91->r≠92->tag' g=(i,r)->tag3 g=(i,r):=λg r h1 h2 hg=>by rw[k3 g (by rw[hg];simpa using h1) (by rw[hg];simpa using h2),hg]
 have H:∀g,tag' g=(0,0)->tag3 g=(0,0):=λg hg=>by rw[k3 g (by rw[hg];exact z _) (by rw[hg];exact z _),hg]
 have j:∀g r,90<=r->tag' g=(i,r)->W0.heap.size<=g:=λg r I hg=>by
  by_cases q:g<W0.heap.size
  ·rw[h.s.e.old g q]at hg;exact absurd hg (nd g r I)
  ·omega
 have E:∀g,v'.ownBlock=some g->(bv.ownBlock=some g/\tag' g=(i,91))\/W.heap.size<=g:=λg hg=>by
  rcases L.at_ g hg with x|x
  ·exact .inl ⟨x,f.tbv g x⟩
  ·exact .inr x
 have n:∀g,ov.ownBlock=some g->g<W.heap.size/\tag' g=(0,0):=λg hg=>⟨zF h.o.own g hg,(h.o.tov g hg).2⟩
 have B:∀(k:Nat) (u:Value),vs[k]?=some u->(∃lb,OB W u lb)/\∀g,u.ownBlock=some g->g<W.heap.size/\tag' g=(0,0):=λk u C=>by
  have M:k<outs.length:=by rw[<-h.o.len];exact(AM.1 C).1
  obtain⟨a,b⟩:=h.o.each k u outs[k] C (AJ M);exact⟨⟨_,a⟩,λg hg=>⟨zF a g hg,(b g hg).2⟩⟩
 have v:∀g,tag' g=(0,0)->g<W.heap.size->v'.ownBlock≠some g:=λg h1 h2 x=>by
  rcases E g x with y|y
  ·rw[y.2]at h1;exact z _ h1.symm
  ·omega
 have N:=h.s.c.modR hk P (m1.mono (λg hg=>.inl ⟨91,by decide,f.tbv g hg⟩)) (λ_ _=>rfl);have O:=N.mod G (λg hg=>by rw[(n g hg).2];simp;omega) (λ_ _=>rfl);have J:∀{g r:Nat},tag' g=(i,r)->r≠91->¬(bv.ownBlock=some g\/ov.ownBlock=some g):=λhg I x=>by
  rcases x with x|x
  ·have:=f.tbv _ x;rw[hg]at this;simp at this;exact I this
  ·have:=(n _ x).2;rw[hg]at this;exact z _ this.symm
 refine⟨tag3,⟨⟨O.retag (λg r I hg=>k4 g r (by omega) (by omega) hg),⟨λg hg=>?_,λg hg=>?_,λg hg=>H g (hk g (by omega))⟩,h.s.m.then D (λg hg=>.inr ?_),?_,?_,P⟩,D.obj (J f.tb (by decide)) f.obj,?_,?_,k4 _ 90 (by decide) (by decide) f.tb⟩⟩
 ·rw[k3 g (λx=>by have:=j g 91 (by decide) x;omega) (λx=>by have:=j g 92 (by decide) x;omega),h.s.e.old g hg]
 ·by_cases R:tag' g=(i,91)
  ·exact .inr (Q g R)
  ·by_cases S:tag' g=(i,92)
   ·exact .inl (by rw[k2 g S])
   ·rw[k3 g R S];exact h.s.e.new g hg
 ·rcases hg with x|x
  ·exact j g 91 (by decide) (f.tbv g x)
  ·exact(h.o.tov g x).1
 ·have o1:=h.o.mod m1 (λg hg x=>by rw[f.tbv g hg]at x;exact z _ x.symm) (λ_ _ x=>x);refine o1.push G (by omega) ho hn L.own (λg hg=>?_) (λg hg x=>?_) (λk u C g hg=>v g ((B k u C).2 g hg).2 ((B k u C).2 g hg).1) (λg _ hg=>H g hg) (λg hg=>H g (hk g (by omega))) (λk u C g hg=>?_)
  ·rcases E g hg with y|y
   ·exact⟨j g 91 (by decide) y.2,Q g y.2⟩
   ·exact⟨by omega,H g (hk g y)⟩
  ·exact v g (n g x).2 (n g x).1 hg
  ·obtain⟨⟨lb,hb⟩,_⟩:=B k u C;exact TI hb h.o.own (by decide) hg
 ·exact h.t.mod D (λg hg x=>J x (by decide) hg) (λg hg=>k4 g 5 (by decide) (by decide) hg)
 ·refine⟨l,f.lf,Kf (D.owns f.own (λg hg=>J (f.tfv g hg) (by decide))) (λx K=>(f.rr x K).1.mod D (GE λg hg=>J ((f.rr x K).2 g hg) (by decide))),λg hg=>k2 g (f.tfv g (O5 f.own hg)),λx K g hg=>k4 g 5 (by decide) (by decide) ((f.rr x K).2 g hg)⟩
 ·obtain⟨a,cap,e,_⟩:=zi f.own;have hl:l.length=d.fs.length:=by rw[<-f.lf,A9]
  exact⟨a,cap,by rw[e,hl]⟩
def NK.fly(h:NK tag i b db W0 c d told outs tag' V bv fv vs ov tv W)(A:DW DX W W1)
  (F:W2.ownsRow 0 173 3 v' (c.flight.length+1) (zy (c.flight.zip V.fts++[(⟨c.next,c.now,d.fs⟩,fv)]))) (hg:W1.grownBy W2 V.ft.ownBlock) (G:Dy W1 V.ft v') :
  ∃tag4,FU tag i b W0 { c with flight:=c.flight++[⟨c.next,c.now,d.fs⟩] } told outs tag4 { V with ft:=v',fts:=V.fts++[fv] } vs ov tv (W2.setCell ⟨b,236,none⟩ v'):=by
 have j:=h.h;have hk:=j.e.z;have H:=j.p;have a:=j.c;have B:=(DW.refl (λg=>V.ft.ownBlock=some g) W1).grown hg (λg hg=>.inl hg);have s:DW (λg=>g=b\/V.ft.ownBlock=some g) W (W2.setCell ⟨b,236,none⟩ v'):=((A.mono (λ_ x=>x.elim)).trans (B.mono (λg x=>.inl (.inr x)))).setCell (p:=⟨b,236,none⟩) (.inl (.inl rfl)) _;have hs0:=A.size;have hs2:=B.size;have C:(W2.setCell ⟨b,236,none⟩ v').heap.size=W2.heap.size:=by simp
 have u:∀g,(g=b\/V.ft.ownBlock=some g)->∃r,(r=1\/r=4)/\tag' g=(i,r):=λg hg=>by
  rcases hg with hg|hg
  ·exact⟨1,.inl rfl,by rw[hg,a.tb]⟩
  ·exact⟨4,.inr rfl,a.tft g hg⟩
 have f:∀{g r:Nat},tag' g=(i,r)->g<W.heap.size:=λhg=>EQ hk hg H
 have v:∀g,(tag' g).1=i->Go.Proofs.YtddfdpbaiedcjaaGreatDoor.retag tag' W W2 (i,4) g=tag' g:=λg hg=>zz (f (r:=(tag' g).2) (by rw[<-hg]))
 have D:=B.obj (λx=>by
  have:=a.tft b x;rw[a.tb]at this;simp at this) (A.obj (λx=>x) a.obj)
 have E:∀g,v'.ownBlock=some g->g≠b:=λg hg x=>by
  subst x;rcases G g hg with y|y
  ·have:=a.tft g y;rw[a.tb]at this;simp at this
  ·have:=f a.tb;omega
 have z:∀g,tag' g=(0,0)->¬(g=b\/V.ft.ownBlock=some g):=λg hg x=>by
  obtain⟨r,_,e⟩:=u g x;rw[hg]at e;simp at e;omega
 have w:Dj i tag' (Go.Proofs.YtddfdpbaiedcjaaGreatDoor.retag tag' W W2 (i,4)) W (W2.setCell ⟨b,236,none⟩ v'):=by
  refine⟨λg hg=>zz hg,λg hg=>?_,λg hg=>?_⟩
  ·by_cases q:g<W2.heap.size
   ·exact .inl (by rw[Fr hg q])
   ·exact .inr (by simp only[Go.Proofs.YtddfdpbaiedcjaaGreatDoor.retag,show ¬g<W.heap.size by omega,q,AH,As])
  ·rw[C]at hg;simp only[Go.Proofs.YtddfdpbaiedcjaaGreatDoor.retag,show ¬g<W.heap.size by omega,show ¬g<W2.heap.size by omega,AH,As]
 have n:(c.flight++[(⟨c.next,c.now,d.fs⟩:Df)]).zip (V.fts++[fv])=c.flight.zip V.fts++[(⟨c.next,c.now,d.fs⟩,fv)]:=by
  rw[List.zip_append a.fl.symm];rfl
 refine⟨_,?_,j.e.trans w j.m.size,Ec j.e j.m (s.mono (λg hg=>.inl ?_)),j.o.mod s (λg hg x=>z g x hg) (λg hg x=>by rw[zz hg,x]),j.t.mod s (λg hg x=>?_) (λg hg=>by rw[zz (f hg),hg]),H⟩
 ·refine a.build (R:=λr=>r=1\/r=4) s u v ?_ (.inl ⟨rfl,rfl,rfl,by omega,by omega⟩) (λk hk=>.inl ⟨rfl,rfl,by omega⟩) (λk hk=>.inl ⟨rfl,rfl,by omega⟩) (λk hk=>.inl ⟨rfl,rfl,by omega⟩) (λk hk=>.inl ⟨rfl,rfl,by omega⟩) (λk hk=>.inl ⟨rfl,rfl,by omega⟩) (.inr ⟨?_,?_,?_,?_⟩) (.inl ⟨rfl,rfl,by omega⟩) (.inl ⟨rfl,rfl,by omega⟩) (.inl ⟨rfl,rfl,by omega⟩)
  ·rw[zc D,Ap];rw[show(236:Nat)=233+3 from rfl,zX c { c with flight:=c.flight++[⟨c.next,c.now,d.fs⟩] } V { V with ft:=v',fts:=V.fts++[fv] } _ rfl rfl rfl rfl]
  ·rw[n];have:=((DW.refl (λg=>g=b) W2).setCell (p:=⟨b,236,none⟩) (.inl rfl) v').owns F (λg hg x=>E g hg x);rw[AF,Aa];exact this
  ·rw[AF,AF,a.fl];rfl
  ·intro p l;have l:p∈(c.flight++[(⟨c.next,c.now,d.fs⟩:Df)]).zip (V.fts++[fv]):=l;rw[n]at l;have I:∀g,(g=b\/V.ft.ownBlock=some g)->tag' g≠(i,5):=λg hg x=>by
    obtain⟨r,J,e⟩:=u g hg;rw[x]at e;simp at e;omega
   rcases An.1 l with q|q
   ·exact(a.fs p q).mod s I (λg hg=>by rw[zz (f hg),hg])
   ·simp at q;subst q;exact h.fr.mod s I (λg hg=>by rw[zz (f hg),hg])
  ·intro g hg;rcases G g hg with y|y
   ·rw[zz (f (a.tft g y)),a.tft g y]
   ·exact Fr (by omega) (zF F g hg)
 ·obtain⟨r,J,e⟩:=u g hg;exact EK e (by omega)
 ·obtain⟨r,J,e⟩:=u g hg;rw[x]at e;simp at e;omega
def FU.next(h:FU tag i b W0 c told outs tag' V vs ov tv W):FU tag i b W0 { c with next:=c.next+1 } told outs tag' V vs ov tv (W.setCell ⟨b,6,none⟩ (.int .u64 ((c.next+1:Nat):Int))):=by
 have m:DW (λg=>g=b) W (W.setCell ⟨b,6,none⟩ (.int .u64 ((c.next+1:Nat):Int))):=(DW.refl (λg=>g=b) W).setCell (p:=⟨b,6,none⟩) (.inl rfl) _;have tb:=h.c.tb;have hp:=h.p;exact⟨h.c.store 6 _ (Ju c { c with next:=c.next+1 } V V (j:=6) _ (by decide) rfl rfl rfl rfl) ⟨rfl,λ_ _=>⟨rfl,rfl,rfl⟩,λ_ _=>⟨rfl,rfl⟩,rfl,rfl,rfl,rfl⟩,⟨h.e.old,h.e.new,h.e.z.mod m⟩,
  Ec h.e h.m (m.mono (λq hq=>.inl (EK (r:=1) (by rw[show q=b from hq];exact tb) (by decide)))),h.o.mod m (λg hg x=>by rw[show g=b from hg,tb]at x;simp at x) (λ_ _ x=>x),h.t.mod m (λg hg x=>by rw[show g=b from hg,tb]at x;simp at x) (λ_ x=>x),hp⟩
def Gt(l:zC):Prop:=∀i,i<l.length->Gw l i=true
def Gt.tell{l:zC}(h:Gt l):Qg l:=by
 intro n h1 h2;have hl:(l.take n).length=n:=by rw[AS];omega
 have hs:Eh (l.take n)=true:=by
  unfold Eh Gv;rw[hl];simp only[AZ,Cr,Bg,Af];refine⟨λi hi=>?_,by omega⟩;have:=h i (by omega);unfold Gw at this ⊢;rw[(MB l n i hi).1,(MB l n i hi).2];by_cases h0:i=0
  ·subst h0;simpa using this
  ·rw[(MB l n (i-1) (by omega)).1];exact this
 have:zT (ackF (l.take n))=(EM (ackF (l.take n))&&ER (ackF (l.take n))&&Eh (l.take n)):=rfl;rw[this,hs];rfl
def Gt.drop{l:zC}(h:Gt l)(n:Nat):Gt (l.drop n):=by
 intro i hi;rw[Ad]at hi;have:=h (n+i) (by omega);unfold Gw at this ⊢;rw[(G9 l n i).1,(G9 l n i).2];by_cases h0:i=0
 ·subst h0;simp only[AZ]at this;have h1:=of_decide_eq_true this.1.1;have h2:=of_decide_eq_true this.1.2;rw[Br]at h1 h2;simp[h1,h2]
 ·rw[(G9 l n (i-1)).1,show n+(i-1)=n+i-1 by omega];have hz:¬n+i=0:=by omega
  simpa [hz,h0]using this
def Dh.Ok.desc{s:Dh}(h:s.Ok):Gt s.rs.reverse:=by
 have a:∀i,i<s.rs.length->Da s.rs.reverse i=Da s.rs (s.rs.length-1-i)/\DY s.rs.reverse i=DY s.rs (s.rs.length-1-i):=λi hi=>by
  simp[Da,DY,Ai,List.getElem?_reverse hi]
 intro i hi;rw[List.length_reverse]at hi;have h1:=h.wf.1 (s.rs.length-1-i) (by omega);have h2:=h.hi (s.rs.length-1-i) (by omega);unfold Gw;rw[(a i hi).1,(a i hi).2];unfold zB at h2;by_cases h0:i=0
 ·simp[h0]at h1 h2 ⊢;exact⟨h1.1,h2⟩
 ·rw[(a (i-1) (by omega)).1];have h3:=h.wf.2 (s.rs.length-1-i) (s.rs.length-1-(i-1)) (by omega) (by omega);simp only[AZ,Bm,Af];exact⟨⟨h1.1,h2⟩,.inr ⟨by omega,by omega⟩⟩
def Fv(c:CS)(l:zC):Nat:=(12-c.flight.length)+l.length
structure Gs(c:CS)(l:zC):Prop where
 ok:c.Ok
 mtu:64<=c.mtu
 desc:Gt l
 len:l.length<=1048576
 fl:c.flight.length<=12
 next:c.next+Fv c l<zB
def Ix(h:c.Ok):c.pkDraft.Ok:=by
 have:=zu c.next;exact⟨by show(zM c.next).length<=_;omega,AL _,h.mtu⟩
theorem Ng(hd:d.Ok)(l:zC):(zr d l).1.Ok/\(zr d l).1.room=d.room/\(l=[]->(zr d l)=(d,l))/\(l≠[]->(zr d l).2.length<l.length)/\(Gt l->Gt (zr d l).2)/\(zr d l).2.length<=l.length/\(zr d l).1.wants=d.wants:=by
 unfold zr;by_cases hl:l=[]
 ·rw[AN hl];exact⟨hd,rfl,λ_=>rfl,λh=>absurd hl h,id,AG _,rfl⟩
 ·rw[AH hl];have a:1<=l.length:=BU.2 hl;have hn:=Pn d l l.length a;have c:(GX d l).2.length<l.length:=by
   show(l.drop _).length<_;rw[Ad];omega
  have e:(GX d l).1.Ok/\(GX d l).1.room=d.room/\(GX d l).1.wants=d.wants:=by
   show((d.add _).getD d).Ok/\((d.add _).getD d).room=d.room/\((d.add _).getD d).wants=d.wants;cases h:d.add (ackF (l.take (Ew d l l.length)))with
   | none=>exact⟨hd,rfl,rfl⟩
   | some d' =>
    obtain⟨h1,h2,h3,_,h5,h4⟩:=Dd.add_some h;have hb:=Tj (ackF (l.take (Ew d l l.length)));have hr:=hd.room;have hs:=hd.fs;have hl2:d'.b.length=d.b.length+(zA (ackF (l.take (Ew d l l.length)))).length:=by rw[h1,AF]
    exact⟨⟨by show d'.b.length<=_;omega,by show d'.fs.length<=d'.b.length;rw[h2,AF,Aa];omega,by show d'.room<=_;omega⟩,h3,h5.trans (by simp[ackF])⟩
  exact⟨e.1,e.2.1,λh=>absurd h hl,λ_=>c,λh=>h.drop _,Nat.le_of_lt c,e.2.2⟩
def Gs.round{l:zC}(h:Gs c l):(zr c.pkDraft l).1.Ok/\(c.pkFill (zr c.pkDraft l).1).1.Ok/\(c.pkFill (zr c.pkDraft l).1).2.Ok/\(c.pkFill (zr c.pkDraft l).1).1.next=c.next/\(c.pkFill (zr c.pkDraft l).1).1.now=c.now/\(c.pkFill (zr c.pkDraft l).1).1.flight=c.flight /\
  ((c.pkFill (zr c.pkDraft l).1).2.fs≠[]->Gs ((c.pkFill (zr c.pkDraft l).1).1.pkDone (c.pkFill (zr c.pkDraft l).1).2) (zr c.pkDraft l).2/\Fv ((c.pkFill (zr c.pkDraft l).1).1.pkDone (c.pkFill (zr c.pkDraft l).1).2) (zr c.pkDraft l).2<Fv c l):=by
 obtain⟨t1,t2,j,t4,t5,t6,t7⟩:=Ng (Ix h.ok) l;have hf:(c.pkFill (zr c.pkDraft l).1).1.Ok/\(c.pkFill (zr c.pkDraft l).1).2.Ok/\((c.pkFill (zr c.pkDraft l).1).1.next=c.next/\(c.pkFill (zr c.pkDraft l).1).1.now=c.now/\(c.pkFill (zr c.pkDraft l).1).1.flight=c.flight/\(c.pkFill (zr c.pkDraft l).1).1.mtu=c.mtu) /\
   (l=[]->(c.pkFill (zr c.pkDraft l).1).2.fs≠[]->c.flight.length<12/\(c.pkFill (zr c.pkDraft l).1).2.wants=true)/\((c.pkFill (zr c.pkDraft l).1).2.wants=true->c.flight.length<12):=by
  unfold CS.pkFill;split
  ·rename_i hlt;obtain⟨i1,i2,i3,d,i5,i6,x1,x2,x3,x4,x5,x6,x7⟩:=Pe 10 c (zr c.pkDraft l).1 (AG _) h.ok t1;refine⟨i1,i2,⟨x1,x2,x4,x5⟩,λf a=>⟨hlt,?_⟩,λ_=>hlt⟩;rcases d with d|d
   ·exact d
   ·exact absurd (d.trans (by rw[j f];rfl)) a
  ·exact⟨h.ok,t1,⟨rfl,rfl,rfl,rfl⟩,λf a=>absurd (by rw[j f];rfl) a,λe=>by rw[show(c,(zr c.pkDraft l).1).2=(zr c.pkDraft l).1 from rfl,t7]at e;cases e⟩
 obtain⟨f1,f2,⟨f3,f4,b,f6⟩,f7,f8⟩:=hf;refine⟨t1,f1,f2,f3,f4,b,λa=>?_⟩;have g:Fv ((c.pkFill (zr c.pkDraft l).1).1.pkDone (c.pkFill (zr c.pkDraft l).1).2) (zr c.pkDraft l).2<Fv c l:=by
  unfold Fv CS.pkDone;simp only;by_cases hl:l=[]
  ·obtain⟨g1,g2⟩:=f7 hl a;rw[AN g2,b,AF,Aa];omega
  ·have:=t4 hl;split
   ·rw[b,AF,Aa];omega
   ·rw[b];omega
 have hn:=h.next;have i:=h.fl;have hm:=h.mtu;refine⟨⟨⟨f1.mtu,f1.win,f1.tot,f1.grant,f1.credit,f1.ws,f1.rs,f1.waits⟩,by show 64<=(c.pkFill _).1.mtu;omega,t5 h.desc,by have:=h.len;omega,?_,?_⟩,g⟩
 ·unfold CS.pkDone;simp only;split
  ·rename_i e;rw[b,AF,Aa];have:=f8 e;omega
  ·rw[b];exact i
 ·show(c.pkFill _).1.next+1+_<zB;omega
def WS.give(x:WS)(n:Nat):WS :=
 {x with final:=if x.cut then x.final else max x.high n,keep:=if !x.cut||decide (n<x.keep)then n else x.keep,telling:=if !x.cut||decide (n<x.keep)then false else x.telling,cut:=true }
def CS.reset(c:CS)(k keep:Int):Nat×CS :=
 if c.stream k≠0 then(c.stream k,c)else(0,{ c with ws:=upd c.ws k.toNat ((c.ws k.toNat).give (min keep.toNat (c.ws k.toNat).b.length)) })
def E3(id dl:Nat)(s:List UInt8):Db:=⟨7,0,0,0,0,false,id,dl,s,[]⟩
def CS.datagram(c:CS)(id dl:Nat)(s:List UInt8):Nat×CS :=
 if c.closed≠0 then(12,c)else
 if zB<id\/zB<dl\/(c.anyID=true/\id<=c.lastID)then(5,c)else
 if c.mtu<s.length+40 then(6,c)else
 if c.waits.length=16 then(3,c)else
 (0,{ c with anyID:=true,lastID:=id,waits:=if c.now<=dl then c.waits++[E3 id dl s]else c.waits })
def Ic:zC->Nat->Nat->Dh->Dh
 | [],_,_,t=>t
 | r::l,lo,hi,t =>
  Ic l lo hi (if hi<=r.2 then(if r.1<lo then t.add r.1 (min r.2 (lo-1))else t).add (max r.1 hi) r.2 else(if r.1<lo then t.add r.1 (min r.2 (lo-1))else t))
def Dh.without(s:Dh)(lo hi:Nat):Dh:=Ic s.rs lo hi ⟨[],0,s.most⟩
def Dh.adds(t:Dh)(l:zC):Dh:=l.foldl (λt r=>t.add r.1 r.2) t
def WS.again(x:WS)(f:Db):WS :=
 {x with sent:=(x.sent.without f.off (f.off+f.data.length)).adds x.came.rs.reverse,ending:=x.ending && !f.fin }
def CS.again(c:CS)(f:Db):CS :=
 if f.kind=4 then{ c with ws:=upd c.ws f.stream.toNat ((c.ws f.stream.toNat).again f) }
 else if f.kind=3 then{ c with ws:=upd c.ws f.stream.toNat { c.ws f.stream.toNat with telling:=(c.ws f.stream.toNat).telling && !(f.rel==(c.ws f.stream.toNat).keep) } }
 else if f.kind=5 then{ c with anew:=c.anew||f.lim==c.grant }
 else if f.kind=6 then{ c with rs:=upd c.rs f.stream.toNat { c.rs f.stream.toNat with anew:=(c.rs f.stream.toNat).anew||f.lim==(c.rs f.stream.toNat).grant } }
 else c
def CS.agains(c:CS)(fs:List Db):CS:=fs.foldl CS.again c
def CS.late(c:CS)(p:Df):Bool:=decide (p.at_+6<=c.now)||decide (p.n+3<=c.largest)
def CS.lose(c:CS):CS:={ (c.flight.foldl (λc p=>if c.late p then c.agains p.fs else c) c)with flight:=c.flight.filter (λp => !c.late p) }
def CS.tick(c:CS):CS:=({ c with now:=c.now+1,waits:=c.waits.filter (λf => !decide (f.dl<c.now+1)) }:CS).lose
def WS.acked(x:WS)(f:Db):WS :=
 {x with came:=x.came.add f.off (f.off+f.data.length-1),sent:=x.sent.add f.off (f.off+f.data.length-1) }
def CS.ackF(c:CS)(f:Db):CS:=if f.kind=4/\f.data≠[]then{ c with ws:=upd c.ws f.stream.toNat ((c.ws f.stream.toNat).acked f) }else c
def Eu(l:zC)(p:Df):Bool:=l.any λr=>decide (r.1<=p.n)&&decide (p.n<=r.2)
def CS.ackP(c:CS)(l:zC)(p:Df):CS:=if Eu l p then p.fs.foldl CS.ackF c else c
def CS.acked(c:CS)(l:zC):Nat×CS :=
 if c.next<=DY l 0 then(11,c)
 else(0,({ (c.flight.foldl (λc p=>c.ackP l p) { c with largest:=max c.largest (DY l 0) })with flight:=c.flight.filter (λp => !Eu l p) }:CS).lose)
def RS.resetAt(x:RS)(f:Db):RS:={ x with keep:=if !x.cut||decide (f.rel<x.keep)then f.rel else x.keep,cut:=true,ended:=true,fin:=f.off }
def CS.resetAt(c:CS)(f:Db):Nat×CS :=
 if ((c.rs f.stream.toNat).ended&&(c.rs f.stream.toNat).fin != f.off)||decide (f.off<(c.rs f.stream.toNat).high)then(10,c)
 else(0,{ c with rs:=upd c.rs f.stream.toNat ((c.rs f.stream.toNat).resetAt f) })
def Hv(b:List UInt8)(i:Nat)(s:List UInt8):List UInt8:=b.take i++(s++b.drop (i+s.length))
def Ek(off:Nat)(data:List UInt8)(e:Nat):Nat->Nat->List UInt8->Dh->List UInt8×Dh
 | 0,_,b,s=>(b,s)
 | n+1,lo,b,s =>
  if lo<e then
   if e<=(Dk s.rs lo e).1 then(b,s)
   else Ek off data e n (Dk s.rs lo e).2 (Hv b (Dk s.rs lo e).1 ((data.drop ((Dk s.rs lo e).1-off)).take ((Dk s.rs lo e).2-(Dk s.rs lo e).1))) (s.add (Dk s.rs lo e).1 ((Dk s.rs lo e).2-1))
  else(b,s)
def Is(b:List UInt8)(n:Nat):List UInt8:=b++List.replicate (n-b.length) 0
def Db.end_(f:Db):Nat:=f.off+f.data.length
def RS.dataB(x:RS)(f:Db):List UInt8×Dh:=Ek f.off f.data f.end_ (f.data.length+1) f.off (Is x.b (max x.high f.end_)) x.came
def RS.data(x:RS)(f:Db):RS :=
 {x with high:=max x.high f.end_,ended:=x.ended||f.fin,fin:=if f.fin then f.end_ else x.fin,b:=(x.dataB f).1,came:=(x.dataB f).2 }
def FW(rs:Nat->RS):Nat->Nat
 | 0=>0
 | k+1=>FW rs k+(rs k).high
def RS.badEnd(x:RS)(f:Db):Bool:=(x.ended&&(decide (x.fin<f.end_)||(f.fin&&f.end_ != x.fin)))||(f.fin&&decide (f.end_<x.high))
def CS.data(c:CS)(f:Db):Nat×CS :=
 if (c.rs f.stream.toNat).badEnd f then(10,c)else
 if (c.rs f.stream.toNat).high<f.end_/\((c.rs f.stream.toNat).grant<f.end_\/c.grant<f.end_-(c.rs f.stream.toNat).high+FW c.rs 8)then(9,c)else
 (0,{ c with rs:=upd c.rs f.stream.toNat ((c.rs f.stream.toNat).data f) })
def old(m id:Nat):Bool:=decide (32<=m)&&decide (id<=m-32)
def CS.message(c:CS)(f:Db):CS :=
 if (c.seen.any λp=>p.1==f.id)||decide (f.dl<c.now)||(decide (0<c.seen.length)&&old c.most f.id)then c else
 {c with most:=max c.most f.id,seen:=(c.seen++[(f.id,f.dl)]).filter (λp => !old (max c.most f.id) p.1),came:=c.came++[(f.id,f.data)] }
def CS.take(c:CS)(f:Db):Nat×CS :=
 if f.kind=2 then c.acked f.rngs
 else if f.kind=3 then c.resetAt f
 else if f.kind=4 then c.data f
 else if f.kind=5 then(0,{ c with credit:=max c.credit f.lim })
 else if f.kind=6 then(0,{ c with ws:=upd c.ws f.stream.toNat { c.ws f.stream.toNat with credit:=max (c.ws f.stream.toNat).credit f.lim } })
 else if f.kind=7 then(0,c.message f)
 else if f.kind=8 then(13,c)
 else(0,c)
def CS.takes:List Db->CS->Nat×CS
 | [],c=>(0,c)
 | f::fs,c =>
  if (c.take f).1≠0 then((c.take f).1,{ (c.take f).2 with closed:=(c.take f).1,said:=(c.take f).1==13 })
  else CS.takes fs { (c.take f).2 with answer:=(c.take f).2.answer||f.kind != 2 }
def CS.receive(c:CS)(bs:List UInt8):(Nat×Int)×CS :=
 if c.closed≠0 then((12,-1),c)else
 match dec bs with
 | .sum=>((7,-1),c)
 | .bad p=>((8,(p:Int)),{ c with closed:=8 })
 | .ok n fs=>if Gf c.got.rs c.got.fl n then((0,-1),c)else
  (((CS.takes fs { c with got:=c.got.add n n }).1,-1),(CS.takes fs { c with got:=c.got.add n n }).2)
def CS.datagramsOut(c:CS):List (Nat×List UInt8)×CS:=(c.came,{ c with came:=[] })
def RS.readTo(x:RS)(most:Nat):Nat :=
 if x.cut then max x.read (min (min (Dk x.came.rs x.read x.high).1 (x.read+most)) x.keep)else min (Dk x.came.rs x.read x.high).1 (x.read+most)
def RS.stateAt(x:RS)(e:Nat):Nat:=if x.cut&&decide (x.keep<=e)then 2 else if !x.cut&&x.ended&&e==x.fin then 1 else 0
def CS.read(c:CS)(k most:Int):(List UInt8×Nat×Nat)×CS :=
 if c.stream k≠0 then(([],0,c.stream k),c)else
 if (c.rs k.toNat).state≠0 then(([],(c.rs k.toNat).state,0),c)else
 ((((c.rs k.toNat).b.drop (c.rs k.toNat).read).take ((c.rs k.toNat).readTo most.toNat-(c.rs k.toNat).read),(c.rs k.toNat).stateAt ((c.rs k.toNat).readTo most.toNat),0),
  {c with rs:=upd c.rs k.toNat { c.rs k.toNat with read:=(c.rs k.toNat).readTo most.toNat,state:=(c.rs k.toNat).stateAt ((c.rs k.toNat).readTo most.toNat) } })
def jN(a:Nat):Db:=⟨8,0,0,0,a,false,0,0,[],[]⟩
def CS.farewell(c:CS):List (List UInt8)×CS :=
 if c.said then([],c)else
 ([EP ((c.pkDraft.add (jN (if c.closed=12 then 0 else c.closed))).getD c.pkDraft).b],{ c with said:=true,next:=c.next+1 })
def CS.z(c:CS):List (List UInt8)×CS:=if c.closed≠0 then c.farewell else c.packets
structure EN where
 wrote:List UInt8
 fin:Bool
 cut:Bool
 keep:Nat
 read:Nat
 state:Nat
structure SN where
 id:Nat
 dl:Nat
 data:List UInt8
 came:Bool
structure NS where
 mtu:Nat
 window:Nat
 total:Nat
 now:Nat
 c:Nat->CS
 e:Nat->Nat->EN
 g:Nat->List SN
 next:Nat->Nat
 count:Nat->Nat
 bag:List (Nat×List UInt8)
structure Dm where
 kind:Int
 side:Int
 a:Int
 b:Int
 s:List UInt8
def EN.zero:EN:=⟨[],false,false,0,0,0⟩
end
section
open Go.RowKit Go.Proofs.Tryz
def NS.new(mtu window total:Nat):NS :=
 {mtu:=mtu,window:=window,total:=total,now:=0,c:=λ_=>CS.new mtu window total,e:=λ_ _=>EN.zero,g:=λ_=>[],next:=λ_=>0,count:=λ_=>0,bag:=[] }
def NS.build(mtu window total:Int):NS:=NS.new (64+DZ mtu 337) (16+DZ window 300) (16+DZ total 600)
def NS.setC(n:NS)(i:Nat)(c:CS):NS:={ n with c:=upd n.c i c }
def NS.setE(n:NS)(i k:Nat)(e:EN):NS:={ n with e:=upd n.e i (upd (n.e i) k e) }
def NS.send(n:NS)(i k:Nat)(s:List UInt8):Bool×NS :=
 if (n.e i k).fin||(n.e i k).cut then(((n.c i).send k s).1==4,n.setC i ((n.c i).send k s).2)
 else if 2048<(n.e i k).wrote.length+s.length then(((n.c i).send k s).1==3,n.setC i ((n.c i).send k s).2)
 else(((n.c i).send k s).1==0,(n.setC i ((n.c i).send k s).2).setE i k { n.e i k with wrote:=(n.e i k).wrote++s })
def NS.finish(n:NS)(i k:Nat):Bool×NS :=
 if (n.e i k).fin||(n.e i k).cut then(((n.c i).finish k).1==4,n.setC i ((n.c i).finish k).2)
 else(((n.c i).finish k).1==0,(n.setC i ((n.c i).finish k).2).setE i k { n.e i k with fin:=true })
def NS.resetK(n:NS)(i k keep:Nat):Bool×NS :=
 (((n.c i).reset k keep).1==0,(n.setC i ((n.c i).reset k keep).2).setE i k { n.e i k with keep:=if !(n.e i k).cut||decide (keep<(n.e i k).keep)then keep else(n.e i k).keep,cut:=true })
def NS.reset(n:NS)(i k:Nat)(b:Int):Bool×NS:=n.resetK i k (DZ b ((n.e i k).wrote.length+1))
def NS.datagram(n:NS)(i:Nat)(s:Dm):Bool×NS :=
 if n.mtu<s.s.length+40 then(((n.c i).datagram (n.next i) n.now s.s).1==6,n.setC i ((n.c i).datagram (n.next i) n.now s.s).2)
 else if ((n.c i).datagram (n.next i) (n.now+DZ s.a 9) s.s).1=3 then(decide (16<=(n.g i).length),n.setC i ((n.c i).datagram (n.next i) (n.now+DZ s.a 9) s.s).2)
 else if ((n.c i).datagram (n.next i) (n.now+DZ s.a 9) s.s).1≠0 then(false,n.setC i ((n.c i).datagram (n.next i) (n.now+DZ s.a 9) s.s).2)
 else(true,{ n.setC i ((n.c i).datagram (n.next i) (n.now+DZ s.a 9) s.s).2 with g:=upd n.g i (n.g i++[⟨n.next i,n.now+DZ s.a 9,s.s,false⟩]),next:=upd n.next i (n.next i+1+DZ s.b 3) })
def NS.tick(n:NS):NS:={ n with now:=n.now+1,c:=upd (upd n.c 0 (n.c 0).tick) 1 (n.c 1).tick }
def E8(now:Nat)(f:Db):Bool:=f.kind==7&&decide (f.dl<now)
def NS.flushL(i:Nat):List (List UInt8)->NS->Bool×NS
 | [],n=>(true,n)
 | b::l,n =>
  match dec b with
  | .ok num fs =>
   if n.mtu<b.length\/num≠n.count i\/fs=[]then(false,n)
   else if fs.any (E8 n.now)then(false,{ n with count:=upd n.count i (n.count i+1) })
   else NS.flushL i l { n with count:=upd n.count i (n.count i+1),bag:=n.bag++[(1-i,b)] }
  | _=>(false,n)
def NS.flush(n:NS)(i:Nat):Bool×NS:=NS.flushL i (n.c i).packets.1 (n.setC i (n.c i).packets.2)
def EF(now id:Nat)(data:List UInt8):List SN->Bool->Bool×List SN
 | [],r=>(r,[])
 | g::l,r =>
  if g.id=id then((EF now id data l (g.data==data && !g.came&&decide (now<=g.dl))).1,{ g with came:=true }::(EF now id data l (g.data==data && !g.came&&decide (now<=g.dl))).2)
  else((EF now id data l r).1,g::(EF now id data l r).2)
def FV(now:Nat):List (Nat×List UInt8)->List SN->Bool×List SN
 | [],G=>(true,G)
 | m::l,G=>if (EF now m.1 m.2 G false).1 then FV now l (EF now m.1 m.2 G false).2 else(false,(EF now m.1 m.2 G false).2)
def NS.came(n:NS)(i:Nat):Bool×NS :=
 ((FV n.now (n.c i).datagramsOut.1 (n.g (1-i))).1,{ n.setC i (n.c i).datagramsOut.2 with g:=upd n.g (1-i) (FV n.now (n.c i).datagramsOut.1 (n.g (1-i))).2 })
def NS.drop(n:NS)(k:Nat):NS:={ n with bag:=n.bag.take k++n.bag.drop (k+1) }
def NS.recv(n:NS)(i:Nat)(b:List UInt8):Nat×Bool×NS :=
 (((n.c i).receive b).1.1,(n.setC i ((n.c i).receive b).2).came i)
def Gy(b:List UInt8)(k:Nat)(x:UInt8):List UInt8:=b.take k++([b.getD k 0 ^^^ x]++b.drop (k+1))
def IQ(s:List UInt8):UInt8:=if s.getD 0 0≠0 then s.getD 0 0 else 1
def NS.carryK(n:NS)(s:Dm)(k:Nat)(f:Nat×List UInt8):Bool×NS :=
 if s.kind=7 then(((if DZ s.b 2=0 then n.drop k else n).recv f.1 f.2).1==0&&((if DZ s.b 2=0 then n.drop k else n).recv f.1 f.2).2.1,((if DZ s.b 2=0 then n.drop k else n).recv f.1 f.2).2.2)
 else if s.kind=8 then(true,n.drop k)
 else if s.kind=9 then((n.recv f.1 (Gy f.2 (DZ s.b f.2.length) (IQ s.s))).1==7&&(n.recv f.1 (Gy f.2 (DZ s.b f.2.length) (IQ s.s))).2.1,(n.recv f.1 (Gy f.2 (DZ s.b f.2.length) (IQ s.s))).2.2)
 else(true,n)
def NS.carry(n:NS)(s:Dm):Bool×NS :=
 if n.bag=[]then(true,n)else n.carryK s (DZ s.a n.bag.length) (n.bag.getD (DZ s.a n.bag.length) (0,[]))
def EN.wrong(o:EN)(most:Nat)(r:List UInt8×Nat×Nat):Bool :=
 r.2.2 != 0||decide (most<r.1.length)||decide (o.wrote.length<o.read+r.1.length)||(o.wrote.drop o.read).take r.1.length != r.1||(o.state != 0&&(r.1 != []||r.2.1 != o.state))
def EN.more(o:EN)(r:List UInt8×Nat×Nat):EN:={ o with read:=o.read+r.1.length,state:=r.2.1 }
def EN.fits(o:EN):Bool :=
 if o.state=0 then true else if o.state=1 then o.fin&&o.read==o.wrote.length else if o.state=2 then o.cut&&decide (o.keep<=o.read)else false
def NS.read(n:NS)(i k most:Nat):Bool×NS :=
 if (n.e (1-i) k).wrong most ((n.c i).read k most).1 then(false,n.setC i ((n.c i).read k most).2)
 else(((n.e (1-i) k).more ((n.c i).read k most).1).fits,(n.setC i ((n.c i).read k most).2).setE (1-i) k ((n.e (1-i) k).more ((n.c i).read k most).1))
def NS.step(n:NS)(s:Dm):Bool×NS :=
 if s.kind=1 then n.send (DZ s.side 2) (DZ s.a 8) s.s
 else if s.kind=2 then n.finish (DZ s.side 2) (DZ s.a 8)
 else if s.kind=3 then n.reset (DZ s.side 2) (DZ s.a 8) s.b
 else if s.kind=4 then n.datagram (DZ s.side 2) s
 else if s.kind=5 then n.tick.carry s
 else if s.kind=6 then n.flush (DZ s.side 2)
 else if s.kind=10 then n.read (DZ s.side 2) (DZ s.b 8) (DZ s.a 200)
 else n.carry s
def NS.recvs:List (Nat×List UInt8)->NS->Bool->Bool×NS
 | [],n,ok=>(ok,n)
 | f::l,n,ok=>NS.recvs l (n.recv f.1 f.2).2.2 (ok&&(n.recv f.1 f.2).2.1&&(n.recv f.1 f.2).1==0)
def NS.reads:List (Nat×Nat)->NS->Bool->Bool×NS
 | [],n,ok=>(ok,n)
 | p::l,n,ok=>NS.reads l (n.read p.1 p.2 4096).2 (ok&&(n.read p.1 p.2 4096).1)
def Gl:List (Nat×Nat):=(List.range 16).map λj=>(j / 8,j % 8)
def NS.fairC(n:NS)(ok:Bool):Bool×NS:=NS.reads Gl (NS.recvs n.bag { n with bag:=[] } ok).2 (NS.recvs n.bag { n with bag:=[] } ok).1
def NS.fairB(n:NS)(ok:Bool):Bool×NS:=(n.flush 1).2.fairC (ok&&(n.flush 1).1)
def NS.fairA(n:NS)(ok:Bool):Bool×NS:=(n.flush 0).2.fairB (ok&&(n.flush 0).1)
def JZ:Dm:=⟨5,0,0,0,[]⟩
def NS.fair1(n:NS):Bool×NS:=(n.step JZ).2.fairA (n.step JZ).1
def NS.fairs:Nat->NS->Bool×NS
 | 0,n=>(true,n)
 | t+1,n=>if n.fair1.1 then NS.fairs t n.fair1.2 else(false,n.fair1.2)
def NS.fair(n:NS)(t:Nat):Bool×NS:=NS.fairs t { n with bag:=[] }
def IT : Dm := ⟨1, 0, 3, 0, "some bytes of a stream".toUTF8.data.toList⟩
def Im:Dm:=⟨2,0,3,0,[]⟩
def Lq:NS:=((NS.build 0 100 100).step IT).2
def Jh:NS:=(Lq.step Im).2
def Qf:Bool :=
 ((NS.build 0 100 100).step IT).1&&(Lq.step Im).1&&(Jh.fair 4).1&&((Jh.fair 4).2.e 0 3).read==22&&((Jh.fair 4).2.e 0 3).state==1
def NS.plays(without:List Int):List Dm->NS->Option NS
 | [],n=>some n
 | s::l,n=>if without.contains s.kind then NS.plays without l n else if (n.step s).1 then NS.plays without l (n.step s).2 else none
end
end Go.Proofs.YtddfdpbaiedcjaaGreatDoor
