/- A part of Urgent's proof. Conditions: none. Part 31 of 32. -/
import Derived.Test.YtddfdpbaiedcjaaGreatDoorUrg30
set_option maxRecDepth 100000
set_option maxHeartbeats 16000000
set_option linter.all false
namespace Go.Proofs.YtddfdpbaiedcjaaGreatDoor
open Go.RowKit
def NS.fairAt(i:Nat)(n:NS)(ok:Bool):Bool×NS:=if i=0 then n.fairA ok else if i=1 then n.fairB ok else n.fairC ok
theorem zjk{i:Nat}(hi:i<2)(n:NS)(ok:Bool):NS.fairAt i n ok=NS.fairAt (i+1) (n.flush i).2 (ok&&(n.flush i).1):=by
 rcases(show i=0∨i=1 by omega)with rfl|rfl<;>rfl
theorem zne:∀i,i<2→∀k,k<8→zbC.drop (8*i+k)=(i,k)::zbC.drop (8*i+k+1):=by decide
theorem zk1{i k:Nat}(hi:i<2)(hk:k<8)(n:NS)(ok:Bool):NS.reads (zbC.drop (8*i+k)) n ok=NS.reads (zbC.drop (8*i+k+1)) (n.read i k 4096).2 (ok&&(n.read i k 4096).1):=by
 rw[zne i hi k hk];rfl
theorem zk2{l:List (Nat×List UInt8)}{k:Nat}{f:Nat×List UInt8}(hf:l[k]?=some f)(n:NS)(ok:Bool):NS.recvs (l.drop k) n ok=NS.recvs (l.drop (k+1)) (n.recv f.1 f.2).2.2 (ok&&(n.recv f.1 f.2).2.1&&(n.recv f.1 f.2).1==0):=by
 rw[zb2 hf];rfl
theorem znf{w:World}{g N cap:Nat}{l:List (Nat×List UInt8)}(h:w.ownsRow 0 62 2 (.slice (some ⟨g,0,none⟩) N cap) N (zS l))(hl:l.length=N){j:Nat}{p:Nat×List UInt8}(c:l[j]?=some p):w.cell? ⟨g,j*2,none⟩=some (.int .i64 (p.1:Int))∧w.cell? ⟨g,j*2+1,none⟩=some (.string (zq p.2)):=by
 obtain⟨a,b⟩:=zek l j p c;have hj:=(List.getElem?_eq_some_iff.1 c).1;rcases h.2 with⟨e,_⟩|⟨g',d,cur,e,_,h1,h2,h3,h4,h5⟩
 ·cases e
 ·cases e;rw[←h5,List.getElem?_take_of_lt (by omega),Array.getElem?_toList]at a b;exact⟨za h1 a,za h1 b⟩
theorem zqB{w:World}{tag:Nat→Nat×Nat}{nb:Nat}{n:NS}{M:NV}{W:World}(h:Net w tag nb n M W){T:Nat}(hI:n.Inv T){i:Nat}(hi:i<2)(s:List UInt8)(hs:s.length≤400)(hT:T+s.length≤zbm) :
  Calls Tryz.prog 28 #[.pointer (some ⟨M.b i,0,none⟩),.string (zq s)] W (zbd tag (i+1) (M.b i) W (.tuple #[.int .i64 (((n.c i).receive s).1.1:Int),.int .i64 ((n.c i).receive s).1.2]) ((n.c i).receive s).2) :=
 zhF (h.cn i hi) (h.env.to (j:=i+1) (by omega)) s (by omega) ((hI.c i hi).recvOk hT) (fun m fs hd=>by
  have:=(zhH (by omega) hd).2.1;omega)
theorem zng{w:World}{tag:Nat→Nat×Nat}{nb:Nat}{n:NS}{M:NV}{W:World}(h:Net w tag nb n M W){T:Nat}(hI:n.Inv T)(hU:n.Up){t:Nat}(hT:T+t*fairC≤zbm) :
  Calls Tryz.prog 17 #[.pointer (some ⟨nb,0,none⟩),.int .i64 (t:Int)] W (zct w tag nb W (n.fair t)):=by
 have htb:t≤268435455:=by unfold fairC zbm at hT;omega
 have p8:W.cell? ⟨nb,8,none⟩=some M.bg:=h.o.obj.cell (j:=8) rfl;have f8:=h.o.obj.fz 8;have ST:=zb (h.bagS (v:=.slice none 0 0) (l:=[]) (Mod.refl NoB W) (fun g x=>x.elim) (World.ownsRow_nil W 0 _ 2) (fun g hg=>by cases hg));have aH:({ n with bag:=[] }:NS).Inv T:=⟨hI.mtu,hI.win,hI.c,hI.e,hI.now,hI.next,hI.count,hI.gl,hI.g,Nat.zero_le _,fun p hp=>(by cases hp)⟩;have aI:({ n with bag:=[] }:NS).Up:=hU;unfold NS.fair;obtain⟨N0,aJ⟩:∃x:NS,({ n with bag:=[] }:NS)=x:=⟨_,rfl⟩;have bN:N0.bag=[]:=by rw[←aJ]
 rw[aJ]at ST aH aI ⊢;obtain⟨R,hR⟩:=nm (NS.fairs t N0);rw[hR];have HR:=zb hR;have HI:=zb aH;have HU:=zb aI;have HT:=zb hT;obtain⟨ba,bc,D,-⟩:=zj h.o.bg.own;rw[D]at p8;clear h hI hU aH aI hR aJ hT D;go_enter Tryz.func17,Tryz.ntmps17;go_wp2_with fail;obtain⟨W1,aK⟩:=nm (W.setCell ⟨nb,8,none⟩ (.slice none 0 0));rw[aK]at ST;try rw[aK]
 clear aK p8 f8
 go_loopw [5] (fun tv wr=>∃(B:Nat) (N:NS),B≤t∧tv = .int .i64 (B:Int)∧Hid (zy w tag nb W N wr∧N.Inv (T+B*fairC)∧N.Up∧N.bag=[]∧NS.fairs (t-B) N=R)) (fun tv _=>t-(intOf tv).toNat)
 case atStart=>exact⟨0,N0,Nat.zero_le _,rfl,zb ⟨ST.out,by rw[Nat.zero_mul];exact HI.out,HU.out,bN,HR.out⟩⟩
 case round =>
  obtain⟨B,N,ht0,rfl,HB⟩:=hrel;by_cases a5:B<t;rotate_left
  ·have e:B=t:=by omega
   subst e;have bO:Hid (R=(true,N)):=by
    show _=_;have a:=HB.out.2.2.2.2;rw[Nat.sub_self]at a;exact a.symm
   have HL:=zb HB.out.1;have hr:=bO.out;subst hr;clear a5;go_wp2_with fail;go_ret;exact⟨rfl,HL.out⟩
  obtain⟨E,r,F,D,aL⟩:=HB.out;have aM:T+B*fairC+fairC≤zbm:=by
   have a:B*fairC+fairC≤t*fairC:=by
    have:=Nat.mul_le_mul_right fairC (show B+1≤t by omega);rw[Nat.succ_mul]at this;exact this
   have:=HT.out;omega
  have y:=zb (zk0 aM r F D);obtain⟨G,aN⟩:=nm (T+B*fairC);rw[aN]at r aM y;have bX:G+16803≤268435455:=aM;have aa:(if N.fair1.1 then NS.fairs (t-(B+1)) N.fair1.2 else(false,N.fair1.2))=R:=by
   rw[show t-B=(t-(B+1))+1 by omega]at aL;exact aL
  obtain⟨R1,ab⟩:=nm N.fair1;have aO:Hid (NS.fairAt 0 N.tick true=R1):=by
   show _=_;rw[←ab];unfold NS.fair1;rw[zfV D];rfl
  rw[ab]at aa y;have aP:=zb aa;have a6:=zb aN;obtain⟨tg,Mg,C,old,mk⟩:=E;have ks:Calls Tryz.prog 21 #[.pointer (some ⟨nb,0,none⟩),.agg #[.int .i64 5,.int .i64 0,.int .i64 0,.int .i64 0,.string ⟨#[]⟩]] wr (fun e W'=>e = .returned (.bool true)∧zy w tg nb wr N.tick W'):=by
   have hk:=zkZ C r (by omega) (s:=ziM) ⟨by decide,by decide,by decide,by decide,by decide⟩ rfl (fun tag' M' W' hn=>zkY hn D ziM);have e:N.tick.carry ziM=(true,N.tick):=by
    unfold NS.carry;have e:N.tick.bag=[]:=D;rw[if_pos e]
   rw[e]at hk;exact hk
  have aQ:=zb r.tick;have aR:=zb F.tick;have aS:Hid (N.tick.bag=[]):=D;have al:Hid (∀n' W',zy w tg nb wr n' W'→zy w tag nb W n' W'):=zb fun n' W' X=>zy.trans old mk X
  clear r F D aL aa aN C old mk HB ab;go_upto_region 6 with(go_at_call 21;refine ks.mono ?_;rintro _ W2 ⟨rfl,a7⟩);have aT:=zb a7;clear ks a7;go_wp2_with fail
  go_loopw [6,7] (fun J iv wq=>∃(i:Nat) (N:NS) (ok:Bool),i≤2∧J = .bool ok∧iv = .int .i64 (i:Int)∧Hid (zy w tag nb W N wq∧N.Inv (G+1+i)∧N.Up∧N.bag.length≤21*i∧NS.fairAt i N ok=R1)) (fun _ iv _=>2-(intOf iv).toNat)
  case atStart=>exact⟨0,N.tick,true,by omega,rfl,rfl,zb ⟨al.out _ _ aT.out,aQ.out,aR.out,by rw[aS.out];exact Nat.zero_le _,aO.out⟩⟩
  case round =>
   obtain⟨i,N2,ok,hi,rfl,rfl,am⟩:=hrel;by_cases ac:i<2
   ·obtain⟨E,r,F,O,H⟩:=am.out;obtain⟨a8,a9,C,old,mk⟩:=E;have kf:=zfT C r (by unfold zbm;omega) F ac;have ao:=zb (r.flush (i:=i) (by unfold zbm;omega) ac);have ap:=zb (NS.Up.flush (i:=i) (by unfold zbm;omega) r F ac);have aq:=zb (zfb (i:=i) (by unfold zbm;omega) r ac);have bY:N2.bag.length≤21*i:=O;rw[zjk ac]at H;obtain⟨RF,bb⟩:=nm (N2.flush i);rw[bb]at kf ao ap aq H;obtain⟨f,N3⟩:=RF;simp only at ao ap aq H;have bd:=zb H;have az:Hid (∀n' W',zy w a8 nb wr n' W'→zy w tag nb W n' W'):=zb fun n' W' X=>zy.trans old mk X
    clear r F O H C old mk am bb al aT aQ aR aS aO;go_upto_region 10 with(go_at_call 22;refine kf.mono ?_;rintro _ W3 ⟨rfl,be⟩);have bf:Hid (zy w tag nb W N3 W3):=zb (az.out _ _ be);clear kf be az;have u:Hid (∀b,b=(ok&&f)→∃(i':Nat) (N:NS) (ok:Bool),i'≤2∧Value.bool b = .bool ok∧Value.int .i64 ((i:Int)+1) = .int .i64 (i':Int)∧Hid (zy w tag nb W N W3∧N.Inv (G+1+i')∧N.Up∧N.bag.length≤21*i'∧NS.fairAt i' N ok=R1)):=zb fun b hb=>by
     subst hb;exact⟨i+1,N3,_,by omega,rfl,by congr 1,zb ⟨bf.out,ao.out,ap.out,by have:=aq.out;omega,bd.out⟩⟩
    clear bf ao ap aq bd;have xw:IntKind.i64.wrap ((i:Int)+1)=(i:Int)+1:=by rw[IntKind.wrap_i64];omega
    cases ok
    ·go_wp2_with fail;go_roundw
     case rel=>exact u.out _ rfl
     case measure=>simp[intOf];omega
    ·go_wp2_with fail;go_roundw
     case rel=>exact u.out _ rfl
     case measure=>simp[intOf];omega
   ·have e2:i=2:=by omega
    obtain⟨E,r,F,O,H⟩:=am.out;rw[e2]at r O H;obtain⟨a8,a9,C,old,mk⟩:=E;have Y:N2.fairC ok=R1:=H;have bh:wr.cell? ⟨nb,8,none⟩=some a9.bg:=C.o.obj.cell (j:=8) rfl;have bP:=C.o.obj.fz 8;obtain⟨A,Mg3,hA,z,ar,P⟩:=C.aside;have aU:=r.bag;have aV:({ N2 with bag:=[] }:NS).Inv (G+3):=(show({ N2 with bag:=[] }:NS).Inv (G+1+2)from⟨r.mtu,r.win,r.c,r.e,r.now,r.next,r.count,r.gl,r.g,Nat.zero_le _,fun p hp=>(by cases hp)⟩).mono (by omega);obtain⟨l,hl⟩:=nm N2.bag;unfold NS.fairC at Y;rw[hl]at z aU O Y;obtain⟨L,hL⟩:=nm l.length;rw[hL]at z O;obtain⟨bi,bj,aA,q1,q2,q3⟩:=zj z;unfold maxLen at q2;rw[aA]at bh z ar;obtain⟨NA,bk⟩:∃x:NS,({ N2 with bag:=[] }:NS)=x:=⟨_,rfl⟩;rw[bk]at Y hA aV;obtain⟨WA,aW⟩:=nm (wr.setCell ⟨nb,8,none⟩ (.slice none 0 0));rw[aW]at hA z P;obtain⟨RV,aX⟩:=nm (NS.recvs l NA ok);rw[aX]at Y;have aY:Hid (NS.reads zbC RV.2 RV.1=R1):=Y;have bm:=zb aX;have bn:=zb aV;have HA:=zb hA.left;have bQ:=zb aU;have aZ:=zb hL;have al:Hid (∀n' W',zy w A nb WA n' W'→zy w tag nb W n' W'):=zb fun n' W' X=>zy.trans old mk (P n' W' X)
    have aB:Hid (∀wx,Mod (fun g=>A g≠(0,0)) WA wx→wx.ownsRow 0 62 2 (.slice bi L bj) L (zS l)):=zb fun wx m=>m.owns z (fun g hg x=>x (ar g hg))
    have bo:Hid (∀q,(Value.slice bi L bj).ownBlock=some q→A q=(0,0)∧q<WA.heap.size):=zb fun q hq=>⟨ar q hq,zgA z hq⟩
    have bp:=zb aW;have bZ:L≤42:=by omega
    clear r F O H C old mk am Y hA z ar P aU aV hl aA bk aX hL e2 aT aQ aR aS aO aW;go_wp2_with fail;try rw[bp.out]
    clear bp bh bP
    go_loopw [6,10] (fun J kv wq=>∃(k:Nat) (N:NS) (ok:Bool),k≤L∧J = .bool ok∧kv = .int .i64 (k:Int)∧Hid (zy w A nb WA N wq∧N.Inv (G+3+400*k)∧NS.recvs (l.drop k) N ok=RV)) (fun _ kv _=>L-(intOf kv).toNat)
    case atStart=>exact⟨0,NA,ok,Nat.zero_le _,rfl,rfl,zb ⟨HA.out,bn.out,bm.out⟩⟩
    case round =>
     obtain⟨k,N4,ad,hk,rfl,rfl,Z⟩:=hrel;clear HA bn bm;by_cases bq:k<L
     ·obtain⟨E,r,I⟩:=Z.out;obtain⟨Q,bt,C,old,mk⟩:=E;obtain⟨f,hf⟩:∃f,l[k]?=some f:=⟨l[k]'(by rw[aZ.out];exact bq),List.getElem?_eq_getElem _⟩;obtain⟨f1,f2,f3⟩:=bQ.out f (List.mem_of_getElem? hf);rw[zk2 hf]at I;obtain⟨qb,rfl⟩:=q3 (by omega);obtain⟨r1,r2⟩:=znf (aB.out wr mk) aZ.out hf;have bu:Q qb=(0,0):=by
       obtain⟨a,b⟩:=bo.out qb rfl;rw[old qb b,a]
      obtain⟨d,s⟩:=f;simp only at f1 f2 f3 r1 r2 I;obtain⟨gx,cx,b1,⟨b2,b3⟩,b4⟩:=C.o.connIs (i:=d) f1;obtain⟨gx',cx',bv,_,_,aC⟩:=C.o.x.form (by omega);have bR:=C.o.obj.tag;have bS:Q gx=(3,1):=by
       have x:wr.cell? ⟨nb,0,none⟩=some bt.x:=C.o.obj.cell (j:=0) rfl;rw[b1,bv]at x;cases x;exact aC
      obtain⟨cb,a0⟩:=nm (bt.b d);have hTk:G+3+400*k+400≤268435455:=by omega
      have a1:=zb (C.free ((Mod.refl NoB wr).drew) (fun _ x=>x.elim));have kr:=zqB a1.out r f1 s f3 (by unfold zbm;omega);rw[a0]at b4 kr;have bw:=zb a0;have ae:Hid ((N4.setC d ((N4.c d).receive s).2).Inv (G+3+400*k+400)):=zb (((r.mono (show G+3+400*k≤G+3+400*k+400 by omega))).setC d (fun hd=>((r.c d hd).receive (bs:=s) (by unfold zbm;omega)).mono (by omega)));have au:Hid ((N4.setC d ((N4.c d).receive s).2).Inv (G+3+400*k+400)→((N4.setC d ((N4.c d).receive s).2).came d).2.Inv (G+3+400*(k+1))):=zb fun X=>(X.came d).mono (by omega)
      unfold NS.recv at I;simp only at I;obtain⟨RR,bz⟩:=nm ((N4.c d).receive s);rw[bz]at kr I ae au;obtain⟨⟨U,at_⟩,c'⟩:=RR;simp only at kr I ae au;have av:=zb I;have KR:=zb kr;have aD:Hid (∀n' W',zy w Q nb wr n' W'→zy w A nb WA n' W'):=zb fun n' W' X=>zy.trans old mk X
      have hd2:(d:Int)<2:=by omega
      have hd0:(0:Int)≤(d:Int):=by omega
      have bA:(k:Int)<(L:Int):=by omega
      have bT:(0:Int)≤(k:Int):=by omega
      have q0:((U:Int)==0)=(U==0):=zbD U 0;have xw:IntKind.i64.wrap ((k:Int)+1)=(k:Int)+1:=by rw[IntKind.wrap_i64];omega
      have bB:Hid (∀g,(Q g).1=3→(Q g).1=d+1→False):=zb fun g a b=>by omega
      clear r I C old mk Z bv aC bz hf a0 kr aY;go_upto_region 16 with fail;refine zl 22 (fun w'=>w'.cell? ⟨nb,0,none⟩=some (.slice (some ⟨gx,0,none⟩) 2 cx)∧w'.cell? ⟨gx,d,none⟩=some (.pointer (some ⟨cb,0,none⟩))∧w'.cell? ⟨qb,k*2,none⟩=some (.int .i64 (d:Int))∧w'.cell? ⟨qb,k*2+1,none⟩=some (.string (zq s))) (⟨b1,b4,r1,r2⟩) ?_;refine GI 0 ?_;iterate 16
       refine GS rfl ?_ ?_ ?_;rotate_left
       ·(intro wx af;(try dsimp only at af);obtain⟨g0,g1,g2,g3⟩:=af;go_simp)<;>(try with_reducible rfl)
       try simp only[PS]
      refine zx 16 rfl (fun K hK=>?_);go_simp;refine(KR.out).mono ?_;rintro _ W5 ⟨rfl,hL⟩;rw[←bw.out]at hL;obtain⟨bC,V5,N5,aE,m5⟩:=a1.out.conn f1 hL;have G0:W5.cell? ⟨nb,0,none⟩=some (.slice (some ⟨gx,0,none⟩) 2 cx):=m5.cell (a:=⟨nb,0,none⟩) (fun x=>bB.out nb (by rw[bR]) x) b1;have G1:W5.cell? ⟨gx,d,none⟩=some (.pointer (some ⟨cb,0,none⟩)):=m5.cell (a:=⟨gx,d,none⟩) (fun x=>bB.out gx (by rw[bS]) x) b4;have G2:W5.cell? ⟨qb,k*2,none⟩=some (.int .i64 (d:Int)):=m5.cell (a:=⟨qb,k*2,none⟩) (fun x=>by have x:(Q qb).1=d+1:=x;rw[bu]at x;simp at x) r1;have G3:W5.cell? ⟨qb,k*2+1,none⟩=some (.string (zq s)):=m5.cell (a:=⟨qb,k*2+1,none⟩) (fun x=>by have x:(Q qb).1=d+1:=x;rw[bu]at x;simp at x) r2;refine hK.out _ _ ⟨G0,G1,G2,G3⟩ ?_;clear hK K;try simp only[PS]
      refine GI 17 ?_;iterate 5
       refine GS rfl ?_ ?_ ?_;rotate_left
       ·(intro wx af;(try dsimp only at af);obtain⟨g0,g1,g2,g3⟩:=af;go_simp)<;>(try with_reducible rfl)
       try simp only[PS]
      refine zo ?_;have bD:Hid (∀n' W',zy w bC nb W5 n' W'→zy w A nb WA n' W'):=zb fun n' W' X=>aD.out _ _ (zy.from0 ((Mod.refl NoB wr).drew) (zy.trans aE (m5.mono (fun g hg=>.inl (fun x=>by rw[x]at hg;simp at hg))) X))
      have a2:=zm7 N5 ae.out (by unfold zbm;omega) f1;have V:=zb (au.out ae.out);obtain⟨RC,bE⟩:=nm ((N4.setC d c').came d);rw[bE]at a2 V av;obtain⟨cm,N6⟩:=RC;simp only at V av;clear N5 aE m5 ae au aD a1 KR bE hL bw;go_upto_region 18 with(go_at_call 34;refine a2.mono ?_;rintro _ W6 ⟨rfl,bF⟩);have u:Hid (∀b,b=(ad&&cm&&U==0)→∃(k':Nat) (N:NS) (ok:Bool),k'≤L∧Value.bool b = .bool ok∧Value.int .i64 ((k:Int)+1) = .int .i64 (k':Int)∧Hid (zy w A nb WA N W6∧N.Inv (G+3+400*k')∧NS.recvs (l.drop k') N ok=RV)):=zb fun b hb=>by
       subst hb;exact⟨k+1,N6,_,bq,rfl,by congr 1,zb ⟨bD.out _ _ bF,V.out,av.out⟩⟩
      clear a2 bF bD V av bA bT r1 r2 b1 b4 G0 G1 G2 G3;cases ad
      ·go_wp2_with fail;go_roundw
       case rel=>exact u.out _ rfl
       case measure=>simp[intOf];omega
      ·cases cm
       ·go_wp2_with fail;go_roundw
        case rel=>exact u.out _ rfl
        case measure=>simp[intOf];omega
       ·go_wp2_with fail;go_roundw
        case rel=>exact u.out _ (by first|rfl|simp only[q0,Bool.and_self,Bool.true_and])
        case measure=>simp[intOf];omega
     ·have a3:k=L:=by omega
      have aF:RV=(ad,N4):=by
       have a:=Z.out.2.2;rw[a3,←aZ.out,List.drop_length]at a;exact a.symm
      have ah:Hid (NS.reads zbC N4 ad=R1):=by
       show _=_;have a:=aY.out;rw[aF]at a;exact a
      have bG:Hid (N4.Inv (G+3+400*L)):=by rw[←a3];exact zb Z.out.2.1
      have bH:=zb Z.out.1;have hTL:G+3+400*L≤268435455:=by omega
      clear Z aY aF hk a3 aB bo;go_wp2_with fail
      go_loopw [6,14] (fun J iv wq=>∃(i:Nat) (N:NS) (ok:Bool),i≤2∧J = .bool ok∧iv = .int .i64 (i:Int)∧Hid (zy w A nb WA N wq∧N.Inv (G+3+400*L)∧NS.reads (zbC.drop (8*i)) N ok=R1)) (fun _ iv _=>2-(intOf iv).toNat)
      case atStart=>exact⟨0,N4,ad,by omega,rfl,rfl,zb ⟨bH.out,bG.out,ah.out⟩⟩
      case round =>
       obtain⟨i5,N5,a4,hi5,rfl,rfl,S⟩:=hrel;clear bH bG ah;by_cases ai:i5<2
       ·have bI:decide ((i5:Int)<2)=true:=decide_eq_true (by omega);go_wp2_with fail;try rw[bI]
        go_loopw [6,15] (fun J kv wq=>∃(k:Nat) (N:NS) (ok:Bool),k≤8∧J = .bool ok∧kv = .int .i64 (k:Int)∧Hid (zy w A nb WA N wq∧N.Inv (G+3+400*L)∧NS.reads (zbC.drop (8*i5+k)) N ok=R1)) (fun _ kv _=>8-(intOf kv).toNat)
        case atStart=>exact⟨0,N5,a4,by omega,rfl,rfl,S⟩
        case round =>
         obtain⟨k6,N6,aw,hk6,rfl,rfl,ax⟩:=hrel;clear S;by_cases aj:k6<8
         ·obtain⟨E,r,ak⟩:=ax.out;obtain⟨bJ,Mg6,C,old,mk⟩:=E;rw[zk1 ai aj]at ak;have kr:Calls Tryz.prog 35 #[.pointer (some ⟨nb,0,none⟩),.int .i64 (i5:Int),.int .i64 (k6:Int),.int .i64 4096] wr (zct w bJ nb wr (N6.read i5 k6 4096)):=zm3 C r (by unfold zbm;omega) ai aj (Nat.le_refl 4096);have ay:=zb (r.read i5 k6 4096);obtain⟨RD,bK⟩:=nm (N6.read i5 k6 4096);rw[bK]at kr ay ak;obtain⟨rb,N7⟩:=RD;simp only at ay ak;have ah:=zb ak;have aG:Hid (∀n' W',zy w bJ nb wr n' W'→zy w A nb WA n' W'):=zb fun n' W' X=>zy.trans old mk X
          have xw:IntKind.i64.wrap ((k6:Int)+1)=(k6:Int)+1:=by rw[IntKind.wrap_i64];omega
          clear r ak C old mk ax bK;go_upto_region 26 with(go_at_call 35;refine kr.mono ?_;rintro _ W7 ⟨rfl,bL⟩);have u:Hid (∀b,b=(aw&&rb)→∃(k':Nat) (N:NS) (ok:Bool),k'≤8∧Value.bool b = .bool ok∧Value.int .i64 ((k6:Int)+1) = .int .i64 (k':Int)∧Hid (zy w A nb WA N W7∧N.Inv (G+3+400*L)∧NS.reads (zbC.drop (8*i5+k')) N ok=R1)):=zb fun b hb=>by
           subst hb;exact⟨k6+1,N7,_,aj,rfl,by congr 1,zb ⟨aG.out _ _ bL,ay.out,ah.out⟩⟩
          clear kr bL aG ay ah;cases aw
          ·go_wp2_with fail;go_roundw
           case rel=>exact u.out _ rfl
           case measure=>simp[intOf];omega
          ·go_wp2_with fail;go_roundw
           case rel=>exact u.out _ rfl
           case measure=>simp[intOf];omega
         ·have ek:k6=8:=by omega
          have xw:IntKind.i64.wrap ((i5:Int)+1)=(i5:Int)+1:=by rw[IntKind.wrap_i64];omega
          have bU:Hid (zy w A nb WA N6 wr∧N6.Inv (G+3+400*L)∧NS.reads (zbC.drop (8*(i5+1))) N6 aw=R1):=by
           have a:=ax.out;rw[ek]at a;exact a
          clear ax ek;go_wp2_with fail;go_roundw
          case rel=>exact⟨i5+1,N6,aw,ai,rfl,by congr 1,bU⟩
          case measure=>simp[intOf];omega
       ·have ei:i5=2:=by omega
        have ab:R1=(a4,N5):=by
         have a:=S.out.2.2;rw[ei]at a;exact a.symm
        subst ab;have bM:Hid (∀W',Mod NoB wr W'→zy w tag nb W N5 W'):=zb fun W' m=>(al.out _ _ S.out.1).then0 m
        clear S ei;cases a4
        ·have hr:(false,N5)=R:=aP.out;subst hr;go_wp2_with fail;go_ret;exact⟨rfl,bM.out _ (Mod.refl _ _)⟩
        ·have HF:Hid (NS.fairs (t-(B+1)) N5=R):=aP.out;have bV:Hid (N5.Inv (T+(B+1)*fairC)):=by
          have a:=y.out.1;rw[←a6.out,show T+B*fairC+fairC=T+(B+1)*fairC by rw[Nat.succ_mul];omega]at a;exact a
         have bW:Hid N5.Up:=y.out.2.2 rfl;have S:Hid (N5.bag=[]):=y.out.2.1;have xw:IntKind.i64.wrap ((B:Int)+1)=(B:Int)+1:=by rw[IntKind.wrap_i64];omega
         clear y aP a6;go_wp2_with fail;go_roundw
         case rel=>exact⟨B+1,N5,a5,by congr 1,zb ⟨bM.out _ (Mod.refl _ _),bV.out,bW.out,S.out,HF.out⟩⟩
         case measure=>simp[intOf];omega
theorem zk3:zpq=true:=by decide +kernel
theorem zjl:((NS.build 0 100 100).step zgo).1=true∧(zhj.step zpp).1=true∧(zeO.fair 4).1=true∧((zeO.fair 4).2.e 0 3).read=22∧((zeO.fair 4).2.e 0 3).state=1:=by
 have h:=zk3;unfold zpq at h;simp only[Bool.and_eq_true,beq_iff_eq]at h;exact⟨h.1.1.1.1,h.1.1.1.2,h.1.1.2,h.1.2,h.2⟩
theorem zfc:zgo.s=[115,111,109,101,32,98,121,116,101,115,32,111,102,32,97,32,115,116,114,101,97,109]:=by decide +kernel
theorem NS.Inv.new{mtu window total:Nat}(h:64≤mtu∧mtu≤400)(a:16≤window∧window≤4096)(b:16≤total∧total≤4096):(NS.new mtu window total).Inv 0 :=
 ⟨h,⟨a,b⟩,fun _ _=>CS.Inv.new h a.2 b.2,fun _ _ _ _=>⟨Nat.zero_le _,Nat.le_refl _,Nat.zero_le _⟩,Nat.le_refl _,fun _ _=>Nat.le_refl _,fun _ _=>Nat.le_refl _,fun _ _=>Nat.le_refl _,fun _ _ s hs=>(by cases hs),Nat.le_refl _,fun p hp=>(by cases hp)⟩
theorem NS.Inv.build(a b c:Int):(NS.build a b c).Inv 0:=by
 have h1:=zao a 337 (by omega);have h2:=zao b 300 (by omega);have h3:=zao c 600 (by omega);exact NS.Inv.new ⟨by omega,by omega⟩ ⟨by omega,by omega⟩ ⟨by omega,by omega⟩
theorem NS.Up.build(a b c:Int):(NS.build a b c).Up:=fun _ _=>rfl
theorem zbT(n:NS)(s:zcw)(h:s.kind=1):n.step s=n.send (pickN s.side 2) (pickN s.a 8) s.s:=by
 unfold NS.step;rw[if_pos h]
theorem zdk(n:NS)(s:zcw)(h:s.kind=2):n.step s=n.finish (pickN s.side 2) (pickN s.a 8):=by
 unfold NS.step;rw[if_neg (by omega),if_pos h]
theorem zbK(n:NS)(s:zcw)(h:s.kind=4):n.step s=n.datagram (pickN s.side 2) s:=by
 unfold NS.step;rw[if_neg (by omega),if_neg (by omega),if_neg (by omega),if_pos h]
theorem zk4(w:World)(E:Env 1 (fun _=>(0,0)) w):Calls Tryz.prog 14 #[] w (fun e W'=>e = .returned (.bool true)∧Mod NoB w W'):=by
 obtain⟨p1,p2,p3,p4,f⟩:=zjl;have B:=zfW 0 100 100 (by omega) (by omega) (by omega) w E;obtain⟨j,c⟩:=nm (NS.build 0 100 100);have l:j.Inv 0:=by rw[←c];exact NS.Inv.build _ _ _
 have v:j.Up:=by rw[←c];exact NS.Up.build _ _ _
 unfold zeO zhj at p3 p4 f;unfold zhj at p2;rw[c]at B p1 p2 p3 p4 f;have a:(j.step zgo).2.Inv 0:=by rw[zbT _ _ rfl];exact l.send _ _ _
 have d:(j.step zgo).2.Up:=by rw[zbT _ _ rfl];exact v.send _ _ _
 obtain⟨u,b⟩:=nm ((j.step zgo).2);have m:(u.step zpp).2.Inv 0:=by rw[zdk _ _ rfl];rw[b]at a;exact a.finish _ _
 have n:(u.step zpp).2.Up:=by rw[zdk _ _ rfl];rw[b]at d;exact d.finish _ _
 rw[b]at p2 p3 p4 f a d;obtain⟨C,p⟩:=nm ((u.step zpp).2);rw[p]at p3 p4 f m n;obtain⟨n3,r⟩:=nm ((C.fair 4).2);rw[r]at p4 f;have x:Hid (∀tag nb M W,Net w tag nb j M W→Calls Tryz.prog 21 #[.pointer (some ⟨nb,0,none⟩),.agg #[.int .i64 1,.int .i64 0,.int .i64 3,.int .i64 0,.string ⟨#[115,111,109,101,32,98,121,116,101,115,32,111,102,32,97,32,115,116,114,101,97,109]⟩]] W (fun e W'=>e = .returned (.bool true)∧zy w tag nb W u W')):=zb fun tag nb M W h=>by
  have k:=zfU h l (by decide) (s:=zgo) ⟨by decide,by decide,by decide,by decide,by rw[zfc];decide⟩ rfl;rw[←zbT j zgo rfl]at k;unfold zcw.cells at k;rw[zfc]at k;unfold zct at k;rw[p1,b]at k;exact k
 have y:Hid (∀tag nb M W,Net w tag nb u M W→Calls Tryz.prog 21 #[.pointer (some ⟨nb,0,none⟩),.agg #[.int .i64 2,.int .i64 0,.int .i64 3,.int .i64 0,.string ⟨#[]⟩]] W (fun e W'=>e = .returned (.bool true)∧zy w tag nb W C W')):=zb fun tag nb M W h=>by
  have k:=zhX h a (by decide) (s:=zpp) ⟨by decide,by decide,by decide,by decide,by decide⟩ rfl;rw[←zdk u zpp rfl]at k;unfold zct at k;rw[p2,p]at k;exact k
 have D:Hid (∀tag nb M W,Net w tag nb C M W→Calls Tryz.prog 17 #[.pointer (some ⟨nb,0,none⟩),.int .i64 4] W (fun e W'=>e = .returned (.bool true)∧zy w tag nb W n3 W')):=zb fun tag nb M W h=>by
  have k:=zng h m n (t:=4) (by decide);unfold zct at k;rw[p3,r]at k;exact k
 clear l a m v d n c b p r p1 p2 p3 E;go_enter Tryz.func14,Tryz.ntmps14;go_upto_region 2 with(go_at_call 20;refine B.mono ?_;rintro _ W1 ⟨nb,z,M1,rfl,h1⟩);have F:=x.out z nb M1 W1 h1;clear B x;go_upto_region 5 with(go_at_call 21;refine F.mono ?_;rintro _ W2 ⟨rfl,tag2,M2,h2,-,-⟩);have G:=y.out tag2 nb M2 W2 h2;clear F y h1;go_upto_region 6 with(go_at_call 21;refine G.mono ?_;rintro _ W3 ⟨rfl,A,M3,h3,-,-⟩);have k3:=D.out A nb M3 W3 h3;clear G D h2;go_upto_region 7 with(go_at_call 17;refine k3.mono ?_;rintro _ W4 ⟨rfl,H,M4,h4,-,-⟩);clear k3 h3;obtain⟨g,cap,q,I,a1,⟨a2,a3⟩,a4,⟨a5,a6⟩,a7⟩:=h4.o.endAt (i:=0) (k:=3) (by omega) (by omega);obtain⟨e0,e1,e2,e3,e4,e5,ez⟩:=h4.o.enAt (i:=0) (k:=3) (by omega) (by omega);rw[p4]at e4;rw[f]at e5;have HM:=zb h4.mod;clear h4 e0 e1 e2 e3 p4 f;go_wp2_with fail;go_ret;exact⟨rfl,HM.out⟩
def zpv:List (List UInt8)→Nat→NS→Except Bool NS
 | [],_,n=>.ok n
 | t::l,k,n=>if 300<t.length then .error true else if (n.step ⟨1,0,(k:Int),0,t⟩).1 then zpv l (k+1) (n.step ⟨1,0,(k:Int),0,t⟩).2 else .error false
def zqH:List (List UInt8)→NS→Except Bool NS
 | [],n=>.ok n
 | g::l,n=>if 24<g.length then .error true else if (n.step ⟨4,0,5,0,g⟩).1 then zqH l (n.step ⟨4,0,5,0,g⟩).2 else .error false
def zfd:List Frm→Int→Int→Option (Int×Int)
 | [],st,lf=>some (st,lf)
 | f::l,st,lf=>if f.kind=4 then(if f.stream<st then none else zfd l f.stream lf)else zfd l st (if f.kind=7 then lf-1 else lf)
def zcV(b:List UInt8):List Frm:=match dec b with|.ok _ fs=>fs|_=>[]
def zle:List (Nat×List UInt8)→Int→Int→Bool
 | [],_,_=>true
 | p::l,st,lf=>match zfd (zcV p.2) st lf with
  | none=>false
  | some y=>if 0<y.2∧0≤y.1 then false else zle l y.1 y.2
def zqI(gs:List (List UInt8))(n:NS):Bool:=if (n.flush 0).1 then zle (n.flush 0).2.bag (-1) gs.length else false
def urgM(gs:List (List UInt8))(n:NS):Bool:=match zqH gs n with|.error b=>b|.ok n=>zqI gs n
def zfe(a gs:List (List UInt8))(mtu:Int):Bool :=
 if 8<a.length∨16<gs.length then true else match zpv a 0 (NS.build mtu 299 599)with|.error b=>b|.ok n=>urgM gs n
def StrsAt(w:World)(v:Value)(l:List (List UInt8)):Prop :=
 ∃a cap,v = .slice a l.length cap∧l.length≤cap∧cap≤maxLen∧∀(i:Nat) s,l[i]?=some s→∃g o,a=some ⟨g,o,none⟩∧w.cell? ⟨g,o+i,none⟩=some (.string (zq s))
theorem StrsAt.mod0{w w':World}{v:Value}{l:List (List UInt8)}(h:StrsAt w v l)(m:Mod NoB w w'):StrsAt w' v l:=by
 obtain⟨a,cap,e1,e2,e3,e4⟩:=h;exact⟨a,cap,e1,e2,e3,fun i s hi=>by obtain⟨g,o,f1,f2⟩:=e4 i s hi;exact⟨g,o,f1,m.cell (a:=⟨g,o+i,none⟩) (fun x=>x) f2⟩⟩
theorem zni{l:List (List UInt8)}{k:Nat}{t:List UInt8}(ht:l[k]?=some t)(n:NS):zpv (l.drop k) k n=if 300<t.length then .error true else if (n.step ⟨1,0,(k:Int),0,t⟩).1 then zpv (l.drop (k+1)) (k+1) (n.step ⟨1,0,(k:Int),0,t⟩).2 else .error false:=by
 rw[zb2 ht];rfl
theorem znj{l:List (List UInt8)}{k:Nat}{t:List UInt8}(ht:l[k]?=some t)(n:NS):zqH (l.drop k) n=if 24<t.length then .error true else if (n.step ⟨4,0,5,0,t⟩).1 then zqH (l.drop (k+1)) (n.step ⟨4,0,5,0,t⟩).2 else .error false:=by
 rw[zb2 ht];rfl
theorem znk{l:List Frm}{k:Nat}{f:Frm}(hf:l[k]?=some f)(st lf:Int):zfd (l.drop k) st lf=if f.kind=4 then(if f.stream<st then none else zfd (l.drop (k+1)) f.stream lf)else zfd (l.drop (k+1)) st (if f.kind=7 then lf-1 else lf):=by
 rw[zb2 hf];rfl
theorem znl{l:List (Nat×List UInt8)}{k:Nat}{p:Nat×List UInt8}(hp:l[k]?=some p)(st lf:Int):zle (l.drop k) st lf=match zfd (zcV p.2) st lf with|none=>false|some y=>if 0<y.2∧0≤y.1 then false else zle (l.drop (k+1)) y.1 y.2:=by
 rw[zb2 hp];rfl
theorem zna.any{w w':World}{b:List UInt8}{e:Ending}(h:zna w (dec b) e w'):Mod NoB w w'∧∃(d:Nat) (fv:Value) (c:List (Frm×Value)) (en at_:Int),e = .returned (.tuple #[.agg #[.int .u64 (d:Int),fv],.int .i64 en,.int .i64 at_])∧zc5 w' fv c∧c.map (·.1)=zcV b:=by
 obtain⟨m,h⟩:=h;have nil:zc5 w' (.slice none 0 0) []:=⟨none,0,rfl,Nat.le_refl _,by unfold maxLen;omega,fun i fr hi=>by simp at hi⟩;unfold zcV;cases hd:dec b with
 | sum =>
  rw[hd]at h;exact⟨m,0,_,[],7,-1,h,nil,rfl⟩
 | bad a =>
  rw[hd]at h;exact⟨m,0,_,[],8,a,h,nil,rfl⟩
 | ok d fs =>
  rw[hd]at h;obtain⟨fv,c,h1,h2,h3,_⟩:=h;exact⟨m,d,fv,c,0,-1,h1,h2.frs,h3⟩
theorem znm{b:List UInt8}(hb:b.length<1099511627776):(zcV b).length≤b.length:=by
 unfold zcV;cases hd:dec b with
 | sum=>exact Nat.zero_le _
 | bad a=>exact Nat.zero_le _
 | ok num fs=>exact(zhH hb hd).2.1
theorem kurgent_any(ts gs:List (List UInt8))(vt vg:Value)(mtu:Int)(hm : -9223372036854775808≤mtu∧mtu≤9223372036854775807)(w:World)(E:Env 1 (fun _=>(0,0)) w)(O:StrsAt w vt ts)(hg:StrsAt w vg gs) :
  Calls Tryz.prog 9 #[vt,vg,.int .i64 mtu] w (Says w (zfe ts gs mtu)):=by
 have kw:=zk4 w E;obtain⟨ta,tc,rfl,t1,t2,t3⟩:=id O;obtain⟨ga,gc,rfl,g1,g2,g3⟩:=id hg;unfold maxLen at t2 g2;obtain⟨TL,ab⟩:=nm ts.length;obtain⟨GL,ac⟩:=nm gs.length;obtain⟨B,T⟩:=nm (zfe ts gs mtu);rw[T];unfold zfe at T;rw[ab,ac]at T;rw[ab]at t1 ⊢;rw[ac]at g1 ⊢;have HE:=zb E;have a9:=zb O;have bb:=zb hg;have aw:=zb T;have U:=zb ab;have I:=zb ac;clear E O hg T ab ac t3 g3;by_cases v:8<TL∨16<GL
 ·have hr:=aw.out;rw[if_pos v]at hr;subst hr;go_enter Tryz.func9,Tryz.ntmps9;go_upto_region 2 with(go_at_call 14;refine kw.mono ?_;rintro _ W1 ⟨rfl,m1⟩);by_cases h8:8<TL
  ·have d8:decide ((8:Int)<(TL:Int))=true:=decide_eq_true (by omega);go_wp2_with fail;all_goals first|(exfalso;omega)|skip
   all_goals
    go_ret;exact⟨rfl,m1⟩
  ·have d8:decide ((8:Int)<(TL:Int))=false:=decide_eq_false (by omega);have d16:decide ((16:Int)<(GL:Int))=true:=decide_eq_true (by omega);go_wp2_with fail;all_goals first|(exfalso;omega)|skip
   all_goals
    go_ret;exact⟨rfl,m1⟩
 have h8:TL≤8:=by omega
 have h16:GL≤16:=by omega
 have d8:decide ((8:Int)<(TL:Int))=false:=decide_eq_false (by omega);have d16:decide ((16:Int)<(GL:Int))=false:=decide_eq_false (by omega);have V:Hid ((match zpv ts 0 (NS.build mtu 299 599)with|.error b=>b|.ok n=>urgM gs n)=B):=by
  have hr:=aw.out;rw[if_neg v]at hr;exact hr
 have HB:Hid (∀W1,Mod NoB w W1→Calls Tryz.prog 20 #[.int .i64 mtu,.int .i64 299,.int .i64 599] W1 (zh2 W1 (NS.build mtu 299 599))):=zb fun W1 m=>zfW mtu 299 599 hm (by omega) (by omega) W1 (HE.out.mod0 m)
 have ax:=zb (NS.Inv.build mtu 299 599);have ay:=zb (NS.Up.build mtu 299 599);obtain⟨n0,aN⟩:=nm (NS.build mtu 299 599);rw[aN]at V HB ax ay;clear aw v aN;go_enter Tryz.func9,Tryz.ntmps9;go_upto_region 2 with(go_at_call 14;refine kw.mono ?_;rintro _ W1 ⟨rfl,m1⟩);have kb:=HB.out W1 m1;clear HB kw;go_upto_region 5 with(go_at_call 20;refine kb.mono ?_;rintro _ W2 ⟨nb,tag,M,rfl,h2⟩);have aO:=zb (h2.base m1);clear kb h2 m1;go_wp2_with fail
 go_loopw [9] (fun kv wr=>∃(k:Nat) (n:NS),k≤TL∧kv = .int .i64 (k:Int)∧Hid ((∃tag M,Net w tag nb n M wr)∧n.Inv 0∧n.Up∧(match zpv (ts.drop k) k n with|.error b=>b|.ok n=>urgM gs n)=B)) (fun kv _=>TL-(intOf kv).toNat)
 case atStart=>exact⟨0,n0,Nat.zero_le _,rfl,zb ⟨⟨tag,M,aO.out⟩,ax.out,ay.out,V.out⟩⟩
 case round =>
  obtain⟨k,n,hk,rfl,J⟩:=hrel;clear ax ay aO V;by_cases aP:k<TL
  ·obtain⟨⟨tag,M,K⟩,y,z,c⟩:=J.out;obtain⟨t,O⟩:∃t,ts[k]?=some t:=⟨ts[k]'(by rw[U.out];exact aP),List.getElem?_eq_getElem _⟩;obtain⟨a',c',G,_,_,t3⟩:=a9.out.mod0 K.mod;rw[U.out]at G;cases G;obtain⟨g,o,rfl,hc⟩:=t3 k t O;rw[zni O]at c;have bd:(zq t).size=t.length:=zJ t;have az:=zb K.mod;by_cases v:300<t.length
   ·have db:decide ((300:Int)<(t.length:Int))=true:=decide_eq_true (by omega);rw[if_pos v]at c;have c:true=B:=c;subst c;clear K y z t3 O J;go_wp2_with fail;all_goals first|(exfalso;omega)|skip
    all_goals
     go_ret;exact⟨rfl,az.out⟩
   ·have db:decide ((300:Int)<(t.length:Int))=false:=decide_eq_false (by omega);rw[if_neg v]at c;have ks:Calls Tryz.prog 21 #[.pointer (some ⟨nb,0,none⟩),.agg #[.int .i64 1,.int .i64 0,.int .i64 (k:Int),.int .i64 0,.string (zq t)]] wr (zct w tag nb wr (n.step ⟨1,0,(k:Int),0,t⟩)):=by
     have x:=zfU K y (by decide) (s:=⟨1,0,(k:Int),0,t⟩) ⟨by show _≤(1:Int)∧(1:Int)≤_;omega,by show _≤(0:Int)∧(0:Int)≤_;omega,by show _≤(k:Int)∧(k:Int)≤_;omega,by show _≤(0:Int)∧(0:Int)≤_;omega,by show t.length≤_;omega⟩ rfl;rw[←zbT n ⟨1,0,(k:Int),0,t⟩ rfl]at x;exact x
    have u:Hid ((n.step ⟨1,0,(k:Int),0,t⟩).2.Inv 0):=by
     rw[zbT n ⟨1,0,(k:Int),0,t⟩ rfl];exact zb (y.send _ _ _)
    have A:Hid ((n.step ⟨1,0,(k:Int),0,t⟩).2.Up):=by
     rw[zbT n ⟨1,0,(k:Int),0,t⟩ rfl];exact zb (z.send _ _ _)
    obtain⟨R1,C⟩:=nm (n.step ⟨1,0,(k:Int),0,t⟩);rw[C]at ks u A c;obtain⟨ok,n1⟩:=R1;simp only at u A c;have r:=zb c;have xw:IntKind.i64.wrap ((k:Int)+1)=(k:Int)+1:=by rw[IntKind.wrap_i64];omega
    clear K y z t3 O J c C;go_upto_region 13 with(go_at_call 21;refine ks.mono ?_;rintro _ W3 ⟨rfl,L,M3,h3,-,-⟩);have P:=zb h3;clear ks h3;cases ok
    ·have c:false=B:=r.out;subst c;go_wp2_with fail;go_ret;exact⟨rfl,P.out.mod⟩
    ·go_wp2_with fail;go_roundw
     case rel=>exact⟨k+1,n1,aP,by congr 1,zb ⟨⟨L,M3,P.out⟩,u.out,A.out,r.out⟩⟩
     case measure=>simp[intOf];omega
  ·have ek:k=TL:=by omega
   have r:Hid (urgM gs n=B):=by
    have a:=J.out.2.2.2;rw[ek,←U.out,List.drop_length]at a;exact a
   have u:=zb J.out.2.1;have A:=zb J.out.2.2.1;have aQ:Hid (∃tag M,Net w tag nb n M wr):=J.out.1;clear J ek;go_wp2_with fail
   go_loopw [11] (fun kv wr=>∃(k:Nat) (n:NS),k≤GL∧kv = .int .i64 (k:Int)∧Hid ((∃tag M,Net w tag nb n M wr)∧n.Inv k∧n.Up∧(match zqH (gs.drop k) n with|.error b=>b|.ok n=>zqI gs n)=B)) (fun kv _=>GL-(intOf kv).toNat)
   case atStart=>exact⟨0,n,Nat.zero_le _,rfl,zb ⟨aQ.out,u.out,A.out,r.out⟩⟩
   case round =>
    obtain⟨k2,n,hk2,rfl,J⟩:=hrel;clear aQ u A r;by_cases aq:k2<GL
    ·obtain⟨⟨tag,M,K⟩,y,z,c⟩:=J.out;obtain⟨t,O⟩:∃t,gs[k2]?=some t:=⟨gs[k2]'(by rw[I.out];exact aq),List.getElem?_eq_getElem _⟩;obtain⟨a',c',G,_,_,t3⟩:=bb.out.mod0 K.mod;rw[I.out]at G;cases G;obtain⟨g,o,rfl,hc⟩:=t3 k2 t O;rw[znj O]at c;have bd:(zq t).size=t.length:=zJ t;have az:=zb K.mod;by_cases v:24<t.length
     ·have db:decide ((24:Int)<(t.length:Int))=true:=decide_eq_true (by omega);rw[if_pos v]at c;have c:true=B:=c;subst c;clear K y z t3 O J;go_wp2_with fail;all_goals first|(exfalso;omega)|skip
      all_goals
       go_ret;exact⟨rfl,az.out⟩
     ·have db:decide ((24:Int)<(t.length:Int))=false:=decide_eq_false (by omega);rw[if_neg v]at c;have ks:Calls Tryz.prog 21 #[.pointer (some ⟨nb,0,none⟩),.agg #[.int .i64 4,.int .i64 0,.int .i64 5,.int .i64 0,.string (zq t)]] wr (zct w tag nb wr (n.step ⟨4,0,5,0,t⟩)):=by
       have x:=zfw K y (by unfold zbm;omega) (s:=⟨4,0,5,0,t⟩) ⟨by show _≤(4:Int)∧(4:Int)≤_;omega,by show _≤(0:Int)∧(0:Int)≤_;omega,by show _≤(5:Int)∧(5:Int)≤_;omega,by show _≤(0:Int)∧(0:Int)≤_;omega,by show t.length≤_;omega⟩ rfl;rw[←zbK n ⟨4,0,5,0,t⟩ rfl]at x;exact x
      have u:Hid ((n.step ⟨4,0,5,0,t⟩).2.Inv (k2+1)):=by
       rw[zbK n ⟨4,0,5,0,t⟩ rfl];exact zb (y.datagram _ _)
      have A:Hid ((n.step ⟨4,0,5,0,t⟩).2.Up):=by
       rw[zbK n ⟨4,0,5,0,t⟩ rfl];exact zb (z.datagram _ _)
      obtain⟨R1,C⟩:=nm (n.step ⟨4,0,5,0,t⟩);rw[C]at ks u A c;obtain⟨ok,n1⟩:=R1;simp only at u A c;have r:=zb c;have xw:IntKind.i64.wrap ((k2:Int)+1)=(k2:Int)+1:=by rw[IntKind.wrap_i64];omega
      clear K y z t3 O J c C;go_upto_region 21 with(go_at_call 21;refine ks.mono ?_;rintro _ W3 ⟨rfl,L,M3,h3,-,-⟩);have P:=zb h3;clear ks h3;cases ok
      ·have c:false=B:=r.out;subst c;go_wp2_with fail;go_ret;exact⟨rfl,P.out.mod⟩
      ·go_wp2_with fail;go_roundw
       case rel=>exact⟨k2+1,n1,aq,by congr 1,zb ⟨⟨L,M3,P.out⟩,u.out,A.out,r.out⟩⟩
       case measure=>simp[intOf];omega
    ·have ek:k2=GL:=by omega
     obtain⟨⟨tag,M,K⟩,y,z,c⟩:=J.out;rw[ek,←I.out,List.drop_length]at c;have c:zqI gs n=B:=c;unfold zqI at c;rw[I.out]at c;have kf:=zfT K y (by unfold zbm;omega) z (i:=0) (by omega);have u:=zb (y.flush (i:=0) (by unfold zbm;omega) (by omega));obtain⟨R1,C⟩:=nm (n.flush 0);rw[C]at kf u c;obtain⟨ok,n1⟩:=R1;simp only at u c;have r:=zb c;clear K y z c C J ek;go_upto_region 24 with(go_at_call 22;refine kf.mono ?_;rintro _ W3 ⟨rfl,L,M3,h3,-,-⟩);have P:=zb h3;clear kf h3;cases ok
     ·have c:false=B:=r.out;subst c;go_wp2_with fail;go_ret;exact⟨rfl,P.out.mod⟩
     have aA:Hid (zle n1.bag (-1) GL=B):=r.out;have aB:=u.out.bl;have ar:=zb u.out.bag;obtain⟨l,hl⟩:=nm n1.bag;obtain⟨BL,ad⟩:=nm l.length;obtain⟨ba,bc,aR,q1,q2,q3⟩:=zj P.out.o.bg.own;have N:=P.out.o.bg.own;have p8:W3.cell? ⟨nb,8,none⟩=some M3.bg:=P.out.o.obj.cell (j:=8) rfl;rw[aR]at N p8;rw[hl,ad]at q1 q3 N p8;rw[hl]at aB ar aA;rw[ad]at aB;unfold maxLen at q2;have aS:=zb N;have W:=zb ad;have aT:=zb P.out.env;have aC:=zb P.out.mod;have bp:BL≤544:=by omega
     clear N hl ad aR u P r aB;go_wp2_with fail
     go_loopw [14,15,16] (fun sv lv qv wr=>∃(q:Nat) (st lf:Int),q≤BL∧sv = .int .i64 st∧lv = .int .i64 lf∧qv = .int .i64 (q:Int) ∧ -(400*(q:Int))≤lf∧lf≤16∧Hid (Mod NoB W3 wr∧zle (l.drop q) st lf=B)) (fun _ _ qv _=>BL-(intOf qv).toNat)
     case atStart=>exact⟨0,-1,GL,Nat.zero_le _,rfl,rfl,rfl,by omega,by omega,zb ⟨Mod.refl _ _,aA.out⟩⟩
     case round =>
      obtain⟨q,st,lf,hq,rfl,rfl,rfl,lf1,Q,HQ⟩:=hrel;clear aA;have p8r:=HQ.out.1.cell (a:=⟨nb,8,none⟩) (fun x=>x) p8;by_cases aD:q<BL
      ·obtain⟨ae,X⟩:=HQ.out;obtain⟨p,hp⟩:∃p,l[q]?=some p:=⟨l[q]'(by rw[W.out];exact aD),List.getElem?_eq_getElem _⟩;obtain⟨f1,f2,f3⟩:=ar.out p (List.mem_of_getElem? hp);rw[znl hp]at X;obtain⟨qb,rfl⟩:=q3 (by omega);obtain⟨-,r2⟩:=znf (ae.owns aS.out (fun _ _ x=>x)) W.out hp;obtain⟨d,bs⟩:=p;simp only at f2 f3 r2 X;obtain⟨cb,W5,be,aE,m5,_⟩:=zg3 wr bs (by omega);have aF:=(aT.out.mod0 ae).mod0 m5;have kd:=zfa _ bs W5 aE aF.tab aF.err (by omega);have aU:bs.length≤cb∧cb≤9223372036854775807:=by
        obtain⟨_,_,e,q1,q2,_⟩:=aE;cases e;unfold maxLen at q2;exact⟨q1,by omega⟩
       obtain⟨bq,bt⟩:=aU;obtain⟨RF,H⟩:=nm (zfd (zcV bs) st lf);rw[H]at X;have bf:=zb H;have Y:=zb X;have hFl:=znm (b:=bs) (by omega);have aV:=zb (ae.trans m5);have xq:IntKind.i64.wrap ((q:Int)+1)=(q:Int)+1:=by rw[IntKind.wrap_i64];omega
       clear ae X aE aF H hp HQ m5;go_upto_region 32 with(go_at_call 23;refine kd.mono ?_;intro e W6 aW;obtain⟨m6,aX,fv,af,en,at_,rfl,D,aG⟩:=aW.any;clear aW;obtain⟨fa,fc,rfl,w1,w2,w3⟩:=id D);obtain⟨FL,aH⟩:=nm af.length;rw[aH]at w1 D ⊢;unfold maxLen at w2;have au:(zcV bs).length=FL:=by rw[←aG,List.length_map,aH]
       have bu:FL≤400:=by omega
       obtain⟨pb,aY⟩:=nm W6.heap.size;obtain⟨W7,ah⟩:=nm (W6.alloc (.cells #[.int .u64 (aX:Int),.slice fa FL fc] 56));have m7:Mod NoB W6 W7:=by rw[←ah];exact(Mod.refl _ _).alloc _
       have aZ:W7.heap[pb]?=some (.cells #[.int .u64 (aX:Int),.slice fa FL fc] 56 (0,0)):=by rw[←ah,←aY];exact heap_alloc_new W6 _
       have k1:W7.cell? ⟨pb,1,none⟩=some (.slice fa FL fc):=za aZ rfl;have a0:Hid (∀wx,Mod NoB W7 wx→zc5 wx (.slice fa FL fc) af):=zb fun wx m=>D.mod0 (m7.trans m)
       have a1:=zb aG;have av:=zb au;have a2:=zb ((aV.out.trans m6).trans m7);rw[aY,ah];clear D aG au aH m6 m7 aZ w3 ah aV kd be r2;go_wp2_with fail
       go_loopw [14,15,20] (fun sv lv jv wr=>∃(j:Nat) (f Q:Int),j≤FL∧sv = .int .i64 f∧lv = .int .i64 Q∧jv = .int .i64 (j:Int)∧lf-(j:Int)≤Q∧Q≤16∧Hid (Mod NoB W7 wr∧zfd ((zcV bs).drop j) f Q=RF)) (fun _ _ jv _=>FL-(intOf jv).toNat)
       case atStart=>exact⟨0,st,lf,Nat.zero_le _,rfl,rfl,rfl,by omega,Q,zb ⟨Mod.refl _ _,bf.out⟩⟩
       case round =>
        obtain⟨j,f,h,hj,rfl,rfl,rfl,e1,e2,HJ⟩:=hrel;have k1r:=HJ.out.1.cell (a:=⟨pb,1,none⟩) (fun x=>x) k1;by_cases aI:j<FL
        ·obtain⟨fr,D⟩:∃fr,af[j]?=some fr:=⟨af[j]'(by have:=av.out;rw[←a1.out,List.length_map]at this;omega),List.getElem?_eq_getElem _⟩;obtain⟨a',bv,G,_,_,h3⟩:=a0.out wr HJ.out.1;cases G;obtain⟨⟨g,o,rfl,hc⟩,a3⟩:=h3 j fr D;obtain⟨a4,a5,bh,bi,bj,bk,bm,bn,bo,a6⟩:=zbG hc;have a7:(zcV bs)[j]?=some fr.1:=by rw[←a1.out,List.getElem?_map,D];rfl
         have ai:=HJ.out.2;rw[znk a7]at ai;obtain⟨W8,R⟩:=nm (wr.alloc (.cells (zh fr.1 fr.2) 65));have m8:Mod NoB wr W8:=by rw[←R];exact(Mod.refl _ _).alloc _
         have Z:=zb (HJ.out.1.trans m8);have aJ:W8.heap[wr.heap.size]?=some (.cells (zh fr.1 fr.2) 65 (0,0)):=by rw[←R];exact heap_alloc_new wr _
         obtain⟨kd,aj⟩:=nm fr.1.kind;obtain⟨sm,ak⟩:=nm fr.1.stream;have s0:W8.cell? ⟨wr.heap.size,0,none⟩=some (.int .i64 kd):=by rw[←aj];exact za aJ rfl
         have s1:W8.cell? ⟨wr.heap.size,1,none⟩=some (.int .i64 sm):=by rw[←ak];exact za aJ rfl
         unfold zh at R;rw[aj,ak]at ai R;rw[aj]at a4;rw[ak]at a5;have F:=zb ai;have aK:=zb R;have xj:IntKind.i64.wrap ((j:Int)+1)=(j:Int)+1:=by rw[IntKind.wrap_i64];omega
         have xl:IntKind.i64.wrap (h-1)=h-1:=by rw[IntKind.wrap_i64];omega
         obtain⟨ra,rcp,aL,-⟩:=id a3;obtain⟨rn,a8⟩:=nm fr.1.rngs.length;rw[a8]at aL;rw[aL]at a6 aK;clear HJ D h3 hc a7 ai m8 aJ aj ak R a0 aL a8 a3;go_upto_region 36 with fail;rw[aK.out];clear aK a4 a5 bh bi bj bk bm bn bo a6;by_cases h7:kd=7
         ·subst h7;have aa:Hid (zfd ((zcV bs).drop (j+1)) f (h-1)=RF):=F.out;clear F;go_wp2_with fail;go_roundw
          case rel=>exact⟨j+1,f,h-1,aI,rfl,rfl,by congr 1,by omega,by omega,zb ⟨Z.out,aa.out⟩⟩
          case measure=>simp[intOf];omega
         have d7:(kd==7)=false:=beq_eq_false_iff_ne.2 h7;by_cases h4:kd=4
         ·subst h4;by_cases al:sm<f
          ·have ds:decide (sm<f)=true:=decide_eq_true al;have H:none=RF:=by
            have a:=F.out;rw[if_pos rfl,if_pos al]at a;exact a
           subst H;have c:false=B:=Y.out;subst c;have HF:Hid (Mod NoB w W8):=zb ((aC.out.trans a2.out).trans Z.out);clear F Z;go_wp2_with fail;go_ret;exact⟨rfl,HF.out⟩
          ·have ds:decide (sm<f)=false:=decide_eq_false al;have aa:Hid (zfd ((zcV bs).drop (j+1)) sm h=RF):=by
            have a:=F.out;rw[if_pos rfl,if_neg al]at a;exact zb a
           clear F;go_wp2_with fail;all_goals first|(exfalso;omega)|skip
           all_goals
            go_roundw
            case rel=>exact⟨j+1,sm,h,aI,rfl,rfl,by congr 1,by omega,by omega,zb ⟨Z.out,aa.out⟩⟩
            case measure=>simp[intOf];omega
         ·have d4:(kd==4)=false:=beq_eq_false_iff_ne.2 h4;have aa:Hid (zfd ((zcV bs).drop (j+1)) f h=RF):=by
           have a:=F.out;rw[if_neg h4,if_neg h7]at a;exact zb a
          clear F h4 h7;go_wp2_with fail;go_roundw
          case rel=>exact⟨j+1,f,h,aI,rfl,rfl,by congr 1,by omega,by omega,zb ⟨Z.out,aa.out⟩⟩
          case measure=>simp[intOf];omega
        ·have ej:j=FL:=by omega
         have H:some (f,h)=RF:=by
          have a:=HJ.out.2;rw[ej,←av.out,List.drop_length]at a;exact a
         subst H;have S:Hid ((if 0<h∧0≤f then false else zle (l.drop (q+1)) f h)=B):=Y.out;have am:=zb (a2.out.trans HJ.out.1);have e1':lf-400≤h:=by omega
         clear HJ Y ej e1;by_cases ao:0<h
         ·have dl:decide ((0:Int)<h)=true:=decide_eq_true ao;by_cases ap:0≤f
          ·have dz:decide ((0:Int)≤f)=true:=decide_eq_true ap;have c:false=B:=by
            have a:=S.out;rw[if_pos ⟨ao,ap⟩]at a;exact a
           subst c;have HF:Hid (Mod NoB w wr):=zb (aC.out.trans am.out);clear S am;go_wp2_with fail;all_goals first|(exfalso;omega)|skip
           all_goals
            go_ret;exact⟨rfl,HF.out⟩
          ·have dz:decide ((0:Int)≤f)=false:=decide_eq_false ap;have aM:Hid (zle (l.drop (q+1)) f h=B):=by
            have a:=S.out;rw[if_neg (fun x=>ap x.2)]at a;exact zb a
           clear S;go_wp2_with fail;all_goals first|(exfalso;omega)|skip
           all_goals
            go_roundw
            case rel=>exact⟨q+1,f,h,aD,rfl,rfl,by congr 1,by omega,e2,zb ⟨am.out,aM.out⟩⟩
            case measure=>simp[intOf];omega
         ·have dl:decide ((0:Int)<h)=false:=decide_eq_false ao;have aM:Hid (zle (l.drop (q+1)) f h=B):=by
           have a:=S.out;rw[if_neg (fun x=>ao x.1)]at a;exact zb a
          clear S;go_wp2_with fail;all_goals first|(exfalso;omega)|skip
          all_goals
           go_roundw
           case rel=>exact⟨q+1,f,h,aD,rfl,rfl,by congr 1,by omega,e2,zb ⟨am.out,aM.out⟩⟩
           case measure=>simp[intOf];omega
      ·have eq:q=BL:=by omega
       have c:true=B:=by
        have a:=HQ.out.2;rw[eq,←W.out,List.drop_length]at a;exact a
       subst c;have HF:Hid (Mod NoB w wr):=zb (aC.out.trans HQ.out.1);clear HQ eq;go_wp2_with fail;go_ret;exact⟨rfl,HF.out⟩
structure DB(n:Nat)(d:Drf):Prop where
 b:d.b=zo8 n d.fs
 fits:∀f∈d.fs,f.Fits
theorem DB.add{n:Nat}{d a:Drf}{f:Frm}(h:DB n d)(hf:f.Fits)(ha:d.add f=some a):DB n a:=by
 obtain⟨e1,c,_⟩:=Drf.add_some ha;refine⟨?_,fun g hg=>?_⟩
 ·rw[e1,c,h.b];simp[zo8]
 ·rw[c]at hg;rcases List.mem_append.1 hg with x|x
  ·exact h.fits g x
  ·rw[List.mem_singleton.1 x];exact hf
theorem DB.put{n:Nat}{c c':CS}{d a:Drf}{r:Bool}(h:DB n d)(p:zcu c d r c' a):DB n a:=by
 cases r with
 | true =>
  obtain⟨f,hf,_,ha⟩:=p.yes rfl;exact h.add hf ha
 | false =>
  obtain⟨_,e|e⟩:=p.no rfl
  ·rw[e];exact h
  ·rw[e];exact⟨h.b,h.fits⟩
theorem DB.dec{n:Nat}{d:Drf}(h:DB n d)(hn:n≤4611686018427387903)(a:d.fs≠[]):dec (zb3 d.b) = .ok n (d.fs.map zbe):=by
 unfold zb3;rw[zkV,h.b];exact zo7 n d.fs hn (List.length_pos_iff.2 a) (fun f c=>⟨(h.fits f c).sound,by have:=(h.fits f c).data;omega,by rw[(h.fits f c).rn];simp⟩)
theorem zh3{f:Frm}(h:f.kind=4):(zbe f).stream=f.stream:=by
 unfold zbe;simp[h]
theorem zd2:∀(l:List Frm) (st lf:Int),zfd (l.map zbe) st lf=zfd l st lf
 | [],_,_=>rfl
 | f::l,st,lf=>by
  rw[List.map_cons,zfd,zfd,zfS];by_cases h:f.kind=4
  ·rw[if_pos h,if_pos h,zh3 h,zd2 l]
  ·rw[if_neg h,if_neg h,zd2 l]
theorem zcL(f:Frm):∀(l:List Frm) (st lf b a:Int),zfd l st lf=some (b,a)→zfd (l++[f]) st lf=if f.kind=4 then(if f.stream<b then none else some (f.stream,a))else some (b,if f.kind=7 then a-1 else a)
 | [],st,lf,b,a,h=>by
  have h:some (st,lf)=some (b,a):=h;cases h;rfl
 | g::l,st,lf,b,a,h=>by
  rw[List.cons_append,zfd];rw[zfd]at h;by_cases h4:g.kind=4
  ·rw[if_pos h4]at h ⊢;by_cases hs:g.stream<st
   ·rw[if_pos hs]at h;cases h
   ·rw[if_neg hs]at h ⊢;exact zcL f l _ _ _ _ h
  ·rw[if_neg h4]at h ⊢;exact zcL f l _ _ _ _ h
theorem zff:∀(rs:zD) (lo e a:Nat),(zaD rs lo e).2≤(zaD rs lo e).1→a≤e→(zaD rs lo a).2≤(zaD rs lo a).1
 | [],lo,e,a,h,he=>by
  have h:e≤lo:=h;show a≤lo;omega
 | r::l,lo,e,a,h,he=>by
  unfold zaD at h ⊢;split at h
  ·rename_i h1;rw[if_pos h1];exact zff l lo e a h he
  ·rename_i h1;rw[if_neg h1];split at h
   ·rename_i h2;rw[if_pos h2];have h:min e r.1≤lo:=h;show min a r.1≤lo;omega
   ·rename_i h2;rw[if_neg h2];exact zff l _ e a h he
def zdl(c:CS)(k:Nat):Prop:=(zaD (c.ws k).sent.rs 0 (c.endOf k)).2≤(zaD (c.ws k).sent.rs 0 (c.endOf k)).1
theorem zfg(ws:Nat→WS)(k:Nat){x:WS}(hx:(ws k).high≤x.high):∀n,zat ws n≤zat (upd ws k x) n
 | 0=>Nat.le_refl _
 | n+1=>by
  have ih:=zfg ws k hx n;show zat ws n+(ws n).high≤zat (upd ws k x) n+(upd ws k x n).high;by_cases e:n=k
  ·subst e;rw[zf];omega
  ·rw[ze _ _ e];omega
theorem zpc{c:CS}{k j:Nat}{x:WS}(hj:j≠k)(hx:(c.ws k).high≤x.high)(h:zdl c j):zdl { c with ws:=upd c.ws k x } j:=by
 have e:(({ c with ws:=upd c.ws k x }:CS).ws j)=c.ws j:=ze _ _ hj;have h0:({ c with ws:=upd c.ws k x }:CS).end0 j≤c.end0 j:=by
  unfold CS.end0;rw[e];have hs:c.spent≤({ c with ws:=upd c.ws k x }:CS).spent:=zfg c.ws k hx 8;show min (min (c.ws j).b.length (c.ws j).credit) ((c.ws j).high+c.credit-min c.credit ({ c with ws:=upd c.ws k x }:CS).spent)≤_;omega
 have h1:({ c with ws:=upd c.ws k x }:CS).endOf j≤c.endOf j:=by
  unfold CS.endOf;rw[e];split<;>omega
 unfold zdl at h ⊢;rw[e];exact zff _ _ _ _ h h1
structure zfX(c:CS):Prop where
 cut:∀k,k<8→(c.ws k).cut=false∧(c.ws k).finished=false
 waits:∀f∈c.waits,f.kind=7
structure Sc(st0 lf0:Int)(c:CS)(d:Drf)(st lf:Int):Prop where
 scan:zfd d.fs st0 lf0=some (st,lf)
 lf:lf=(c.waits.length:Int)
 hs:0≤st→c.waits=[]∧∀j:Nat,(j:Int)<st→zdl c j
theorem zh4{c c':CS}(h1:c'.ws=c.ws)(h2:c'.credit=c.credit){j:Nat}(h:zdl c j):zdl c' j:=by
 have e:c'.endOf j=c.endOf j:=by
  unfold CS.endOf CS.end0 CS.spent;rw[h1,h2]
 unfold zdl at h ⊢;rw[e,h1];exact h
theorem zh5{c:CS}(hc:∀k,k<8→(c.ws k).cut=false)(d:Drf):∀n k,n+k≤8→zfi c d n k=none
 | 0,_,_=>rfl
 | n+1,k,h=>by
  unfold zfi;rw[hc k (by omega)];exact zh5 hc d n (k+1) (by omega)
structure CtlD(c:CS)(d:Drf)(c':CS)(d':Drf):Prop where
 same:c'.ws=c.ws∧c'.credit=c.credit∧c'.waits=c.waits
 add:∃f:Frm,f.kind≠4∧f.kind≠7∧d.add f=some d'
theorem zfh{c:CS}{d:Drf}:∀n k t x,(zgE c d n k t).1=some x→CtlD c d x.1 x.2
 | 0,_,_,x,h=>by cases h
 | n+1,k,t,x,h=>by
  unfold zgE at h;split at h
  ·split at h
   ·rename_i d' hd;cases h;exact⟨⟨rfl,rfl,rfl⟩,_,by simp[zlX],by simp[zlX],hd⟩
   ·exact zfh n _ _ x h
  ·exact zfh n _ _ x h
theorem zh6{c:CS}(hc:zfX c){d:Drf}{x:CS×Drf}(h:c.control d=some x):CtlD c d x.1 x.2:=by
 unfold CS.control at h;split at h
 ·rename_i y hy;cases h;exact zfh 8 0 c.total _ hy
 ·unfold zqM at h;rw[zh5 (fun k hk=>(hc.cut k hk).1) d 8 0 (by omega)]at h;split at h
  ·split at h
   ·rename_i d' hd;cases h;exact⟨⟨rfl,rfl,rfl⟩,_,by simp[zld],by simp[zld],hd⟩
   ·cases h
  ·cases h
def Stg(k:Nat)(c:CS)(d:Drf):Prop:=c.waits≠[]∨d.full=true∨∀j,j<k→zdl c j
structure PR(num:Nat)(st0 lf0:Int)(k:Nat)(c:CS)(d:Drf):Prop where
 ok:c.Ok
 pl:zfX c
 db:DB num d
 sc:∃st lf,Sc st0 lf0 c d st lf
 sg:Stg k c d
 rm:d.b.length≤d.room
theorem PR.add{e:Nat}{st0 lf0:Int}{c c':CS}{d a:Drf}{f:Frm}(hd:DB e d)(hf:f.Fits)(g:d.add f=some a):DB e a∧a.b.length≤a.room∧d.b.length+1≤a.b.length∧a.room=d.room∧a.fs=d.fs++[f]∧a.full=d.full:=by
 obtain⟨e1,e2,e3,e4,e5,e6⟩:=Drf.add_some g;refine⟨hd.add hf g,by omega,?_,e3,e2,e4⟩;rw[e1,List.length_append];have:=zdX f;omega
structure zpw(num:Nat)(st0 lf0:Int)(k k':Nat)(d:Drf)(r:Bool)(c':CS)(d':Drf):Prop where
 pr:PR num st0 lf0 k c' d'
 room:d'.room=d.room
 yes:r=true→d.b.length+1≤d'.b.length
 no:r=false→Stg k' c' d'∧d'.b.length=d.b.length
theorem zjm{a:Nat}{st0 lf0:Int}{c:CS}{d:Drf}(h:PR a st0 lf0 0 c d):zpw a st0 lf0 0 0 d (c.put d 0).1 (c.put d 0).2.1 (c.put d 0).2.2:=by
 have p:=zfI (d:=d) (q:=0) h.ok (by omega);show zpw a st0 lf0 0 0 d (c.control d).isSome ((c.control d).getD (c,d)).1 ((c.control d).getD (c,d)).2;have p:zcu c d (c.control d).isSome ((c.control d).getD (c,d)).1 ((c.control d).getD (c,d)).2:=p;cases hc:c.control d with
 | none=>exact⟨h,rfl,fun x=>(by cases x),fun _=>⟨h.sg,rfl⟩⟩
 | some x =>
  rw[hc]at p;obtain⟨⟨r,s2,e⟩,f,f4,f7,s⟩:=zh6 h.pl hc;obtain⟨g,hg,_,l⟩:=p.yes rfl;obtain⟨st,lf,sc⟩:=h.sc;have b:d.add g=some x.2:=l;obtain⟨_,e2,_⟩:=Drf.add_some s;obtain⟨_,m,_⟩:=Drf.add_some b;have n:f=g:=by
   have:=e2.symm.trans m;simpa using this
  subst n;obtain⟨a1,a2,a3,a4,a5,a6⟩:=PR.add (st0:=st0) (lf0:=lf0) (c:=c) (c':=c) h.db hg s;refine⟨⟨p.ok,⟨fun k hk=>by rw[show((some x).getD (c,d)).1=x.1 from rfl,r];exact h.pl.cut k hk,fun g hg=>by rw[show((some x).getD (c,d)).1=x.1 from rfl,e]at hg;exact h.pl.waits g hg⟩,a1,⟨st,lf,?_,?_,fun hs=>?_⟩,.inr (.inr fun j o=>absurd o (Nat.not_lt_zero j)),a2⟩,a4,fun _=>a3,fun x=>(by cases x)⟩
  ·show zfd x.2.fs st0 lf0=_;rw[a5,zcL f d.fs _ _ _ _ sc.scan,if_neg f4,if_neg f7]
  ·show lf=(x.1.waits.length:Int);rw[e];exact sc.lf
  ·obtain⟨w,i⟩:=sc.hs hs;exact⟨by show x.1.waits=[];rw[e];exact w,fun j o=>zh4 r s2 (i j o)⟩
theorem zfx{c:CS}{d:Drf}{x:CS×Drf}(h:c.datagrams d=some x):∃f l,c.waits=f::l∧x.1={ c with waits:=l }∧d.add f=some x.2:=by
 unfold CS.datagrams at h;split at h
 ·cases h
 ·rename_i f l hw;obtain⟨d',h1,h2⟩:=Option.map_eq_some_iff.1 h;subst h2;exact⟨f,l,hw,rfl,h1⟩
theorem zgC{a:Nat}{st0 lf0:Int}{c:CS}{d:Drf}(h:PR a st0 lf0 0 c d):zpw a st0 lf0 0 0 d (c.put d 1).1 (c.put d 1).2.1 (c.put d 1).2.2:=by
 have p:=zfI (d:=d) (q:=1) h.ok (by omega);show zpw a st0 lf0 0 0 d (c.datagrams d).isSome ((c.datagrams d).getD (c,d)).1 ((c.datagrams d).getD (c,d)).2;have p:zcu c d (c.datagrams d).isSome ((c.datagrams d).getD (c,d)).1 ((c.datagrams d).getD (c,d)).2:=p;cases hc:c.datagrams d with
 | none=>exact⟨h,rfl,fun x=>(by cases x),fun _=>⟨h.sg,rfl⟩⟩
 | some x =>
  rw[hc]at p;obtain⟨f,l,k,ec,r⟩:=zfx hc;obtain⟨g,hg,_,m⟩:=p.yes rfl;obtain⟨st,lf,sc⟩:=h.sc;have b:d.add g=some x.2:=m;obtain⟨_,e2,_⟩:=Drf.add_some r;obtain⟨_,n,_⟩:=Drf.add_some b;have o:f=g:=by
   have:=e2.symm.trans n;simpa using this
  subst o;have f7:f.kind=7:=h.pl.waits f (by rw[k];exact List.mem_cons_self);obtain⟨a1,a2,a3,a4,a5,a6⟩:=PR.add (st0:=st0) (lf0:=lf0) (c:=c) (c':=c) h.db hg r;have i:x.1.Ok:=p.ok;show zpw a st0 lf0 0 0 d true x.1 x.2;rw[ec]at i ⊢;refine⟨⟨i,⟨h.pl.cut,fun g hg=>h.pl.waits g (by rw[k];exact List.mem_cons_of_mem _ hg)⟩,a1,⟨st,lf-1,?_,?_,fun hs=>?_⟩,.inr (.inr fun j hj=>absurd hj (Nat.not_lt_zero j)),a2⟩,a4,fun _=>a3,fun x=>(by cases x)⟩
  ·rw[a5,zcL f d.fs _ _ _ _ sc.scan,if_neg (by omega),if_pos f7]
  ·have e:=sc.lf;rw[k]at e;show lf-1=(l.length:Int);rw[e,List.length_cons];omega
  ·have x:=(sc.hs hs).1;rw[k]at x;cases x
theorem zk5{c:CS}(hc:zfX c){d:Drf}{k:Nat}(hk:k<8) :
  ((c.bytes d k).1=false∧(c.bytes d k).2.1=c∧((c.bytes d k).2.2=d∧(c.waits≠[]∨d.full=true∨zdl c k)∨(c.bytes d k).2.2={ d with full:=true })) ∨
  ((c.bytes d k).1=true∧c.waits=[]∧d.full=false∧¬zdl c k∧∃(f:Frm) (x:WS),f.kind=4∧f.stream=(k:Int)∧d.add f=some (c.bytes d k).2.2∧(c.bytes d k).2.1={ c with ws:=upd c.ws k x }∧(c.ws k).high≤x.high∧x.cut=(c.ws k).cut∧x.finished=(c.ws k).finished):=by
 have fin:(c.ws k).fin=false:=by unfold WS.fin;rw[(hc.cut k hk).2];rfl
 have h:∀lo hi b,((c.bytesAdd d k lo hi b).1=false∧(c.bytesAdd d k lo hi b).2.1=c∧(c.bytesAdd d k lo hi b).2.2={ d with full:=true }) ∨
   ((c.bytesAdd d k lo hi b).1=true∧∃(f:Frm) (x:WS),f.kind=4∧f.stream=(k:Int)∧d.add f=some (c.bytesAdd d k lo hi b).2.2∧(c.bytesAdd d k lo hi b).2.1={ c with ws:=upd c.ws k x }∧(c.ws k).high≤x.high∧x.cut=(c.ws k).cut∧x.finished=(c.ws k).finished):=by
  intro lo hi b;unfold CS.bytesAdd;split
  ·exact .inl ⟨rfl,rfl,rfl⟩
  ·rename_i d' hd;exact .inr ⟨rfl,_,_,rfl,rfl,hd,rfl,Nat.le_max_left _ _,rfl,rfl⟩
 have hR:∀lo hi,((c.bytesR d k lo hi).1=false∧(c.bytesR d k lo hi).2.1=c∧(c.bytesR d k lo hi).2.2={ d with full:=true }) ∨
   ((c.bytesR d k lo hi).1=true∧∃(f:Frm) (x:WS),f.kind=4∧f.stream=(k:Int)∧d.add f=some (c.bytesR d k lo hi).2.2∧(c.bytesR d k lo hi).2.1={ c with ws:=upd c.ws k x }∧(c.ws k).high≤x.high∧x.cut=(c.ws k).cut∧x.finished=(c.ws k).finished):=by
  intro lo hi;unfold CS.bytesR;split
  ·split
   ·exact .inl ⟨rfl,rfl,rfl⟩
   ·exact h _ _ _
  ·exact h _ _ _
 by_cases h1:c.waits≠[]∨d.full=true
 ·have e:c.bytes d k=(false,c,d):=by unfold CS.bytes;rw[if_pos h1]
  rw[e];exact .inl ⟨rfl,rfl,.inl ⟨rfl,by rcases h1 with x|x;exact .inl x;exact .inr (.inl x)⟩⟩
 ·have hw:c.waits=[]:=by
   by_cases x:c.waits=[]
   ·exact x
   ·exact absurd (.inl x) h1
  have hf:d.full=false:=by
   cases x:d.full
   ·rfl
   ·exact absurd (.inr x) h1
  by_cases h2:zdl c k
  ·have e:c.bytes d k=(false,c,d):=by
    unfold CS.bytes;rw[if_neg h1,if_pos (show(zaD (c.ws k).sent.rs 0 (c.endOf k)).2≤(zaD (c.ws k).sent.rs 0 (c.endOf k)).1 from h2),fin];rfl
   rw[e];exact .inl ⟨rfl,rfl,.inl ⟨rfl,.inr (.inr h2)⟩⟩
  ·have e:c.bytes d k=c.bytesR d k (zaD (c.ws k).sent.rs 0 (c.endOf k)).1 (zaD (c.ws k).sent.rs 0 (c.endOf k)).2:=by
    unfold CS.bytes;rw[if_neg h1,if_neg (show ¬(zaD (c.ws k).sent.rs 0 (c.endOf k)).2≤(zaD (c.ws k).sent.rs 0 (c.endOf k)).1 from h2)]
   rw[e];rcases hR (zaD (c.ws k).sent.rs 0 (c.endOf k)).1 (zaD (c.ws k).sent.rs 0 (c.endOf k)).2 with⟨a,b,g⟩|⟨a,b⟩
   ·exact .inl ⟨a,b,.inr g⟩
   ·exact .inr ⟨a,hw,hf,h2,b⟩
theorem znn{i:Nat}{st0 lf0:Int}{k:Nat}(hk:k<8){c:CS}{d:Drf}(h:PR i st0 lf0 k c d):zpw i st0 lf0 k (k+1) d (c.put d (k+2)).1 (c.put d (k+2)).2.1 (c.put d (k+2)).2.2:=by
 have p:=zfI (d:=d) (q:=k+2) h.ok (by omega);show zpw i st0 lf0 k (k+1) d (c.bytes d k).1 (c.bytes d k).2.1 (c.bytes d k).2.2;have p:zcu c d (c.bytes d k).1 (c.bytes d k).2.1 (c.bytes d k).2.2:=p;obtain⟨st,lf,sc⟩:=h.sc;rcases zk5 h.pl (d:=d) hk with⟨r,n,l⟩|⟨r,A,hf,o,f,x,f4,fs,B,n,x1,x2,x3⟩
 ·rw[r,n];rcases l with⟨l,hs⟩|l
  ·rw[l];refine⟨h,rfl,fun x=>(by cases x),fun _=>⟨?_,rfl⟩⟩;rcases hs with x|x|x
   ·exact .inl x
   ·exact .inr (.inl x)
   ·rcases h.sg with y|y|y
    ·exact .inl y
    ·exact .inr (.inl y)
    ·exact .inr (.inr fun j s=>by
      by_cases e:j=k
      ·rw[e];exact x
      ·exact y j (by omega))
  ·rw[l];exact⟨⟨h.ok,h.pl,⟨h.db.b,h.db.fits⟩,⟨st,lf,sc.scan,sc.lf,sc.hs⟩,.inr (.inl rfl),h.rm⟩,rfl,fun x=>(by cases x),fun _=>⟨.inr (.inl rfl),rfl⟩⟩
 ·obtain⟨g,hg,_,t⟩:=p.yes r;obtain⟨_,e2,_⟩:=Drf.add_some B;obtain⟨_,u,_⟩:=Drf.add_some t;have v:f=g:=by
   have:=e2.symm.trans u;simpa using this
  subst v;obtain⟨a1,a2,a3,a4,a5,a6⟩:=PR.add (st0:=st0) (lf0:=lf0) (c:=c) (c':=c) h.db hg B;have w:∀j,j<k→zdl c j:=by
   rcases h.sg with y|y|y
   ·exact absurd A y
   ·rw[hf]at y;cases y
   ·exact y
  have a:∀j,j<k→zdl { c with ws:=upd c.ws k x } j:=fun j s=>zpc (by omega) x1 (w j s)
  have z:¬((k:Int)<st):=fun y=>o ((sc.hs (by omega)).2 k y)
  have m:=p.ok;rw[r];rw[n]at m ⊢;refine⟨⟨m,⟨fun q hq=>?_,h.pl.waits⟩,a1,⟨(k:Int),lf,?_,sc.lf,fun _=>⟨A,fun j s=>a j (by omega)⟩⟩,.inr (.inr a),a2⟩,a4,fun _=>a3,fun x=>(by cases x)⟩
  ·show(upd c.ws k x q).cut=false∧(upd c.ws k x q).finished=false;by_cases e:q=k
   ·rw[e,zf,x2,x3];exact h.pl.cut k hk
   ·rw[ze _ _ e];exact h.pl.cut q hq
  ·rw[a5,zcL f d.fs _ _ _ _ sc.scan,if_pos f4,fs,if_neg z]
theorem zgD{f:Nat}{st0 lf0:Int}{q k k':Nat}(g:∀c d,PR f st0 lf0 k c d→zpw f st0 lf0 k k' d (c.put d q).1 (c.put d q).2.1 (c.put d q).2.2):∀(n:Nat) (c:CS) (d:Drf),PR f st0 lf0 k c d→d.room<d.b.length+n→PR f st0 lf0 k (CS.reps q n c d).1 (CS.reps q n c d).2∧Stg k' (CS.reps q n c d).1 (CS.reps q n c d).2∧(CS.reps q n c d).2.room=d.room
 | 0,c,d,h,hn=>absurd h.rm (by omega)
 | n+1,c,d,h,hn=>by
  have x:=g c d h;unfold CS.reps;by_cases r:(c.put d q).1=true
  ·rw[if_pos r];have y:=x.yes r;have z:=x.room;obtain⟨a,b,e⟩:=zgD g n _ _ x.pr (by omega);exact⟨a,b,e.trans z⟩
  ·rw[if_neg r];exact⟨x.pr,(x.no (by simpa using r)).1,x.room⟩
theorem PR.stage{a:Nat}{st0 lf0:Int}{k k':Nat}{c:CS}{d:Drf}(h:PR a st0 lf0 k c d)(hs:Stg k' c d):PR a st0 lf0 k' c d:=⟨h.ok,h.pl,h.db,h.sc,hs,h.rm⟩
theorem zey{f:Nat}{st0 lf0:Int}:∀(n:Nat) (c:CS) (d:Drf),n≤10→PR f st0 lf0 (8-n) c d→PR f st0 lf0 8 (CS.fillN n c d).1 (CS.fillN n c d).2
 | 0,_,_,_,h=>h
 | n+1,c,d,hn,h=>by
  unfold CS.fillN;by_cases h9:n=9
  ·subst h9;obtain⟨a,b,_⟩:=zgD (q:=0) (k:=0) (k':=0) (fun c d h=>zjm h) (d.room+1) c d h (by omega);exact zey 9 _ _ (by omega) (a.stage b)
  ·by_cases h8:n=8
   ·subst h8;obtain⟨a,b,_⟩:=zgD (q:=1) (k:=0) (k':=0) (fun c d h=>zgC h) (d.room+1) c d h (by omega);exact zey 8 _ _ (by omega) (a.stage b)
   ·have e:9-n=(7-n)+2:=by omega
    rw[e];have h':PR f st0 lf0 (7-n) c d:=by
     rw[show 8-(n+1)=7-n by omega]at h;exact h
    obtain⟨a,b,_⟩:=zgD (q:=(7-n)+2) (k:=7-n) (k':=7-n+1) (fun c d h=>znn (by omega) h) (d.room+1) c d h' (by omega);refine zey n _ _ (by omega) ?_;rw[show 8-n=7-n+1 by omega];exact a.stage b
end Go.Proofs.YtddfdpbaiedcjaaGreatDoor
