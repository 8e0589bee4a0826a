/- A part of Once's proof. Conditions: none. Part 6 of 15. -/
import Derived.Test.YtddfdpbaiedcjaaGreatDoorOnc5
set_option maxRecDepth 100000
set_option maxHeartbeats 16000000
set_option linter.all false
namespace Go.Proofs.YtddfdpbaiedcjaaGreatDoor
section
open Go.RowKit Go.Proofs.Tryz
structure JR(c:CS):Prop where
 win:c.window<=4096
 tot:c.total<=4096
 grant:c.grant<=zB
 used:∀k,k<8->(c.rs k).used<=zB/\(c.rs k).grant<=zB
 hopes:∀k,k<8->(c.rs k).hopes=true->(c.rs k).used+c.window<=zB
 cut:∀k,k<8->(c.ws k).keep<=(c.ws k).final/\(c.ws k).final<=zB
variable{V':CV}{W W':World}{b db i k:Nat}{bv' fv':Value}{c:CS}{d:Dd}{l':List (Db×Value)}{tag tag':Nat->Nat×Nat}
def zL.telling(h:zL tag i b db W c d tag' V' bv' fv' l' W')(hk:k<8):zL tag i b db W { c with ws:=upd c.ws k { c.ws k with telling:=true } } d tag' V' bv' fv' l' (W'.setCell ⟨b,9+15*k+13,none⟩ (.bool true)):=by
 refine h.store _ _ (GY _ _ _ _ _ hk (by decide) (λq _=>?_) rfl rfl rfl) ⟨rfl,λq _=>?_,λ_ _=>⟨rfl,rfl⟩,rfl,rfl,rfl,rfl⟩
 ·by_cases a:q=k
  ·subst a;simp only[ze,A5];rfl
  ·simp only[zd _ _ a,AH a]
 ·by_cases a:q=k
  ·subst a;simp[ze]
  ·simp[zd _ _ a]
def VQ(c:CS)(d:Dd)(k n:Nat)(x:WS):Option Dd->Option (CS×Dd)
 | some d'=>some ({ c with ws:=upd c.ws k { x with telling:=true } },d')
 | none=>Eg c d n (k+1)
def Qh(c:CS)(d:Dd)(m:Nat):Option Dd->Option (CS×Dd)
 | some d'=>some ({ c with grant:=m,anew:=false },d')
 | none=>Eg c d 8 0
variable{V:CV}{bv fv:Value}
theorem fw{l:List (Db×Value)}(h:zg tag i b c V W)(hD:ES tag i db d bv fv l W)(E:Dx i tag W)(ok:JR c)(ad:d.b.length<=1073741824)(ae:d.fs.length<=1073741824):Calls prog 145 #[.pointer (some ⟨b,0,none⟩),.pointer (some ⟨db,0,none⟩)] W (GA tag i b db W ((c.control d).getD (c,d)).1 ((c.control d).getD (c,d)).2 (c.control d).isSome):=by
 have S0:AA (zL tag i b db W c d tag V bv fv l W):=zb ⟨h,hD,Dj.same E.ok (DW.refl DX _),DW.refl _ _,E.pos⟩;have c2:=h.hd (j:=2) rfl;obtain⟨R,hR⟩:=nm (c.control d);rw[hR];have HR:=zb hR;have OK:=zb ok;have aJ:=ok.tot;have aK:IntKind.u64.wrap (c.total:Int)=(c.total:Int):=by rw[IntKind.wrap_u64];omega
 obtain⟨T,hT⟩:=nm c.total;rw[hT]at c2 aK;have HT:=zb hT;obtain⟨RR,aL⟩:=nm (ctlR c d 8 0 c.total);have ap:=zb aL;clear h hD E ok hR aJ hT aL;go_enter func145,ntmps145;go_wp2_with fail;clear c2 aK
 go_loopw [5,17] (λtv kv wr=>∃k t tag' V' bv' fv' l',k<=8/\tv = .int .u64 ((t:Nat):Int)/\kv = .int .i64 ((k:Nat):Int)/\t<=zB/\AA (zL tag i b db W c d tag' V' bv' fv' l' wr)/\AA (ctlR c d (8-k) k t=RR)) (λ_ kv _=>8-(intOf kv).toNat)
 case atStart=>exact⟨0,T,tag,V,bv,fv,l,by omega,rfl,rfl,by have:=OK.z.tot;have:=HT.z;unfold zB;omega,S0,zb (by rw[<-ap.z,HT.z])⟩
 case round =>
  obtain⟨k,t,tag',V',bv',fv',l',hk,rfl,rfl,ht,L,HC⟩:=hrel;by_cases a:k<8
  ·obtain⟨n,hn⟩:∃n,8-k=n+1:=⟨7-k,by omega⟩;have U:8-(k+1)=n:=by omega
   have o:=HC.z;rw[hn]at o;unfold ctlR at o;obtain⟨m,hm⟩:=nm (max (c.rs k).grant ((c.rs k).used+c.window));rw[hm]at o;have ku:=Ra L.z.c a;have kh:=TM L.z.c a;have aq:=Ra (L.z.c.mod0 (DW.refl DX wr).drew) a;have af:=TM (L.z.c.mod0 (DW.refl DX wr).drew) a;have ar:wr.cell? ⟨b,129+k*13+11,none⟩=some (.int .u64 ((c.rs k).grant:Int)):=by rw[AK];exact L.z.c.r (j:=11) a rfl
   have au:wr.cell? ⟨b,129+k*13+12,none⟩=some (.bool (c.rs k).anew):=by rw[AK];exact L.z.c.r (j:=12) a rfl
   have r1:=L.z.c.hd (j:=1) rfl;obtain⟨q1,q2⟩:=OK.z.used k a;have q3:=OK.z.hopes k a;have q4:=OK.z.win;obtain⟨u,hu⟩:=nm ((c.rs k).used);obtain⟨g,hg⟩:=nm ((c.rs k).grant);obtain⟨an,M⟩:=nm ((c.rs k).anew);obtain⟨hp,av⟩:=nm ((c.rs k).hopes);obtain⟨win,Q⟩:=nm c.window;rw[hu]at ku aq q1 q3 o;rw[hg]at ar q2 o;rw[M]at au o;rw[av]at kh af q3 o;rw[Q]at r1 q3 q4;rw[hu,hg,Q]at hm;have ah:=zb hm;have o:=zb o;have HX:=zb (And.intro hu (And.intro hg (And.intro M (And.intro av Q))));have HN:=zb (And.intro hn U);unfold zB at ht q1 q2 q3;have aY:=wu ((t:Int)+u) (by omega);have aZ:IntKind.u64.wrap (win:Int)=(win:Int):=by rw[IntKind.wrap_u64];omega
   have a0:=wu ((u:Int)+win) (by omega);obtain⟨t2,aw⟩:=nm (min (t+u) zB);have aM:=zb aw;have X:t2<=4611686018427387903:=by rw[<-aw];exact Nat.min_le_right _ _
   have Y:=zb q3;clear hu hg M av Q hn U aw q3 hm;go_upto_region 6 with fail
   go_cut [5] (λtv J=>tv = .int .u64 t2/\J=wr)
   case first =>
    go_wp2_with (go_at_call 196;refine ku.mono ?_;rintro _ _ ⟨rfl,rfl⟩);all_goals
     go_meet;have aN:=aM.z;unfold zB at aN;exact⟨by congr 1;omega,rfl⟩
   case rest =>
   obtain⟨rfl,hw⟩:=hcut;have hw:=hw.symm;subst hw;go_upto_region 7 with fail
   go_cut [8] (λnv J=>nv = .int .u64 m/\J=wr.drew)
   case first =>
    refine zl 15 (λw'=>w'=wr.drew) (rfl) ?_;refine GI 0 ?_;iterate 5
     refine GV rfl ?_;try simp only[PS]
    refine GI 6 ?_;iterate 6
     refine GV rfl ?_;try simp only[PS]
    refine zw 5 rfl (λK hK=>?_);go_simp;refine aq.mono ?_;rintro _ _ ⟨rfl,rfl⟩;refine hK.z _ _ rfl ?_;clear hK K;try simp only[PS]
    refine GI 12 ?_;refine GV rfl ?_;try simp only[PS]
    refine Gn (i:=13) (v:=.int .u64 m) rfl (by kernel_rfl) (λ_ _ _ h=>h) (Or.inl ⟨by rfl,?_⟩) ?_
    ·intro J f;subst f;go_simp;have:=ah.z;split<;>omega
    try simp only[PS]
    refine GI 14 ?_;refine GV rfl ?_;try simp only[PS]
    refine zn ?_;go_wp2_with fail;go_meet;exact⟨rfl,rfl⟩
   case rest =>
   obtain⟨rfl,hw⟩:=hcut;subst hw;have ai:=zb (L.z.mod0 ((DW.refl DX wr).drew));have aO:m<=4611686018427387903\/hp=false:=by
    cases hp
    ·exact .inr rfl
    ·have:=ah.z;have:=Y.z rfl;exact .inl (by omega)
   obtain⟨Z,s⟩:=nm (d.add (Gu k m));have z:=zb s;have ax:=o.z;rw[s,aM.z]at ax;have F:=zb ax;have a9:wr.drew.cell? ⟨b,129+k*13+11,none⟩=some (.int .u64 g):=ar;have ba:wr.drew.cell? ⟨b,129+k*13+12,none⟩=some (.bool an):=au;clear s ax o ku kh aq r1 q1 q2 aY aZ a0 ar au;have D:g<m\/(¬g<m/\an=true)\/(¬g<m/\an=false):=by
    by_cases e:g<m
    ·exact .inl e
    ·cases an
     ·exact .inr (.inr ⟨e,rfl⟩)
     ·exact .inr (.inl ⟨e,rfl⟩)
   rcases D with hA|⟨hA,rfl⟩|⟨hA,rfl⟩;rotate_left;rotate_left
   ·have H:AA (ctlR c d (8-(k+1)) (k+1) t2=RR):=by
     show _=_;rw[HN.z.2,<-F.z];simp[hA]
    clear F;go_wp2_with fail;go_roundw
    case rel=>exact⟨k+1,t2,tag',V',bv',fv',l',by omega,rfl,by go_num,X,ai,H⟩
    case measure=>simp[intOf];omega
   all_goals
    cases hp
    ·have H:AA (ctlR c d (8-(k+1)) (k+1) t2=RR):=by
      show _=_;rw[HN.z.2,<-F.z];simp
     clear F;go_wp2_with (go_at_call 197;refine af.mono ?_;rintro _ W9 ⟨rfl,mh⟩);have S9:=zb (ai.z.mod0 mh);go_roundw
     case rel=>exact⟨k+1,t2,tag',V',bv',fv',l',by omega,rfl,by go_num,X,S9,H⟩
     case measure=>simp[intOf];omega
    ·have aa:m<=zB:=by
      rcases aO with e|e
      ·exact e
      ·cases e
     have aj:=zb aa;clear aO aa;cases Z with
     | none =>
      have H:AA (ctlR c d (8-(k+1)) (k+1) t2=RR):=by
       show _=_;rw[HN.z.2,<-F.z];simp
      clear F;go_wp2_with (first|(go_at_call 197;refine af.mono ?_;rintro _ W9 ⟨rfl,mh⟩;have S9:=zb (ai.z.mod0 mh);clear mh)|(go_at_call 142;refine(MK S9.z.d S9.z.ok S9.z.p (Gu k m) (O8 a aj.z) ad ae).mono ?_;intro e W1 hd;obtain⟨rfl,tag2,A,B,l2,q⟩:=S9.z.add hd;rw[z.z]at q;rw[z.z];have q:=zb q;clear hd));go_roundw
      case rel=>exact⟨k+1,t2,tag2,V',A,B,l2,by omega,rfl,by go_num,X,q,H⟩
      case measure=>simp[intOf];omega
     | some d1 =>
      have aP:AA (R=some ({ c with rs:=upd c.rs k { c.rs k with grant:=m,anew:=false } },d1)):=by
       show _=_;have e1:=F.z;rw[AN (by simp[hA])]at e1;rw[<-HR.z,CS.control,ap.z,<-e1]
      clear F;go_wp2_with (go_at_call 197;refine af.mono ?_;rintro _ W9 ⟨rfl,mh⟩;have S9:=zb (ai.z.mod0 mh);clear mh);refine(MK S9.z.d S9.z.ok S9.z.p (Gu k m) (O8 a aj.z) ad ae).mono ?_;intro e W1 hd;obtain⟨rfl,tag2,A,B,l2,q⟩:=S9.z.add hd;rw[z.z]at q;rw[z.z];clear hd;have w11:W1.cell? ⟨b,129+k*13+11,none⟩=some (.int .u64 ((c.rs k).grant:Int)):=by
       rw[AK k 13];exact q.c.r (j:=11) a rfl
      have w12:W1.cell? ⟨b,129+k*13+12,none⟩=some (.bool (c.rs k).anew):=by
       rw[AK k 13];exact q.c.r (j:=12) a rfl
      have wf:=λp=>q.c.fz p
      have q:=zb q;go_wp2_with fail;go_ret;rw[aP.z];have G:=q.z.granted a m;rw[AK 13 k]at G;exact G.post true
  ·have ay:k=8:=by omega
   subst ay;have ab:AA (RR=(none,t)):=zb HC.z.symm;have aQ:AA (R=JW c d t):=by
    show _=_;rw[<-HR.z,CS.control,ap.z,ab.z]
   clear HC;have aR:wr.cell? ⟨b,234,none⟩=some (.int .u64 c.grant):=L.z.c.tl (j:=1) rfl;have aS:wr.cell? ⟨b,235,none⟩=some (.bool c.anew):=L.z.c.tl (j:=2) rfl;have a1:=OK.z.grant;obtain⟨m,hm⟩:=nm (max t c.grant);have aa:m<=zB:=by omega
   have aj:=zb aa;have C:AA (R=if decide (c.grant<m)||c.anew then Qh c d m (d.add (Gd m))else Eg c d 8 0):=by
    show _=_;rw[aQ.z];unfold JW;rw[hm];cases d.add (Gd m)<;>rfl
   obtain⟨Z,s⟩:=nm (d.add (Gd m));have z:=zb s;rw[s]at C;obtain⟨g,hg⟩:=nm c.grant;obtain⟨an,M⟩:=nm c.anew;have HG:=zb hg;have aT:=zb M;rw[hg]at aR hm;rw[M]at aS;have ah:=zb hm;clear hg M hm s aa a1 aQ ab;go_upto_region 12 with fail
   go_cut [5] (λtv J=>tv = .int .u64 m/\J=wr)
   case first =>
    go_wp2_with fail;all_goals
     go_meet;have aN:=ah.z;exact⟨by congr 1;omega,rfl⟩
   case rest =>
   obtain⟨rfl,hw⟩:=hcut;have hw:=hw.symm;subst hw;go_upto_region 13 with fail
   go_cut [98] (λrv J=>∃(r:Bool) (d2:Dd) (tag2:Nat->Nat×Nat) (A B:Value) (l2:List (Db×Value)),rv = .bool r/\AA (zL tag i b db W c d2 tag2 V' A B l2 J)/\AA ((r=true/\R=some ({ c with grant:=m,anew:=false },d2))\/(r=false/\d2=d/\R=Eg c d 8 0)))
   case first =>
    have D:g<m\/(¬g<m/\an=true)\/(¬g<m/\an=false):=by
     by_cases e:g<m
     ·exact .inl e
     ·cases an
      ·exact .inr (.inr ⟨e,rfl⟩)
      ·exact .inr (.inl ⟨e,rfl⟩)
    rcases D with hA|⟨hA,rfl⟩|⟨hA,rfl⟩;rotate_left;rotate_left
    ·have H:AA (R=Eg c d 8 0):=by
      show _=_;rw[C.z,HG.z,aT.z];simp[hA]
     clear C;go_wp2_with fail;go_meet;exact⟨false,d,tag',bv',fv',l',rfl,L,zb (.inr ⟨rfl,rfl,H.z⟩)⟩
    all_goals
     have aU:AA (R=Qh c d m Z):=by
      show _=_;rw[C.z,AN (by rw[HG.z,aT.z];simp[hA])]
     clear C;go_wp2_with fail;refine(MK L.z.d L.z.ok L.z.p (Gd m) (RE aj.z) ad ae).mono ?_;intro e W1 hd;obtain⟨rfl,tag2,A,B,l2,q⟩:=L.z.add hd;rw[z.z]at q;rw[z.z];have q:=zb q;clear hd;cases Z with
     | none =>
      go_wp2_with fail;go_meet;exact⟨false,d,tag2,A,B,l2,rfl,q,zb (.inr ⟨rfl,rfl,aU.z⟩)⟩
     | some d1 =>
      go_wp2_with fail;go_meet;exact⟨true,d1,tag2,A,B,l2,rfl,q,zb (.inl ⟨rfl,aU.z⟩)⟩
   case rest =>
   obtain⟨r,d2,tag2,A,B,l2,rfl,q,HQ⟩:=hcut;have aV:wc.cell? ⟨b,234,none⟩=some (.int .u64 c.grant):=q.z.c.tl (j:=1) rfl;have aW:wc.cell? ⟨b,235,none⟩=some (.bool c.anew):=q.z.c.tl (j:=2) rfl;have wf:=λp=>q.z.c.fz p
   clear aR aS C;cases r
   ·have HN:AA (d2=d/\R=Eg c d 8 0):=by
     rcases HQ.z with⟨e,_⟩|⟨_,e1,e2⟩
     ·cases e
     ·exact⟨e1,e2⟩
    clear HQ aV aW wf;go_wp2_with fail;have a2:AA (zL tag i b db W c d tag2 V' A B l2 wc):=by
     have:=q.z;rw[HN.z.1]at this;exact this
    have a3:=zb HN.z.2.symm;clear HN q
    go_loopw [106] (λkv wy=>∃(k:Nat) (S:Nat->Nat×Nat) (ak al:Value) (l3:List (Db×Value)),k<=8/\kv = .int .i64 k/\AA (zL tag i b db W c d S V' ak al l3 wy)/\AA (Eg c d (8-k) k=R)) (λkv _=>8-(intOf kv).toNat)
    case atStart=>exact⟨0,tag2,A,B,l2,by omega,rfl,a2,a3⟩
    case round =>
     obtain⟨k,S,ak,al,l3,hk,rfl,SY,HC⟩:=hrel;by_cases a:k<8
     ·obtain⟨n,hn⟩:∃n,8-k=n+1:=⟨7-k,by omega⟩;have U:8-(k+1)=n:=by omega
      have o:=HC.z;rw[hn]at o;unfold Eg at o;obtain⟨z1,z2⟩:=OK.z.cut k a;have ao:=Q9 a z2 z1;obtain⟨x,hx⟩:=nm (c.ws k);have az:wr.cell? ⟨b,9+k*15+10,none⟩=some (.bool (c.ws k).cut):=by rw[AK k 15];exact SY.z.c.w (j:=10) a rfl
      have aA:wr.cell? ⟨b,9+k*15+13,none⟩=some (.bool (c.ws k).telling):=by rw[AK k 15];exact SY.z.c.w (j:=13) a rfl
      have aB:wr.cell? ⟨b,9+k*15+12,none⟩=some (.int .u64 ((c.ws k).final:Int)):=by rw[AK k 15];exact SY.z.c.w (j:=12) a rfl
      have aC:wr.cell? ⟨b,9+k*15+11,none⟩=some (.int .u64 ((c.ws k).keep:Int)):=by rw[AK k 15];exact SY.z.c.w (j:=11) a rfl
      have I:=λWd (md:DW DX wr Wd)=>MK (SY.z.mod0 md).d (SY.z.mod0 md).ok SY.z.p (Ht k (c.ws k).final (c.ws k).keep) ao ad ae
      have HX:=zb hx;rw[hx]at az aC aB aA I;rw[hx]at o;obtain⟨cu,aD⟩:=nm x.cut;obtain⟨te,aE⟩:=nm x.telling;obtain⟨fn,aF⟩:=nm x.final;obtain⟨kp,aG⟩:=nm x.keep;rw[aD]at az o;rw[aE]at aA o;rw[aF]at aB I o;rw[aG]at aC I o;have aX:=zb (And.intro aF aG);have ac:=zb I;obtain⟨Z,s⟩:=nm (d.add (Ht k fn kp));rw[s]at o;have z:=zb s;have ab:=zb (And.intro aD aE);have o:=zb o;have aH:=zb U;clear HC hn U z1 z2 ao hx I s aD aE aF aG;cases cu
      ·have H:AA (Eg c d (8-(k+1)) (k+1)=R):=by
        show _=_;rw[aH.z,<-o.z];rfl
       clear o;clear ac;go_wp2_with fail;go_quiet (fail);go_wp2_with fail;go_roundw
       case rel=>exact⟨k+1,S,ak,al,l3,by omega,by go_num,zb (SY.z.mod0 ((DW.refl DX wr).drewN _)),H⟩
       case measure=>simp[intOf];omega
      ·cases te
       ·have H:AA (VQ c d k (8-(k+1)) x Z=R):=by
         show _=_;rw[aH.z,<-o.z];cases Z<;>rfl
        clear o;go_upto_region 20 with fail
        go_cut [138] (λrv J=>∃(r:Bool) (d2:Dd) (y:Nat->Nat×Nat) (N O:Value) (l4:List (Db×Value)),rv = .bool r/\AA (zL tag i b db W c d2 y V' N O l4 J)/\AA ((r=true/\Z=some d2)\/(r=false/\d2=d/\Z=none)))
        case first =>
         clear H;refine zl 25 (λw'=>w'.cell? ⟨b,9+k*15+10,none⟩=some (.bool true)/\w'.cell? ⟨b,9+k*15+13,none⟩=some (.bool false)/\w'.cell? ⟨b,9+k*15+12,none⟩=some (.int .u64 fn)/\w'.cell? ⟨b,9+k*15+11,none⟩=some (.int .u64 kp)) (⟨az,aA,aB,aC⟩) ?_;refine GI 0 ?_;iterate 23
          refine GV rfl ?_;try simp only[PS]
         refine zw 23 rfl (λK hK=>?_);go_simp;refine(ac.z _ ((DW.refl DX wr).drew)).mono ?_;intro e W1 hd;obtain⟨rfl,y,N,O,l4,P⟩:=(SY.z.mod0 ((DW.refl DX wr).drew)).add hd;rw[z.z]at P;rw[z.z];clear hd;have W4:W1.cell? ⟨b,9+k*15+10,none⟩=some (.bool true)/\W1.cell? ⟨b,9+k*15+13,none⟩=some (.bool false)/\W1.cell? ⟨b,9+k*15+12,none⟩=some (.int .u64 fn)/\W1.cell? ⟨b,9+k*15+11,none⟩=some (.int .u64 kp):=by
          rw[<-ab.z.1,<-ab.z.2,<-aX.z.1,<-aX.z.2,<-HX.z,AK k 15];exact⟨P.c.w (j:=10) a rfl,P.c.w (j:=13) a rfl,P.c.w (j:=12) a rfl,P.c.w (j:=11) a rfl⟩
         have P:=zb P;refine hK.z _ _ W4 ?_;clear hK K;try simp only[PS]
         refine GI 24 ?_;refine GV rfl ?_;try simp only[PS]
         refine zn ?_;go_wp2_with fail;go_meet;cases Z with
         | none=>exact⟨false,d,y,N,O,l4,rfl,P,zb (.inr ⟨rfl,rfl,rfl⟩)⟩
         | some d1=>exact⟨true,d1,y,N,O,l4,rfl,P,zb (.inl ⟨rfl,rfl⟩)⟩
        case rest =>
        obtain⟨r,d2,y,N,O,l4,rfl,P,am⟩:=hcut;cases r
        ·have Y:AA (d2=d/\Z=none):=by
          rcases am.z with⟨e,_⟩|⟨_,e1,e2⟩
          ·cases e
          ·exact⟨e1,e2⟩
         have S5:AA (zL tag i b db W c d y V' N O l4 wc):=by
          rw[<-Y.z.1];exact P
         have aI:AA (Eg c d (8-(k+1)) (k+1)=R):=by
          have:=H.z;rw[Y.z.2]at this;exact this
         clear H am Y P;go_wp2_with fail;go_roundw
         case rel=>exact⟨k+1,y,N,O,l4,by omega,by go_num,S5,aI⟩
         case measure=>simp[intOf];omega
        ·have aI:AA (some ({ c with ws:=upd c.ws k { x with telling:=true } },d2)=R):=by
          have:=H.z;rcases am.z with⟨_,e⟩|⟨e,_⟩
          ·rw[e]at this;exact this
          ·cases e
         have wf:=λp=>P.z.c.fz p
         have u13:wc.cell? ⟨b,9+k*15+13,none⟩=some (.bool (c.ws k).telling):=by rw[AK k 15];exact P.z.c.w (j:=13) a rfl
         clear H am;go_wp2_with fail;go_ret;rw[<-aI.z];have G:=P.z.telling a;rw[HX.z,AK 15 k]at G;exact G.post true
       ·have H:AA (Eg c d (8-(k+1)) (k+1)=R):=by
         show _=_;rw[aH.z,<-o.z];rfl
        clear o ac;go_wp2_with fail;go_quiet (fail);go_wp2_with fail;go_roundw
        case rel=>exact⟨k+1,S,ak,al,l3,by omega,by go_num,zb (SY.z.mod0 ((DW.refl DX wr).drewN _)),H⟩
        case measure=>simp[intOf];omega
     ·have ay:k=8:=by omega
      subst ay;have a8:AA (R=none):=zb HC.z.symm;clear HC;go_wp2_with fail;go_ret;rw[a8.z];exact SY.z.post false
   ·have HN:AA (R=some ({ c with grant:=m,anew:=false },d2)):=by
     rcases HQ.z with⟨_,e⟩|⟨e,_⟩
     ·exact e
     ·cases e
    clear HQ;go_wp2_with fail;go_ret;rw[HN.z];exact(q.z.grantedAll m).post true
def zP(fn:Nat->Value)(l:List Nat):List Value:=l.flatMap fun(c:Nat)=>[Value.int .i64 c,fn c]
theorem fm(fn:Nat->Value)(l:List Nat){c:Nat}(h:l[i]?=some c):(zP fn l)[i*2]?=some (.int .i64 c)/\(zP fn l)[i*2+1]?=some (fn c):=by
 induction l generalizing i with
 | nil=>cases h
 | cons x l ih =>
  have e:zP fn (x::l) = .int .i64 x::fn x::zP fn l:=rfl;cases i with
  | zero =>
   cases h;exact⟨rfl,rfl⟩
  | succ i =>
   have:=ih (i:=i) h;rw[e,show(i+1)*2=i*2+1+1 by omega];exact this
theorem QQ(fn:Nat->Value)(l:List Nat):(zP fn l).length=l.length*2:=by
 induction l with
 | nil=>rfl
 | cons x l ih =>
  have e:zP fn (x::l) = .int .i64 x::fn x::zP fn l:=rfl;rw[e,AQ,AQ,ih,AQ];omega
structure D3(sb:Nat)(fn:Nat->Value)(l:List Nat)(g cap:Nat)(W:World):Prop where
 obj:W.heap[sb]?=some (.cells #[.slice (some ⟨g,0,none⟩) l.length cap] 268 (0,0))
 own:W.ownsRow 0 266 2 (.slice (some ⟨g,0,none⟩) l.length cap) l.length (zP fn l)
 ne:g≠sb
 small:l.length<=1024
 fns:∀c,∃f a b,fn c = .func f a b
variable{cap g sb:Nat}{fn:Nat->Value}
def D3.at_{l:List Nat}(h:D3 sb fn l g cap W){c:Nat}(hi:l[i]?=some c):W.cell? ⟨g,i*2,none⟩=some (.int .i64 c)/\W.cell? ⟨g,i*2+1,none⟩=some (fn c):=by
 obtain⟨h1,h2⟩:=fm fn l hi;have a:=h.own.cells (g:=g) rfl _ _ h1;have b:=h.own.cells (g:=g) rfl _ _ h2;rw[zS,Au]at a b;exact⟨a,b⟩
variable{S:Nat->Prop}
def D3.mod{l:List Nat}(h:D3 sb fn l g cap W)(m:DW S W W')(h1:¬S sb)(h2:¬S g):D3 sb fn l g cap W' :=
 ⟨m.obj h1 h.obj,m.owns h.own (λq a x=>by
  have a:g=q:=by simpa [Value.ownBlock]using a
  rw[<-a]at x;exact h2 x),h.ne,h.small,h.fns⟩
def PO(a:Option Addr)(n cap:Nat)(w:World):Calls prog 150 #[.slice a n cap] w λe w'=>e = .returned (.int .i64 n)/\w=w':=by
 go_enter func150,ntmps150;go_wp2_with fail;go_ret;exact⟨rfl,rfl⟩
def MJ{l:List Nat}(h:D3 sb fn l g cap W){x y:Nat}(hi:l[i]?=some x)(hk:l[k]?=some y):Calls prog 245 #[.slice (some ⟨g,0,none⟩) l.length cap,.int .i64 i,.int .i64 k] W λe w'=>e = .returned (.bool (decide (x<y)))/\DW DX W w':=by
 obtain⟨a1,_⟩:=h.at_ hi;obtain⟨b1,_⟩:=h.at_ hk;have hil:(i:Int)<l.length:=by have:=(AM.1 hi).1;omega
 have hkl:(k:Int)<l.length:=by have:=(AM.1 hk).1;omega
 have hi0:(0:Int)<=i:=by omega
 have hk0:(0:Int)<=k:=by omega
 clear h hi hk;go_enter func245,ntmps245;go_wp2_with fail;go_quiet (fail);go_wp2_with fail;go_ret;exact⟨by simp,(DW.refl DX _).drewN _⟩
variable{e j sz:Nat}{w:World}{xs:List Value}
def Na{n:Nat}(h:w.ownsRow 0 e sz (.slice (some ⟨g,0,none⟩) n cap) n xs)(hj:j<xs.length)(u:Value):(w.setCell ⟨g,j,none⟩ u).ownsRow 0 e sz (.slice (some ⟨g,0,none⟩) n cap) n (xs.set j u):=by
 obtain⟨h0,h1⟩:=h;refine⟨by rw[Ba];exact h0,?_⟩;rcases h1 with⟨hx,_⟩|⟨g',a,cur,hv,hb,hg,hn,hm,hs,ht⟩
 ·cases hx
 ·cases hv;refine .inr ⟨g,cap,_,rfl,hb,zc hg,hn,hm,by simpa using hs,?_⟩;rw[Array.toList_setIfInBounds,DU,ht]
theorem T6(fn:Nat->Value)(l:List Nat)(i y:Nat):((zP fn l).set (i*2) (.int .i64 y)).set (i*2+1) (fn y)=zP fn (l.set i y):=by
 induction l generalizing i with
 | nil=>rfl
 | cons x l ih =>
  have e:∀x l,zP fn (x::l) = .int .i64 x::fn x::zP fn l:=λ_ _=>rfl
  cases i with
  | zero=>rfl
  | succ i =>
   rw[e,show(i+1)*2=i*2+1+1 by omega];simp only[CO];rw[e,ih i]
def FH(l:List Nat)(i k:Nat):List Nat:=(l.set i (l.getD k 0)).set k (l.getD i 0)
def No{l:List Nat}(h:D3 sb fn l g cap W){x y:Nat}(hi:l[i]?=some x)(hk:l[k]?=some y):Calls prog 248 #[.slice (some ⟨g,0,none⟩) l.length cap,.int .i64 i,.int .i64 k] W λe w'=>e = .returned (.tuple #[])/\D3 sb fn (FH l i k) g cap w'/\DW (λq=>q=g) W w':=by
 have a:=zb h;obtain⟨a1,a2⟩:=h.at_ hi;obtain⟨b1,z⟩:=h.at_ hk;have hil:(i:Int)<l.length:=by have:=(AM.1 hi).1;omega
 have f:(k:Int)<l.length:=by have:=(AM.1 hk).1;omega
 have hi0:(0:Int)<=i:=by omega
 have n:(0:Int)<=k:=by omega
 have hfz:∀j,W.frozen? ⟨g,j,none⟩=false:=λj=>by
  rcases h.own.2 with⟨hx,_⟩|⟨g',A,cur,hv,_,hg,_⟩
  ·cases hx
  ·cases hv;exact zf hg
 obtain⟨f1,v1,u1,o⟩:=h.fns x;obtain⟨f2,v2,u2,r⟩:=h.fns y;rw[o]at a2;rw[r]at z;have s:=zb o;have d:=zb r;have B:=hi;have C:=hk;have t:=zb B;have u:=zb C;clear h hi hk B C o r;have fin:∀W',W'=(((W.setCell ⟨g,i*2,none⟩ (.int .i64 y)).setCell ⟨g,i*2+1,none⟩ (fn y)).setCell ⟨g,k*2,none⟩ (.int .i64 x)).setCell ⟨g,k*2+1,none⟩ (fn x)->D3 sb fn (FH l i k) g cap W'/\DW (λq=>q=g) W W':=by
  rintro W' rfl;have hl:(FH l i k).length=l.length:=by simp[FH]
  have m:DW (λq=>q=g) W ((((W.setCell ⟨g,i*2,none⟩ (.int .i64 y)).setCell ⟨g,i*2+1,none⟩ (fn y)).setCell ⟨g,k*2,none⟩ (.int .i64 x)).setCell ⟨g,k*2+1,none⟩ (fn x)) :=
   ((((DW.refl (λq=>q=g) W).setCell (p:=⟨g,i*2,none⟩) (.inl rfl) _).setCell (p:=⟨g,i*2+1,none⟩) (.inl rfl) _).setCell (p:=⟨g,k*2,none⟩) (.inl rfl) _).setCell (p:=⟨g,k*2+1,none⟩) (.inl rfl) _
  have D:=(AM.1 t.z).1;have E:=(AM.1 u.z).1;have sl:=QQ fn l;have o1:=Na a.z.own (j:=i*2) (by omega) (.int .i64 y);have G:=Na o1 (j:=i*2+1) (by rw[Ba];omega) (fn y);rw[T6]at G;have v:=QQ fn (l.set i y);rw[Ba]at v;have o3:=Na G (j:=k*2) (by omega) (.int .i64 x);have H:=Na o3 (j:=k*2+1) (by rw[Ba];omega) (fn x);rw[T6]at H;have e:FH l i k=(l.set i y).set k x:=by
   simp[FH,Ai,t.z,u.z]
  refine⟨⟨?_,?_,a.z.ne,by rw[hl];exact a.z.small,a.z.fns⟩,m⟩
  ·rw[hl];exact m.obj (λx=>a.z.ne x.symm) a.z.obj
  ·rw[hl,e];exact H
 have b:=zb fin;clear fin;by_cases c:i=k
 ·subst c;have w:x=y:=by
   have:=t.z;rw[u.z]at this;exact(Bk this).symm
  subst w;rw[s.z]at d;have HEY:=d;clear b1 z f n d;go_enter func248,ntmps248;go_wp2_with fail
  go_region
  go_wp2_with fail;refine bodyPost_end (results_none rfl _ _ _) rfl ⟨rfl,?_⟩;have F:=b.z _ rfl;rw[s.z]at F;exact⟨F.1.mod ((DW.refl DX _).drew) (λx=>x) (λx=>x),F.2.drew⟩
 ·have n1:¬i*2=k*2:=by omega
  have n2:¬k*2=i*2:=by omega
  have n3:¬i*2+1=k*2:=by omega
  have n4:¬k*2=i*2+1:=by omega
  have n5:¬k*2+1=i*2:=by omega
  have n6:¬i*2=k*2+1:=by omega
  clear c;go_enter func248,ntmps248;go_wp2_with fail
  go_region
  go_wp2_with fail;refine bodyPost_end (results_none rfl _ _ _) rfl ⟨rfl,?_⟩;have F:=b.z _ rfl;rw[s.z,d.z]at F;exact⟨F.1.mod ((DW.refl DX _).drew) (λx=>x) (λx=>x),F.2.drew⟩
def hI(sb:Nat):Value:=.iface 263 (.pointer (some ⟨sb,0,none⟩))
variable{v:Value}
def Li(c0:w.cell? ⟨sb,0,none⟩=some v)(f:FuncId):(do let v <-loadVar 268 ⟨sb,0,none⟩;pure (f,v):Sem (FuncId×Value)).run prog w = .ok (f,v) w:=by
 have e2:(isAgg 268).run prog w = .ok false w:=by kernel_rfl
 simp[loadVar,e2,c0,Result.andThen]
def Ls(c0:w.cell? ⟨sb,0,none⟩=some v):(method 451 263 (.pointer (some ⟨sb, 0, none⟩)) "Less").run prog w = .ok (245, v) w :=
 Eq.trans (show _=(do let v <-loadVar 268 ⟨sb,0,none⟩;pure (245,v):Sem (FuncId×Value)).run prog w by kernel_rfl) (Li c0 _)
def NL(c0:w.cell? ⟨sb,0,none⟩=some v):(method 451 263 (.pointer (some ⟨sb, 0, none⟩)) "Swap").run prog w = .ok (248, v) w :=
 Eq.trans (show _=(do let v <-loadVar 268 ⟨sb,0,none⟩;pure (248,v):Sem (FuncId×Value)).run prog w by kernel_rfl) (Li c0 _)
def JG(c0:w.cell? ⟨sb,0,none⟩=some v):(method 451 263 (.pointer (some ⟨sb, 0, none⟩)) "Len").run prog w = .ok (150, v) w :=
 Eq.trans (show _=(do let v <-loadVar 268 ⟨sb,0,none⟩;pure (150,v):Sem (FuncId×Value)).run prog w by kernel_rfl) (Li c0 _)
def Ka(a:Nat)(w:World):(method 451 263 (.pointer (some ⟨a, 0, none⟩)) "Push").run prog w = .ok (247, .pointer (some ⟨a, 0, none⟩)) w := by kernel_rfl
def Mo(a:Nat)(w:World):(method 451 263 (.pointer (some ⟨a, 0, none⟩)) "Pop").run prog w = .ok (246, .pointer (some ⟨a, 0, none⟩)) w := by kernel_rfl
def D3.c0{l:List Nat}(h:D3 sb fn l g cap W):W.cell? ⟨sb,0,none⟩=some (.slice (some ⟨g,0,none⟩) l.length cap):=za h.obj rfl
def fk:(prog.info? 266).map (λi=>(i.zero,i.size,i.bytes))=some (some (.agg #[.int .i64 0,.nilFunc]),2,16):=by kernel_rfl
def Dc{l:List Nat}(h:D3 sb fn l g cap w)(c:Nat)(hl:l.length<1024):∃v' w' g' cap',(∀ty,(Builtin.append_ #[268,268] ty #[.slice (some ⟨g,0,none⟩) l.length cap,.slice (some ⟨w.heap.size,0,none⟩) 1 1]).run prog (w.alloc (.cells #[.int .i64 c,fn c] 266)) = .ok v' w') /\
   v' = .slice (some ⟨g',0,none⟩) (l.length+1) cap'/\w'.ownsRow 0 266 2 v' (l.length+1) (zP fn (l++[c]))/\w.grownBy w' (some g)/\(g'=g\/w.heap.size<=g'):=by
 obtain⟨i,d,hz,e,f⟩:=info_parts fk;have sl:=QQ fn l;obtain⟨f1,a1,b1,ef⟩:=h.fns c;have e1:zP fn [c]=[.int .i64 c,fn c]:=rfl;have a:∀(j:Nat) u,(zP fn [c])[j]?=some u->(w.alloc (.cells #[.int .i64 c,fn c] 266)).cell? ((⟨w.heap.size,0,none⟩:Addr).add j)=some u:=by
  intro j u hj;rw[zS];refine za (heap_alloc_new w _) ?_;rw[Au,<-Array.getElem?_toList];exact hj
 have hg:g<w.heap.size:=by
  rcases h.own.2 with⟨n,_⟩|⟨g',cap',m,b,_,hg,_⟩
  ·cases n
  ·cases b;exact(AI.1 hg).1
 obtain⟨v',w',h1,h2,h3,h4,h5⟩:=Jw (P:=prog) (w.alloc (.cells #[.int .i64 c,fn c] 266)) 268 266 i _ 2 16 underlying268 d hz e f rfl (by decide) (.slice (some ⟨g,0,none⟩) l.length cap) l.length (zP fn l) (World.ownsRow.alloc h.own _)
  ⟨w.heap.size,0,none⟩ 1 1 (zP fn [c]) rfl a (by rw[e1,ef];intro u o;simp at o;rcases o with rfl|rfl<;>rfl) (by unfold maxLen;omega) (by omega)
 have e2:zP fn l++zP fn [c]=zP fn (l++[c]):=by simp[zP]
 rw[e2]at h2;rcases h2.2 with⟨n,hy⟩|⟨g',cap',m,b,hb,hg',p,hm,hs,ht⟩
 ·exact absurd hy (by omega)
 ·refine⟨v',w',g',cap',h1,b,h2,⟨h3.os,h3.tape,h3.output,AO (by simp) h3.size,λk hk p=>(h3.block k (by simp;omega) p).trans (Below.heap_alloc w _ k hk)⟩,?_⟩;rcases h4 g' (by rw[b];rfl)with x|x
  ·left;have:g=g':=by simpa [Value.ownBlock]using x
   exact this.symm
  ·right;simp at x;omega
def Oi(a:Nat)(fn:Nat->Value)(l:List Nat)(c g:Nat)(W:World)(e:Ending)(w':World):Prop :=
 e = .returned (.tuple #[])/\∃g' cap',D3 a fn (l++[c]) g' cap' w'/\(g'=g\/W.heap.size<=g')/\DW (λq=>q=a\/q=g) W w'
def YY{l:List Nat}(h:D3 sb fn l g cap W)(c:Nat)(hl:l.length<1024):Calls prog 247 #[.pointer (some ⟨sb,0,none⟩),.iface 266 (.agg #[.int .i64 c,fn c])] W (Oi sb fn l c g W):=by
 obtain⟨v',w',n,a,z,hv,f,r,b⟩:=Dc (h.mod ((DW.refl DX W).drew) (λx=>x) (λx=>x)) c hl;subst hv;have d:=((DW.refl (λq=>q=g) W).drew).grown r (λq k=>.inl (by simpa using k.symm));have s:=d.obj (λx=>h.ne x.symm) h.obj;have hsb:=(AI.1 h.obj).1;have m:n≠sb:=by
  rcases b with x|x
  ·rw[x];exact h.ne
  ·simp at x;omega
 have fin:Oi sb fn l c g W (.returned (.tuple #[])) (w'.setCell ⟨sb,0,none⟩ (.slice (some ⟨n,0,none⟩) (l.length+1) a)):=by
  have A:DW (λq=>q=sb) w' (w'.setCell ⟨sb,0,none⟩ (.slice (some ⟨n,0,none⟩) (l.length+1) a)):=(DW.refl (λq=>q=sb) _).setCell (p:=⟨sb,0,none⟩) (.inl rfl) _;refine⟨rfl,n,a,⟨?_,?_,m,by rw[AF,Aa];omega,h.fns⟩,by simpa using b,(d.mono (λ_ x=>.inl (.inr x))).then A (λ_ k=>.inl (.inl k))⟩
  ·rw[zc s,AF,Aa];rfl
  ·rw[AF,Aa];exact A.owns f (λq k x=>by
    have k:n=q:=by simpa [Value.ownBlock]using k
    exact m (k.trans x))
 have y:=zb fin;have HR:=zb z;have c0:=h.c0;have B:=zb h;have c1:w'.cell? ⟨sb,0,none⟩=some (.slice (some ⟨g,0,none⟩) l.length cap):=za s rfl;have t:=zb s;have f1:∀j,w'.frozen? ⟨sb,j,none⟩=false:=λj=>zf s
 obtain⟨fa,fb,fc,u⟩:=h.fns c;have EFN:=zb u;clear fin z d s h f r b m c1 u;have hta:∀(v:Value) (w:World),(Instr.typeAssert (.iface 266 v) 20 266 false).run prog w = .ok v w:=λ_ _=>by kernel_rfl
 go_enter func247,ntmps247;go_wp2_with fail;refine zl 9 (λw'=>w'.heap[sb]?=some (.cells #[.slice (some ⟨g,0,none⟩) l.length cap] 268 (0,0))) (B.z.obj) ?_;refine GI 0 ?_;iterate 6
  refine GS rfl ?_ ?_ ?_;rotate_left
  ·(intro wx e;(try dsimp only at e);have c0:=za (o:=0) e rfl;go_simp;try with_reducible rfl)
  try simp only[PS]
 refine zw 6 rfl (λK i=>?_);go_simp;refine i.z _ _ (((DW.refl DX W).drew.alloc _).obj (λx=>x) B.z.obj) ?_;clear i K;try simp only[PS]
 refine zw 7 rfl (λK i=>?_);refine zH rfl _ _ _ _ rfl _ _ _ rfl rfl HR.z ?_;refine i.z _ _ t.z ?_;clear i K;try simp only[PS]
 refine GI 8 ?_;refine GS rfl ?_ ?_ ?_;rotate_left
 ·(intro wx e;(try dsimp only at e);have c0:=za (o:=0) e rfl;go_simp;try with_reducible rfl)
 try simp only[PS]
 have c1:w'.cell? ⟨sb,0,none⟩=some (.slice (some ⟨g,0,none⟩) l.length cap):=za t.z rfl;refine zU rfl (λK i=>?_);go_simp;refine i.z _ _ ?_;clear i K;try simp only[PS]
 refine zn ?_;exact bodyPost_end (results_none rfl _ _ _) rfl y.z
variable{p:Nat}
def YX{l:List Nat}(h:D3 sb fn l g cap W){x y:Nat}(a:l[j]?=some y)(hp:(j-1) / 2=p)(c:l[p]?=some x)(hle:x<=y)(h1:1<=j):Calls prog 198 #[hI sb,.int .i64 j] W λe W'=>e = .returned (.tuple #[])/\DW DX W W':=by
 have hjl:=(AM.1 a).1;have hs:=h.small;have q1:IntKind.i64.wrap ((j:Int)-1)=(j:Int)-1:=IntWalk.i64_in _ (by omega);have q2:((j:Int)-1).tdiv 2=(p:Int):=by
  rw[Int.tdiv_eq_ediv_of_nonneg (by omega)];omega
 have hne:((p:Int)==(j:Int))=false:=AR.2 (by omega);have HH:=zb h;have HJ:=zb a;have HX:=zb c;clear h a c;unfold hI;go_enter func198,ntmps198;go_wp2_with fail
 go_loopw [1] (λjv wr=>jv = .int .i64 j/\DW DX W wr) (λ_ _=>0)
 case atStart=>exact⟨rfl,DW.refl _ _⟩
 case round =>
  obtain⟨rfl,m⟩:=hrel;have h:=HH.z.mod m (λx=>x) (λx=>x);have hm:=Ls h.c0;have b:=MJ h HJ.z HX.z;have d:decide (y<x)=false:=by simp;omega
  rw[d]at b;have KL:=zb b;have M:=zb m;clear h b d m;go_wp2_with (refine KL.z.mono ?_;rintro e w2 ⟨rfl,f⟩;have M2:=zb f;clear f);exact bodyPost_end (results_none rfl _ _ _) rfl ⟨rfl,M.z.trans M2.z⟩
def dm{l:List Nat}(h:D3 sb fn l g cap W)(c:Nat)(hl:l.length<1024)(h1:1<=l.length)(b:∀x∈l,x<=c):Calls prog 147 #[hI sb,.iface 266 (.agg #[.int .i64 c,fn c])] W (Oi sb fn l c g W):=by
 have hm:=Ka sb W;have n:=YY h c hl;have KP:=zb n;have d:=zb b;clear h n b;unfold hI;go_enter func147,ntmps147;go_upto_region 1 with(refine KP.z.mono ?_;rintro e w2 ⟨rfl,o,a,h2,hg,q⟩;have i:=zb h2;have HG:=zb hg;have M2:=zb q;clear h2 hg q);have k:=JG i.z.c0;have r:=PO (some ⟨o,0,none⟩) (l++[c]).length a w2;have m:(l++[c]).length=l.length+1:=by simp
 have HE1:=zb m;have f:(l.length-1) / 2<l.length:=by omega
 have s:=YX i.z (j:=l.length) (p:=(l.length-1) / 2) (x:=(l[(l.length-1) / 2]'f)) (y:=c) (by simp) rfl (by rw[Ag f,AJ f]) (d.z _ (DH f)) h1;have q1:IntKind.i64.wrap (((l.length+1:Nat):Int)-1)=(l.length:Int):=by rw[IntWalk.i64_in _ (by omega)];omega
 have t:=zb s;unfold hI at t;rw[m]at k r;clear s hm m d;go_wp2_with (first|(refine r.mono ?_;rintro _ _ ⟨rfl,rfl⟩;(try simp only[q1]))|(refine t.z.mono ?_;rintro e w3 ⟨rfl,u⟩));exact bodyPost_end (results_none rfl _ _ _) rfl ⟨rfl,o,a,i.z.mod u (λx=>x) (λx=>x),HG.z,M2.z.trans (u.mono (λ_ x=>x.elim))⟩
variable{m:Nat}
def YW{n:Nat}(h:w.ownsRow 0 e sz (.slice (some ⟨g,0,none⟩) n cap) n xs)(hm:m<=n):w.ownsRow 0 e sz (.slice (some ⟨g,0,none⟩) m cap) m (xs.take (m*sz)):=by
 obtain⟨h0,h1⟩:=h;have a:m*sz<=n*sz:=Bu _ hm;refine⟨by rw[AS];omega,?_⟩;rcases h1 with⟨hx,_⟩|⟨g',d,b,hv,hb,hg,hn,c,hs,ht⟩
 ·cases hx
 ·cases hv;exact .inr ⟨g,cap,b,rfl,hb,hg,by omega,c,hs,by rw[<-ht,BZ,BM a]⟩
theorem ig(fn:Nat->Value)(l:List Nat)(m:Nat):(zP fn l).take (m*2)=zP fn (l.take m):=by
 induction l generalizing m with
 | nil=>simp[zP]
 | cons x l ih =>
  have e:∀x l,zP fn (x::l) = .int .i64 x::fn x::zP fn l:=λ_ _=>rfl
  cases m with
  | zero=>simp[zP]
  | succ m =>
   rw[e,show(m+1)*2=m*2+1+1 by omega];simp only[Ca];rw[e,ih m]
def YV{l:List Nat}{c:Nat}(h:D3 sb fn (l++[c]) g cap W):Calls prog 246 #[.pointer (some ⟨sb,0,none⟩)] W λe w'=>e = .returned (.iface 266 (.agg #[.int .i64 c,fn c]))/\D3 sb fn l g cap w'/\DW (λq=>q=sb) W w':=by
 have b:(l++[c]).length=l.length+1:=by simp
 have c0:=h.c0;obtain⟨k1,k2⟩:=h.at_ (i:=l.length) (c:=c) (by simp);have hs:=h.small;rw[b]at c0 hs;have hsb:=(AI.1 h.obj).1;have hg:g<W.heap.size:=by
  rcases h.own.2 with⟨d,_⟩|⟨g',a,f,j,_,hg,_⟩
  ·cases d
  ·cases j;exact(AI.1 hg).1
 have s:l.length+1<=cap:=by
  rcases h.own.2 with⟨d,_⟩|⟨g',a,f,j,_,hg,t,_⟩
  ·cases d
  ·cases j;rw[b]at t;exact t
 obtain⟨f1,a1,b1,k⟩:=h.fns c;have fin:∀w':World,DW DX W w'->D3 sb fn l g cap (w'.setCell ⟨sb,0,none⟩ (.slice (some ⟨g,0,none⟩) l.length cap))/\DW (λq=>q=sb) W (w'.setCell ⟨sb,0,none⟩ (.slice (some ⟨g,0,none⟩) l.length cap)):=λw' m=>by
  have u:=h.mod m (λx=>x) (λx=>x);have v:DW (λq=>q=sb) w' (w'.setCell ⟨sb,0,none⟩ (.slice (some ⟨g,0,none⟩) l.length cap)):=(DW.refl (λq=>q=sb) _).setCell (p:=⟨sb,0,none⟩) (.inl rfl) _;refine⟨⟨by rw[zc u.obj];rfl,?_,h.ne,by omega,h.fns⟩,(m.mono (λ_ x=>x.elim)).trans v⟩;have o:=YW (m:=l.length) u.own (by rw[b];omega);rw[ig,BH]at o;exact v.owns o (λq n x=>by
   have n:g=q:=by simpa [Value.ownBlock]using n
   exact h.ne (n.trans x))
 have r:=zb fin;have HE:=zb k;rw[k]at k2 ⊢;have HO:=zb h.obj;have q1:IntKind.i64.wrap ((l.length+1:Int)-1)=(l.length:Int):=by rw[IntWalk.i64_in _ (by omega)];omega
 have hfz:W.frozen? ⟨sb,0,none⟩=false:=zf h.obj;clear h fin k b;go_enter func246,ntmps246;go_wp2_with fail;go_ret;have F:=r.z W (DW.refl _ _);exact⟨rfl,F.1.mod ((DW.refl DX _).alloc _) (λx=>x) (λx=>x),F.2.alloc _⟩
def GK:Nat->List Nat->Nat->Nat->List Nat
 | 0,l,_,_=>l
 | f+1,l,i,n =>
  if 2*i+1<n then
   if 2*i+2<n/\l.getD (2*i+2) 0<l.getD (2*i+1) 0 then
    if l.getD (2*i+2) 0<l.getD i 0 then GK f (FH l i (2*i+2)) (2*i+2) n else l
   else if l.getD (2*i+1) 0<l.getD i 0 then GK f (FH l i (2*i+1)) (2*i+1) n else l
  else l
def MF{l:List Nat}(h:i<l.length):l[i]?=some (l.getD i 0):=by
 rw[Ai,AJ h];rfl
def T5(l:List Nat)(i k:Nat):(FH l i k).length=l.length:=by simp[FH]
structure IV(sb:Nat)(fn:Nat->Value)(l0:List Nat)(n g cap:Nat)(W0:World)(i:Nat)(l:List Nat)(W:World):Prop where
 h:D3 sb fn l g cap W
 m:DW (λq=>q=g) W0 W
 len:l.length=l0.length
 f:∃f,n<=i+f/\GK f l i n=GK n l0 0 n
variable{W0:World}
theorem IV.leave{a:List Nat}{n:Nat}{l:List Nat}(h:IV sb fn a n g cap W0 i l W)(hn:¬2*i+1<n):GK n a 0 n=l:=by
 obtain⟨f,h1,h2⟩:=h.f;rw[<-h2];cases f with
 | zero=>rfl
 | succ f =>
  unfold GK;rw[AH hn]
theorem IV.stop{b:List Nat}{n:Nat}{l:List Nat}(h:IV sb fn b n g cap W0 i l W)(hn:2*i+1<n)(a:j=if 2*i+2<n/\l.getD (2*i+2) 0<l.getD (2*i+1) 0 then 2*i+2 else 2*i+1)(hl:¬l.getD j 0<l.getD i 0):GK n b 0 n=l:=by
 obtain⟨f,h1,h2⟩:=h.f;rw[<-h2];cases f with
 | zero=>rfl
 | succ f =>
  unfold GK;rw[AN hn];split at a
  ·rw[AN (by assumption),<-a,AH hl]
  ·rw[AH (by assumption),<-a,AH hl]
theorem IV.next{b:List Nat}{n:Nat}{l:List Nat}(h:IV sb fn b n g cap W0 i l W)(hn:2*i+1<n)(a:j=if 2*i+2<n/\l.getD (2*i+2) 0<l.getD (2*i+1) 0 then 2*i+2 else 2*i+1)(hl:l.getD j 0<l.getD i 0)
  (hh:D3 sb fn (FH l i j) g cap W') (hm:DW (λq=>q=g) W W'):IV sb fn b n g cap W0 j (FH l i j) W':=by
 obtain⟨f,h1,h2⟩:=h.f;refine⟨hh,h.m.trans hm,by rw[T5];exact h.len,?_⟩;cases f with
 | zero=>omega
 | succ f =>
  refine⟨f,by split at a<;>omega,?_⟩;rw[<-h2]
  conv=>rhs;unfold GK
  rw[AN hn];split at a
  ·rw[AN (by assumption),<-a,AN hl]
  ·rw[AH (by assumption),<-a,AN hl]
def YU{l:List Nat}(h:D3 sb fn l g cap W)(n:Nat)(hn:n<=l.length):Calls prog 200 #[hI sb,.int .i64 0,.int .i64 n] W λe W'=>(∃b,e = .returned (.bool b))/\D3 sb fn (GK n l 0 n) g cap W'/\DW (λq=>q=g) W W':=by
 have hs:=h.small;have HH:AA (IV sb fn l n g cap W 0 l W):=⟨h,DW.refl _ _,rfl,n,by omega,rfl⟩;obtain⟨R,Y⟩:=nm (GK n l 0 n);rw[Y];have X:=zb Y;clear h Y;unfold hI;go_enter func200,ntmps200;go_wp2_with fail
 go_loopw [7] (λZ wr=>∃(i:Nat) (j:List Nat),Z = .int .i64 i/\i<=n/\AA (IV sb fn l n g cap W i j wr)) (λZ _=>n-(intOf Z).toNat)
 case atStart=>exact⟨0,l,rfl,by omega,HH⟩
 case round =>
  obtain⟨i,j,rfl,hi,c⟩:=hrel;obtain⟨p,I⟩:∃p:Nat,2*i+1=p:=⟨_,rfl⟩;obtain⟨w,J⟩:∃w:Nat,2*i+2=w:=⟨_,rfl⟩;have q1:IntKind.i64.wrap (2*(i:Int))=2*(i:Int):=IntWalk.i64_in _ (by omega);have q2:IntKind.i64.wrap (2*(i:Int)+1)=(p:Int):=by rw[IntWalk.i64_in _ (by omega)];omega
  have q3:IntKind.i64.wrap ((p:Int)+1)=(w:Int):=by rw[IntWalk.i64_in _ (by omega)];omega
  have D:=c.z.len;by_cases h1:p<n
  ·have C:2*i+1<n:=by omega
   have s:=zb C;have gi:=MF (l:=j) (i:=i) (by omega);have g1:=MF (l:=j) (i:=p) (by omega);have N:=zb D;obtain⟨x,hx⟩:=nm (j.getD i 0);obtain⟨y1,K⟩:=nm (j.getD p 0);obtain⟨y2,O⟩:=nm (j.getD w 0);rw[hx]at gi;rw[K]at g1;have t:=zb I;have u:=zb J;have L:=zb hx;have r:=zb K;have v:=zb O;clear D;have hm:=Ls c.z.h.c0;have d1:¬(n:Int)<=p:=by omega
   have d2:¬(p:Int)<0:=by omega
   clear I J C hx K O;by_cases h2:w<n
   ·have g2:=MF (l:=j) (i:=w) (by have:=N.z;omega);rw[v.z]at g2;have M:=MJ c.z.h g2 g1;have d3:(w:Int)<n:=by omega
    by_cases h3:y2<y1
    ·rw[Aq h3]at M;have KL:=zb M;have H3:=zb h3;clear M h3;go_upto_region 8 with(go_at_call 245;refine KL.z.mono ?_;rintro e w2 ⟨rfl,P⟩;have y:=zb P;clear P);have z:=c.z.h.mod y.z (λx=>x) (λx=>x);have A:=Ls z.c0;have a:=MJ z g2 gi;have E:w=if 2*i+2<n/\j.getD (2*i+2) 0<j.getD (2*i+1) 0 then 2*i+2 else 2*i+1:=by
      rw[u.z,t.z,r.z];rw[v.z,AN ⟨h2,H3.z⟩]
     have F:=zb E;clear E z hm;by_cases h4:y2<x
     ·rw[Aq h4]at a;have d:=zb a;have B:=zb h4;clear a h4;go_upto_region 9 with(go_at_call 245;refine d.z.mono ?_;rintro e Q ⟨rfl,k⟩;have o:=zb (y.z.trans k);clear k);have f:=c.z.h.mod o.z (λx=>x) (λx=>x);have S:=NL f.c0;have G:=No f gi g2;have T:=zb G;clear G f A;go_wp2_with (go_at_call 248;refine T.z.mono ?_;rintro e w4 ⟨rfl,h4,H⟩;have U:=zb h4;have V:=zb H;clear h4 H);go_roundw
      case rel=>exact⟨w,FH j i w,rfl,by omega,zb (c.z.next s.z F.z (by rw[L.z,v.z];exact B.z) U.z ((o.z.mono (λ_ x=>x.elim)).trans V.z))⟩
      case measure =>
       have a1:=t.z;have a2:=u.z;simp[intOf];omega
     ·rw[Az h4]at a;have d:=zb a;have B:=zb h4;clear a h4;go_wp2_with (go_at_call 245;refine d.z.mono ?_;rintro e Q ⟨rfl,k⟩;have o:=zb (y.z.trans k);clear k);all_goals
       go_ret;have e:=c.z.stop s.z F.z (by rw[L.z,v.z];exact B.z);rw[X.z]at e;exact⟨⟨_,rfl⟩,by rw[e];exact c.z.h.mod o.z (λx=>x) (λx=>x),c.z.m.trans (o.z.mono (λ_ x=>x.elim))⟩
    ·rw[Az h3]at M;have KL:=zb M;have H3:=zb h3;clear M h3;go_upto_region 8 with(go_at_call 245;refine KL.z.mono ?_;rintro e w2 ⟨rfl,P⟩;have y:=zb P;clear P);have z:=c.z.h.mod y.z (λx=>x) (λx=>x);have A:=Ls z.c0;have a:=MJ z g1 gi;have E:p=if 2*i+2<n/\j.getD (2*i+2) 0<j.getD (2*i+1) 0 then 2*i+2 else 2*i+1:=by
      rw[u.z,t.z,r.z];rw[v.z,AH (λx=>H3.z x.2)]
     have F:=zb E;clear E z hm;by_cases h4:y1<x
     ·rw[Aq h4]at a;have d:=zb a;have B:=zb h4;clear a h4;go_upto_region 9 with(go_at_call 245;refine d.z.mono ?_;rintro e Q ⟨rfl,k⟩;have o:=zb (y.z.trans k);clear k);have f:=c.z.h.mod o.z (λx=>x) (λx=>x);have S:=NL f.c0;have G:=No f gi g1;have T:=zb G;clear G f A;go_wp2_with (go_at_call 248;refine T.z.mono ?_;rintro e w4 ⟨rfl,h4,H⟩;have U:=zb h4;have V:=zb H;clear h4 H);go_roundw
      case rel=>exact⟨p,FH j i p,rfl,by omega,zb (c.z.next s.z F.z (by rw[L.z,r.z];exact B.z) U.z ((o.z.mono (λ_ x=>x.elim)).trans V.z))⟩
      case measure =>
       have a1:=t.z;have a2:=u.z;simp[intOf];omega
     ·rw[Az h4]at a;have d:=zb a;have B:=zb h4;clear a h4;go_wp2_with (go_at_call 245;refine d.z.mono ?_;rintro e Q ⟨rfl,k⟩;have o:=zb (y.z.trans k);clear k);all_goals
       go_ret;have e:=c.z.stop s.z F.z (by rw[L.z,r.z];exact B.z);rw[X.z]at e;exact⟨⟨_,rfl⟩,by rw[e];exact c.z.h.mod o.z (λx=>x) (λx=>x),c.z.m.trans (o.z.mono (λ_ x=>x.elim))⟩
   ·have d3:¬(w:Int)<n:=by omega
    clear v;go_upto_region 8 with fail;have y:AA (DW DX wr wr):=zb (DW.refl _ _);have z:=c.z.h.mod y.z (λx=>x) (λx=>x);have A:=Ls z.c0;have a:=MJ z g1 gi;have E:p=if 2*i+2<n/\j.getD (2*i+2) 0<j.getD (2*i+1) 0 then 2*i+2 else 2*i+1:=by
     rw[u.z,t.z,r.z];rw[AH (λx=>h2 x.1)]
    have F:=zb E;clear E z hm;by_cases h4:y1<x
    ·rw[Aq h4]at a;have d:=zb a;have B:=zb h4;clear a h4;go_upto_region 9 with(go_at_call 245;refine d.z.mono ?_;rintro e Q ⟨rfl,k⟩;have o:=zb (y.z.trans k);clear k);have f:=c.z.h.mod o.z (λx=>x) (λx=>x);have S:=NL f.c0;have G:=No f gi g1;have T:=zb G;clear G f A;go_wp2_with (go_at_call 248;refine T.z.mono ?_;rintro e w4 ⟨rfl,h4,H⟩;have U:=zb h4;have V:=zb H;clear h4 H);go_roundw
     case rel=>exact⟨p,FH j i p,rfl,by omega,zb (c.z.next s.z F.z (by rw[L.z,r.z];exact B.z) U.z ((o.z.mono (λ_ x=>x.elim)).trans V.z))⟩
     case measure =>
      have a1:=t.z;have a2:=u.z;simp[intOf];omega
    ·rw[Az h4]at a;have d:=zb a;have B:=zb h4;clear a h4;go_wp2_with (go_at_call 245;refine d.z.mono ?_;rintro e Q ⟨rfl,k⟩;have o:=zb (y.z.trans k);clear k);all_goals
      go_ret;have e:=c.z.stop s.z F.z (by rw[L.z,r.z];exact B.z);rw[X.z]at e;exact⟨⟨_,rfl⟩,by rw[e];exact c.z.h.mod o.z (λx=>x) (λx=>x),c.z.m.trans (o.z.mono (λ_ x=>x.elim))⟩
  ·have d1:(n:Int)<=p:=by omega
   have C:¬2*i+1<n:=by omega
   have HF:D3 sb fn R g cap wr:=by
    rw[<-X.z,c.z.leave C];exact c.z.h
   have aa:=zb HF;clear I J HF;go_wp2_with fail;all_goals
    go_ret;exact⟨⟨_,rfl⟩,aa.z,c.z.m⟩
def YT{l o:List Nat}{c:Nat}(h:D3 sb fn l g cap W)(h1:1<=l.length)(f:GK (l.length-1) (FH l 0 (l.length-1)) 0 (l.length-1)=o++[c]):Calls prog 151 #[hI sb] W λe W'=>e = .returned (.iface 266 (.agg #[.int .i64 c,fn c]))/\D3 sb fn o g cap W'/\DW (λq=>q=sb\/q=g) W W':=by
 have hs:=h.small;obtain⟨n,j⟩:∃n,l.length=n+1:=⟨l.length-1,by omega⟩;have a:l.length-1=n:=by omega
 rw[a]at f;have p:=JG h.c0;have b:=NL h.c0;have k:=PO (some ⟨g,0,none⟩) l.length cap W;have d:=No h (MF (l:=l) (i:=0) (by omega)) (MF (l:=l) (i:=n) (by omega));have q1:IntKind.i64.wrap (((n+1:Nat):Int)-1)=(n:Int):=by rw[IntWalk.i64_in _ (by omega)];omega
 have q2:wrap64 (n:Int)=(n:Int):=IntWalk.wrap64_in _ (by omega);have r:(FH l 0 n).length=n+1:=by rw[T5,j]
 rw[j]at p b k d;rw[show((0:Nat):Int)=0 from rfl]at d;have KL:=zb k;have KS:=zb d;have HP:=zb f;have E1:=zb r;clear h k d f j a r;unfold hI;go_enter func151,ntmps151;go_upto_region 3 with(first|(go_at_call 150;refine KL.z.mono ?_;rintro e w2 ⟨rfl,rfl⟩)|(go_at_call 248;refine KS.z.mono ?_;rintro e w3 ⟨rfl,h3,s⟩;have H3:=zb h3;have M3:=zb s;clear h3 s));have m:=YU H3.z n (by rw[E1.z];omega);rw[HP.z]at m;have t:=zb m;unfold hI at t;clear m p b;go_upto_region 4 with(go_at_call 200;refine t.z.mono ?_;rintro e w4 ⟨⟨rb,rfl⟩,h4,u⟩;have H4:=zb h4;have M4:=zb u;clear h4 u);have hmp:=Mo sb w4;have v:=YV H4.z;have KP:=zb v;clear v;go_wp2_with (go_at_call 246;refine KP.z.mono ?_;rintro e w5 ⟨rfl,w,y⟩;have H5:=zb w;have M5:=zb y;clear w y);go_ret;exact⟨rfl,H5.z,((M3.z.trans M4.z).mono (λ_ x=>.inl (.inr x))).trans (M5.z.mono (λ_ x=>.inl (.inl x)))⟩
def Nn(n lo hi:Int)(w:World):Calls prog 123 #[.int .i64 n,.int .i64 lo,.int .i64 hi] w λe w'=>e = .returned (.bool (decide (lo<=n)&&decide (n<=hi)))/\w=w':=by
 by_cases h1:lo<=n
 ·by_cases h2:n<=hi
  ·have d1:decide (lo<=n)=true:=by simp[h1]
   have d2:decide (n<=hi)=true:=by simp[h2]
   go_enter func123,ntmps123;go_wp2_with fail;go_ret;exact⟨by simp[h1,h2],rfl⟩
  ·have d1:decide (lo<=n)=true:=by simp[h1]
   have d2:decide (n<=hi)=false:=by simp;omega
   go_enter func123,ntmps123;go_wp2_with fail;go_ret;exact⟨by simp[h1,h2],rfl⟩
 ·have d1:decide (lo<=n)=false:=by simp;omega
  go_enter func123,ntmps123;go_wp2_with fail;go_ret;exact⟨by simp[h1],rfl⟩
section
variable {P:Program} {ops:Array Oper} {Q:Exit->Act->World->Prop} {md:Region.Mode} {F:World->Prop} {k:Nat}
variable{L:Array Bool}{fuel:Nat}
def Kz{o e:Oper}{a:Act}(ho:ops[i]?=some o)(f:ops[j]?=some e)(m:Region.ready md ops L=[i,j])
  (h:∀K':Act->World->Prop,AE (∀a w,F w->GT P md ops Q k F fuel (L.setIfInBounds i true) a w->K' a w)->if Region.wanted o (yielded ops a.tmps)=true then Oper.wp P o a w K' Q else K' (a.put o.dst undef) w)
  (h':∀K':Act->World->Prop,AE (∀a w,F w->GT P md ops Q k F fuel (L.setIfInBounds j true) a w->K' a w)->if Region.wanted e (yielded ops a.tmps)=true then Oper.wp P e a w K' Q else K' (a.put e.dst undef) w) :
  GT P md ops Q k F (fuel+1) L a w:=λc _=>by
 refine⟨λh0=>(by rw[m]at h0;cases h0),λq b=>?_⟩;have hc:=c.set b;rw[m]at b;simp only[BP,Cp,or_false]at b;rcases b with b|b
 ·subst b;exact wpOp_step ho (λK' g=>h K' (λa w d l=>g a w ⟨.inr d,l hc (.inr d)⟩))
 ·subst b;exact wpOp_step f (λK' g=>h' K' (λa w d l=>g a w ⟨.inr d,l hc (.inr d)⟩))
end
def UU(W:World)(o:Obj):(W.alloc o).heap[W.heap.size]?=some o:=by
 show(W.heap.push o)[W.heap.size]?=some o;simp
structure Ly(W1:World)(g m:Nat)(W3:World):Prop where
 ne:g≠m
 g1:W1.heap.size<=g
 m1:W1.heap.size<=m
 sz:W3.heap.size=W1.heap.size+2
 set:W3.heap[g]?=some (.cells #[.slice none 0 0,.int .u64 0,.int .i64 8] 116 (0,0))
 map:W3.heap[m]?=some (.map #[] 0)
 mod:DW DX W1 W3
def QU(W1:World):Ly W1 W1.heap.size (W1.heap.size+1) ((W1.drew.alloc (.cells #[.slice none 0 0,.int .u64 0,.int .i64 (max 8 1)] 116)).alloc (.map #[] 0)):=by
 have e:(W1.drew.alloc (.cells #[.slice none 0 0,.int .u64 0,.int .i64 (max 8 1)] 116)).heap.size=W1.heap.size+1:=by simp
 refine⟨by omega,AG _,Bz _,by simp,?_,?_,((DW.refl DX W1).drew.alloc _).alloc _⟩
 ·exact((DW.refl DX _).alloc _).obj (λx=>x) (heap_alloc_new W1.drew _)
 ·rw[<-e];exact UU _ _
def QT(W1:World):Ly W1 (W1.heap.size+1) W1.heap.size ((W1.drew.alloc (.map #[] 0)).alloc (.cells #[.slice none 0 0,.int .u64 0,.int .i64 (max 8 1)] 116)):=by
 have e:(W1.drew.alloc (.map #[] 0)).heap.size=W1.heap.size+1:=by simp
 refine⟨by omega,Bz _,AG _,by simp,?_,?_,((DW.refl DX W1).drew.alloc _).alloc _⟩
 ·rw[<-e];exact heap_alloc_new _ _
 ·exact((DW.refl DX _).alloc _).obj (λx=>x) (UU W1.drew _)
def WS.zero:WS:=⟨[],⟨[],0,0⟩,⟨[],0,0⟩,0,false,false,false,0,0,false,0⟩
def RS.zero:RS:=⟨[],⟨[],0,0⟩,0,0,false,false,0,0,0,0,false⟩
def WS.new(window:Nat):WS:=⟨[],⟨[],0,2048⟩,⟨[],0,2048⟩,0,false,false,false,0,0,false,window⟩
def RS.new(window:Nat):RS:=⟨[],⟨[],0,4097⟩,0,0,false,false,0,0,0,window,false⟩
def CS.laid(mtu window total k:Nat):CS :=
 {mtu:=mtu,window:=window,total:=total,now:=0,closed:=0,said:=false,next:=0,got:=⟨[],0,8⟩,answer:=false,ws:=λj=>if j<k then WS.new window else WS.zero,rs:=λj=>if j<k then RS.new window else RS.zero,credit:=total,grant:=total,anew:=false,flight:=[],largest:=0,waits:=[],lastID:=0,anyID:=false,seen:=[],most:=0,came:=[] }
def CS.new(mtu window total:Nat):CS:={ CS.laid mtu window total 0 with ws:=λ_=>WS.new window,rs:=λ_=>RS.new window }
def CV.new(g m:Nat):CV:=⟨g,.slice none 0 0,λ_=>.slice none 0 0,λ_=>.slice none 0 0,λ_=>.slice none 0 0,λ_=>.slice none 0 0,λ_=>.slice none 0 0,.slice none 0 0,[],.slice none 0 0,m,.slice none 0 0⟩
def YP(mtu window total k g m:Nat)(hk:k<8):((((((zt (CS.laid mtu window total k) (CV.new g m)).set (9+15*k+14) (.int .u64 window)).set (9+15*k+3) (.int .i64 2048)).set (9+15*k+6) (.int .i64 2048)).set (129+13*k+11) (.int .u64 window)).set (129+13*k+3) (.int .i64 4097))=zt (CS.laid mtu window total (k+1)) (CV.new g m):=by
 have e1:=GY (CS.laid mtu window total k) { CS.laid mtu window total k with ws:=upd (CS.laid mtu window total k).ws k { WS.zero with credit:=window } } (CV.new g m) (CV.new g m) (k:=k) (j:=14) (.int .u64 window) hk (by decide) (λq _=>by
  by_cases a:q=k
  ·subst a;simp[upd,CS.laid];rfl
  ·simp[upd,CS.laid,a]) rfl rfl rfl
 rw[e1];have e2:=GY { CS.laid mtu window total k with ws:=upd (CS.laid mtu window total k).ws k { WS.zero with credit:=window } } { CS.laid mtu window total k with ws:=upd (CS.laid mtu window total k).ws k { WS.zero with credit:=window,sent:=⟨[],0,2048⟩ } } (CV.new g m) (CV.new g m) (k:=k) (j:=3) (.int .i64 2048) hk (by decide) (λq _=>by
  by_cases a:q=k
  ·subst a;simp[upd];rfl
  ·simp[upd,a]) rfl rfl rfl
 rw[e2];have e3:=GY { CS.laid mtu window total k with ws:=upd (CS.laid mtu window total k).ws k { WS.zero with credit:=window,sent:=⟨[],0,2048⟩ } } { CS.laid mtu window total k with ws:=upd (CS.laid mtu window total k).ws k (WS.new window) } (CV.new g m) (CV.new g m) (k:=k) (j:=6) (.int .i64 2048) hk (by decide) (λq _=>by
  by_cases a:q=k
  ·subst a;simp[upd];rfl
  ·simp[upd,a]) rfl rfl rfl
 rw[e3];have e4:=Jt { CS.laid mtu window total k with ws:=upd (CS.laid mtu window total k).ws k (WS.new window) } { CS.laid mtu window total k with ws:=upd (CS.laid mtu window total k).ws k (WS.new window),rs:=upd (CS.laid mtu window total k).rs k { RS.zero with grant:=window } } (CV.new g m) (CV.new g m) (k:=k) (j:=11) (.int .u64 window) hk (by decide) (λq _=>by
  by_cases a:q=k
  ·subst a;simp[upd,CS.laid];rfl
  ·simp[upd,CS.laid,a]) rfl rfl rfl
 rw[e4];have e5:=Jt { CS.laid mtu window total k with ws:=upd (CS.laid mtu window total k).ws k (WS.new window),rs:=upd (CS.laid mtu window total k).rs k { RS.zero with grant:=window } } (CS.laid mtu window total (k+1)) (CV.new g m) (CV.new g m) (k:=k) (j:=3) (.int .i64 4097) hk (by decide) (λq _=>by
  by_cases a:q=k
  ·subst a;simp[upd,CS.laid];rfl
  ·by_cases h2:q<k
   ·simp[upd,CS.laid,a,h2,show q<k+1 by omega]
   ·simp[upd,CS.laid,a,h2,show ¬q<k+1 by omega]) rfl (by
  unfold Gz
  congr 1
  funext q;by_cases a:q=k
  ·subst a;simp[upd,CS.laid]
  ·by_cases h2:q<k
   ·simp[upd,CS.laid,a,h2,show q<k+1 by omega]
   ·simp[upd,CS.laid,a,h2,show ¬q<k+1 by omega]) rfl
 rw[e5]
def da(mtu window total g m:Nat):zt (CS.laid mtu window total 8) (CV.new g m)=zt (CS.new mtu window total) (CV.new g m):=rfl
def YO(mtu window total g m:Nat):(((((((zeroCells127.setIfInBounds 0 (.int .i64 mtu)).setIfInBounds 1 (.int .i64 window)).setIfInBounds 2 (.int .i64 total)).setIfInBounds 7 (.pointer (some ⟨g,0,none⟩))).setIfInBounds 233 (.int .u64 total)).setIfInBounds 234 (.int .u64 total)).setIfInBounds 241 (.map (some m)))=(zt (CS.laid mtu window total 0) (CV.new g m)).toArray:=by rfl
def JP(tag:Nat->Nat×Nat)(i mtu window total:Nat)(w:World)(e:Ending)(W':World):Prop :=
 ∃b tag' V,e = .returned (.tuple #[.pointer (some ⟨b,0,none⟩),.nilIface])/\zg tag' i b (CS.new mtu window total) V W'/\Dj i tag tag' w W'/\DW DX w W'/\w.heap.size<=b
def KZ(tag:Nat->Nat×Nat)(i:Nat)(ht:Do tag w)(hi:0<i)(mtu window total:Nat)(W1 h n wr:World)(g m b:Nat)(m1:DW DX w W1)(hs1:W1.heap.size=w.heap.size+1)(c:Ly W1 g m h)(hb:h.heap.size=b)(k:DW DX h n)(l:DW (λq=>q=b) n wr)
  (o:wr.heap[b]?=some (.cells (zt (CS.laid mtu window total 8) (CV.new g m)).toArray 127 (0,0))) :
  JP tag i mtu window total w (.returned (.tuple #[.pointer (some ⟨b,0,none⟩),.nilIface])) wr:=by
 have hg:g<b:=by
  rw[<-hb];exact(AI.1 c.set).1
 have hmb:m<b:=by
  rw[<-hb];exact(AI.1 c.map).1
 have g1:=c.g1;have g2:=c.m1;have g3:=c.ne;have a:=l.obj (show ¬g=b by omega) (k.obj (λx=>x) c.set);have f:=l.obj (show ¬m=b by omega) (k.obj (λx=>x) c.map);have hbr:=(AI.1 o).1;have d:∀g,(Value.slice none 0 0).ownBlock=some g->False:=λg hg=>by simp[Value.ownBlock]at hg
 have nb:∀g,Value.blk (Value.slice none 0 0)=some g->False:=λg hg=>by simp[Value.blk]at hg
 have hT:∀q,q<w.heap.size->∀t:Nat×Nat,(if q<w.heap.size then tag q else t)=tag q:=λq e t=>AN e
 refine⟨b,λq=>if q<w.heap.size then tag q else if q=b then(i,1)else if q=g then(i,2)else if q=m then(i,7)else(0,0),CV.new g m,rfl,?_,⟨λq e=>hT q e _,λq e=>?_,λq e=>?_⟩,(m1.trans (c.mod.trans k)).then l (λq e=>.inr (by omega)),by omega⟩
 ·exact
   {obj:=by rw[o,da]
    tb:=by simp only[show ¬b<w.heap.size by omega,AH,As,A5]
    got:=⟨za a rfl,za a rfl,za a rfl,World.ownsRow_nil wr 0 _ 2,by simp[CS.new,CS.laid],λj=>zf a⟩
    tg:=by simp only[CV.new,show ¬g<w.heap.size by omega,show ¬g=b by omega,AH,As,A5]
    tgv:=λ_ hg=>(d _ hg).elim
    wb:=λ_ _=>OB.nil wr
    ws:=λ_ _=>World.ownsRow_nil wr 0 _ 2
    wc:=λ_ _=>World.ownsRow_nil wr 0 _ 2
    rb:=λ_ _=>OB.nil wr
    rc:=λ_ _=>World.ownsRow_nil wr 0 _ 2
    twb:=λ_ _ _ hg=>(d _ hg).elim
    tws:=λ_ _ _ hg=>(d _ hg).elim
    twc:=λ_ _ _ hg=>(d _ hg).elim
    trb:=λ_ _ _ hg=>(d _ hg).elim
    trc:=λ_ _ _ hg=>(d _ hg).elim
    ft:=World.ownsRow_nil wr 0 _ 3
    fl:=rfl
    fs:=λp hp=>by simp[CS.new,CS.laid]at hp
    tft:=λ_ hg=>(d _ hg).elim
    wt:=ED.nil wr _ _
    twt:=λ_ hg=>(nb _ hg).elim
    sn:=⟨.map [],⟨#[],0,f,⟨by simp,Go.MapKept.stamped_empty 0,by simp⟩,AG _,rfl⟩,rfl,λ_ _=>rfl⟩
    tsn:=by simp only[CV.new,show ¬m<w.heap.size by omega,show ¬m=b by omega,show ¬m=g by omega,AH,As,A5]
    cm:=World.ownsRow_nil wr 0 _ 2
    tcm:=λ_ hg=>(d _ hg).elim }
 ·simp only[show ¬q<w.heap.size by omega,AH,As];split
  ·exact .inl rfl
  ·split
   ·exact .inl rfl
   ·split
    ·exact .inl rfl
    ·exact .inr rfl
 ·simp only[show ¬q<w.heap.size by have:=m1.size;omega,show ¬q=b by omega,show ¬q=g by omega,show ¬q=m by omega,AH,As]
def KY(tag:Nat->Nat×Nat)(i:Nat)(mtu window total:Nat)(w:World)(Q:Do tag w)(hi:0<i)(h1:64<=mtu/\mtu<=400)(h2:16<=window/\window<=4096)(h3:16<=total/\total<=4096):Calls prog 68 #[.agg #[.int .i64 mtu,.int .i64 window,.int .i64 total]] w (JP tag i mtu window total w):=by
 have R:(decide ((64:Int)<=mtu)&&decide ((mtu:Int)<=400))=true:=by simp;omega
 have S:(decide ((16:Int)<=window)&&decide ((window:Int)<=4096))=true:=by simp;omega
 have T:(decide ((16:Int)<=total)&&decide ((total:Int)<=4096))=true:=by simp;omega
 obtain⟨W1,l⟩:=nm (w.alloc (.cells #[.int .i64 mtu,.int .i64 window,.int .i64 total] 45));have m1:=AB l
 have o1:=AD l
 have y:=AC l
 have U:AA (W1.drew.cell? ⟨w.heap.size,0,none⟩=some (.int .i64 mtu)/\W1.drew.cell? ⟨w.heap.size,1,none⟩=some (.int .i64 window)/\W1.drew.cell? ⟨w.heap.size,2,none⟩=some (.int .i64 total)):=⟨za o1 rfl,za o1 rfl,za o1 rfl⟩;have f:AA (∀X,DW DX W1 X->X.cell? ⟨w.heap.size,0,none⟩=some (.int .i64 mtu)/\X.cell? ⟨w.heap.size,1,none⟩=some (.int .i64 window)/\X.cell? ⟨w.heap.size,2,none⟩=some (.int .i64 total)):=zb (λX m=>⟨za (m.obj (λx=>x) o1) rfl,za (m.obj (λx=>x) o1) rfl,za (m.obj (λx=>x) o1) rfl⟩);have D:=zb l;have M1:=zb m1;have HO1:=zb o1;have z:=zb y;clear l m1 o1 y;go_enter func68,ntmps68;go_wp2_with (go_at_call 123;refine(Nn _ _ _ _).mono ?_;(first|rw[R]|rw[S]|rw[T]);rintro _ _ ⟨rfl,rfl⟩);rw[D.z];refine zl 12 (λw'=>w'.cell? ⟨w.heap.size,0,none⟩=some (.int .i64 mtu)/\w'.cell? ⟨w.heap.size,1,none⟩=some (.int .i64 window)/\w'.cell? ⟨w.heap.size,2,none⟩=some (.int .i64 total)) (U.z) ?_;refine GI 0 ?_;refine GV rfl ?_;try simp only[PS]
 refine GI 2 ?_;iterate 6
  refine GV rfl ?_;try simp only[PS]
 refine Kz (i:=1) (j:=8) rfl rfl (by kernel_rfl) (λK e=>?_) (λK e=>?_);go_simp;refine(UD 8 _ (by omega) (by omega)).mono ?_;rintro _ _ ⟨rfl,rfl⟩;refine e.z _ _ (f.z _ ((DW.refl DX W1).drew.alloc (.cells #[.slice none 0 0,.int .u64 0,.int .i64 (max 8 1)] 116))) ?_;clear e K;try simp only[PS]
 refine zw 8 rfl (λK e=>?_);go_simp;refine e.z _ _ (f.z _ (((DW.refl DX W1).drew.alloc (.cells #[.slice none 0 0,.int .u64 0,.int .i64 (max 8 1)] 116)).alloc (.map #[] 0))) ?_;clear e K;try simp only[PS]
 change GT _ _ _ _ _ _ _ _ _ ((W1.drew.alloc (.cells #[.slice none 0 0,.int .u64 0,.int .i64 (max 8 1)] 116)).alloc (.map #[] 0));obtain⟨n,d⟩:=nm ((W1.drew.alloc (.cells #[.slice none 0 0,.int .u64 0,.int .i64 (max 8 1)] 116)).alloc (.map #[] 0));rw[d];have h:Ly W1 (W1.heap.size) (W1.heap.size+1) n:=by rw[<-d];exact QU W1
 clear d;try simp only[World.size_drew,World.size_alloc]
 try simp only[World.size_drew,World.size_alloc]at h
 generalize W1.heap.size+1=m at h ⊢;generalize W1.heap.size=g at h ⊢;rotate_left;go_simp;refine e.z _ _ (f.z _ ((DW.refl DX W1).drew.alloc (.map #[] 0))) ?_;clear e K;try simp only[PS]
 change GT _ _ _ _ _ _ _ _ _ (W1.drew.alloc (.map #[] 0));refine zw 1 rfl (λK e=>?_);go_simp;refine(UD 8 _ (by omega) (by omega)).mono ?_;rintro _ _ ⟨rfl,rfl⟩;refine e.z _ _ (f.z _ (((DW.refl DX W1).drew.alloc (.map #[] 0)).alloc (.cells #[.slice none 0 0,.int .u64 0,.int .i64 (max 8 1)] 116))) ?_;clear e K;try simp only[PS]
 change GT _ _ _ _ _ _ _ _ _ ((W1.drew.alloc (.map #[] 0)).alloc (.cells #[.slice none 0 0,.int .u64 0,.int .i64 (max 8 1)] 116));obtain⟨n,d⟩:=nm ((W1.drew.alloc (.map #[] 0)).alloc (.cells #[.slice none 0 0,.int .u64 0,.int .i64 (max 8 1)] 116));rw[d];have h:Ly W1 (W1.heap.size+1) (W1.heap.size) n:=by rw[<-d];exact QT W1
 clear d;try simp only[World.size_drew,World.size_alloc]
 try simp only[World.size_drew,World.size_alloc]at h
 generalize W1.heap.size+1=g at h ⊢;generalize W1.heap.size=m at h ⊢;all_goals
  refine GI 9 ?_;refine GV rfl ?_;try simp only[PS]
  refine zw 10 rfl (λK e=>?_);go_simp;refine e.z _ _ (f.z _ (h.mod.alloc _)) ?_;clear e K;try simp only[PS]
  refine GI 11 ?_;refine GV rfl ?_;try simp only[PS]
  refine zn ?_;have A:IntKind.u64.wrap (total:Int)=(total:Int):=by rw[IntKind.wrap_u64];omega
  rw[A,YO];obtain⟨B,o⟩:=nm (n.alloc (.cells (zt (CS.laid mtu window total 0) (CV.new g m)).toArray 127));rw[o];have F:=AD o
  have G:=AB o
  have hb:=h.sz.symm;have H:w.heap.size<n.heap.size:=by have:=z.z;omega
  obtain⟨b,u⟩:=nm n.heap.size;rw[u]at F H hb ⊢;have O4:=zb F;have M4:=zb (h.mod.trans G);have I:=zb G;have J:=zb h;have HB:=zb hb;have L:=zb u;have hww:IntKind.u64.wrap (window:Int)=(window:Int):=by rw[IntKind.wrap_u64];omega
  clear F G hb o h U u A;go_wp2_with fail
  go_loopw [38] (λM wr=>∃k:Nat,k<=8/\M = .int .i64 k/\AA (wr.heap[b]?=some (.cells (zt (CS.laid mtu window total k) (CV.new g m)).toArray 127 (0,0)))/\DW (λq=>q=b) B wr) (λM _=>8-(intOf M).toNat)
  case atStart=>exact⟨0,by omega,rfl,O4,DW.refl _ _⟩
  case round =>
   obtain⟨k,hk,rfl,C,N⟩:=hrel;have V:=zb N;obtain⟨x0,x1,x2⟩:=f.z wr (M4.z.then N (λq hq=>.inr (by have:=HB.z;omega)));clear N;by_cases O:k<8
   ·have a:∀p,p<244->∃v,wr.cell? ⟨b,p,none⟩=some v:=λp hp=>by
     have hl:(zt (CS.laid mtu window total k) (CV.new g m)).length=244:=by
      simp only[zt,AF,Hg,Jy];rfl
     exact⟨_,za C.z (by rw[BS];exact AJ (by omega))⟩
    obtain⟨v1,c1⟩:=a (9+k*15+14) (by omega);obtain⟨v2,c2⟩:=a (9+k*15+3) (by omega);obtain⟨v3,c3⟩:=a (9+k*15+6) (by omega);obtain⟨v4,c4⟩:=a (129+k*13+11) (by omega);obtain⟨v5,c5⟩:=a (129+k*13+3) (by omega);have hfz:∀p,wr.frozen? ⟨b,p,none⟩=false:=λp=>zf C.z
    have hne:¬w.heap.size=b:=by omega
    have W:¬b=w.heap.size:=by omega
    clear a;clear R S T h1 h2 h3;go_wp2_with fail
    go_region
    go_wp2_with fail
    go_region
    go_wp2_with fail
    go_region
    go_wp2_with fail;go_roundw
    case rel =>
     refine⟨k+1,by omega,by go_num,?_,?_⟩
     ·show(((((wr.setCell ⟨b,9+k*15+14,none⟩ (.int .u64 window)).setCell ⟨b,9+k*15+3,none⟩ (.int .i64 2048)).setCell ⟨b,9+k*15+6,none⟩ (.int .i64 2048)).setCell ⟨b,129+k*13+11,none⟩ (.int .u64 window)).setCell ⟨b,129+k*13+3,none⟩ (.int .i64 4097)).heap[b]?=_;rw[zc (zc (zc (zc (zc C.z)))),<-YP mtu window total k g m O];simp only[Ap,AK 15 k,AK 13 k]
     ·exact(((((V.z.setCell (p:=⟨b,9+k*15+14,none⟩) (.inl rfl) _).setCell (p:=⟨b,9+k*15+3,none⟩) (.inl rfl) _).setCell (p:=⟨b,9+k*15+6,none⟩) (.inl rfl) _).setCell (p:=⟨b,129+k*13+11,none⟩) (.inl rfl) _).setCell (p:=⟨b,129+k*13+3,none⟩) (.inl rfl) _).drew.drew.drew
    case measure=>simp[intOf];omega
   ·have P:k=8:=by omega
    subst P;have HI:=zb (KZ tag i Q hi mtu window total W1 n B wr g m b M1.z z.z J.z L.z I.z V.z C.z);clear x0 x1 x2 Q;go_wp2_with fail;go_ret2;exact HI.z
def Ir(mtu window total:Int):Bool:=(decide (64<=mtu)&&decide (mtu<=400))&&(decide (16<=window)&&decide (window<=4096))&&(decide (16<=total)&&decide (total<=4096))
def VK(mtu window total:Int)(w:World)(h:Ir mtu window total=false):Calls prog 68 #[.agg #[.int .i64 mtu,.int .i64 window,.int .i64 total]] w λe w'=>e = .returned (.tuple #[.pointer none,.iface 57 (.int .i64 1)])/\DW DX w w':=by
 obtain⟨p1,c⟩:=nm ((decide (64<=mtu)&&decide (mtu<=400)));obtain⟨p2,d⟩:=nm ((decide (16<=window)&&decide (window<=4096)));obtain⟨p3,f⟩:=nm ((decide (16<=total)&&decide (total<=4096)));unfold Ir at h;rw[c,d,f]at h;obtain⟨W1,a⟩:=nm (w.alloc (.cells #[.int .i64 mtu,.int .i64 window,.int .i64 total] 45));have g:AA (DW DX w W1):=by rw[<-a];exact(DW.refl DX _).alloc _
 have b:=zb a;clear a;cases p1
 ·clear h;go_enter func68,ntmps68;go_wp2_with (go_at_call 123;refine(Nn _ _ _ _).mono ?_;(first|rw[c]|rw[d]|rw[f]);rintro _ _ ⟨rfl,rfl⟩);rw[b.z];go_ret2;exact⟨rfl,g.z⟩
 ·cases p2
  ·clear h;go_enter func68,ntmps68;go_wp2_with (go_at_call 123;refine(Nn _ _ _ _).mono ?_;(first|rw[c]|rw[d]|rw[f]);rintro _ _ ⟨rfl,rfl⟩);rw[b.z];go_ret2;exact⟨rfl,g.z⟩
  ·cases p3
   ·clear h;go_enter func68,ntmps68;go_wp2_with (go_at_call 123;refine(Nn _ _ _ _).mono ?_;(first|rw[c]|rw[d]|rw[f]);rintro _ _ ⟨rfl,rfl⟩);rw[b.z];go_ret2;exact⟨rfl,g.z⟩
   ·simp at h
def Dj.from0(ht:Do tag W)(m:DW DX W W0)(h:Dj i tag tag' W0 W'):Dj i tag tag' W W':=by
 refine⟨λg hg=>h.old g (Aw hg m.size),λg hg=>?_,h.z⟩;by_cases q:g<W0.heap.size
 ·exact .inr (by rw[h.old g q];exact ht g hg)
 ·exact h.new g (by omega)
def QY(tag:Nat->Nat×Nat)(i:Nat)(mtu window total:Int)(w:World)(e:Ending)(W':World):Prop :=
 (Ir mtu window total=false/\e = .returned (.tuple #[.pointer none,.int .i64 1])/\DW DX w W') \/
 ∃b tag' V,Ir mtu window total=true/\e = .returned (.tuple #[.pointer (some ⟨b,0,none⟩),.int .i64 0])/\zg tag' i b (CS.new mtu.toNat window.toNat total.toNat) V W'/\Dj i tag tag' w W'/\DW DX w W'/\w.heap.size<=b
def XD(tag:Nat->Nat×Nat)(i:Nat)(mtu window total:Int)(w:World)(E:Dx i tag w):Calls prog 36 #[.agg #[.int .i64 mtu,.int .i64 window,.int .i64 total]] w (QY tag i mtu window total w):=by
 cases hc:Ir mtu window total
 ·obtain⟨j,d⟩:=nm (w.alloc (.cells #[.int .i64 mtu,.int .i64 window,.int .i64 total] 45));have h:DW DX w j:=by rw[<-d];exact(DW.refl DX _).alloc _
  have k:=VK mtu window total j hc;have o:=zb E;have r:=zb hc;have f:=zb h;have g:=zb d;clear E hc h d;go_enter func36,ntmps36;go_wp2_with fail;rw[g.z];refine k.mono ?_;rintro _ W1 ⟨rfl,m1⟩;have kn:=Js 1 W1 ((o.z.mod0 f.z).mod0 m1).err;have M1:=zb (f.z.trans m1);clear m1 k;rw[Ie (by decide)]at kn;go_wp2_with fail;refine kn.mono ?_;rintro _ W2 ⟨rfl,l⟩;have m:=zb (M1.z.trans l);clear l;go_wp2_with fail;go_ret2;exact .inl ⟨r.z,rfl,m.z⟩
 ·have s:=hc;unfold Ir at s;simp at s;obtain⟨a,rfl⟩:∃a:Nat,mtu=(a:Int):=⟨mtu.toNat,by omega⟩;obtain⟨b,rfl⟩:∃b:Nat,window=(b:Int):=⟨window.toNat,by omega⟩;obtain⟨c,rfl⟩:∃c:Nat,total=(c:Int):=⟨total.toNat,by omega⟩;obtain⟨j,d⟩:=nm (w.alloc (.cells #[.int .i64 a,.int .i64 b,.int .i64 c] 45));have h:DW DX w j:=by rw[<-d];exact(DW.refl DX _).alloc _
  have k:=KY tag i a b c j (E.ok.mod h) E.pos (by omega) (by omega) (by omega);have o:=zb E;have r:=zb hc;have f:=zb h;have g:=zb d;clear E hc s h d;go_enter func36,ntmps36;go_wp2_with fail;rw[g.z];refine k.mono ?_;rintro _ W1 ⟨bb,tag',V,rfl,p,e,n,q⟩;have kn:=Js 0 W1 ((o.z.mod0 f.z).mod0 n).err;have H:=zb (And.intro p (And.intro e (And.intro n q)));clear p e n q k;rw[dU]at kn;go_wp2_with fail;refine kn.mono ?_;rintro _ W2 ⟨rfl,l⟩;have m:=zb l;clear l;go_wp2_with fail;go_ret2;obtain⟨p,e,n,q⟩:=H.z;have e:=e.from0 o.z.ok f.z;exact .inr ⟨bb,tag',V,r.z,rfl,p.mod0 m.z,⟨e.old,e.new,e.z.mod m.z⟩,f.z.trans (n.trans m.z),AO f.z.size q⟩
end
end Go.Proofs.YtddfdpbaiedcjaaGreatDoor
