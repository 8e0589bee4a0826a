/- A part of Once's proof. Conditions: none. Part 15 of 15. -/
import Derived.Test.YtddfdpbaiedcjaaGreatDoorOnc14
import Derived.Deep.Slices
set_option maxRecDepth 100000
set_option maxHeartbeats 16000000
set_option linter.all false
namespace Go.Proofs.YtddfdpbaiedcjaaGreatDoor
section
open Go.RowKit Go.Proofs.Tryz
variable{M:NV}{T i nb:Nat}{W w:World}{n:NS}{s:Dm}{tag:Nat->Nat×Nat}
def iR(h:De w tag nb n M W)(hI:n.Inv T)(hT:T<=Dg)(hi:i<2)(hs:s.Ok):Calls prog 40 #[.pointer (some ⟨nb,0,none⟩),.int .i64 i,.agg s.cells] W (EL w tag nb W (n.datagram i s)):=by
 obtain⟨W1,J⟩:=nm (W.alloc (.cells s.cells 37));have h1:De w tag nb n M W1:=by rw[<-J];exact h.alloc _
 have m1:=AB J
 obtain⟨B,aL⟩:=nm W.heap.size;have sA:GW W1 B s:=GW.of (by rw[<-J,<-aL];exact heap_alloc_new W _);have Y:=h.env.ok B (by omega);have al:=hs.a;have L:=hs.b;have aw:=hs.s;obtain⟨c0,c1,c2,c3,c4⟩:=sA;obtain⟨Z,cx,b1,⟨b2,b3⟩,b4⟩:=h1.o.connIs (i:=i) hi;obtain⟨gx',cx',ax,_,_,ai⟩:=h1.o.x.form (by omega);obtain⟨gn,cn,hn0,n1,⟨n2,n3⟩,n4,n5,am⟩:=h1.o.nxAt hi;have D:=h1.o.obj.tag;have ay:tag Z=(3,1):=by
  have x:W1.cell? ⟨nb,0,none⟩=some M.x:=h1.o.obj.cell (j:=0) rfl;rw[b1,ax]at x;cases x;exact ai
 have p4:W1.cell? ⟨nb,4,none⟩=some (.int .u64 n.now):=h1.o.obj.cell (j:=4) rfl;have p5:W1.cell? ⟨nb,5,none⟩=some (.int .i64 n.mtu):=h1.o.obj.cell (j:=5) rfl;have aM:=hI.mtu;have aN:=hI.now;have aO:=hI.next i hi;have aa:=hI.gl i hi;have an:=hI.c i hi;have hTb:T<=268435455:=hT;obtain⟨mt,az⟩:=nm n.mtu;obtain⟨nw,aA⟩:=nm n.now;obtain⟨id,ao⟩:=nm (n.next i);obtain⟨u,ap⟩:=nm s.s;obtain⟨sa,ab⟩:=nm s.a;obtain⟨sc,ac⟩:=nm s.b;obtain⟨b0,ad⟩:=nm (M.b i);obtain⟨p,ep⟩:=nm (DZ s.a 9);obtain⟨r,er⟩:=nm (DZ s.b 3);have hp9:p<9:=by rw[<-ep];exact zQ _ _ (by omega)
 have hr3:r<3:=by rw[<-er];exact zQ _ _ (by omega)
 obtain⟨RR,k⟩:=nm (n.datagram i s);rw[k];unfold NS.datagram at k;rw[az]at aM p5 k;rw[aA]at aN p4 k;rw[ao]at aO n4 k;rw[ap]at c4 aw k;rw[ad]at b4;rw[ep,er]at k;have hsz:=zE u;have hi2:(i:Int)<2:=by omega
 have hi0:(0:Int)<=(i:Int):=by omega
 have aB:AA (∀Wx,Calls prog 24 #[.int .i64 sa,.int .i64 9] Wx (λe w'=>e = .returned (.int .i64 p)/\Wx=w')):=zb λWx=>by
  rw[<-ep,<-ab];exact Gk s.a 9 Wx al.1 al.2 (by omega) (by omega)
 have aC:AA (∀Wx,Calls prog 24 #[.int .i64 sc,.int .i64 3] Wx (λe w'=>e = .returned (.int .i64 r)/\Wx=w')):=zb λWx=>by
  rw[<-er,<-ac];exact Gk s.b 3 Wx L.1 L.2 (by omega) (by omega)
 have N:AA (∀(Wx:World) (dl:Nat),DW DX W1 Wx->Calls prog 72 #[.pointer (some ⟨b0,0,none⟩),.int .u64 id,.int .u64 dl,.string (zq u)] Wx (EA tag (i+1) b0 Wx (.int .i64 (((n.c i).datagram id dl u).1:Int)) ((n.c i).datagram id dl u).2)):=zb λWx dl m=>by
  rw[<-ad];exact iu ((h1.cn i hi).mod0 m) ((h1.env.to (j:=i+1) (by omega)).mod0 m) id dl u an.mtu.2 aw (by have:=an.waits.2;omega)
 have v:AA (∀g,(tag g).1=3->(tag g).1=i+1->False):=zb λg a b=>by omega
 have O:AA (∀g,tag g=(0,0)->(tag g).1=i+1->False):=zb λg a b=>by rw[a]at b;simp at b
 have HN:=zb h1;have aD:=zb m1;have P:=zb J;have a1:=zb D;have aE:=zb ad;have aP:=zb ao;rw[ab]at c2;rw[ac]at c3;unfold Dm.cells at P ⊢;rw[ap,ab,ac]at P ⊢;clear ao ad h h1 m1 J hs hI an ax ai az aA ap ab ac ep er al L hT;by_cases aj:mt<u.length+40
 ·have db:decide ((mt:Int)-40<(u.length:Int))=true:=Aq (by omega);rw[AN aj]at k;have aQ:=N;obtain⟨R,hR⟩:=nm ((n.c i).datagram id nw u);have A:AA (∀Wx,DW DX W1 Wx->Calls prog 72 #[.pointer (some ⟨b0,0,none⟩),.int .u64 id,.int .u64 nw,.string (zq u)] Wx (EA tag (i+1) b0 Wx (.int .i64 R.1) R.2)):=zb λWx m=>by
   rw[<-hR];exact N.z Wx nw m
  rw[hR]at k;obtain⟨G,c'⟩:=R;simp only at A k;subst k;have q6:((G:Int)==6)=(G==6):=F8 G 6;clear aQ N hR;go_enter func40,ntmps40;go_upto_region 1 with fail;rw[P.z];go_quiet (fail);go_upto_region 2 with fail;have NA:=zb (HN.z.free (((DW.refl DX W1).drewN nq).drew) (λ_ x=>x.elim));have KD:=zb (A.z _ (((DW.refl DX W1).drewN nq).drew));refine zl 22 (λw'=>w'.cell? ⟨nb,0,none⟩=some (.slice (some ⟨Z,0,none⟩) 2 cx)/\w'.cell? ⟨Z,i,none⟩=some (.pointer (some ⟨b0,0,none⟩))/\w'.cell? ⟨nb,3,none⟩=some (.slice (some ⟨gn,0,none⟩) 2 cn)/\w'.cell? ⟨gn,i,none⟩=some (.int .u64 id)/\w'.cell? ⟨nb,4,none⟩=some (.int .u64 nw)/\w'.cell? ⟨B,4,none⟩=some (.string (zq u))) (⟨b1,b4,n1,n4,p4,c4⟩) ?_;refine GI 0 ?_;iterate 20
   refine GV rfl ?_;try simp only[PS]
  refine zw 20 rfl (λK l=>?_);go_simp;refine(KD.z).mono ?_;rintro _ X ⟨rfl,hL⟩;rw[<-aE.z]at hL;obtain⟨d,V3,N3,t,C⟩:=NA.z.conn hi hL;have G0:=C.cell (a:=⟨nb,0,none⟩) (λx=>v.z nb (by rw[D]) x) b1;have G1:=C.cell (a:=⟨Z,i,none⟩) (λx=>v.z Z (by rw[ay]) x) b4;have G2:=C.cell (a:=⟨nb,3,none⟩) (λx=>v.z nb (by rw[D]) x) n1;have G3:=C.cell (a:=⟨gn,i,none⟩) (λx=>v.z gn (by rw[am]) x) n4;have G4:=C.cell (a:=⟨nb,4,none⟩) (λx=>v.z nb (by rw[D]) x) p4;have G5:=C.cell (a:=⟨B,4,none⟩) (λx=>O.z B Y x) c4;refine l.z _ _ ⟨G0,G1,G2,G3,G4,G5⟩ ?_;clear l K;try simp only[PS]
  refine GI 21 ?_;refine GV rfl ?_;try simp only[PS]
  refine zn ?_;have aq:AA (∀W',DW DX X W'->zs w tag nb W (n.setC i c') W'):=zb λW' m=>zs.from0 (aD.z.trans (((DW.refl DX W1).drewN nq).drew)) (zs.trans t (C.mono (λg hg=>.inl (λx=>by rw[x]at hg;simp at hg))) (zs.then0 N3.left m))
  clear N3 t C hL NA KD;go_wp2_with fail;go_ret;exact⟨by first|rfl|simp only[q6],aq.z _ (DW.refl _ _)⟩
 ·have db:decide ((mt:Int)-40<(u.length:Int))=false:=Az (by omega);rw[AH aj]at k;have aR:nw+p<=536870911:=by omega
  have x4:IntKind.u64.wrap (p:Int)=(p:Int):=by rw[IntKind.wrap_u64];omega
  have x6:(nw:Int)+(p:Int)=((nw+p:Nat):Int):=by omega
  obtain⟨dl,aF⟩:=nm (nw+p);rw[aF]at k aR x6;have x5:IntKind.u64.wrap (dl:Int)=(dl:Int):=by rw[IntKind.wrap_u64];omega
  obtain⟨R,hR⟩:=nm ((n.c i).datagram id dl u);have A:AA (∀Wx,DW DX W1 Wx->Calls prog 72 #[.pointer (some ⟨b0,0,none⟩),.int .u64 id,.int .u64 dl,.string (zq u)] Wx (EA tag (i+1) b0 Wx (.int .i64 R.1) R.2)):=zb λWx m=>by
   rw[<-hR];exact N.z Wx dl m
  rw[hR]at k;obtain⟨G,c'⟩:=R;simp only at A k;have q3:((G:Int)==3)=(G==3):=F8 G 3;have q0:((G:Int) != 0)=(G != 0):=PC G 0;have ae:=zb k;clear N hR aF k;go_enter func40,ntmps40;go_upto_region 1 with fail;rw[P.z];go_quiet (fail);go_upto_region 4 with fail;have aS:=zb (aB.z (W1.drewN nq).drew);refine zl 10 (λw'=>w'.cell? ⟨nb,4,none⟩=some (.int .u64 nw)/\w'.cell? ⟨B,2,none⟩=some (.int .i64 sa)) (⟨p4,c2⟩) ?_;refine GI 0 ?_;iterate 6
   refine GV rfl ?_;try simp only[PS]
  refine zw 6 rfl (λK l=>?_);go_simp;refine(aS.z).mono ?_;rintro _ _ ⟨rfl,rfl⟩;refine l.z _ _ ⟨p4,c2⟩ ?_;clear l K;try simp only[PS]
  refine GI 7 ?_;iterate 3
   refine GV rfl ?_;try simp only[PS]
  refine zn ?_;go_upto_region 5 with fail;have NA:=zb (HN.z.free ((((DW.refl DX W1).drewN nq).drew).drew) (λ_ x=>x.elim));have KD:=zb (A.z _ ((((DW.refl DX W1).drewN nq).drew).drew));refine zl 19 (λw'=>w'.cell? ⟨nb,0,none⟩=some (.slice (some ⟨Z,0,none⟩) 2 cx)/\w'.cell? ⟨Z,i,none⟩=some (.pointer (some ⟨b0,0,none⟩))/\w'.cell? ⟨nb,3,none⟩=some (.slice (some ⟨gn,0,none⟩) 2 cn)/\w'.cell? ⟨gn,i,none⟩=some (.int .u64 id)/\w'.cell? ⟨nb,4,none⟩=some (.int .u64 nw)/\w'.cell? ⟨B,4,none⟩=some (.string (zq u))) (⟨b1,b4,n1,n4,p4,c4⟩) ?_;refine GI 0 ?_;iterate 17
   refine GV rfl ?_;try simp only[PS]
  refine zw 17 rfl (λK l=>?_);go_simp;refine(KD.z).mono ?_;rintro _ X ⟨rfl,hL⟩;rw[<-aE.z]at hL;obtain⟨d,V3,N3,t,C⟩:=NA.z.conn hi hL;have G0:=C.cell (a:=⟨nb,0,none⟩) (λx=>v.z nb (by rw[D]) x) b1;have G1:=C.cell (a:=⟨Z,i,none⟩) (λx=>v.z Z (by rw[ay]) x) b4;have G2:=C.cell (a:=⟨nb,3,none⟩) (λx=>v.z nb (by rw[D]) x) n1;have G3:=C.cell (a:=⟨gn,i,none⟩) (λx=>v.z gn (by rw[am]) x) n4;have G4:=C.cell (a:=⟨nb,4,none⟩) (λx=>v.z nb (by rw[D]) x) p4;have G5:=C.cell (a:=⟨B,4,none⟩) (λx=>O.z B Y x) c4;refine l.z _ _ ⟨G0,G1,G2,G3,G4,G5⟩ ?_;clear l K;try simp only[PS]
  refine GI 18 ?_;refine GV rfl ?_;try simp only[PS]
  refine zn ?_;have af:AA (∀{n':NS} {W':World},zs w d nb X n' W'->zs w tag nb W n' W'):=zb λhh=>zs.from0 (aD.z.trans ((((DW.refl DX W1).drewN nq).drew).drew)) (zs.trans t (C.mono (λg hg=>.inl (λx=>by rw[x]at hg;simp at hg))) hh)
  obtain⟨M3,aG⟩:∃x:NV,({ M with V:=V3 }:NV)=x:=⟨_,rfl⟩;obtain⟨S,hS⟩:=nm (n.setC i c');rw[aG,hS]at N3;rw[hS]at ae;have H:S.g=n.g:=by rw[<-hS];rfl
  have aT:S.next i=id:=by rw[<-hS];exact aP.z
  have Q:d B=(0,0):=by
   have hl:=zk c4;rw[t B hl,Y]
  have aH:d gn=(3,4):=by
   have hl:=zk n4;rw[t gn hl,am]
  have d3:=C.cell (a:=⟨B,3,none⟩) (λx=>O.z B Y x) c3;have E:=zb N3;have HS:=zb hS;clear N3 t C hL NA KD b1 b4 n1 n4 p4 p5 c0 c1 c2 c3 c4 P A aG hS db;by_cases I:G=3
  ·have e3:(G==3)=true:=by rw[I];rfl
   have hr:=ae.z;rw[AN I]at hr;subst hr;obtain⟨gg,cg,ga,ca,y1,⟨y2,y3⟩,y4,⟨y5,y6⟩,-⟩:=E.z.o.gramAt hi;have U:(S.g i).length<=T:=by rw[H];exact aa
   have aU:=zb H;obtain⟨GL,F⟩:=nm ((S.g i).length);rw[F]at y4 y5 U;rw[aU.z]at F;have aV:=zb F;have q16:decide ((16:Int)<=(GL:Int))=decide (16<=GL):=DC.2 (by omega);clear H F aa I;go_wp2_with fail;go_ret;exact⟨by rw[aV.z];rfl,af.z (zs.then0 E.z.left (DW.refl _ _))⟩
  ·have e3:=AR.2 I;by_cases ah:G=0;rotate_left
   ·have e0:=CK.2 ah;have hr:=ae.z;rw[AH I,AN ah]at hr;subst hr;go_wp2_with fail;go_ret;exact⟨rfl,af.z (zs.then0 E.z.left (DW.refl _ _))⟩
   ·have e0:(G != 0)=false:=by simp[ah]
    have hr:=ae.z;rw[AH I,AH (by simp[ah])]at hr;subst hr;obtain⟨gg,cg,ga,ca,a7,aW,W7,u1,⟨u2,u3⟩,u4,aX,r7,z7,⟨u7,z8⟩,m7,H7⟩:=(E.z.free ((DW.refl DX X).drew) (λ_ x=>x.elim)).gramPushed hi ⟨id,dl,u,false⟩ (by rw[H];omega);have U:(S.g i).length<=T:=by rw[H];exact aa
    obtain⟨GL,F⟩:=nm ((S.g i).length);rw[F]at u4 r7 H7 U;have HA:AA (∀Wx,DW (λq=>d q=(3,9+i)) X Wx->Wx.cell? ⟨nb,2,none⟩=some (.slice (some ⟨gg,0,none⟩) 2 cg)/\Wx.cell? ⟨gg,i,none⟩=some (.slice ga GL ca)/\Wx.cell? ⟨nb,3,none⟩=some (.slice (some ⟨gn,0,none⟩) 2 cn)/\Wx.cell? ⟨gn,i,none⟩=some (.int .u64 id)/\Wx.cell? ⟨B,4,none⟩=some (.string (zq u))):=zb λWx m =>
     ⟨m.cell (a:=⟨nb,2,none⟩) (λx=>by have x:d nb=(3,9+i):=x;rw[E.z.o.obj.tag]at x;have x:=A0 Prod.snd x;simp only at x;omega) u1,
      m.cell (a:=⟨gg,i,none⟩) (λx=>by have x:d gg=(3,9+i):=x;rw[aX]at x;simp at x;omega) u4,
      m.cell (a:=⟨nb,3,none⟩) (λx=>by have x:d nb=(3,9+i):=x;rw[E.z.o.obj.tag]at x;have x:=A0 Prod.snd x;simp only at x;omega) G2,
      m.cell (a:=⟨gn,i,none⟩) (λx=>by have x:d gn=(3,9+i):=x;rw[aH]at x;simp at x;omega) G3,
      m.cell (a:=⟨B,4,none⟩) (λx=>by have x:d B=(3,9+i):=x;rw[Q]at x;simp at x) G5⟩
    have M7:=zb m7;have R7:=zb r7;have Z7:=zb z7;have Z8:=zb z8;have aI:=zb H7;unfold Jq at R7;have aY:=zb Q;clear m7 r7 z7 z8 H7 G0 G1 aH Q F H aa;go_upto_region 10 with fail;refine zl 27 (λw'=>w'.cell? ⟨nb,2,none⟩=some (.slice (some ⟨gg,0,none⟩) 2 cg)/\w'.cell? ⟨gg,i,none⟩=some (.slice ga GL ca)/\w'.cell? ⟨nb,3,none⟩=some (.slice (some ⟨gn,0,none⟩) 2 cn)/\w'.cell? ⟨gn,i,none⟩=some (.int .u64 id)/\w'.cell? ⟨B,4,none⟩=some (.string (zq u))) (HA.z _ ((DW.refl _ X).drew)) ?_;refine GI 0 ?_;iterate 23
     refine GV rfl ?_;try simp only[PS]
    refine zw 23 rfl (λK l=>?_);go_simp;refine l.z _ _ (HA.z _ (((DW.refl (λq=>d q=(3,9+i)) X).drew).alloc _)) ?_;clear l K;try simp only[PS]
    refine zw 24 rfl (λK l=>?_);go_simp;refine l.z _ _ (HA.z _ ((((DW.refl (λq=>d q=(3,9+i)) X).drew).alloc _).alloc _)) ?_;clear l K;try simp only[PS]
    refine zw 25 rfl (λK l=>?_);refine zH rfl _ _ _ _ rfl _ _ _ rfl rfl R7.z ?_;refine l.z _ _ (HA.z _ (((DW.refl (λq=>d q=(3,9+i)) X).drew).trans M7.z)) ?_;clear l K;try simp only[PS]
    refine GI 26 ?_;refine GV rfl ?_;try simp only[PS]
    refine zU rfl (λK l=>?_);have z7:=Z7.z;have z8:=Z8.z;go_simp;refine l.z _ _ ?_;clear l K;try simp only[PS]
    refine zn ?_;obtain⟨W8,ar⟩:=nm (W7.setCell ⟨gg,i,none⟩ (.slice a7 (GL+1) aW));obtain⟨aJ,M8,N8,ak,au⟩:=aI.z W8 (by rw[ar];exact DW.refl _ _);try rw[ar]
    obtain⟨y,aZ,e8,y1,⟨y2,y3⟩,y4,y5,y6⟩:=N8.o.nxAt hi;have y4:W8.cell? ⟨y,i,none⟩=some (.int .u64 id):=by
     have z:W8.cell? ⟨y,i,none⟩=some (.int .u64 (S.next i:Int)):=y4;rw[aT]at z;exact z
    have aK:=au.cell (a:=⟨B,3,none⟩) (λx=>x aY.z) d3;have N9:=(N8.free ((DW.refl DX W8).drew) (λ_ x=>x.elim)).nxS hi (id+1+r) e8;have av:((id+1+r:Nat):Int)=(id:Int)+1+(r:Int):=by omega
    rw[av]at N9;have x7:IntKind.u64.wrap (r:Int)=(r:Int):=by rw[IntKind.wrap_u64];omega
    have x8:=wu ((id:Int)+1) (by omega);have x9:=wu ((id:Int)+1+(r:Int)) (by omega);have m9:DW (λq=>q=y) W8 (W8.drew.setCell ⟨y,i,none⟩ (.int .u64 ((id:Int)+1+(r:Int)))):=((DW.refl (λq=>q=y) W8).drew).setCell (p:=⟨y,i,none⟩) (.inl rfl) _;have aq:AA (∀W',DW DX (W8.drew.setCell ⟨y,i,none⟩ (.int .u64 ((id:Int)+1+(r:Int)))) W'->zs w tag nb W { S with g:=upd n.g i (n.g i++[⟨id,dl,u,false⟩]),next:=upd n.next i (id+1+r) } W'):=by
     refine zb λW' m'=>af.z (zs.from0 ((DW.refl DX X).drew) (zs.trans ak au (zs.then0 ⟨aJ,M8,?_,λ_ _=>rfl,m9.mono (λg hg=>.inl (by rw[show g=y from hg,y6];simp))⟩ m')))
     have e:({ ({ S with g:=upd S.g i (S.g i++[⟨id,dl,u,false⟩]) }:NS)with next:=upd ({ S with g:=upd S.g i (S.g i++[⟨id,dl,u,false⟩]) }:NS).next i (id+1+r) }:NS)={ S with g:=upd n.g i (n.g i++[⟨id,dl,u,false⟩]),next:=upd n.next i (id+1+r) }:=by rw[<-HS.z];rfl
     rw[e]at N9;exact N9
    have a0:=zb (aC.z W8.drew);clear N8 ak au N9 m9 ar e8 aI R7 M7 Z7 Z8 HA u1 u4 E af;go_upto_region 11 with fail;refine zl 19 (λw'=>w'.cell? ⟨nb,3,none⟩=some (.slice (some ⟨y,0,none⟩) 2 aZ)/\w'.cell? ⟨y,i,none⟩=some (.int .u64 id)/\w'.cell? ⟨B,3,none⟩=some (.int .i64 sc)) (⟨y1,y4,aK⟩) ?_;refine GI 0 ?_;iterate 15
     refine GV rfl ?_;try simp only[PS]
    refine zw 15 rfl (λK l=>?_);go_simp;refine(a0.z).mono ?_;rintro _ _ ⟨rfl,rfl⟩;refine l.z _ _ ⟨y1,y4,aK⟩ ?_;clear l K;try simp only[PS]
    refine GI 16 ?_;iterate 3
     refine GV rfl ?_;try simp only[PS]
    refine zU rfl (λK l=>?_);go_simp;refine l.z _ _ ?_;clear l K;try simp only[PS]
    refine zn ?_;go_wp2_with fail;go_ret;exact⟨rfl,aq.z _ ⟨rfl,rfl,rfl,AG _,λ_ _ _=>rfl⟩⟩
def jF(h:De w tag nb n M W)(hI:n.Inv T)(t:T<=Dg)(l:s.Ok)(hk:s.kind=4):Calls prog 21 #[.pointer (some ⟨nb,0,none⟩),.agg s.cells] W (EL w tag nb W (n.datagram (DZ s.side 2) s)):=by
 obtain⟨W1,sb,i,k,gx,cx,d,hsb,h1,m1,sA,e,hi,hk8,f,o,g,p,b1,⟨b2,b3⟩,b4⟩:=I4 h l;have q:=l.s;rw[f];obtain⟨c0,c1,c2,c3,c4⟩:=sA;rw[hk]at c0;obtain⟨ss,a⟩:=nm s.s;rw[a]at c4 q;have c:=zb d;have b:AA (∀Wx,DW DX W1 Wx->Calls prog 40 #[.pointer (some ⟨nb,0,none⟩),.int .i64 i,.agg s.cells] Wx (EL w tag nb Wx (n.datagram i s))):=zb λWx m=>iR (h1.free m (λ_ x=>x.elim)) hI t hi l
 have r:=zb m1;obtain⟨RR,j⟩:=nm (n.datagram i s);rw[j]at b ⊢;unfold Dm.cells at c b ⊢;rw[hk,a]at c b ⊢;clear a h hI h1 m1 d l hk f o t j e;have kc:=b.z W1 (DW.refl _ _);go_enter func21,ntmps21;go_upto_region 1 with fail;rw[c.z];go_wp2_with (first|(go_at_call 24;refine g.mono ?_;rintro _ _ ⟨rfl,rfl⟩;clear g)|(go_at_call 24;refine p.mono ?_;rintro _ _ ⟨rfl,rfl⟩)|(go_at_call 40;refine kc.mono ?_;rintro _ W5 ⟨rfl,hL⟩));go_ret;exact⟨rfl,zs.from0 r.z hL⟩
def Po(h:De w tag nb n M W)(hI:n.Inv T)(e:T+401<=Dg)(hU:n.Up)(b:s.Ok):Calls prog 21 #[.pointer (some ⟨nb,0,none⟩),.agg s.cells] W (EL w tag nb W (n.step s)):=by
 have a:=AO (DF T 401) e;unfold NS.step;by_cases d:s.kind=1
 ·rw[AN d];exact Tb h hI a b d
 ·rw[AH d];by_cases k2:s.kind=2
  ·rw[AN k2];exact UF h hI a b k2
  ·rw[AH k2];by_cases k3:s.kind=3
   ·rw[AN k3];exact gW h hI a b k3
   ·rw[AH k3];by_cases k4:s.kind=4
    ·rw[AN k4];exact jF h hI a b k4
    ·rw[AH k4];by_cases k5:s.kind=5
     ·rw[AN k5];exact Ta h hI a b k5 (λtag' M' W' hn=>TX hn hI.tick e b)
     ·rw[AH k5];by_cases k6:s.kind=6
      ·rw[AN k6];exact gd h hI a hU b k6
      ·rw[AH k6];by_cases c:s.kind=10
       ·rw[AN c];exact fJ h hI a b c
       ·rw[AH c];exact gZ h hI (AO (Bz _) e) b ⟨d,k2,k3,k4,k5,k6,c⟩
def Kr(nb:Nat)(w:World):Nat:=match w.cell? ⟨nb,8,none⟩with|some (.slice _ n _)=>n|_=>0
def De.bagAt(h:De w tag nb n M W):∃a cap,W.cell? ⟨nb,8,none⟩=some (.slice a n.bag.length cap)/\n.bag.length<=cap/\cap<=9223372036854775807/\Kr nb W=n.bag.length:=by
 obtain⟨a,cap,e,q1,q2,_⟩:=zi h.o.bg.own;have b:W.cell? ⟨nb,8,none⟩=some M.bg:=h.o.obj.cell (j:=8) rfl;rw[e]at b;unfold maxLen at q2;exact⟨a,cap,b,q1,by omega,by unfold Kr;rw[b]⟩
structure jO(n1 n2 n3 nF:NS)(T:Nat):Prop where
 f0:n1.flush 0=(true,n2)
 f1:n2.flush 1=(true,n3)
 s1:n1.Safe
 s2:n2.Safe
 s3:n3.Safe
 i1:n1.Inv (T+401)
 i2:n2.Inv (T+402)
 i3:n3.Inv (T+403)
 bl:n3.bag.length<=2
 e:NS.comes n3.bag.length n3=nF
 oi:OI nF
def OI.rnd(J:OI n)(h:n.Safe)(hI:n.Inv T)(hT:T+2000<=33000000)(s:Dm)(hs:s.kind=4\/s.kind=5):∃n1 n2 n3 nF,n.step s=(true,n1)/\jO n1 n2 n3 nF T:=by
 have hm:T+2000<=Dg:=AO hT (by decide);obtain⟨a1,b⟩:=h.step hI (by omega) s;have a:=hI.step s (by omega);have aJ:=J.step h hI (by omega) s hs;obtain⟨b1,d⟩:=b.flush a (by omega) (show 0<2 by omega);have c:=a.flush (by omega) (show 0<2 by omega);obtain⟨c1,c2⟩:=d.flush c (by omega) (show 1<2 by omega);have cI:=c.flush (by omega) (show 1<2 by omega);obtain⟨r1,r2⟩:=Ua b a (by omega) aJ;exact⟨_,_,_,_,Prod.ext a1 rfl,Prod.ext b1 rfl,Prod.ext c1 rfl,b,d,c2,a,c,cI,r2,rfl,r1⟩
def OI.build(a b c:Int):OI (NS.build a b c):=by
 have h3:=zQ c 600 (by omega);exact OI.new (by omega)
theorem konce_any(l:List Dm)(v:Value)(a b c:Int)(ha : -9223372036854775808<=a/\a<=9223372036854775807)(hb : -9223372036854775808<=b/\b<=9223372036854775807)(hc : -9223372036854775808<=c/\c<=9223372036854775807)(w:World)(E:Dx 1 (λ_=>(0,0)) w)(h:Jf w v l)(ad:l.length<=1048576/\∀s∈l,s.s.length<=1048576):Calls prog 8 #[v,.int .i64 a,.int .i64 b,.int .i64 c] w (IS w true):=by
 have d:=cU l v w h ad;have O:=zb λW1 m=>cW W1 (E.mod0 m)
 by_cases P:l.length+LA l<=8192;rotate_left
 ·have ds:=Az P;rw[ds]at d;go_enter func8,ntmps8;go_upto_region 2 with(go_at_call 13;refine d.mono ?_;rintro _ W1 ⟨rfl,m1⟩);have kw:=O.z W1 m1;have M1:=zb m1;go_wp2_with (go_at_call 14;refine kw.mono ?_;rintro _ W2 ⟨rfl,m2⟩);go_ret;exact⟨rfl,M1.z.trans m2⟩
 have ds:=Aq P;rw[ds]at d;have ae:l.length<=8192:=by omega
 obtain⟨n',hp,-,-⟩:=gX [] l a b c ae (λs _ _ T n a b c=>a.step b c s);have Q:AA (∀W1,DW DX w W1->Calls prog 15 #[v,.slice none 0 0,.int .i64 a,.int .i64 b,.int .i64 c] W1 (Sz W1 (some n'))):=zb λW1 m=>by
  rw[<-hp];refine cR l v [] _ a b c ha hb hc W1 (E.mod0 m) (h.mod0 m) ⟨none,0,rfl,AG _,by unfold maxLen;omega,λi s hi=>by simp at hi⟩ (by decide) (B:=3284992) (by decide) (by omega) (λs F hw w tag nb n M W T G hI hT hU=>?_);obtain⟨_,_,_,_,_,q⟩:=h;obtain⟨i,hi⟩:=Cu F;exact Po G hI (AO hT (by decide)) hU (q i s hi).2
 have R:=zb λW1 m=>Pv a b c ha hb hc W1 (E.mod0 m)
 have h1:=zQ a 337 (by omega);have S:AA (OI (NS.build a b c)/\(NS.build a b c).Safe/\(NS.build a b c).Inv 0):=zb ⟨OI.build a b c,NS.Safe.new ⟨by omega,by omega⟩,NS.Inv.build a b c⟩;obtain⟨n0,af⟩:=nm (NS.build a b c);rw[af]at S R;obtain⟨va,cap,rfl,g1,g2,g3⟩:=id h;unfold maxLen at g2;obtain⟨L,hL⟩:=nm l.length;have ah:=zb hL;have aC:=zb h;rw[hL]at g1 ae d Q ⊢;clear hp h ad P ds E h1 af g3 hL;go_enter func8,ntmps8;go_upto_region 2 with(go_at_call 13;refine d.mono ?_;rintro _ W1 ⟨rfl,m1⟩);have kw:=O.z W1 m1;have M1:=zb m1;clear d O m1;go_upto_region 5 with(go_at_call 14;refine kw.mono ?_;rintro _ W2 ⟨rfl,m2⟩);have M2:=zb (M1.z.trans m2);clear kw m2 M1;have kp:=Q.z W2 M2.z;clear Q;go_upto_region 8 with(go_at_call 15;refine kp.mono ?_;rintro _ W3 ⟨nb3,aH,M3,rfl,aj⟩);have M3:=zb (M2.z.trans aj.mod);clear kp aj M2;have kb:=R.z W3 M3.z;clear R;go_upto_region 9 with(go_at_call 20;refine kb.mono ?_;rintro _ W4 ⟨nb,tag,M,rfl,h2⟩);have ak:=zb (h2.base M3.z);clear kb h2 M3;go_wp2_with fail
 go_loopw [12] (λkv wr=>∃(k:Nat) (n:NS),k<=L/\kv = .int .i64 k/\AA ((∃tag M,De w tag nb n M wr)/\OI n/\n.Safe/\n.Inv (1300*k))) (λkv _=>L-(intOf kv).toNat)
 case atStart=>exact⟨0,n0,AL _,rfl,zb ⟨⟨tag,M,ak.z⟩,S.z⟩⟩
 case round =>
  obtain⟨k,n,hk,rfl,I⟩:=hrel;clear ak S;have x2:=wi ((k:Int)+1) (by omega);by_cases U:k<L
  ·obtain⟨⟨tag,M,G⟩,hJ,u,f⟩:=I.z;obtain⟨s,F⟩:∃s,l[k]?=some s:=⟨l[k]'(by rw[ah.z];exact U),AJ _⟩;obtain⟨a',c',al,_,_,t3⟩:=aC.z.mod0 G.mod;rw[ah.z]at al;cases al;obtain⟨⟨g,o,rfl,r⟩,V⟩:=t3 k s F;have c0:wr.cell? ⟨g,o+k*5,none⟩=some (.int .i64 s.kind):=r 0 _ rfl;have c1:wr.cell? ⟨g,o+k*5+1,none⟩=some (.int .i64 s.side):=r 1 _ rfl;have c2:wr.cell? ⟨g,o+k*5+2,none⟩=some (.int .i64 s.a):=r 2 _ rfl;have c3:wr.cell? ⟨g,o+k*5+3,none⟩=some (.int .i64 s.b):=r 3 _ rfl;have c4:wr.cell? ⟨g,o+k*5+4,none⟩=some (.string (zq s.s)):=r 4 _ rfl;have d1:decide ((k:Int)<(L:Int))=true:=Aq (by omega);by_cases y:s.kind=4\/s.kind=5;rotate_left
   ·have q4:=CK.2 (λe=>y (.inl e));have q5:=CK.2 (λe=>y (.inr e));obtain⟨kd,am⟩:=nm s.kind;rw[am]at c0 q4 q5;clear t3 r G hJ u f y am V F c1 c2 c3 c4;go_wp2_with fail;go_roundw
    case rel=>exact⟨k+1,n,U,by congr 1,zb ⟨I.z.1,I.z.2.1,I.z.2.2.1,I.z.2.2.2.mono (by omega)⟩⟩
    case measure=>simp[intOf];omega
   ·have an:1300*k+2000<=33000000:=by omega
    have hkm:1300*k+2000<=Dg:=AO an (by decide);obtain⟨n1,n2,n3,nF,t,J⟩:=hJ.rnd u f an s y;have d:=Po G f (by omega) u.up V;rw[t]at d;have K:=zb J;have ao:AA (∀tag M W,De w tag nb n1 M W->Calls prog 22 #[.pointer (some ⟨nb,0,none⟩),.int .i64 0] W (EL w tag nb W (true,n2))):=zb λtag M W h=>by
     rw[<-J.f0];exact OG h J.i1 (by omega) J.s1.up (i:=0) (by omega)
    have ap:AA (∀tag M W,De w tag nb n2 M W->Calls prog 22 #[.pointer (some ⟨nb,0,none⟩),.int .i64 1] W (EL w tag nb W (true,n3))):=zb λtag M W h=>by
     rw[<-J.f1];exact OG h J.i2 (by omega) J.s2.up (i:=1) (by omega)
    unfold Dm.cells at d;clear t3 r G hJ u f V F t J I;obtain⟨ki,e0⟩:=nm s.kind;obtain⟨si,e1⟩:=nm s.side;obtain⟨ai,e2⟩:=nm s.a;obtain⟨bi,e3⟩:=nm s.b;obtain⟨ssi,e4⟩:=nm s.s;rw[e0]at c0 d y;rw[e1]at c1 d;rw[e2]at c2 d;rw[e3]at c3 d;rw[e4]at c4 d;clear e0 e1 e2 e3 e4;rcases y with rfl|rfl;all_goals
     go_upto_region 16 with(go_at_call 21;refine d.mono ?_;rintro _ W5 ⟨rfl,aq,M5,h5,-,-⟩);have ar:=ao.z aq M5 W5 h5;clear d h5 ao;go_upto_region 17 with(go_at_call 22;refine ar.mono ?_;rintro _ W6 ⟨rfl,au,M6,h6,-,-⟩);have av:=ap.z au M6 W6 h6;clear ar h6 ap;go_upto_region 18 with(go_at_call 22;refine av.mono ?_;rintro _ W7 ⟨rfl,aw,M7,h7,-,-⟩);have X:=zb h7;clear av h7;go_wp2_with fail
     go_loopw [9] (λov wr=>ov = .bool true/\∃(m:NS),AA ((∃tag M,De w tag nb m M wr)/\m.Safe/\m.Inv (1300*k+1205-401*m.bag.length)/\m.bag.length<=2/\NS.comes m.bag.length m=nF)) (λ_ wq=>Kr nb wq)
     case atStart=>exact⟨rfl,n3,zb ⟨⟨aw,M7,X.z⟩,K.z.s3,K.z.i3.mono (by have:=K.z.bl;omega),K.z.bl,K.z.e⟩⟩
     case round =>
      obtain⟨rfl,m,HM⟩:=hrel;obtain⟨⟨N,M8,h8⟩,mS,Y,mb,me⟩:=HM.z;obtain⟨ba,bc,p8,q1,q2,Z⟩:=h8.bagAt;have ax:=zb Z;by_cases hz:m.bag.length=0
      ·rw[hz]at p8 me Y q1;have me:m=nF:=me;subst me;have HE:AA ((∃tag M,De w tag nb m M wr)/\OI m/\m.Safe/\m.Inv (1300*(k+1))):=zb ⟨⟨N,M8,h8⟩,K.z.oi,mS,Y.mono (by omega)⟩;clear h8 mS Y mb HM K X Z;go_wp2_with fail;go_roundw
       case rel=>exact⟨k+1,m,U,by congr 1,HE⟩
       case measure=>simp[intOf];omega
      ·obtain⟨BL,H⟩:=nm m.bag.length;have aa:∃i b rest,m.bag=(i,b)::rest:=by
        cases e:m.bag with
        | nil=>rw[e]at hz;exact absurd rfl hz
        | cons p rest=>exact⟨p.1,p.2,rest,rfl⟩
       obtain⟨i,b,rest,A⟩:=aa;have ay:rest.length+1=BL:=by rw[<-H,A];rfl
       have t:(m.step EH).2.bag=rest:=by rw[Su m A];rfl
       have tI:(m.step EH).2.Inv (1300*k+1205-401*(m.step EH).2.bag.length):=(Y.step EH (by omega)).mono (by rw[t];omega);obtain⟨t1,t2⟩:=mS.step Y (by omega) EH;have te:NS.comes (m.step EH).2.bag.length (m.step EH).2=nF:=by
        rw[t,<-me,H,<-ay];rfl
       have d:Calls prog 21 #[.pointer (some ⟨nb,0,none⟩),.agg #[.int .i64 7,.int .i64 0,.int .i64 0,.int .i64 0,.string ⟨#[]⟩]] wr (EL w N nb wr (true,(m.step EH).2)):=by
        have x:=Po h8 Y (by omega) mS.up (s:=EH) ⟨by decide,by decide,by decide,by decide,by decide⟩;rw[show m.step EH=(true,(m.step EH).2)from Prod.ext t1 rfl]at x;exact x
       have aD:(m.step EH).2.bag.length<BL:=by rw[t];omega
       rw[H]at p8 q1 ax;have HT:AA ((m.step EH).2.Safe/\(m.step EH).2.Inv (1300*k+1205-401*(m.step EH).2.bag.length)/\(m.step EH).2.bag.length<=2/\NS.comes (m.step EH).2.bag.length (m.step EH).2=nF):=zb ⟨t2,tI,by omega,te⟩;obtain⟨m1,az⟩:=nm ((m.step EH).2);rw[az]at d HT aD;have d0:decide ((0:Int)<(BL:Int))=true:=Aq (by omega);clear h8 mS Y mb me HM Z t tI t1 t2 te az A ay X K H;go_upto_region 22 with(go_at_call 21;refine d.mono ?_;rintro _ W9 ⟨rfl,aA,M9,h9,-,-⟩);have H9:=zb h9;clear d h9;go_wp2_with fail;go_roundw
       case rel=>exact⟨rfl,m1,zb ⟨⟨aA,M9,H9.z⟩,HT.z⟩⟩
       case measure =>
        obtain⟨_,_,_,_,_,z⟩:=H9.z.bagAt;have z0:=ax.z;omega
  ·have ek:k=L:=by omega
   obtain⟨⟨tag,M,G⟩,hJ,u,f⟩:=I.z;have d1:decide ((k:Int)<(L:Int))=false:=Az (by omega);have aE:=zb hJ.cm;have aF:AA (∀i,i<2->(n.g i).length<=100000000):=zb λi hi=>by have:=f.gl i hi;omega
   have HN:=zb G;clear G hJ u f I;go_wp2_with fail
   go_loopw [15] (λiv wr=>∃(i:Nat),i<=2/\iv = .int .i64 i/\AA (De w tag nb n M wr)) (λiv _=>2-(intOf iv).toNat)
   case atStart=>exact⟨0,AL _,rfl,HN⟩
   case round =>
    obtain⟨i,hi,rfl,HI⟩:=hrel;have x3:=wi ((i:Int)+1) (by omega);by_cases C:i<2
    ·have aG:=aF.z i C;have d2:decide ((i:Int)<(2:Int))=true:=Aq (by omega);obtain⟨GL,ab⟩:=nm ((n.g i).length);rw[ab]at aG;have D:=zb ab;clear ab HN;go_wp2_with fail
     go_loopw [16] (λjv wr=>∃(j:Nat),j<=GL/\jv = .int .i64 j/\AA (De w tag nb n M wr)) (λjv _=>GL-(intOf jv).toNat)
     case atStart=>exact⟨0,AL _,rfl,HI⟩
     case round =>
      obtain⟨j,hj,rfl,HJ⟩:=hrel;have x4:=wi ((j:Int)+1) (by omega);obtain⟨gg,cg,ga,ca,b1,⟨b2,b3⟩,b4,⟨b5,b6⟩,b7⟩:=HJ.z.o.gramAt C;rw[D.z]at b4 b5;by_cases aB:j<GL
      ·have d3:decide ((j:Int)<(GL:Int))=true:=Aq (by omega);obtain⟨s,F⟩:∃s,(n.g i)[j]?=some s:=⟨(n.g i)[j]'(by rw[D.z];exact aB),AJ _⟩;obtain⟨b,ac⟩:∃b,(M.gb i)[j]?=some b:=⟨(M.gb i)[j]'(by rw[HJ.z.o.gl i C,D.z];exact aB),AJ _⟩;obtain⟨q,rfl,b8⟩:=b7 j b ac;have e3:=(HJ.z.o.snAt C ac F).came;rw[aE.z i C s (Ac F)]at e3;clear b7 F ac HI;go_wp2_with fail;go_roundw
       case rel=>exact⟨j+1,by omega,by congr 1,HJ⟩
       case measure=>simp[intOf];omega
      ·have d3:decide ((j:Int)<(GL:Int))=false:=Az (by omega);clear b7 HI;go_wp2_with fail;go_roundw
       case rel=>exact⟨i+1,by omega,by congr 1,HJ⟩
       case measure=>simp[intOf];omega
    ·have d2:decide ((i:Int)<(2:Int))=false:=Az (by omega);go_wp2_with fail;go_ret;exact⟨rfl,HI.z.mod⟩
end
section
open Go.ChangeShapes Go.WideShapes Go.ChangeAt Go.RowKit Go.Deep
open Go.Proofs.Tryz
def Tv:prog.cellsOf 37=5:=by kernel_rfl
section
variable {H:Type} {enc:TypeId×Value->H} {W:World} {base:Nat} {spare:Nat->Bool} {held:Bool} {fuel:Nat} {cs:List Value} {x:DataW H×List MemPlace}
theorem X9(d:DataW H):1<=Rows.uptoBulk d:=by
 cases d with
 | lit l=>cases l<;>simp[Rows.uptoBulk]
 | nil=>simp[Rows.uptoBulk]
 | ptr d=>simp[Rows.uptoBulk]
 | slice elems spare=>simp[Rows.uptoBulk]
 | agg parts=>simp[Rows.uptoBulk]
 | iface t d=>simp[Rows.uptoBulk]
 | map entries=>simp[Rows.uptoBulk]
 | held h=>simp[Rows.uptoBulk]
def Nr{c:Value}{t:TypeId}(ht:prog.underlying t=some (.int .i64))(h:DataW.trod enc prog W base spare held fuel t [c]=some x):∃n:Int,c = .int .i64 n /\ -9223372036854775808<=n/\n<=9223372036854775807:=by
 obtain⟨n,e,_,hw⟩:=DataW.trod_int ht h;cases e;have a:(decide ((-9223372036854775808:Int)<=n)&&decide (n<=9223372036854775807))=true:=hw;simp only[AZ,Af]at a;exact⟨n,rfl,a.1,a.2⟩
variable{k:Nat}{v:Value}
def fS{a:Addr}(h:W.cell? ((a.add (0*k)).add 0)=some v):∃g o,a=⟨g,o,none⟩:=by
 obtain⟨b,off,c⟩:=a;have hs:c=none:=by simpa [Addr.add]using World.cell?_spot h
 subst hs;exact⟨b,off,rfl⟩
variable{base:Nat}
def Qo{a:Addr}{n:Nat}{cs:List Value}(h:W.cells? base a n=some cs):cs.length=n/\∀i,i<n->W.cell? (a.add i)=cs[i]?:=by
 obtain⟨_,h1,h2⟩:=World.cells?_some h;exact⟨h1,h2⟩
theorem Y8(h:DataW.trod enc prog W base spare held fuel 37 cs=some x)(hb:Rows.uptoBulk x.1<=1048576):∃o:Dm,cs=o.cells.toList/\o.Ok/\o.s.length<=Rows.uptoBulk x.1:=by
 obtain⟨xs,n,_,rfl,hl,g,hf⟩:=DataW.trod_struct underlying37 h;rw[Tv]at hl;have f:prog.cellsOf 3=1:=by kernel_rfl
 have cS:prog.cellsOf 9=1:=by kernel_rfl
 match cs,hl,xs,g with
 | [c0,c1,c2,c3,c4],_,[x0,x1,x2,x3,x4],_ =>
  have f0:DataW.trod enc prog W base spare held n 3 [c0]=some x0:=by
   have q:DataW.trod enc prog W base spare held n 3 (([c0,c1,c2,c3,c4].drop 0).take (prog.cellsOf 3))=some x0:=hf 0 _ rfl;rw[f]at q;exact q
  have f1:DataW.trod enc prog W base spare held n 3 [c1]=some x1:=by
   have q:DataW.trod enc prog W base spare held n 3 (([c0,c1,c2,c3,c4].drop 1).take (prog.cellsOf 3))=some x1:=hf 1 _ rfl;rw[f]at q;exact q
  have f2:DataW.trod enc prog W base spare held n 3 [c2]=some x2:=by
   have q:DataW.trod enc prog W base spare held n 3 (([c0,c1,c2,c3,c4].drop 2).take (prog.cellsOf 3))=some x2:=hf 2 _ rfl;rw[f]at q;exact q
  have f3:DataW.trod enc prog W base spare held n 3 [c3]=some x3:=by
   have q:DataW.trod enc prog W base spare held n 3 (([c0,c1,c2,c3,c4].drop 3).take (prog.cellsOf 3))=some x3:=hf 3 _ rfl;rw[f]at q;exact q
  have f4:DataW.trod enc prog W base spare held n 9 [c4]=some x4:=by
   have q:DataW.trod enc prog W base spare held n 9 (([c0,c1,c2,c3,c4].drop 4).take (prog.cellsOf 9))=some x4:=hf 4 _ rfl;rw[cS]at q;exact q
  obtain⟨k,rfl,k1,k2⟩:=Nr underlying3 f0;obtain⟨j,rfl,s1,s2⟩:=Nr underlying3 f1;obtain⟨a,rfl,a1,a2⟩:=Nr underlying3 f2;obtain⟨b,rfl,b1,b2⟩:=Nr underlying3 f3;obtain⟨d,e4,i,_⟩:=DataW.trod_string underlying9 f4;cases e4;have c:x4=(.lit (.string d.data.toList),[]):=by simpa using i
  have e:d.data.toList.length<=Rows.uptoBulk (DataW.agg (([x0,x1,x2,x3,x4]:List (DataW H×List MemPlace)).map (·.1))):=by
   subst c;simp only[Bt,DJ,Rows.uptoBulk,Rows.uptoBulkAll];omega
  have hb':Rows.uptoBulk (DataW.agg (([x0,x1,x2,x3,x4]:List (DataW H×List MemPlace)).map (·.1)))<=1048576:=hb;refine⟨⟨k,j,a,b,d.data.toList⟩,?_,⟨⟨k1,k2⟩,⟨s1,s2⟩,⟨a1,a2⟩,⟨b1,b2⟩,by show d.data.toList.length<=_;omega⟩,e⟩;have hd:zq d.data.toList=d:=by simp[zq]
  show _=[Value.int .i64 k,.int .i64 j,.int .i64 a,.int .i64 b,.string (zq d.data.toList)];rw[hd]
instance:Inhabited Dm:=⟨⟨0,0,0,0,[]⟩⟩
theorem SR{x:DataW H}:∀{l:List (DataW H)},x∈l->Rows.uptoBulk x<=Rows.uptoBulkAll l
 | y::l,h=>by
  simp only[Rows.uptoBulkAll];rcases BP.1 h with rfl|h
  ·omega
  ·have:=SR h;omega
theorem Tn:∀(l:List (DataW H)),l.length<=Rows.uptoBulkAll l
 | []=>AL _
 | x::l=>by
  have:=Tn l;have:=X9 x;simp only[Rows.uptoBulkAll,AQ];omega
def open_kscript(h:DataW.trod enc prog W base spare held fuel 26 cs=some x)(hb:Rows.uptoBulk x.1<=1048576):∃v l,cs=[v]/\Jf W v l/\l.length<=1048576/\∀s∈l,s.s.length<=1048576:=by
 rcases open_slice underlying26 h with⟨rfl,rfl⟩|⟨a,len,cap,m,n,D,Pl,rfl,hb2,hl,hm,f,rfl,u⟩
 ·exact⟨_,[],rfl,⟨none,0,rfl,AG _,AL _,λi fr hi=>by simp at hi⟩,AL _,λs k=>(by cases k)⟩
 ·have hle:len<=m:=by rw[f];split<;>omega
  have b:Rows.uptoBulkAll ((List.range len).map D)<=1048576:=by
   simp only[Rows.uptoBulk]at hb;omega
  have c:=Tn ((List.range len).map D);rw[A9,CF]at c;have key:∀i,i<len->∃o:Dm,(∃g off,a=⟨g,off,none⟩/\∀(j:Nat) y,o.cells[j]?=some y->W.cell? ⟨g,off+i*5+j,none⟩=some y)/\o.Ok/\o.s.length<=1048576:=by
   intro i hi;obtain⟨cs',h1,h2⟩:=u i (by omega);obtain⟨c0',w,_⟩:=u 0 (by omega);rw[Tv]at h1 w;obtain⟨z,hc⟩:=Qo h1;obtain⟨p,q⟩:=Qo w;obtain⟨g,off,rfl⟩:∃g off,a=⟨g,off,none⟩:=by
    have h0:=q 0 (by omega);rw[AJ (by omega)]at h0;exact fS h0
   have d:=AO (SR (BT.2 ⟨i,Bg.2 hi,rfl⟩)) b;obtain⟨o,rfl,hw,r⟩:=Y8 h2 d;refine⟨o,⟨g,off,rfl,λj y A=>?_⟩,hw,AO r d⟩;have hj:j<5:=(AI.1 A).1;have:=hc j hj;rw[zS,zS,Bd]at this;rw[this];exact A
  obtain⟨F,B⟩:=choose_lt (α := Dm) key;refine⟨_,(List.range len).map F,rfl,⟨some a,cap,by simp,by simpa using hl,hm,λi o hi=>?_⟩,by simp;omega,λs k=>?_⟩
  ·have e:i<len:=by
    have:=(AM.1 hi).1;simpa using this
   have t:o=F i:=by
    simp[e]at hi;exact hi.symm
   subst t;obtain⟨⟨g,off,rfl,q1⟩,q2,_⟩:=B i e;exact⟨⟨g,off,rfl,q1⟩,q2⟩
  ·obtain⟨i,hi,rfl⟩:=BT.1 k;exact(B i (Bg.1 hi)).2.2
end
end
end Go.Proofs.YtddfdpbaiedcjaaGreatDoor
