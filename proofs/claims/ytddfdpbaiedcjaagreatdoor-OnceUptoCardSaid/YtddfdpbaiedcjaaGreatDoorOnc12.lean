/- A part of Once's proof. Conditions: none. Part 12 of 15. -/
import Derived.Test.YtddfdpbaiedcjaaGreatDoorOnc11
import Derived.SevenTiedAt
set_option maxRecDepth 100000
set_option maxHeartbeats 16000000
set_option linter.all false
namespace Go.Proofs.YtddfdpbaiedcjaaGreatDoor
section
open Go.RowKit Go.Proofs.Tryz
variable{M:NV}{T i k nb:Nat}{W w:World}{n:NS}{tag:Nat->Nat×Nat}
def Sh(h:De w tag nb n M W)(hI:n.Inv T)(hT:T<=Dg){most:Nat}(hi:i<2)(hk:k<8)(hm:most<=4096):Calls prog 35 #[.pointer (some ⟨nb,0,none⟩),.int .i64 i,.int .i64 k,.int .i64 most] W (EL w tag nb W (n.read i k most)):=by
 obtain⟨j,hj⟩:=nm (1-i);have B:j<2:=by omega
 have x1:IntKind.i64.wrap (1-(i:Int))=(j:Int):=by rw[IntKind.wrap_i64];omega
 have x2:(1:Int)-(i:Int)=(j:Int):=by omega
 obtain⟨g,cap,q,ar,a1,⟨a2,a3⟩,a4,⟨a5,a6⟩,a7⟩:=h.o.endAt (i:=j) (k:=k) B hk;obtain⟨gx,cx,b1,⟨b2,b3⟩,b4⟩:=h.o.connIs (i:=i) hi;have aa:((n.c i).read k most).1.1.length<=2199023255552:=by
  have r:=(hI.c i hi).readOk hT;unfold CS.read;split
  ·simp
  ·split
   ·simp
   ·rename_i hs _;obtain⟨k0,k8,_⟩:=LW (show(n.c i).stream k=0 by omega);have:=(r k hk).len;simp only[Ao,AS,Ad];omega
 have kc:=Yx (h.cn i hi) (h.env.to (j:=i+1) (by omega)) (k:Int) (most:Int) (by omega) ((hI.c i hi).readOk hT) (by
  have r:=(hI.c i hi).readOk hT;unfold CS.read;split
  ·simp
  ·split
   ·simp
   ·rename_i hs _;have:=(r k hk).len;simp only[Ao,AS,Ad];omega)
 have eo:=hI.e j B k hk;have af:=eo.wl;have ah:=eo.rd;have ai:=eo.keep;clear eo;unfold NS.read;rw[hj];obtain⟨R,hR⟩:=nm ((n.c i).read k most);rw[hR]at kc aa ⊢;obtain⟨⟨s,st,er⟩,c'⟩:=R;simp only at kc aa ⊢;obtain⟨o,ho⟩:=nm (n.e j k);rw[ho]at af ah ai ⊢;have HO:=zb ho;obtain⟨RR,I⟩:∃RR:Bool×NS,(if o.wrong most (s,st,er)=true then(false,n.setC i c')else((o.more (s,st,er)).fits,(n.setC i c').setE j k (o.more (s,st,er))))=RR:=⟨_,rfl⟩;rw[I];have G:=zb I;clear I;have HN:=zb h;clear h hI hR ho;go_enter func35,ntmps35;go_upto_region 3 with(go_at_call 29;refine kc.mono ?_;rintro _ W1 ⟨rfl,hL⟩;obtain⟨tag',V',h1,old,m1⟩:=HN.z.conn hi hL);have e0:=h1.o.enAt B hk;have J:(n.setC i c').e j k=o:=HO.z;rw[J]at e0;obtain⟨c0,c1,c2,c3,c4,c5,cz⟩:=e0;have H1:=zb h1;have K:=zb J;have y:=zb old;have HM:=zb m1;clear h1 old m1 hL kc HN HO a1 a4 a7 b1 b4 a2 a3 a5 a6 b2 b3 J;obtain⟨eb,L⟩:=nm (M.eb j k);dsimp only at c0 c1 c2 c3 c4 c5 cz ⊢;rw[L]at c0 c1 c2 c3 c4 c5 cz ⊢;have ab:=zb L;clear L;have D:AA (∀W',DW DX W1 W'->zs w tag nb W (n.setC i c') W'):=zb λW' m=>zs.trans y.z (HM.z.mono (λg hg=>.inl (λx=>by rw[x]at hg;simp at hg))) (zs.then0 H1.z.left m)
 obtain⟨S,hS⟩:=nm (n.setC i c');rw[hS]at H1 D K;have N:AA ((if o.wrong most (s,st,er)=true then(false,S)else((o.more (s,st,er)).fits,S.setE j k (o.more (s,st,er))))=RR):=by
  show _=_;rw[<-G.z,hS]
 clear hS G;have hsz:=zE s;have hwz:=zE o.wrote
 go_cut [10,99] (λsv bv wx=>sv = .string (zq s)/\bv = .bool (o.wrong most (s,st,er))/\AA (DW DX W1 wx))
 case first =>
  refine wp_region_quiet_lit (by kernel_rfl) (by kernel_rfl) ?_;repeat (go_big_quiet_step (fail))
  by_cases p1:er=0;rotate_left
  ·have d1:((er:Int) != 0)=true:=CK.2 (by omega);have l:o.wrong most (s,st,er)=true:=by unfold EN.wrong;simp[p1]
   simp only[d1];repeat (go_big_quiet_step (fail))
   refine wpQuiet_nil ?_;intro _ f;obtain⟨Z,a⟩:=f;subst a;go_wp2_with fail;go_meet;exact⟨rfl,by rw[l],zb ((DW.refl DX W1).drewN _)⟩
  have d1:((er:Int) != 0)=false:=by simp[p1]
  simp only[d1];repeat (go_big_quiet_step (fail))
  by_cases p2:most<s.length
  ·have d2:=Aq (by omega);have l:o.wrong most (s,st,er)=true:=by unfold EN.wrong;simp[p2]
   simp only[d2];repeat (go_big_quiet_step (fail))
   refine wpQuiet_nil ?_;intro _ f;obtain⟨Z,a⟩:=f;subst a;go_wp2_with fail;go_meet;exact⟨rfl,by rw[l],zb ((DW.refl DX W1).drewN _)⟩
  have d2:=Az (by omega);simp only[d2];repeat (go_big_quiet_step (fail))
  by_cases p3:o.wrote.length<o.read+s.length
  ·have d3:decide ((o.wrote.length:Int)-(o.read:Int)<(s.length:Int))=true:=Aq (by omega);have l:o.wrong most (s,st,er)=true:=by unfold EN.wrong;simp[p3]
   simp only[d3];repeat (go_big_quiet_step (fail))
   refine wpQuiet_nil ?_;intro _ f;obtain⟨Z,a⟩:=f;subst a;go_wp2_with fail;go_meet;exact⟨rfl,by rw[l],zb ((DW.refl DX W1).drewN _)⟩
  have d3:decide ((o.wrote.length:Int)-(o.read:Int)<(s.length:Int))=false:=Az (by omega);simp only[d3];have l1:(o.read:Int)+(s.length:Int)<=(o.wrote.length:Int):=by omega
  have l2:o.read+s.length<=o.wrote.length:=by omega
  repeat (go_big_quiet_step (fail))
  have e4:((zq o.wrote).extract o.read (o.read+s.length)).toList=(o.wrote.drop o.read).take s.length:=by
   rw[ByteArray.toList_eq,OQ,IL,Cf]
  have e5:(zq s).toList=s:=by rw[ByteArray.toList_eq,IL]
  by_cases p4:(o.wrote.drop o.read).take s.length=s;rotate_left
  ·have d4:(!((zq o.wrote).extract o.read (o.read+s.length)).toList==(zq s).toList)=true:=by
    rw[e4,e5];simp[p4]
   have l:o.wrong most (s,st,er)=true:=by unfold EN.wrong;simp[p4]
   simp only[d4];repeat (go_big_quiet_step (fail))
   refine wpQuiet_nil ?_;intro _ f;obtain⟨Z,a⟩:=f;subst a;go_wp2_with fail;go_meet;exact⟨rfl,by rw[l],zb ((DW.refl DX W1).drewN _)⟩
  have d4:(!((zq o.wrote).extract o.read (o.read+s.length)).toList==(zq s).toList)=false:=by
   rw[e4,e5];simp[p4]
  simp only[d4];repeat (go_big_quiet_step (fail))
  by_cases p5:o.state=0
  ·have d5:((o.state:Int) != 0)=false:=by simp[p5]
   have l:o.wrong most (s,st,er)=false:=by unfold EN.wrong;simp[p1,p4,p5];omega
   simp only[d5];repeat (go_big_quiet_step (fail))
   refine wpQuiet_nil ?_;intro _ f;obtain⟨Z,a⟩:=f;subst a;go_wp2_with fail;go_meet;exact⟨rfl,by rw[l],zb ((DW.refl DX W1).drewN _)⟩
  have d5:((o.state:Int) != 0)=true:=CK.2 (by omega);simp only[d5];repeat (go_big_quiet_step (fail))
  by_cases p6:s=[];rotate_left
  ·have d6:(!s.isEmpty)=true:=by simp[p6]
   have l:o.wrong most (s,st,er)=true:=by unfold EN.wrong;simp[p5,p6]
   simp only[d6];repeat (go_big_quiet_step (fail))
   refine wpQuiet_nil ?_;intro _ f;obtain⟨Z,a⟩:=f;subst a;go_wp2_with fail;go_meet;exact⟨rfl,by rw[l],zb ((DW.refl DX W1).drewN _)⟩
  have d6:(!s.isEmpty)=false:=by simp[p6]
  simp only[d6];have l:o.wrong most (s,st,er)=((st:Int) != (o.state:Int)):=by
   have w1:(er != 0)=false:=by simp[p1]
   have w2:=Az p2;have w3:=Az p3;have w4:((o.wrote.drop o.read).take s.length != s)=false:=by simp[p4]
   have w5:=CK.2 p5;have w6:(s != [])=false:=by simp[p6]
   unfold EN.wrong;have e7:((st:Int) != (o.state:Int))=(st != o.state):=by
    by_cases x:st=o.state
    ·simp[x]
    ·have:(st:Int)≠(o.state:Int):=by omega
     rw[CK.2 this,CK.2 x]
   rw[e7];simp only[w1,w2,w3,w4,w5,w6,DV,Bj]
  repeat (go_big_quiet_step (fail))
  refine wpQuiet_nil ?_;intro _ f;obtain⟨Z,a⟩:=f;subst a;go_wp2_with fail;go_meet;exact⟨rfl,by rw[l],zb ((DW.refl DX W1).drewN _)⟩
 case rest =>
 obtain⟨rfl,rfl,hM⟩:=hcut;obtain⟨W2,aj⟩:=nn wc;subst aj;by_cases l:o.wrong most (s,st,er)=true
 ·have F:=zb (D.z _ hM.z);have hr:=N.z.symm.trans (AN l);subst hr;rw[l];clear D H1 y HM c0 c1 c2 c3 c4 c5 cz;go_wp2_with fail;go_ret;exact⟨rfl,F.z⟩
 have hr:=N.z.symm.trans (AH l);subst hr;have l:o.wrong most (s,st,er)=false:=by simpa using l
 rw[l];have hle:o.read+s.length<=o.wrote.length:=by
  unfold EN.wrong at l;simp only[CH,Ak]at l;omega
 have E:=hM.z;have ak:=E.cell (λx=>x) c0;have al:=E.cell (λx=>x) c1;have am:=E.cell (λx=>x) c2;have an:=E.cell (λx=>x) c3;have ao:=E.cell (λx=>x) c4;have ap:=E.cell (λx=>x) c5;have N2:=H1.z.free E (λ_ x=>x.elim);have C:=(N2.o.en j B k hk).obj;have ac:=K.z;rw[ac]at C;have u:({ M with V:=V' }:NV).eb j k=eb:=ab.z;rw[u]at C;have aq:∀p,W2.frozen? ⟨eb,p,none⟩=false:=λp=>zf C
 obtain⟨t,O⟩:=nm (o.read+s.length);have A:AA (∀W',DW DX ((W2.setCell ⟨eb,4,none⟩ (.int .i64 t)).setCell ⟨eb,5,none⟩ (.int .i64 st)) W'->zs w tag nb W (S.setE j k (o.more (s,st,er))) W'):=by
  refine zb λW' m'=>?_
  have m3:DW (λg=>g=eb) W2 ((W2.setCell ⟨eb,4,none⟩ (.int .i64 t)).setCell ⟨eb,5,none⟩ (.int .i64 st)):=((DW.refl (λg=>g=eb) W2).setCell (p:=⟨eb,4,none⟩) (.inl rfl) _).setCell (p:=⟨eb,5,none⟩) (.inl rfl) _;have d:=zc (i:=5) (v:=.int .i64 st) (zc (i:=4) (v:=.int .i64 t) C);rw[<-u]at d m3;have e3:((FM o).setIfInBounds 4 (.int .i64 t)).setIfInBounds 5 (.int .i64 st)=FM (o.more (s,st,er)):=by
   rw[<-O];rfl
  rw[e3]at d;have N3:=N2.endS B hk (o.more (s,st,er)) m3 d;have tg:∀g,g=({ M with V:=V' }:NV).eb j k->tag' g≠(0,0):=λg hg x=>by
   have:=(N2.o.en j B k hk).tag;rw[<-hg,x]at this;simp at this
  rw[u]at N3 m3;exact zs.trans y.z ((HM.z.mono (λg hg=>.inl (λx=>by rw[x]at hg;simp at hg))).trans (E.mono (λ_ x=>x.elim))) (zs.then0 ⟨tag',_,N3,λ_ _=>rfl,m3.mono (λg hg=>.inl (tg g (hg.trans u.symm)))⟩ m')
 have P:AA ((o.more (s,st,er)).fits=if st=0 then true else if st=1 then o.fin&&t==o.wrote.length else if st=2 then o.cut&&decide (o.keep<=t)else false):=by
  rw[<-O];rfl
 have ad:(o.read:Int)+(s.length:Int)=(t:Int):=by omega
 obtain⟨W3,Q⟩:=nm ((W2.setCell ⟨eb,4,none⟩ (.int .i64 t)).setCell ⟨eb,5,none⟩ (.int .i64 st));have d:=zc (i:=5) (v:=.int .i64 st) (zc (i:=4) (v:=.int .i64 t) C);rw[Q]at d A;have k0:W3.cell? ⟨eb,0,none⟩=some (.string (zq o.wrote)):=za d rfl;have k1:W3.cell? ⟨eb,1,none⟩=some (.bool o.fin):=za d rfl;have k2:W3.cell? ⟨eb,2,none⟩=some (.bool o.cut):=za d rfl;have k3:W3.cell? ⟨eb,3,none⟩=some (.int .i64 o.keep):=za d rfl;have k4:W3.cell? ⟨eb,4,none⟩=some (.int .i64 t):=za d rfl;have ae:=zb Q;clear D hM E d Q H1 y HM C N2 ac c0 c1 c2 c3 c4 c5 cz N O u ab K;go_upto_region 7 with fail;rw[ae.z];clear ae ak al am an ao ap aq ad;obtain⟨NR,U⟩:=nm (S.setE j k (o.more (s,st,er)));rw[U]at A;have FR:AA (∀b W',b=(o.more (s,st,er)).fits->DW DX W3 W'->EL w tag nb W ((o.more (s,st,er)).fits,S.setE j k (o.more (s,st,er))) (.returned (.bool b)) W'):=zb λb W' hb m=>⟨by rw[hb],by rw[U];exact A.z W' m⟩
 clear A U;by_cases H:st=0
 ·have z:=P.z.trans (AN H);subst H;go_wp2_with fail;go_ret;exact FR.z _ _ z.symm (DW.refl _ _)
 have b0:((st:Int)==0)=false:=AR.2 (by omega);by_cases t1:st=1
 ·have z:=P.z.trans ((AH H).trans (AN t1));subst t1;have X:=zb z;clear z P H b0;go_upto_region 11 with fail;obtain⟨fn,Y⟩:=nm o.fin;rw[Y]at k1 X;cases fn
  ·go_quiet (fail);go_wp2_with fail;go_ret;exact FR.z _ _ (by rw[X.z];rfl) ((DW.refl _ _).drewN _)
  ·go_quiet (fail);go_wp2_with fail;go_ret;exact FR.z _ _ (by rw[X.z,F8];rfl) ((DW.refl _ _).drewN _)
 have b1:((st:Int)==1)=false:=AR.2 (by omega);by_cases t2:st=2
 ·have z:=P.z.trans ((AH H).trans ((AH t1).trans (AN t2)));subst t2;have X:=zb z;clear z P H b0 t1 b1;go_upto_region 13 with fail;obtain⟨fn,Y⟩:=nm o.cut;rw[Y]at k2 X;cases fn
  ·go_quiet (fail);go_wp2_with fail;go_ret;exact FR.z _ _ (by rw[X.z];rfl) ((DW.refl _ _).drewN _)
  ·go_quiet (fail);go_wp2_with fail;go_ret;exact FR.z _ _ (by rw[X.z];simp) ((DW.refl _ _).drewN _)
 have b2:((st:Int)==2)=false:=AR.2 (by omega);have z:=P.z.trans ((AH H).trans ((AH t1).trans (AH t2)));clear P H t1 t2;go_wp2_with fail;go_ret;exact FR.z _ _ z.symm (DW.refl _ _)
def Fw.nil(w:World):Fw w (.slice none 0 0) []:=⟨World.ownsRow_nil w 0 _ 10,λx hx=>by cases hx⟩
def H6(S:Nat->Prop)(w wr:World):Prop :=
 DW S w wr/\∀k,S k->∀cs t,w.heap[k]?=some (.cells cs t (0,0))->∃cs',wr.heap[k]?=some (.cells cs' t (0,0))/\cs'.size=cs.size
def H6.refl(S:Nat->Prop)(w:World):H6 S w w:=⟨DW.refl _ _,λ_ _ cs _ h=>⟨cs,h,rfl⟩⟩
variable{S:Nat->Prop}{b:Nat}
def H6.set{wr:World}(h:H6 S w wr)(hb:S b)(i:Nat)(v:Value):H6 S w (wr.setCell ⟨b,i,none⟩ v):=by
 refine⟨h.1.setCell (p:=⟨b,i,none⟩) (.inl hb) v,λk hk cs t hc=>?_⟩;obtain⟨a,h1,h2⟩:=h.2 k hk cs t hc;by_cases e:k=b
 ·subst e;exact⟨_,zc h1,by simpa using h2⟩
 ·exact⟨a,((DW.refl (λx=>x=b) wr).setCell (p:=⟨b,i,none⟩) (.inl rfl) v).obj e h1,h2⟩
variable{cs:Array Value}{t:Nat}
def H6.cell{wr:World}(h:H6 S w wr)(hb:S b)(hc:w.heap[b]?=some (.cells cs t (0,0)))(hi:i<cs.size):(∃v,wr.cell? ⟨b,i,none⟩=some v)/\wr.frozen? ⟨b,i,none⟩=false:=by
 obtain⟨a,h1,h2⟩:=h.2 b hb cs t hc;exact⟨⟨a[i],za h1 (C6 (by omega))⟩,zf h1⟩
def JN(v:Value)(a:List (Db×Value)):Nat->Prop:=λk=>v.ownBlock=some k\/∃x∈a,x.2.ownBlock=some k
def Oh(W:World)(g:Nat)(v:Value)(a:List (Db×Value))(k:Nat)(wr:World):Prop :=
 H6 (JN v a) W wr/\∀j x,k<=j->a[j]?=some x->wr.cell? ⟨g,j*10+9,none⟩=some x.2
variable{g:Nat}{v:Value}
def Oh.set{wr:World}{a:List (Db×Value)}(h:Oh W g v a (k+1) wr)(hg:JN v a g)(hi:i<k*10+10)(u:Value):Oh W g v a (k+1) (wr.setCell ⟨g,i,none⟩ u):=by
 refine⟨h.1.set hg i u,λj x hj hx=>?_⟩;rw[World.cell?_setCell_other _ _ _ _ (by simp<;>omega)];exact h.2 j x hj hx
variable{cap e sz:Nat}{xs:List Value}
def VY{n:Nat}(h:w.ownsRow 0 e sz (.slice (some ⟨g,0,none⟩) n cap) n xs):∃cur,w.heap[g]?=some (.cells cur e (0,0))/\cur.size=cap*sz/\n<=cap:=by
 rcases h.2 with⟨a,_⟩|⟨g',b,cur,a,_,hg,h1,_,h3,_⟩
 ·cases a
 ·cases a;exact⟨cur,hg,h3,h1⟩
def At(bs:List UInt8)(pos:Nat)(l:List UInt8):Prop:=∃pre post,bs=pre++(l++post)/\pre.length=pos
variable{bs:List UInt8}{pos:Nat}
def At.left{a b:List UInt8}(h:At bs pos (a++b)):At bs pos a:=by
 obtain⟨pre,post,rfl,rfl⟩:=h;exact⟨pre,b++post,by simp,rfl⟩
def At.right{a b:List UInt8}(h:At bs pos (a++b)):At bs (pos+a.length) b:=by
 obtain⟨pre,post,rfl,rfl⟩:=h;exact⟨pre++a,post,by simp,by simp⟩
def At.le{a:List UInt8}(h:At bs pos a):pos+a.length<=bs.length:=by
 obtain⟨pre,post,rfl,rfl⟩:=h;simp
variable{l:List UInt8}
def At.head{a:UInt8}(h:At bs pos (a::l)):bs[pos]?=some a:=by
 obtain⟨pre,post,rfl,rfl⟩:=h;simp
def At.tail{a:UInt8}(h:At bs pos (a::l)):At bs (pos+1) l:=At.right (a:=[a]) h
def At.sub(h:At bs pos l):(bs.drop pos).take l.length=l:=by
 obtain⟨pre,post,rfl,rfl⟩:=h;simp
def Fk{n:Nat}(hn:n<4611686018427387904)(h:At bs pos (zM n)):Ds bs pos=some (n,pos+(zM n).length):=by
 have a:=h.le;unfold zM at h a ⊢;unfold Ds;split at h
 ·rename_i h1;rw[h.head];have e:(UInt8.ofNat n).toNat=n:=by rw[Bp];omega
  have c:D4 (UInt8.ofNat n)=1:=by unfold D4;rw[e];rw[show n / 64=0 by omega]
  simp only[h1,A5]at a ⊢;simp only[Aa]at a;rw[c];rw[AN a];simp[Fp,e];omega
 ·rename_i h1;split at h
  ·rename_i h2;rw[h.head];have e:(UInt8.ofNat (n / 256+64)).toNat=n / 256+64:=by rw[Bp];omega
   have c:D4 (UInt8.ofNat (n / 256+64))=2:=by unfold D4;rw[e];rw[show(n / 256+64) / 64=1 by omega]
   simp only[h1,h2,A5,BY]at a ⊢;simp only[AQ,AX]at a;rw[c];rw[AN (by omega)];have b:=h.tail.sub;simp only[AQ,AX]at b;simp only[Au]at b;rw[show(2:Nat)-1=1 from rfl,b];simp[Fp,Bp];omega
  ·rename_i h2;split at h
   ·rename_i h3;rw[h.head];have e:(UInt8.ofNat (n / 16777216+128)).toNat=n / 16777216+128:=by rw[Bp];omega
    have c:D4 (UInt8.ofNat (n / 16777216+128))=4:=by unfold D4;rw[e];rw[show(n / 16777216+128) / 64=2 by omega]
    simp only[h1,h2,h3,A5,BY]at a ⊢;simp only[AQ,AX]at a;rw[c];rw[AN (by omega)];have b:=h.tail.sub;simp only[AQ,AX]at b;simp only[Au]at b;rw[show(4:Nat)-1=1+1+1 from rfl,b];simp[Fp,Bp];omega
   ·rename_i h3;rw[h.head];have e:(UInt8.ofNat (n / 72057594037927936+192)).toNat=n / 72057594037927936+192:=by rw[Bp];omega
    have c:D4 (UInt8.ofNat (n / 72057594037927936+192))=8:=by unfold D4;rw[e];rw[show(n / 72057594037927936+192) / 64=3 by omega]
    simp only[h1,h2,h3,BY]at a ⊢;simp only[AQ,AX]at a;rw[c];rw[AN (by omega)];have b:=h.tail.sub;simp only[AQ,AX]at b;simp only[Au]at b;rw[show(8:Nat)-1=1+1+1+1+1+1+1 from rfl,b];simp[Fp,Bp];omega
def Nu{n:Nat}(hn:n<8)(h:At bs pos (zM n)):FI bs pos=some (n,pos+(zM n).length):=by
 unfold FI;rw[Fk (by omega) h];simp[hn]
def PA(hn:l.length<4611686018427387904)(h:At bs pos (zM l.length++l)):Fh bs pos=some (l,pos+(zM l.length++l).length):=by
 unfold Fh;rw[Fk hn h.left];have h2:=h.right.le;have h3:=h.right.sub;simp only[AU];rw[AN (by omega),h3];simp;omega
theorem Sg(rs:zC)(k:Nat):∀m,k<=m->∃t,D8 rs m=D8 rs k++t/\(k<m->∃u,t=zM (Da rs k-DY rs (k+1)-2)++(zM (DY rs (k+1)-Da rs (k+1))++u)/\D8 rs m=D8 rs (k+1)++u)
 | 0,h=>⟨[],by simp[show k=0 by omega],λx=>by omega⟩
 | m+1,h=>by
  by_cases hk:k=m+1
  ·subst hk;exact⟨[],by simp,λx=>by omega⟩
  ·obtain⟨t,h1,h2⟩:=Sg rs k m (by omega);refine⟨t++(zM (Da rs m-DY rs (m+1)-2)++zM (DY rs (m+1)-Da rs (m+1))),?_,λ_=>?_⟩
   ·simp only[D8,h1,Av]
   ·by_cases hm:k=m
    ·subst hm;have:t=[]:=by
      have:=A0 List.length h1;simp at this;exact this
     subst this;exact⟨[],by simp,by simp⟩
    ·obtain⟨u,e1,e2⟩:=h2 (by omega);refine⟨u++(zM (Da rs m-DY rs (m+1)-2)++zM (DY rs (m+1)-Da rs (m+1))),?_,?_⟩
     ·rw[e1];simp only[Av]
     ·simp only[D8,e2,Av]
def Sf(rs:zC)(k:Nat)(hk:k<rs.length):rs.take (k+1)=rs.take k++[(Da rs k,DY rs k)]:=by
 rw[BD,AJ hk];unfold Da DY;rw[Ai,AJ hk];rfl
theorem Qy(rs:zC)(a:Eh rs=true):∀(d k fuel pos:Nat) (l:List UInt8),rs.length=k+1+d->d<fuel->D8 rs (rs.length-1)=D8 rs k++l->At bs pos l ->
  ID bs fuel (DY rs k) d (DY rs k-Da rs k) pos (rs.take k)=some (rs,pos+l.length)
 | 0,k,fuel+1,pos,l,hl,hf,he,ha=>by
  obtain⟨f1,f2,f3⟩:=La a (i:=k) (by omega);have:l=[]:=by
   have:=A0 List.length he;rw[show rs.length-1=k by omega]at this;simp at this;exact this
  subst this;unfold ID;rw[AH (by omega),AN rfl];have e:=Sf rs k (by omega);rw[show DY rs k-(DY rs k-Da rs k)=Da rs k by omega,<-e,AW (by omega)];simp
 | d+1,k,fuel+1,pos,l,hl,hf,he,ha=>by
  obtain⟨f1,f2,f3⟩:=La a (i:=k) (by omega);obtain⟨g1,g2,b⟩:=La a (i:=k+1) (by omega);have b:=b (by omega);simp only[CN]at b;obtain⟨t,e1,e2⟩:=Sg rs k (rs.length-1) (by omega);have:=List.append_cancel_left (e1.symm.trans he);subst this;obtain⟨u,e3,e4⟩:=e2 (by omega);subst e3;unfold ID;rw[AH (by omega),AH (by omega)];rw[Fk (by omega) ha.left];simp only[AU];rw[Fk (by omega) ha.right.left];simp only[AU];have e5:DY rs k-(DY rs k-Da rs k)=Da rs k:=by omega
  rw[e5,AH (by omega)];have:=Qy rs a d (k+1) fuel (pos+(zM (Da rs k-DY rs (k+1)-2)).length+(zM (DY rs (k+1)-Da rs (k+1))).length) u (by omega) (by omega) e4 (ha.right.right);rw[Sf rs k (by omega)]at this;rw[show Da rs k-2-(Da rs k-DY rs (k+1)-2)=DY rs (k+1)by omega,CN,this];simp only[AF]
  congr 2
  omega
def canon(f:Db):Db :=
 let z:Db:=f0 f.kind false
 if f.kind=1 then z
 else if f.kind=2 then{ z with rngs:=f.rngs }
 else if f.kind=3 then{ z with stream:=f.stream,off:=f.off,rel:=f.rel }
 else if f.kind=4 then{ z with stream:=f.stream,off:=f.off,fin:=f.fin,data:=f.data }
 else if f.kind=5 then{ z with lim:=f.lim }
 else if f.kind=6 then{ z with stream:=f.stream,lim:=f.lim }
 else if f.kind=7 then{ z with id:=f.id,dl:=f.dl,data:=f.data }
 else{ z with lim:=f.lim }
variable{f:Db}
def SB(h:zT f=true):f.kind=1\/f.kind=2\/f.kind=3\/f.kind=4\/f.kind=5\/f.kind=6\/f.kind=7\/f.kind=8:=by
 simp only[zT,zN,AZ]at h;obtain⟨_,h⟩:=h;by_cases h2:f.kind=2
 ·omega
 ·by_cases h3:f.kind=3
  ·omega
  ·by_cases h4:f.kind=4
   ·omega
   ·simp only[h2,h3,h4,BY,AZ,Af]at h;omega
def Ty(h:zT f=true):f.off<=4611686018427387903/\f.rel<=4611686018427387903/\f.lim<=4611686018427387903/\f.id<=4611686018427387903/\f.dl<=4611686018427387903/\0<=f.stream/\f.stream<8/\zN f=true:=by
 simp only[zT,EM,Ff,ER,AZ,List.all_cons,List.all_nil,Af]at h;obtain⟨⟨h1,h2⟩,h3⟩:=h;exact⟨h1.1,h1.2.1,h1.2.2.1,h1.2.2.2.1,h1.2.2.2.2.1,h2.1,h2.2,h3⟩
def Ih(f:Db):(canon f).kind=f.kind:=by
 unfold canon;simp only;repeat' split
 all_goals rfl
def gD(h:zT f=true):zT (canon f)=true:=by
 obtain⟨a1,a2,a3,a4,a5,a6,a7,a⟩:=Ty h;rcases SB h with hk|hk|hk|hk|hk|hk|hk|hk;all_goals
  simp only[zN,hk]at a;simp[canon,hk,zT,EM,Ff,ER,zN,f0]at a ⊢;try omega
 all_goals exact a
def Se(f:Db):0<(zA f).length:=by
 unfold zA;repeat' split
 all_goals simp[GC,I0,Iz,I9,I1,IF,Gg]
theorem Vp(h:zT f=true)(hd:f.data.length<4611686018427387904)(hr:f.rngs.length<4611686018427387904)(a:At bs pos (zA f)):GB bs pos=some (canon f,pos+(zA f).length):=by
 have c:=gD h;have hck:=Ih f;obtain⟨a1,a2,a3,a4,a5,a6,a7,a8⟩:=Ty h;have g:=Int.toNat_of_nonneg a6;unfold GB;rcases SB h with hk|hk|hk|hk|hk|hk|hk|hk
 ·have eb:zA f=[1]:=by simp[zA,hk]
  rw[eb]at a ⊢;rw[a.head];have er:zI 1 false bs (pos+1)=some (canon f,pos+1):=by simp[zI,canon,hk]
  simp[FA,er,c]
 ·have eb:zA f=2::(zM (DY f.rngs 0)++(zM (f.rngs.length-1)++(zM (DY f.rngs 0-Da f.rngs 0)++D8 f.rngs (f.rngs.length-1)))):=by simp[zA,hk,GC]
  rw[eb]at a ⊢;rw[a.head];have i:Eh f.rngs=true:=by simpa [zN,hk]using a8
  have l:0<f.rngs.length:=by
   simp only[Eh,AZ,Af]at i;exact i.2
  obtain⟨g1,g2,_⟩:=La i l;have b:=a.tail;have d:=Fk (by omega) b.left;have e:=Fk (by omega) b.right.left;have j:=Fk (by omega) b.right.right.left;have hle:=b.right.right.right.le;have m:f.rngs.length-1<bs.length+1:=by
   have:∀k,2*k<=(D8 f.rngs k).length:=by
    intro k;have o:∀n,1<=(zM n).length:=by
     intro n;unfold zM;repeat' split
     all_goals simp
    induction k with
    | zero=>simp
    | succ k ih =>
     have:=o (Da f.rngs k-DY f.rngs (k+1)-2);have:=o (DY f.rngs (k+1)-Da f.rngs (k+1));simp only[D8,AF];omega
   have:=this (f.rngs.length-1);omega
  have p:=Qy f.rngs i (f.rngs.length-1) 0 (bs.length+1) _ _ (by omega) m (by simp[D8]) b.right.right.right;simp only[CR]at p;have er:zI 2 false bs (pos+1)=some (canon f,pos+(2::(zM (DY f.rngs 0)++(zM (f.rngs.length-1)++(zM (DY f.rngs 0-Da f.rngs 0)++D8 f.rngs (f.rngs.length-1))))).length):=by
   rw[show zI 2 false bs (pos+1)=Ez false bs (pos+1)by simp[zI],Ez,d];simp only[AU];rw[e];simp only[AU];rw[j];simp only[AU];rw[p];simp[canon,hk];omega
  simp[FA,er,c]
 ·have eb:zA f=36::(zM f.stream.toNat++(zM f.off++zM f.rel)):=by simp[zA,hk,I0]
  rw[eb]at a ⊢;rw[a.head];have b:=a.tail;have d:=Nu (by omega) b.left;have e:=Fk (by omega) b.right.left;have j:=Fk (by omega) b.right.right;have er:zI 3 false bs (pos+1)=some (canon f,pos+(36::(zM f.stream.toNat++(zM f.off++zM f.rel))).length):=by
   rw[show zI 3 false bs (pos+1)=GO false bs (pos+1)by simp[zI],GO,d];simp only[AU];rw[e];simp only[AU];rw[j];simp[canon,hk,g];omega
  simp[FA,er,c]
 ·cases hfin:f.fin
  ·have eb:zA f=8::(zM f.stream.toNat++(zM f.off++(zM f.data.length++f.data))):=by simp[zA,hk,Iz,hfin]
   rw[eb]at a ⊢;rw[a.head];have b:=a.tail;have d:=Nu (by omega) b.left;have e:=Fk (by omega) b.right.left;have j:=PA hd b.right.right;have er:zI 4 false bs (pos+1)=some (canon f,pos+(8::(zM f.stream.toNat++(zM f.off++(zM f.data.length++f.data)))).length):=by
    rw[show zI 4 false bs (pos+1)=Fu false bs (pos+1)by simp[zI],Fu,d];simp only[AU];rw[e];simp only[AU];rw[j];simp[canon,hk,g,hfin,f0];omega
   simp[FA,er,c]
  ·have eb:zA f=9::(zM f.stream.toNat++(zM f.off++(zM f.data.length++f.data))):=by simp[zA,hk,I9,hfin]
   rw[eb]at a ⊢;rw[a.head];have b:=a.tail;have d:=Nu (by omega) b.left;have e:=Fk (by omega) b.right.left;have j:=PA hd b.right.right;have er:zI 4 true bs (pos+1)=some (canon f,pos+(9::(zM f.stream.toNat++(zM f.off++(zM f.data.length++f.data)))).length):=by
    rw[show zI 4 true bs (pos+1)=Fu true bs (pos+1)by simp[zI],Fu,d];simp only[AU];rw[e];simp only[AU];rw[j];simp[canon,hk,g,hfin,f0];omega
   simp[FA,er,c]
 ·have eb:zA f=16::zM f.lim:=by simp[zA,hk,Gg]
  rw[eb]at a ⊢;rw[a.head];have d:=Fk (by omega) a.tail;have er:zI 5 false bs (pos+1)=some (canon f,pos+(16::zM f.lim).length):=by
   rw[show zI 5 false bs (pos+1)=Fq 5 false bs (pos+1)by simp[zI],Fq,d];simp[canon,hk];omega
  simp[FA,er,c]
 ·have eb:zA f=17::(zM f.stream.toNat++zM f.lim):=by simp[zA,hk,I1]
  rw[eb]at a ⊢;rw[a.head];have b:=a.tail;have d:=Nu (by omega) b.left;have e:=Fk (by omega) b.right;have er:zI 6 false bs (pos+1)=some (canon f,pos+(17::(zM f.stream.toNat++zM f.lim)).length):=by
   rw[show zI 6 false bs (pos+1)=Ft false bs (pos+1)by simp[zI],Ft,d];simp only[AU];rw[e];simp[canon,hk,g];omega
  simp[FA,er,c]
 ·have eb:zA f=48::(zM f.id++(zM f.dl++(zM f.data.length++f.data))):=by simp[zA,hk,IF]
  rw[eb]at a ⊢;rw[a.head];have b:=a.tail;have d:=Fk (by omega) b.left;have e:=Fk (by omega) b.right.left;have j:=PA hd b.right.right;have er:zI 7 false bs (pos+1)=some (canon f,pos+(48::(zM f.id++(zM f.dl++(zM f.data.length++f.data)))).length):=by
   rw[show zI 7 false bs (pos+1)=GM false bs (pos+1)by simp[zI],GM,d];simp only[AU];rw[e];simp only[AU];rw[j];simp[canon,hk,f0];omega
  simp[FA,er,c]
 ·have eb:zA f=28::zM f.lim:=by simp[zA,hk,Gg]
  rw[eb]at a ⊢;rw[a.head];have d:=Fk (by omega) a.tail;have er:zI 8 false bs (pos+1)=some (canon f,pos+(28::zM f.lim).length):=by
   rw[show zI 8 false bs (pos+1)=Fq 8 false bs (pos+1)by simp[zI],Fq,d];simp[canon,hk];omega
  simp[FA,er,c]
def JK(fs:List Db):Prop:=∀f∈fs,zT f=true/\f.data.length<4611686018427387904/\f.rngs.length<4611686018427387904
theorem Qx(b:Nat):∀(fs:List Db) (fuel pos:Nat) (a:List Db),JK fs->fs.length<fuel->At bs pos (fs.flatMap zA)->pos+(fs.flatMap zA).length=bs.length ->
  IC bs fuel b pos a = .ok b (a++fs.map canon)
 | [],fuel+1,pos,a,_,_,_,he=>by
  simp at he;unfold IC;rw[AH (by omega)];simp
 | f::fs,fuel+1,pos,a,hok,hf,ha,he=>by
  obtain⟨k1,k2,k3⟩:=hok f (by simp);have hp:=Se f;simp only[C9]at ha he;rw[AF]at he;unfold IC;rw[AN (by omega),Vp k1 k2 k3 ha.left];simp only;rw[Qx b fs fuel _ _ (λg hg=>hok g (by simp[hg])) (by simpa using hf) ha.right (by omega)];simp
theorem Vo(fs:List Db):fs.length<=(fs.flatMap zA).length:=by
 induction fs with
 | nil=>simp
 | cons f fs ih =>
  have:=Se f;simp only[C9,AF,AQ];omega
def SA(n:Nat)(fs:List Db)(hn:n<=4611686018427387903)(h0:0<fs.length)(a:JK fs):FK (zM n++fs.flatMap zA) = .ok n (fs.map canon):=by
 have b:At (zM n++fs.flatMap zA) 0 (zM n++fs.flatMap zA):=⟨[],[],by simp,rfl⟩;have hl:=Vo fs;unfold FK;rw[Fk (by omega) b.left];simp only[AF,Au];rw[AH (by omega),Qx n fs _ _ [] a (by omega) (by simpa using b.right) (by simp)];simp
def O9(l:List UInt8)(s:Nat)(hs:s<4294967296):Gq (l++EG s) l.length=s:=by
 unfold Gq Di EG;simp only[Ai];rw[AV (by omega),AV (by omega),AV (by omega),AV (by omega)];simp[show l.length+1-l.length=1 by omega,show l.length+2-l.length=2 by omega,show l.length+3-l.length=3 by omega];omega
def TZ(l:List UInt8):dec (l++EG (Dv l))=FK l:=by
 have hl:(l++EG (Dv l)).length=l.length+4:=by simp[EG]
 unfold dec;rw[hl,AH (by omega),CN,O9 l _ (LN l),BH,AN rfl]
def NZ{a:Nat}(h:a ^^^ t=b ^^^ t):a=b:=by
 have:=A0 (· ^^^ t) h;simpa [Nat.xor_assoc]using this
def Km:∀a b:Fin 16,ct a.val / 268435456=ct b.val / 268435456->a.val=b.val:=by decide +kernel
def Qw(c:Nat)(h:c<4294967296):Hj c / 268435456=ct (c % 16) / 268435456:=by
 unfold Hj;have e:∀x:Nat,x / 268435456=x >>> 28:=λx=>by rw[Nat.shiftRight_eq_div_pow]
 rw[e,e,Nat.shiftRight_xor_distrib,<-e (c / 16),show c / 16 / 268435456=0 by omega,Nat.zero_xor]
def NY{c d:Nat}(hc:c<4294967296)(hd:d<4294967296)(h:Hj c=Hj d):c=d:=by
 have e:c % 16=d % 16:=Km ⟨c % 16,by omega⟩ ⟨d % 16,by omega⟩ (by
  show ct (c % 16) / _=ct (d % 16) / _;rw[<-Qw c hc,<-Qw d hd,h])
 unfold Hj at h;rw[e]at h;have:=NZ h;omega
def Vm{c d:Nat}{x:UInt8}(hc:c<4294967296)(hd:d<4294967296)(h:Gh c x=Gh d x):c=d :=
 NZ (NY (IG c x hc) (IG d x hd) (NY (Jk _ (IG c x hc)) (Jk _ (IG d x hd)) h))
def Xp{c:Nat}{x y:UInt8}(hc:c<4294967296)(h:Gh c x=Gh c y):x=y:=by
 have:=NY (IG c x hc) (IG c y hc) (NY (Jk _ (IG c x hc)) (Jk _ (IG c y hc)) h);rw[Nat.xor_comm c,Nat.xor_comm c]at this;exact Cv.1 (NZ this)
theorem Vl(b:List UInt8):∀c d,c<4294967296->d<4294967296->b.foldl Gh c=b.foldl Gh d->c=d:=by
 induction b with
 | nil=>intro c d _ _ h;exact h
 | cons x b ih=>intro c d hc hd h;exact Vm hc hd (ih _ _ (L8 c x hc) (L8 d x hd) h)
def VX{a b:List UInt8}{x y:UInt8}(h:Dv (a++x::b)=Dv (a++y::b)):x=y:=by
 unfold Dv at h;rw[Nat.xor_comm,Nat.xor_comm 4294967295]at h;have:=NZ h;unfold EW at this;simp only[Ci,List.foldl_cons]at this;have hl:=UB a 4294967295 (by omega);exact Xp hl (Vl b _ _ (L8 _ _ hl) (L8 _ _ hl) this)
def Vk(l:List UInt8)(i:Nat)(h:i<l.length)(y:UInt8):∃a b,l=a++l[i]::b/\l.set i y=a++y::b/\a.length=i:=by
 refine⟨l.take i,l.drop (i+1),by simp,?_,by simp;omega⟩;rw[List.set_eq_take_append_cons_drop,AN h]
def fQ(l:List UInt8)(i:Nat)(y:UInt8)(hi:i<(l++EG (Dv l)).length)(c:(l++EG (Dv l))[i]≠y):dec ((l++EG (Dv l)).set i y) = .sum:=by
 have hl:(l++EG (Dv l)).length=l.length+4:=by simp[EG]
 unfold dec;rw[Ba,hl,AH (by omega),CN,AH];intro hc;by_cases h:i<l.length
 ·rw[CT i y h,List.take_left' (by simp)]at hc;have hb:=O9 (l.set i y) (Dv l) (LN l);rw[Ba]at hb;rw[hb]at hc;obtain⟨a,b,f,d,e3⟩:=Vk l i h y;rw[d]at hc;have e4:Dv l=Dv (a++l[i]::b):=by rw[<-f]
  rw[e4]at hc;have:=VX hc;rw[List.getElem_append_left h]at c;exact c this
 ·have e:∃s,(l++EG (Dv l)).set i y=l++s/\s=(EG (Dv l)).set (i-l.length) y:=⟨_,Bb i y (by omega),rfl⟩;obtain⟨s,f,d⟩:=e;rw[f,BH]at hc;have hs:Gq (l++s) l.length=Gq s 0:=by
   have hx:s.length=4:=by rw[d];simp[EG]
   unfold Gq Di;simp only[Ai];rw[AV (by omega),AV (by omega),AV (by omega),AV (by omega)];simp[show l.length+1-l.length=1 by omega,show l.length+2-l.length=2 by omega,show l.length+3-l.length=3 by omega]
  rw[hs]at hc;have h0:=O9 [] (Dv l) (LN l);simp only[Am,AX]at h0;rw[<-h0,d]at hc;have hk:i-l.length<4:=by rw[hl]at hi;omega
  obtain⟨k,g⟩:=nm (i-l.length);rw[List.getElem_append_right (by omega)]at c;simp only[g]at c hc hk;have hyl:=y.toNat_lt;have hb:∀n,(UInt8.ofNat n).toNat<256:=λn=>(UInt8.ofNat n).toNat_lt
  unfold EG at hc c;have hb0:=hb (Dv l / 16777216);have hb1:=hb (Dv l / 65536);have hb2:=hb (Dv l / 256);have hb3:=hb (Dv l);have j:∀z:UInt8,z≠y->z.toNat≠y.toNat:=λz h e=>h (Cv.1 e)
  have m:k=0\/k=1\/k=2\/k=3:=by omega
  rcases m with rfl|rfl|rfl|rfl;all_goals
   simp[Gq,Di,-UInt8.toNat_ofNat']at hc c;have:=j _ c;omega
def Fg(n:Nat)(l:List Db):List UInt8:=zM n++l.flatMap zA
def jD(tmps:Array Value)(w:World)(a:Nat)(n fv:Value)(h2:tmps.getD 2 undef = .pointer (some ⟨a,0,none⟩))
  (c0:w.cell? ⟨a,0,none⟩=some n) (c1:w.cell? ⟨a,1,none⟩=some fv) :
  (results f42 tmps).run prog w = .ok (.tuple #[.agg #[n,fv],tmps.getD 3 undef]) w:=by
 have b:tmps[2]?.getD undef = .pointer (some ⟨a,0,none⟩):=by rw[<-h2];simp
 simp[results,results42,go_sem,b,c0,c1]
variable{w':World}
theorem Ed.shape{r:Fo}{e:Ending}(h:Ed w r e w'):∃x fa fl fc ev,e = .returned (.tuple #[.agg #[.int .u64 x,.slice fa fl fc],ev]):=by
 cases r with
 | sum=>exact⟨_,_,_,_,_,h.2⟩
 | bad a=>obtain⟨_,fa,b,_⟩:=h;exact⟨_,_,_,_,_,b⟩
 | ok n fs =>
  obtain⟨_,fv,rvs,b,ho,_⟩:=h;obtain⟨fa,fc,rfl,_⟩:=zi ho.1;exact⟨_,_,_,_,_,b⟩
variable{X:World}
theorem Ed.from{r:Fo}{e:Ending}(m:DW DX w X)(h:Ed X r e w'):Ed w r e w':=by
 refine⟨m.trans h.1,?_⟩;have hs:=m.size;cases r with
 | sum=>exact h.2
 | bad a =>
  obtain⟨_,fa,b,c,hl⟩:=h;exact⟨fa,b,c,by omega⟩
 | ok n fs =>
  obtain⟨_,fv,d,b,c,hm,h1,h2⟩:=h;exact⟨fv,d,b,c,hm,λg hg=>by have:=h1 g hg;omega,λx hx g hg=>by have:=h2 x hx g hg;omega⟩
theorem Ed.to{Y:World}{r:Fo}{e:Ending}(h:Ed w r e X)(m:DW S X Y)(f:∀i,S i->∃cs T fz,X.heap[i]?=some (.cells cs T fz)/\T≠65/\T≠214/\T≠167)(hw:∀i,S i->w.heap.size<=i):Ed w r e Y:=by
 refine⟨h.1.then m (λi hi=>.inr (hw i hi)),?_⟩;cases r with
 | sum=>exact h.2
 | bad a =>
  obtain⟨_,g,c,b,hl⟩:=h;refine⟨g,c,m.obj (λhx=>?_) b,hl⟩;obtain⟨cs,T,fz,h1,_,_,h4⟩:=f g hx;rw[h1]at b;simp at b;exact h4 b.2.1
 | ok n fs =>
  obtain⟨_,fv,d,c,b,hm,h1,h2⟩:=h;exact⟨fv,d,c,Fw.mod b m (λi hi=>.inr (by obtain⟨cs,T,fz,q1,q2,q3,_⟩:=f i hi;exact⟨cs,T,fz,q1,q2,q3⟩)),hm,h1,h2⟩
def gC(v:Value)(bs:List UInt8)(w:World)(hb:BR w v bs)(n:Fc w)(hl:bs.length<1099511627776):Calls prog 42 #[v] w (Ed w (dec bs)):=by
 have g:DW DX w (w.alloc (.cells #[.int .u64 0,.slice none 0 0] 56)):=(DW.refl _ _).alloc _;have b:(w.alloc (.cells #[.int .u64 0,.slice none 0 0] 56)).heap[w.heap.size]?=some (.cells #[.int .u64 0,.slice none 0 0] 56 (0,0)):=heap_alloc_new w _;obtain⟨W0,c⟩:=nm (w.alloc (.cells #[.int .u64 0,.slice none 0 0] 56));rw[c]at g b;have o:=Nw v bs W0 (hb.mod g (Dl.no _)) (n.mod g (λx=>x)) hl;have M0:=zb g;have HQ:=zb b;have l:=zb c;obtain⟨a,cap,rfl,_⟩:=hb;clear g b c n;go_enter func42,ntmps42;go_wp2_with fail;rw[l.z];refine o.mono ?_;intro e d j;obtain⟨x,m,fl,fc,ev,rfl⟩:=j.shape;have b:=j.1.obj (λx=>x) HQ.z;have q0:d.cell? ⟨w.heap.size,0,none⟩=some (.int .u64 0):=za b rfl;have q1:d.cell? ⟨w.heap.size,1,none⟩=some (.slice none 0 0):=za b rfl;have z0:d.frozen? ⟨w.heap.size,0,none⟩=false:=zf b;have z1:d.frozen? ⟨w.heap.size,1,none⟩=false:=zf b;have HD:=zb j;have h:=zb b;clear j o b;go_wp2_with fail;obtain⟨WF,f⟩:=nm ((d.setCell ⟨w.heap.size,0,none⟩ (.int .u64 x)).setCell ⟨w.heap.size,1,none⟩ (.slice m fl fc));rw[f];have mF:DW (λk=>k=w.heap.size) d WF:=by
  rw[<-f];exact((DW.refl (λk=>k=w.heap.size) d).setCell (p:=⟨w.heap.size,0,none⟩) (.inl rfl) _).setCell (p:=⟨w.heap.size,1,none⟩) (.inl rfl) _
 have q:WF.heap[w.heap.size]?=some (.cells #[.int .u64 x,.slice m fl fc] 56 (0,0)):=by
  rw[<-f];exact zc (zc h.z)
 refine bodyPost_ret (jD _ _ w.heap.size (.int .u64 x) (.slice m fl fc) rfl (za q rfl) (za q rfl)) rfl ?_;refine Ed.to (HD.z.from M0.z) mF (λi hi=>?_) (λi hi=>?_)
 ·have hi:=hi;subst hi;exact⟨_,_,_,h.z,by decide,by decide,by decide⟩
 ·have hi:=hi;omega
def K7(w:World)(r:Fo)(e:Ending)(w':World):Prop :=
 DW DX w w'/\match r with
 | .sum=>e = .returned (.tuple #[.agg #[.int .u64 0,.slice none 0 0],.int .i64 7,.int .i64 (-1)])
 | .bad at_=>e = .returned (.tuple #[.agg #[.int .u64 0,.slice none 0 0],.int .i64 8,.int .i64 at_])
 | .ok num fs=>∃fv rvs,e = .returned (.tuple #[.agg #[.int .u64 num,fv],.int .i64 0,.int .i64 (-1)])/\Fw w' fv rvs/\rvs.map (·.1)=fs/\(∀g,fv.ownBlock=some g->w.heap.size<=g)/\∀x∈rvs,∀g,x.2.ownBlock=some g->w.heap.size<=g
def jC(tmps:Array Value)(w:World)(a:Nat)(n fv:Value)(h2:tmps.getD 2 undef = .pointer (some ⟨a,0,none⟩))
  (c0:w.cell? ⟨a,0,none⟩=some n) (c1:w.cell? ⟨a,1,none⟩=some fv) :
  (results f23 tmps).run prog w = .ok (.tuple #[.agg #[n,fv],tmps.getD 3 undef,tmps.getD 4 undef]) w:=by
 have b:tmps[2]?.getD undef = .pointer (some ⟨a,0,none⟩):=by rw[<-h2];simp
 simp[results,results23,go_sem,b,c0,c1]
def K4(W:World)(v:Value)(wr:World):Prop:=H6 (λk=>v.ownBlock=some k) W wr
theorem gh{r:Fo}{p ev:Value}(h:Ed w r (.returned (.tuple #[p,ev])) X)(hg:Er X):∃n at_,Calls prog 43 #[ev] X (LI X n at_)/\∀w',DW DX X w'->K7 w r (.returned (.tuple #[p,.int .i64 n,.int .i64 at_])) w':=by
 cases r with
 | sum =>
  obtain⟨m,c⟩:=h;cases c;exact⟨7,-1,Oy 7 X hg,λw' b=>⟨m.trans b,rfl⟩⟩
 | bad a =>
  obtain⟨m,fa,c,d,hl⟩:=h;cases c;exact⟨8,a,Qi fa 8 a X hg (za d rfl) (za d rfl),λw' b=>⟨m.trans b,rfl⟩⟩
 | ok n fs =>
  obtain⟨m,fv,e,c,d,hm,h1,h2⟩:=h;cases c;exact⟨0,-1,PR X,λw' b=>⟨m.trans b,fv,e,rfl,Fw.mod d b (λi hi=>hi.elim),hm,h1,h2⟩⟩
theorem K7.to{Y:World}{r:Fo}{e:Ending}(h:K7 w r e X)(m:DW S X Y)(hS:∀i,S i->∃cs T fz,X.heap[i]?=some (.cells cs T fz)/\T≠65/\T≠214)(hw:∀i,S i->w.heap.size<=i):K7 w r e Y:=by
 refine⟨h.1.then m (λi hi=>.inr (hw i hi)),?_⟩;cases r with
 | sum=>exact h.2
 | bad a=>exact h.2
 | ok n fs =>
  obtain⟨_,fv,b,he,ho,hm,h1,h2⟩:=h;exact⟨fv,b,he,Fw.mod ho m (λi hi=>.inr (hS i hi)),hm,h1,h2⟩
def gB(v:Value)(bs:List UInt8)(w:World)(hb:BR w v bs)(ht:Fc w)(hg:Er w)(hl:bs.length<1099511627776):Calls prog 23 #[v] w (K7 w (dec bs)):=by
 obtain⟨u,f⟩:=nm (w.alloc (.cells #[.int .u64 0,.slice none 0 0] 56));have y:=AB f
 have oQ:=AD f
 have hs0:=AC f
 obtain⟨v1,W1,z,c,m1,Q⟩:=U9 u v bs (hb.mod y (Dl.no _)) (by omega);have k1:=gC v1 bs W1 c.br ((ht.mod y (λx=>x)).mod m1 (λx=>x)) hl;have A:=(hg.mod y (λx=>x)).mod m1 (λx=>x);obtain⟨xa,xc,rfl,hx1,R,S⟩:=zi c;unfold maxLen at R;have T:=PJ c;obtain⟨a,cap,rfl,_⟩:=hb;have U:=zb f;have HQ:=zb (m1.obj (λx=>x) oQ);have M1:=zb (y.trans m1);have V:=zb A;have B:=zb c;have hs1:=m1.size;have h1p:=zk hg;clear y oQ c m1 A ht hg f;go_enter func23,ntmps23;go_wp2_with (rw[U.z];at_builtin;refine zm rfl _ _ _ _ rfl _ _ _ rfl rfl z ?_;clear z);refine k1.mono ?_;clear k1;intro e s o;obtain⟨x,t,fl,fc,ev,rfl⟩:=o.shape;have C:=trivial;obtain⟨W2,j⟩:=nm (s.alloc (.cells #[.int .u64 x,.slice t fl fc] 56));have D:=AB j
 have oP:=AD j
 have E:=D.obj (λx=>x) (o.1.obj (λx=>x) HQ.z);have F:=(B.z.mod0 o.1).mod0 D;have G:=(V.z.mod o.1 (λx=>x)).mod D (λx=>x);have H:=(o.from M1.z).to D (λi hi=>hi.elim) (λi hi=>hi.elim);have hs2:=o.1.size;have W:=zb j;have HP:=zb oP;have X:=zb E;have m:=zb F;have I:=zb G;have Y:=zb H;clear o D oP E F G H j C;go_wp2_with fail;rw[W.z]
 go_loopw [20] (λi wr=>∃k:Nat,k<=bs.length/\i = .int .i64 k/\K4 W2 (.slice xa bs.length xc) wr) (λi _=>bs.length-(intOf i).toNat)
 case atStart=>exact⟨0,AL _,rfl,H6.refl _ _⟩
 case round =>
  obtain⟨k,hk,rfl,n⟩:=hrel;by_cases ae:k<bs.length
  ·obtain⟨g,rfl⟩:=S (by omega);obtain⟨cg,og,sg,_⟩:=VY m.z;obtain⟨⟨v0,e0⟩,z0⟩:=n.cell (b:=g) rfl og (i:=k) (by omega);have HB:=zb (n.set (b:=g) rfl k (.int .u8 33));clear n og;go_wp2_with fail;go_roundw
   case rel=>exact⟨k+1,by omega,by go_num,HB.z⟩
   case measure=>simp[intOf];omega
  ·have l:∀i,(Value.slice xa bs.length xc).ownBlock=some i->u.heap.size<=i/\i<W1.heap.size:=λi hi=>⟨Q i hi,T i hi⟩
   have J:=n.1.obj (λK=>by have:=l _ K;omega) HP.z;have L:=n.1.obj (λK=>by have:=l _ K;omega) X.z;have M:=I.z.mod n.1 (λK=>by have:=l _ K;omega);have N:=Y.z.to n.1 (λi hi=>by
    have hi:=hi;rcases m.z.2 with⟨Z,_⟩|⟨g,af,cur,Z,_,hg,_⟩
    ·rw[Z]at hi;cases hi
    ·rw[Z]at hi;have hi:g=i:=by simpa [Value.ownBlock]using hi
     subst hi;exact⟨_,_,_,hg,by decide,by decide,by decide⟩) (λi hi=>by have:=l _ hi;omega)
   obtain⟨nn,na,hc,hP⟩:=gh N M;have aa:=zb hP;have ab:=zb J;have ac:=zb L;clear n J L M N hP;go_wp2_with fail;refine hc.mono ?_;rintro e h ⟨rfl,P⟩;clear hc;have q:=P.obj (λx=>x) ab.z;have d:=P.obj (λx=>x) ac.z;have p0:h.cell? ⟨s.heap.size,0,none⟩=some (.int .u64 x):=za q rfl;have p1:h.cell? ⟨s.heap.size,1,none⟩=some (.slice t fl fc):=za q rfl;have q0:h.cell? ⟨w.heap.size,0,none⟩=some (.int .u64 0):=za d rfl;have q1:h.cell? ⟨w.heap.size,1,none⟩=some (.slice none 0 0):=za d rfl;have z0:h.frozen? ⟨w.heap.size,0,none⟩=false:=zf d;have z1:h.frozen? ⟨w.heap.size,1,none⟩=false:=zf d;have ad:=zb (aa.z h P);have O:=zb d;clear P q d;go_wp2_with fail;obtain⟨WF,r⟩:=nm ((h.setCell ⟨w.heap.size,0,none⟩ (.int .u64 x)).setCell ⟨w.heap.size,1,none⟩ (.slice t fl fc));rw[r];have mF:DW (λk=>k=w.heap.size) h WF:=by
    rw[<-r];exact((DW.refl (λk=>k=w.heap.size) h).setCell (p:=⟨w.heap.size,0,none⟩) (.inl rfl) _).setCell (p:=⟨w.heap.size,1,none⟩) (.inl rfl) _
   have oF:WF.heap[w.heap.size]?=some (.cells #[.int .u64 x,.slice t fl fc] 56 (0,0)):=by
    rw[<-r];exact zc (zc O.z)
   refine bodyPost_ret (jC _ _ w.heap.size (.int .u64 x) (.slice t fl fc) rfl (za oF rfl) (za oF rfl)) rfl ?_;refine K7.to ad.z mF (λi hi=>?_) (λi hi=>?_)
   ·have hi:=hi;subst hi;exact⟨_,_,_,O.z,by decide,by decide⟩
   ·have hi:=hi;omega
def Xk(h:De w tag nb n M W)(hk:k<n.bag.length)(z:n.bag.length<=1099511627776):Calls prog 73 #[.pointer (some ⟨nb,0,none⟩),.int .i64 k] W (λe W'=>e = .returned (.tuple #[])/\zs w tag nb W (n.drop k) W'):=by
 obtain⟨g,cap,A,B,C⟩:=Sj h.o.bg.own (by omega);have t:=h.o.bg.own;have i:=h.o.bg.tag;rw[A]at t i;have v:W.cell? ⟨nb,8,none⟩=some M.bg:=h.o.obj.cell (j:=8) rfl;rw[A]at v;have fz:=h.o.obj.fz 8;unfold maxLen at C;obtain⟨N,D⟩:=nm n.bag.length;obtain⟨v1,W1,l,o1,g1,I⟩:=PB W (.slice none 0 0) [] ((n.bag.drop 0).take k) ⟨g,0*2,none⟩ cap (World.ownsRow_nil W 0 _ 2) (Q1 t 0 k) (by simp;omega);rw[Am,Bv]at o1;rw[Bv,AS,BM (by omega),Cz]at l;have m1:=(DW.refl DX W).grown g1 (λq b=>by cases b);have d:=λq b=>(I q b).elim (λx=>by cases x) id
 have m:=m1.owns t (λ_ _ x=>x);obtain⟨E,c⟩:∃E:Addr,(if cap=k+1 then(⟨g,0,none⟩:Addr)else⟨g,(k+1)*2,none⟩)=E:=⟨_,rfl⟩;obtain⟨J,W2,f,p,g2,K⟩:=PB W1 v1 (n.bag.take k) ((n.bag.drop (k+1)).take N) E (cap-(k+1)) o1 (by
  rw[<-c];by_cases e:cap=k+1
  ·intro j u O;have:(n.bag.drop (k+1)).take N=[]:=Ah (by simp;omega);rw[this]at O;cases O
  ·rw[AH e];exact Q1 m (k+1) N) (by simp;omega)
 have P:(n.bag.drop (k+1)).take N=n.bag.drop (k+1):=AW (by simp;omega);rw[P]at p f;have Q:(n.bag.drop (k+1)).length=N-(k+1):=by rw[Ad,D]
 rw[Q]at f;have R:=(DW.refl _ W1).grown g2 (λq b=>.inl b);have y:=m1.then R (λq b=>.inr (d q b));have r:∀q,J.ownBlock=some q->q<W2.heap.size:=λq b=>by
  rcases p.2 with⟨e,_⟩|⟨q',c',cur,e,_,x,_⟩
  ·rw[e]at b;cases b
  ·rw[e]at b;cases b;exact(AI.1 x).1
 have F:AA (zs w tag nb W (n.drop k) (W2.setCell ⟨nb,8,none⟩ J)):=zb (h.bagS y (λq x=>x.elim) p (λq b=>.inr ⟨by
  rcases K q b with x|x
  ·exact d q x
  ·have:=m1.size;omega,r q b⟩))
 obtain⟨a2,c2,s,-⟩:=zi p;have G:=m1.cell (a:=⟨nb,8,none⟩) id v;have H:=y.cell (a:=⟨nb,8,none⟩) id v;have fz2:W2.frozen? ⟨nb,8,none⟩=false:=zf (y.obj (λx=>x) h.o.obj.obj);rw[D]at hk z v G H B;clear h t i A o1 p g1 g2 I K m1 R y d r m P Q D;obtain⟨L,S⟩:=nm ((n.bag.take k++n.bag.drop (k+1)).length);rw[S]at s;clear S;subst s;go_enter func73,ntmps73;by_cases hc:cap=k+1
 ·rw[AN hc]at c;subst c;go_wp2_with (at_builtin;first|(refine zm rfl _ _ _ _ rfl _ _ _ rfl rfl l ?_;clear l)|(refine zm rfl _ _ _ _ rfl _ _ _ rfl rfl f ?_;clear f))
  go_end0
  exact⟨rfl,F.z⟩
 ·rw[AH hc]at c;subst c;go_wp2_with (at_builtin;first|(refine zm rfl _ _ _ _ rfl _ _ _ rfl rfl l ?_;clear l)|(refine zm rfl _ _ _ _ rfl _ _ _ rfl rfl f ?_;clear f))
  go_end0
  exact⟨rfl,F.z⟩
variable{s:Dm}
def gW(h:De w tag nb n M W)(hI:n.Inv T)(hT:T<=Dg)(hs:s.Ok)(hk:s.kind=3):Calls prog 21 #[.pointer (some ⟨nb,0,none⟩),.agg s.cells] W (EL w tag nb W (n.reset (DZ s.side 2) (DZ s.a 8) s.b)):=by
 obtain⟨W1,sb,i,k,gx,cx,P,hsb,h1,m1,sA,C,hi,f,Q,U,V,aj,b1,⟨b2,b3⟩,b4⟩:=I4 h hs;have ak:=hs.s;rw[Q];rw[U];obtain⟨g,cap,q,ao,a1,⟨a2,a3⟩,a4,⟨a5,a6⟩,a7⟩:=h1.o.endAt (i:=i) (k:=k) hi f;obtain⟨c0,c1,c2,c3,c4⟩:=sA;rw[hk]at c0;obtain⟨ss,t⟩:=nm s.s;rw[t]at c4 ak;have y:=zb P;have eo:=h1.o.enAt (i:=i) (k:=k) hi f;have X:=(hI.e i hi k f).wl;have hb:=hs.b;have Y:∀k,k<8->((n.c i).ws k).b.length<=1099511627776/\((n.c i).ws k).high<=zB:=λk hk=>by
  have w:=(hI.c i hi).ws k hk;have:=w.len;have:=w.high;unfold zB;omega
 have hq:=zQ s.b ((n.e i k).wrote.length+1) (Nat.succ_pos _);have d:∀Wx,Calls prog 24 #[.int .i64 s.b,.int .i64 ((n.e i k).wrote.length+1:Nat)] Wx (λe w'=>e = .returned (.int .i64 (DZ s.b ((n.e i k).wrote.length+1):Int))/\Wx=w'):=λWx=>Gk s.b _ Wx hb.1 hb.2 (Nat.succ_pos _) (by omega)
 unfold NS.reset NS.resetK;obtain⟨u,Z⟩:=nm (DZ s.b ((n.e i k).wrote.length+1));rw[Z]at hq d ⊢;have D:=dY ((h1.cn i hi).mod0 ((DW.refl DX W1).drew)) ((h1.env.to (j:=i+1) (by omega)).mod0 ((DW.refl DX W1).drew)) (k:Int) (u:Int) Y;obtain⟨R,hR⟩:=nm ((n.c i).reset k u);rw[hR]at D ⊢;obtain⟨cd,c'⟩:=R;simp only at D ⊢;obtain⟨o,ho⟩:=nm (n.e i k);rw[ho]at eo X hq d ⊢;have HO:=zb ho;obtain⟨x0,-,-,-,-,-,-⟩:=eo;obtain⟨wl,E⟩:=nm o.wrote.length;have al:(zq o.wrote).size=wl:=by rw[<-E];exact zE o.wrote
 rw[E]at X hq d;obtain⟨ow,aa⟩:=nm o.wrote;rw[aa]at x0 al;obtain⟨sc,F⟩:=nm s.b;rw[F]at c3 d;have xwl:=wi ((wl:Int)+1) (by omega);have d:∀Wx,Calls prog 24 #[.int .i64 sc,.int .i64 ((wl:Int)+1)] Wx (λe w'=>e = .returned (.int .i64 u)/\Wx=w'):=d;have ab:=zb d;obtain⟨RR,G⟩:∃RR:Bool×NS,(cd==0,(n.setC i c').setE i k { o with keep:=if !o.cut||decide (u<o.keep)then u else o.keep,cut:=true })=RR:=⟨_,rfl⟩;rw[G];have ac:=zb G;clear G d Z E aa hb Y;have HN:=zb (h1.free ((DW.refl DX W1).drew) (λ_ x=>x.elim));have ad:=zb (m1.trans ((DW.refl DX W1).drew));have q0:((cd:Int)==0)=(cd==0):=F8 cd 0;unfold Dm.cells at y ⊢;rw[hk,t,F]at y ⊢;clear t F h hI h1 m1 P hs hk Q U hR ho hT;go_enter func21,ntmps21;go_upto_region 1 with fail;rw[y.z];go_upto_region 24 with(first|(go_at_call 24;refine V.mono ?_;rintro _ _ ⟨rfl,rfl⟩;clear V)|(go_at_call 24;refine aj.mono ?_;rintro _ _ ⟨rfl,rfl⟩));refine zl 10 (λw'=>w'.cell? ⟨sb,3,none⟩=some (.int .i64 sc)/\w'.cell? ⟨M.eb i k,0,none⟩=some (.string (zq ow))) (⟨c3,x0⟩) ?_;refine GI 0 ?_;iterate 8
  refine GV rfl ?_;try simp only[PS]
 refine zw 8 rfl (λK hK=>?_);go_simp;refine(ab.z _).mono ?_;rintro _ _ ⟨rfl,rfl⟩;refine hK.z _ _ ⟨c3,x0⟩ ?_;clear hK K;try simp only[PS]
 refine GI 9 ?_;refine GV rfl ?_;try simp only[PS]
 refine zn ?_;have ae:=zb D;clear D;have D:=ae.z;go_upto_region 26 with(go_at_call 39;refine D.mono ?_;rintro _ W2 ⟨rfl,hL⟩);obtain⟨tag',V',h2,old,m2⟩:=HN.z.conn hi hL;have e0:=h2.o.enAt hi f;have d4:=m2.cell (a:=⟨sb,4,none⟩) (λx=>by
  have x:(tag sb).1=i+1:=x;rw[C]at x;simp at x) c4
 have z:(n.setC i c').e i k=o:=HO.z;rw[z]at e0;obtain⟨e0,e1,e2,e3,e4,e5,ez⟩:=e0;obtain⟨S,hS⟩:=nm (n.setC i c');rw[hS]at h2 z;have I:∀{n':NS} {W':World},zs w tag' nb W2 n' W'->zs w tag nb W n' W':=λhh=>zs.from0 ad.z (zs.trans old (m2.mono (λg hg=>.inl (λx=>by rw[x]at hg;simp at hg))) hh)
 have FIN:AA (∀W',DW DX W2 W'->zs w tag nb W (n.setC i c') W'):=zb λW' m=>by rw[hS];exact I (zs.then0 h2.left m)
 have af:tag' (M.eb i k)≠(0,0):=λx=>by
  have a:=(h2.o.en i hi k f).tag;have a:tag' (M.eb i k)=_:=a;rw[x]at a;simp at a
 have v:=(h2.o.en i hi k f).obj;rw[z]at v;have l:AA (∀(e':EN) W3 W',DW (λg=>g=M.eb i k) W2 W3->W3.heap[M.eb i k]?=some (.cells (FM e') 89 (0,0))->DW DX W3 W'->zs w tag nb W ((n.setC i c').setE i k e') W'):=zb λe' W3 W' m3 ho m'=>by
  rw[hS];have N3:=h2.endS hi f e' m3 ho;exact I (zs.then0 ⟨tag',_,N3,λ_ _=>rfl,m3.mono (λg hg=>.inl (by rw[show g=M.eb i k from hg];exact af))⟩ m')
 obtain⟨eb,J⟩:=nm (M.eb i k);dsimp only at e0 e1 e2 e3 e4 e5 ez v;rw[J]at e0 e1 e2 e3 e4 e5 ez v l;try rw[J]
 have L:=zb v;clear old m2 h2 I af v HN ad hL z hS J;clear D ae ab x0 a1 a2 a3 a4 a5 a6 a7 b1 b2 b3 b4 c0 c1 c2 c3 c4 C y HO;obtain⟨ok,A⟩:=nm o.keep;obtain⟨cu,N⟩:=nm o.cut;rw[A]at e3;rw[N]at e2;have r:=ac.z;rw[A,N]at r;have O:=zb r;have am:=zb A;clear A N r ac;have ez1:=ez 2;have ez3:=ez 3;have dq:decide ((u:Int)<(ok:Int))=decide (u<ok):=DC.2 (by omega);have ah:AA (∀W2:World,W2.heap[eb]?=some (.cells (FM o) 89 (0,0))->((W2.setCell ⟨eb,3,none⟩ (.int .i64 u)).setCell ⟨eb,2,none⟩ (.bool true)).heap[eb]?=some (.cells (FM { o with keep:=u,cut:=true }) 89 (0,0))):=zb λW2 hh=>by
  rw[zc (zc hh)];rfl
 have ai:AA (∀W2:World,W2.heap[eb]?=some (.cells (FM o) 89 (0,0))->(W2.setCell ⟨eb,2,none⟩ (.bool true)).heap[eb]?=some (.cells (FM { o with keep:=ok,cut:=true }) 89 (0,0))):=zb λW2 hh=>by
  rw[<-am.z,zc hh];rfl
 have MD:AA (DW (λg=>g=eb) W2 ((W2.setCell ⟨eb,3,none⟩ (.int .i64 u)).setCell ⟨eb,2,none⟩ (.bool true))):=zb (((DW.refl (λg=>g=eb) W2).setCell (p:=⟨eb,3,none⟩) (.inl rfl) _).setCell (p:=⟨eb,2,none⟩) (.inl rfl) _);have an:AA (DW (λg=>g=eb) W2 (W2.setCell ⟨eb,2,none⟩ (.bool true))):=zb ((DW.refl (λg=>g=eb) W2).setCell (p:=⟨eb,2,none⟩) (.inl rfl) _);cases cu
 ·have r:=O.z;simp only[Bool.not_false,Bool.true_or,A5]at r;subst r;clear O;go_wp2_with fail;go_ret;exact⟨by first|rfl|simp only[q0],l.z _ _ _ MD.z (ah.z _ L.z) (DW.refl _ _)⟩
 ·by_cases B:u<ok
  ·have r:=O.z;rw[AN (by rw[Aq B];rfl)]at r;subst r;rw[Aq B]at dq;clear O;go_wp2_with fail;go_ret;exact⟨by first|rfl|simp only[q0],l.z _ _ _ MD.z (ah.z _ L.z) (DW.refl _ _)⟩
  ·have r:=O.z;rw[AH (by rw[Az B];simp)]at r;subst r;rw[Az B]at dq;clear O;go_wp2_with fail;go_ret;exact⟨by first|rfl|simp only[q0],l.z _ _ _ an.z (ai.z _ L.z) (DW.refl _ _)⟩
end
section
open Go.Proofs.Tryz
variable{P:Program}
def jI(m:Machine)(w:World)(t:Trace)(h:aloneAtReturn P m w t):leavingAtReturn P m w t:=by
 obtain⟨a,hh,he⟩:=h;refine⟨hh,⟨λg hg=>⟨0,?_⟩,a.2⟩,he⟩;have h1:(m.gs.toList.drop 1).all (λg=>g.status == .finished)=true:=a.1;rw[Cr]at h1;have:=h1 g hg;simpa [Goroutine.LeavesIn]using this
def holds_leaving{p:Pinned}{s:OpenSpec}{c:OpenClaim}(b:c.start = .entering)(a:c.stops=[])(d:c.wf s=true)(h:({ c with leaving:=false }:OpenClaim).holds p s)(hl:c.leaving=true):c.holds p s:=by
 obtain⟨h1,h2,h3,h4,h5,h6,h7,h8,f,fn,h9,e,g,i,j,k,l,n,o,q,r,u,v,x,y,z,A,B,C,k1,k2,L,D,E⟩:=h;refine⟨d,h2,h3,h4,h5,h6,h7,h8,f,fn,h9,e,g,i,j,k,l,n,o,q,r,u,v,x,y,z,A,B,C,k1,k2,L,D,λos hw hq H enc inj=>?_⟩;have hf:=E os hw hq H enc inj;unfold OpenClaim.form at hf ⊢;have e1:({ c with leaving:=false }:OpenClaim).start = .entering:=b;have e2:({ c with leaving:=false }:OpenClaim).stops=[]:=a;rw[e1,e2]at hf;rw[b,a];intro F;have hF:=hf F;have e4:c.atReturn p.checked.prog=leavingAtReturn p.checked.prog:=by unfold OpenClaim.atReturn;rw[hl]
 rw[e4];exact ReturnsInOpen.mono (atReturn:=aloneAtReturn p.checked.prog) (λm w t h=>jI m w t h) (λm h=>h) hF
def card_going(g:Looks){p:Pinned}{s:OpenSpec}{c:OpenClaim}(kinds:List LaidKind)(a:Bool)(b:Bool×String)(e:Bool)
  (hc:c.holds p s) (hw:c.wfByText s=true) (d:c.laidByTextAt g p kinds a)
  (i:c.start = .entering) (k:c.noBlocks=false/\c.again=false) (hm:p.checked.prog.mainIs=some (b.1,b.2.toList)) (hn:(!b.1&&b.2.isEmpty && !e)=false)
  (hl:∀f fn,p.checked.prog.funcNamed c.func=some f->p.checked.prog.funcs[f]?=some fn->e=p.checked.prog.looks []/\∀(j:Nat) t,fn.params[j]?=some t->p.checked.prog.wantsStandIn t=false)
  (hg:true=c.goesBy p.checked.prog) :
  Claim7.holds p (.plain s) { stood:={ row:=c,standIns:=[],harness:=b,looks:=e },kinds:=[],alts:=[],laidByText:=true,laidKinds:=kinds,laidTests:=a,laidLooks:=g,goes:=true } :=
 ⟨Claim7.tied_new_at g kinds a (Claim7.new_of_sixth hc b e i k hm (by simpa [Claim7.isSixth]using hn) hl) hw,(λD hD=>by cases hD),d,(λh=>by cases h),hg⟩
end
end Go.Proofs.YtddfdpbaiedcjaaGreatDoor
