/- A part of Urgent's proof. Conditions: none. Part 16 of 32. -/
import Derived.Test.YtddfdpbaiedcjaaGreatDoorUrg14
import Derived.Test.YtddfdpbaiedcjaaGreatDoorUrg15
set_option maxRecDepth 100000
set_option maxHeartbeats 16000000
set_option linter.all false
namespace Go.Proofs.YtddfdpbaiedcjaaGreatDoor
open Go.RowKit
def znw(l:zD):Prop:=∀i,i<l.length→znu l i=true
theorem znw.tell{l:zD}(h:znw l):zpo l:=by
 intro n h1 h2;have hl:(l.take n).length=n:=by rw[List.length_take];omega
 have hs:zav (l.take n)=true:=by
  unfold zav znv;rw[hl];simp only[Bool.and_eq_true,List.all_eq_true,List.mem_range,decide_eq_true_eq];refine⟨fun i hi=>?_,by omega⟩;have:=h i (by omega);unfold znu at this ⊢;rw[(zeI l n i hi).1,(zeI l n i hi).2];by_cases h0:i=0
  ·subst h0;simpa using this
  ·rw[(zeI l n (i-1) (by omega)).1];exact this
 have:zT (ackF (l.take n))=(zaz (ackF (l.take n))&&zbA (ackF (l.take n))&&zav (l.take n)):=rfl;rw[this,hs];rfl
theorem znw.drop{l:zD}(h:znw l)(n:Nat):znw (l.drop n):=by
 intro i hi;rw[List.length_drop]at hi;have:=h (n+i) (by omega);unfold znu at this ⊢;rw[(zbQ l n i).1,(zbQ l n i).2];by_cases h0:i=0
 ·subst h0;simp only[Bool.and_eq_true]at this;have h1:=of_decide_eq_true this.1.1;have h2:=of_decide_eq_true this.1.2;rw[Nat.add_zero]at h1 h2;simp[h1,h2]
 ·rw[(zbQ l n (i-1)).1,show n+(i-1)=n+i-1 by omega];have hz:¬n+i=0:=by omega
  simpa [hz,h0]using this
theorem zaQ.Ok.desc{s:zaQ}(h:s.Ok):znw s.rs.reverse:=by
 have a:∀i,i<s.rs.length→loAt s.rs.reverse i=loAt s.rs (s.rs.length-1-i)∧hiAt s.rs.reverse i=hiAt s.rs (s.rs.length-1-i):=fun i hi=>by
  simp[loAt,hiAt,List.getD_eq_getElem?_getD,List.getElem?_reverse hi]
 intro i hi;rw[List.length_reverse]at hi;have h1:=h.wf.1 (s.rs.length-1-i) (by omega);have h2:=h.hi (s.rs.length-1-i) (by omega);unfold znu;rw[(a i hi).1,(a i hi).2];unfold zA at h2;by_cases h0:i=0
 ·simp[h0]at h1 h2 ⊢;exact⟨h1.1,h2⟩
 ·rw[(a (i-1) (by omega)).1];have h3:=h.wf.2 (s.rs.length-1-i) (s.rs.length-1-(i-1)) (by omega) (by omega);simp only[Bool.and_eq_true,Bool.or_eq_true,decide_eq_true_eq];exact⟨⟨h1.1,h2⟩,.inr ⟨by omega,by omega⟩⟩
def ziK(c:CS)(l:zD):Nat:=(12-c.flight.length)+l.length
structure zmj(c:CS)(l:zD):Prop where
 ok:c.Ok
 mtu:64≤c.mtu
 desc:znw l
 len:l.length≤1048576
 fl:c.flight.length≤12
 next:c.next+ziK c l<zA
theorem zcl{c:CS}(h:c.Ok):c.pkDraft.Ok:=by
 have:=zs c.next;exact⟨by show(zL c.next).length≤_;omega,Nat.zero_le _,h.mtu⟩
theorem ziL{d:Drf}(hd:d.Ok)(l:zD):(zz d l).1.Ok∧(zz d l).1.room=d.room∧(l=[]→(zz d l)=(d,l))∧(l≠[]→(zz d l).2.length<l.length)∧(znw l→znw (zz d l).2)∧(zz d l).2.length≤l.length∧(zz d l).1.wants=d.wants:=by
 unfold zz;by_cases a:l=[]
 ·rw[if_pos a];exact⟨hd,rfl,fun _=>rfl,fun h=>absurd a h,id,Nat.le_refl _,rfl⟩
 ·rw[if_neg a];have c:1≤l.length:=List.length_pos_iff.2 a;have hn:=zhe d l l.length c;have e:(zem d l).2.length<l.length:=by
   show(l.drop _).length<_;rw[List.length_drop];omega
  have f:(zem d l).1.Ok∧(zem d l).1.room=d.room∧(zem d l).1.wants=d.wants:=by
   show((d.add _).getD d).Ok∧((d.add _).getD d).room=d.room∧((d.add _).getD d).wants=d.wants;cases h:d.add (ackF (l.take (zdA d l l.length)))with
   | none=>exact⟨hd,rfl,rfl⟩
   | some d' =>
    obtain⟨h1,h2,h3,_,h5,h4⟩:=Drf.add_some h;have hb:=zdX (ackF (l.take (zdA d l l.length)));have hr:=hd.room;have hs:=hd.fs;have hl2:d'.b.length=d.b.length+(zC (ackF (l.take (zdA d l l.length)))).length:=by rw[h1,List.length_append]
    exact⟨⟨by show d'.b.length≤_;omega,by show d'.fs.length≤d'.b.length;rw[h2,List.length_append,List.length_singleton];omega,by show d'.room≤_;omega⟩,h3,h5.trans (by simp[ackF])⟩
  exact⟨f.1,f.2.1,fun h=>absurd h a,fun _=>e,fun h=>h.drop _,Nat.le_of_lt e,f.2.2⟩
theorem zmj.round{c:CS}{l:zD}(h:zmj c l):(zz c.pkDraft l).1.Ok∧(c.pkFill (zz c.pkDraft l).1).1.Ok∧(c.pkFill (zz c.pkDraft l).1).2.Ok∧(c.pkFill (zz c.pkDraft l).1).1.next=c.next∧(c.pkFill (zz c.pkDraft l).1).1.now=c.now∧(c.pkFill (zz c.pkDraft l).1).1.flight=c.flight ∧
  ((c.pkFill (zz c.pkDraft l).1).2.fs≠[]→zmj ((c.pkFill (zz c.pkDraft l).1).1.pkDone (c.pkFill (zz c.pkDraft l).1).2) (zz c.pkDraft l).2∧ziK ((c.pkFill (zz c.pkDraft l).1).1.pkDone (c.pkFill (zz c.pkDraft l).1).2) (zz c.pkDraft l).2<ziK c l):=by
 obtain⟨t1,t2,k,t4,t5,t6,t7⟩:=ziL (zcl h.ok) l;have hf:(c.pkFill (zz c.pkDraft l).1).1.Ok∧(c.pkFill (zz c.pkDraft l).1).2.Ok∧((c.pkFill (zz c.pkDraft l).1).1.next=c.next∧(c.pkFill (zz c.pkDraft l).1).1.now=c.now∧(c.pkFill (zz c.pkDraft l).1).1.flight=c.flight∧(c.pkFill (zz c.pkDraft l).1).1.mtu=c.mtu) ∧
   (l=[]→(c.pkFill (zz c.pkDraft l).1).2.fs≠[]→c.flight.length<12∧(c.pkFill (zz c.pkDraft l).1).2.wants=true)∧((c.pkFill (zz c.pkDraft l).1).2.wants=true→c.flight.length<12):=by
  unfold CS.pkFill;split
  ·rename_i hlt;obtain⟨i1,i2,i3,e,i5,i6,x1,x2,x3,x4,x5,x6,x7⟩:=zgn 10 c (zz c.pkDraft l).1 (Nat.le_refl _) h.ok t1;refine⟨i1,i2,⟨x1,x2,x4,x5⟩,fun g a=>⟨hlt,?_⟩,fun _=>hlt⟩;rcases e with e|e
   ·exact e
   ·exact absurd (e.trans (by rw[k g];rfl)) a
  ·exact⟨h.ok,t1,⟨rfl,rfl,rfl,rfl⟩,fun g a=>absurd (by rw[k g];rfl) a,fun f=>by rw[show(c,(zz c.pkDraft l).1).2=(zz c.pkDraft l).1 from rfl,t7]at f;cases f⟩
 obtain⟨b,f2,⟨f3,f4,d,f6⟩,f7,f8⟩:=hf;refine⟨t1,b,f2,f3,f4,d,fun a=>?_⟩;have i:ziK ((c.pkFill (zz c.pkDraft l).1).1.pkDone (c.pkFill (zz c.pkDraft l).1).2) (zz c.pkDraft l).2<ziK c l:=by
  unfold ziK CS.pkDone;simp only;by_cases m:l=[]
  ·obtain⟨g1,g2⟩:=f7 m a;rw[if_pos g2,d,List.length_append,List.length_singleton];omega
  ·have:=t4 m;split
   ·rw[d,List.length_append,List.length_singleton];omega
   ·rw[d];omega
 have hn:=h.next;have j:=h.fl;have hm:=h.mtu;refine⟨⟨⟨b.mtu,b.win,b.tot,b.grant,b.credit,b.ws,b.rs,b.waits⟩,by show 64≤(c.pkFill _).1.mtu;omega,t5 h.desc,by have:=h.len;omega,?_,?_⟩,i⟩
 ·unfold CS.pkDone;simp only;split
  ·rename_i f;rw[d,List.length_append,List.length_singleton];have:=f8 f;omega
  ·rw[d];exact j
 ·show(c.pkFill _).1.next+1+_<zA;omega
def WS.give(x:WS)(n:Nat):WS :=
 {x with final:=if x.cut then x.final else max x.high n,keep:=if !x.cut||decide (n<x.keep)then n else x.keep,telling:=if !x.cut||decide (n<x.keep)then false else x.telling,cut:=true }
def CS.reset(c:CS)(k keep:Int):Nat×CS :=
 if c.stream k≠0 then(c.stream k,c)else(0,{ c with ws:=upd c.ws k.toNat ((c.ws k.toNat).give (min keep.toNat (c.ws k.toNat).b.length)) })
def dgF(id dl:Nat)(s:List UInt8):Frm:=⟨7,0,0,0,0,false,id,dl,s,[]⟩
def CS.datagram(c:CS)(id dl:Nat)(s:List UInt8):Nat×CS :=
 if c.closed≠0 then(12,c)else
 if zA<id∨zA<dl∨(c.anyID=true∧id≤c.lastID)then(5,c)else
 if c.mtu<s.length+40 then(6,c)else
 if c.waits.length=16 then(3,c)else
 (0,{ c with anyID:=true,lastID:=id,waits:=if c.now≤dl then c.waits++[dgF id dl s]else c.waits })
def zbI:zD→Nat→Nat→zaQ→zaQ
 | [],_,_,t=>t
 | r::l,lo,hi,t =>
  zbI l lo hi (if hi≤r.2 then(if r.1<lo then t.add r.1 (min r.2 (lo-1))else t).add (max r.1 hi) r.2 else(if r.1<lo then t.add r.1 (min r.2 (lo-1))else t))
def zaQ.without(s:zaQ)(lo hi:Nat):zaQ:=zbI s.rs lo hi ⟨[],0,s.most⟩
def zaQ.adds(t:zaQ)(l:zD):zaQ:=l.foldl (fun t r=>t.add r.1 r.2) t
def WS.again(x:WS)(f:Frm):WS :=
 {x with sent:=(x.sent.without f.off (f.off+f.data.length)).adds x.came.rs.reverse,ending:=x.ending && !f.fin }
def CS.again(c:CS)(f:Frm):CS :=
 if f.kind=4 then{ c with ws:=upd c.ws f.stream.toNat ((c.ws f.stream.toNat).again f) }
 else if f.kind=3 then{ c with ws:=upd c.ws f.stream.toNat { c.ws f.stream.toNat with telling:=(c.ws f.stream.toNat).telling && !(f.rel==(c.ws f.stream.toNat).keep) } }
 else if f.kind=5 then{ c with anew:=c.anew||f.lim==c.grant }
 else if f.kind=6 then{ c with rs:=upd c.rs f.stream.toNat { c.rs f.stream.toNat with anew:=(c.rs f.stream.toNat).anew||f.lim==(c.rs f.stream.toNat).grant } }
 else c
def CS.agains(c:CS)(fs:List Frm):CS:=fs.foldl CS.again c
def CS.late(c:CS)(p:Fly):Bool:=decide (p.at_+6≤c.now)||decide (p.n+3≤c.largest)
def CS.lose(c:CS):CS:={ (c.flight.foldl (fun c p=>if c.late p then c.agains p.fs else c) c)with flight:=c.flight.filter (fun p => !c.late p) }
def CS.tick(c:CS):CS:=({ c with now:=c.now+1,waits:=c.waits.filter (fun f => !decide (f.dl<c.now+1)) }:CS).lose
def WS.acked(x:WS)(f:Frm):WS :=
 {x with came:=x.came.add f.off (f.off+f.data.length-1),sent:=x.sent.add f.off (f.off+f.data.length-1) }
def CS.ackF(c:CS)(f:Frm):CS:=if f.kind=4∧f.data≠[]then{ c with ws:=upd c.ws f.stream.toNat ((c.ws f.stream.toNat).acked f) }else c
def zb9(l:zD)(p:Fly):Bool:=l.any fun r=>decide (r.1≤p.n)&&decide (p.n≤r.2)
def CS.ackP(c:CS)(l:zD)(p:Fly):CS:=if zb9 l p then p.fs.foldl CS.ackF c else c
def CS.acked(c:CS)(l:zD):Nat×CS :=
 if c.next≤hiAt l 0 then(11,c)
 else(0,({ (c.flight.foldl (fun c p=>c.ackP l p) { c with largest:=max c.largest (hiAt l 0) })with flight:=c.flight.filter (fun p => !zb9 l p) }:CS).lose)
def RS.resetAt(x:RS)(f:Frm):RS:={ x with keep:=if !x.cut||decide (f.rel<x.keep)then f.rel else x.keep,cut:=true,ended:=true,fin:=f.off }
def CS.resetAt(c:CS)(f:Frm):Nat×CS :=
 if ((c.rs f.stream.toNat).ended&&(c.rs f.stream.toNat).fin != f.off)||decide (f.off<(c.rs f.stream.toNat).high)then(10,c)
 else(0,{ c with rs:=upd c.rs f.stream.toNat ((c.rs f.stream.toNat).resetAt f) })
def zhg(b:List UInt8)(i:Nat)(s:List UInt8):List UInt8:=b.take i++(s++b.drop (i+s.length))
def zhh(off:Nat)(data:List UInt8)(e:Nat):Nat→Nat→List UInt8→zaQ→List UInt8×zaQ
 | 0,_,b,s=>(b,s)
 | n+1,lo,b,s =>
  if lo<e then
   if e≤(zaD s.rs lo e).1 then(b,s)
   else zhh off data e n (zaD s.rs lo e).2 (zhg b (zaD s.rs lo e).1 ((data.drop ((zaD s.rs lo e).1-off)).take ((zaD s.rs lo e).2-(zaD s.rs lo e).1))) (s.add (zaD s.rs lo e).1 ((zaD s.rs lo e).2-1))
  else(b,s)
def zmk(b:List UInt8)(n:Nat):List UInt8:=b++List.replicate (n-b.length) 0
def Frm.end_(f:Frm):Nat:=f.off+f.data.length
def RS.dataB(x:RS)(f:Frm):List UInt8×zaQ:=zhh f.off f.data f.end_ (f.data.length+1) f.off (zmk x.b (max x.high f.end_)) x.came
def RS.data(x:RS)(f:Frm):RS :=
 {x with high:=max x.high f.end_,ended:=x.ended||f.fin,fin:=if f.fin then f.end_ else x.fin,b:=(x.dataB f).1,came:=(x.dataB f).2 }
def zdB(rs:Nat→RS):Nat→Nat
 | 0=>0
 | k+1=>zdB rs k+(rs k).high
def RS.badEnd(x:RS)(f:Frm):Bool:=(x.ended&&(decide (x.fin<f.end_)||(f.fin&&f.end_ != x.fin)))||(f.fin&&decide (f.end_<x.high))
def CS.data(c:CS)(f:Frm):Nat×CS :=
 if (c.rs f.stream.toNat).badEnd f then(10,c)else
 if (c.rs f.stream.toNat).high<f.end_∧((c.rs f.stream.toNat).grant<f.end_∨c.grant<f.end_-(c.rs f.stream.toNat).high+zdB c.rs 8)then(9,c)else
 (0,{ c with rs:=upd c.rs f.stream.toNat ((c.rs f.stream.toNat).data f) })
def old(m id:Nat):Bool:=decide (32≤m)&&decide (id≤m-32)
def CS.message(c:CS)(f:Frm):CS :=
 if (c.seen.any fun p=>p.1==f.id)||decide (f.dl<c.now)||(decide (0<c.seen.length)&&old c.most f.id)then c else
 {c with most:=max c.most f.id,seen:=(c.seen++[(f.id,f.dl)]).filter (fun p => !old (max c.most f.id) p.1),came:=c.came++[(f.id,f.data)] }
def CS.take(c:CS)(f:Frm):Nat×CS :=
 if f.kind=2 then c.acked f.rngs
 else if f.kind=3 then c.resetAt f
 else if f.kind=4 then c.data f
 else if f.kind=5 then(0,{ c with credit:=max c.credit f.lim })
 else if f.kind=6 then(0,{ c with ws:=upd c.ws f.stream.toNat { c.ws f.stream.toNat with credit:=max (c.ws f.stream.toNat).credit f.lim } })
 else if f.kind=7 then(0,c.message f)
 else if f.kind=8 then(13,c)
 else(0,c)
def CS.takes:List Frm→CS→Nat×CS
 | [],c=>(0,c)
 | f::fs,c =>
  if (c.take f).1≠0 then((c.take f).1,{ (c.take f).2 with closed:=(c.take f).1,said:=(c.take f).1==13 })
  else CS.takes fs { (c.take f).2 with answer:=(c.take f).2.answer||f.kind != 2 }
def CS.receive(c:CS)(bs:List UInt8):(Nat×Int)×CS :=
 if c.closed≠0 then((12,-1),c)else
 match dec bs with
 | .sum=>((7,-1),c)
 | .bad p=>((8,(p:Int)),{ c with closed:=8 })
 | .ok n fs=>if zpE c.got.rs c.got.fl n then((0,-1),c)else
  (((CS.takes fs { c with got:=c.got.add n n }).1,-1),(CS.takes fs { c with got:=c.got.add n n }).2)
def CS.datagramsOut(c:CS):List (Nat×List UInt8)×CS:=(c.came,{ c with came:=[] })
def RS.readTo(x:RS)(most:Nat):Nat :=
 if x.cut then max x.read (min (min (zaD x.came.rs x.read x.high).1 (x.read+most)) x.keep)else min (zaD x.came.rs x.read x.high).1 (x.read+most)
def RS.stateAt(x:RS)(e:Nat):Nat:=if x.cut&&decide (x.keep≤e)then 2 else if !x.cut&&x.ended&&e==x.fin then 1 else 0
def CS.read(c:CS)(k most:Int):(List UInt8×Nat×Nat)×CS :=
 if c.stream k≠0 then(([],0,c.stream k),c)else
 if (c.rs k.toNat).state≠0 then(([],(c.rs k.toNat).state,0),c)else
 ((((c.rs k.toNat).b.drop (c.rs k.toNat).read).take ((c.rs k.toNat).readTo most.toNat-(c.rs k.toNat).read),(c.rs k.toNat).stateAt ((c.rs k.toNat).readTo most.toNat),0),
  {c with rs:=upd c.rs k.toNat { c.rs k.toNat with read:=(c.rs k.toNat).readTo most.toNat,state:=(c.rs k.toNat).stateAt ((c.rs k.toNat).readTo most.toNat) } })
def clF(a:Nat):Frm:=⟨8,0,0,0,a,false,0,0,[],[]⟩
def CS.farewell(c:CS):List (List UInt8)×CS :=
 if c.said then([],c)else
 ([zb3 ((c.pkDraft.add (clF (if c.closed=12 then 0 else c.closed))).getD c.pkDraft).b],{ c with said:=true,next:=c.next+1 })
def CS.out(c:CS):List (List UInt8)×CS:=if c.closed≠0 then c.farewell else c.packets
structure EN where
 wrote:List UInt8
 fin:Bool
 cut:Bool
 keep:Nat
 read:Nat
 state:Nat
structure SN where
 id:Nat
 dl:Nat
 data:List UInt8
 came:Bool
structure NS where
 mtu:Nat
 window:Nat
 total:Nat
 now:Nat
 c:Nat→CS
 e:Nat→Nat→EN
 g:Nat→List SN
 next:Nat→Nat
 count:Nat→Nat
 bag:List (Nat×List UInt8)
structure zcw where
 kind:Int
 side:Int
 a:Int
 b:Int
 s:List UInt8
def EN.zero:EN:=⟨[],false,false,0,0,0⟩
def NS.new(mtu window total:Nat):NS :=
 {mtu:=mtu,window:=window,total:=total,now:=0,c:=fun _=>CS.new mtu window total,e:=fun _ _=>EN.zero,g:=fun _=>[],next:=fun _=>0,count:=fun _=>0,bag:=[] }
def NS.build(mtu window total:Int):NS:=NS.new (64+pickN mtu 337) (16+pickN window 300) (16+pickN total 600)
def NS.setC(n:NS)(i:Nat)(c:CS):NS:={ n with c:=upd n.c i c }
def NS.setE(n:NS)(i k:Nat)(e:EN):NS:={ n with e:=upd n.e i (upd (n.e i) k e) }
def NS.send(n:NS)(i k:Nat)(s:List UInt8):Bool×NS :=
 if (n.e i k).fin||(n.e i k).cut then(((n.c i).send k s).1==4,n.setC i ((n.c i).send k s).2)
 else if 2048<(n.e i k).wrote.length+s.length then(((n.c i).send k s).1==3,n.setC i ((n.c i).send k s).2)
 else(((n.c i).send k s).1==0,(n.setC i ((n.c i).send k s).2).setE i k { n.e i k with wrote:=(n.e i k).wrote++s })
def NS.finish(n:NS)(i k:Nat):Bool×NS :=
 if (n.e i k).fin||(n.e i k).cut then(((n.c i).finish k).1==4,n.setC i ((n.c i).finish k).2)
 else(((n.c i).finish k).1==0,(n.setC i ((n.c i).finish k).2).setE i k { n.e i k with fin:=true })
def NS.resetK(n:NS)(i k keep:Nat):Bool×NS :=
 (((n.c i).reset k keep).1==0,(n.setC i ((n.c i).reset k keep).2).setE i k { n.e i k with keep:=if !(n.e i k).cut||decide (keep<(n.e i k).keep)then keep else(n.e i k).keep,cut:=true })
def NS.reset(n:NS)(i k:Nat)(b:Int):Bool×NS:=n.resetK i k (pickN b ((n.e i k).wrote.length+1))
def NS.datagram(n:NS)(i:Nat)(s:zcw):Bool×NS :=
 if n.mtu<s.s.length+40 then(((n.c i).datagram (n.next i) n.now s.s).1==6,n.setC i ((n.c i).datagram (n.next i) n.now s.s).2)
 else if ((n.c i).datagram (n.next i) (n.now+pickN s.a 9) s.s).1=3 then(decide (16≤(n.g i).length),n.setC i ((n.c i).datagram (n.next i) (n.now+pickN s.a 9) s.s).2)
 else if ((n.c i).datagram (n.next i) (n.now+pickN s.a 9) s.s).1≠0 then(false,n.setC i ((n.c i).datagram (n.next i) (n.now+pickN s.a 9) s.s).2)
 else(true,{ n.setC i ((n.c i).datagram (n.next i) (n.now+pickN s.a 9) s.s).2 with g:=upd n.g i (n.g i++[⟨n.next i,n.now+pickN s.a 9,s.s,false⟩]),next:=upd n.next i (n.next i+1+pickN s.b 3) })
def NS.tick(n:NS):NS:={ n with now:=n.now+1,c:=upd (upd n.c 0 (n.c 0).tick) 1 (n.c 1).tick }
def zca(now:Nat)(f:Frm):Bool:=f.kind==7&&decide (f.dl<now)
def NS.flushL(i:Nat):List (List UInt8)→NS→Bool×NS
 | [],n=>(true,n)
 | b::l,n =>
  match dec b with
  | .ok num fs =>
   if n.mtu<b.length∨num≠n.count i∨fs=[]then(false,n)
   else if fs.any (zca n.now)then(false,{ n with count:=upd n.count i (n.count i+1) })
   else NS.flushL i l { n with count:=upd n.count i (n.count i+1),bag:=n.bag++[(1-i,b)] }
  | _=>(false,n)
def NS.flush(n:NS)(i:Nat):Bool×NS:=NS.flushL i (n.c i).packets.1 (n.setC i (n.c i).packets.2)
def zbJ(now id:Nat)(data:List UInt8):List SN→Bool→Bool×List SN
 | [],r=>(r,[])
 | g::l,r =>
  if g.id=id then((zbJ now id data l (g.data==data && !g.came&&decide (now≤g.dl))).1,{ g with came:=true }::(zbJ now id data l (g.data==data && !g.came&&decide (now≤g.dl))).2)
  else((zbJ now id data l r).1,g::(zbJ now id data l r).2)
def zdY(now:Nat):List (Nat×List UInt8)→List SN→Bool×List SN
 | [],G=>(true,G)
 | m::l,G=>if (zbJ now m.1 m.2 G false).1 then zdY now l (zbJ now m.1 m.2 G false).2 else(false,(zbJ now m.1 m.2 G false).2)
def NS.came(n:NS)(i:Nat):Bool×NS :=
 ((zdY n.now (n.c i).datagramsOut.1 (n.g (1-i))).1,{ n.setC i (n.c i).datagramsOut.2 with g:=upd n.g (1-i) (zdY n.now (n.c i).datagramsOut.1 (n.g (1-i))).2 })
def NS.drop(n:NS)(k:Nat):NS:={ n with bag:=n.bag.take k++n.bag.drop (k+1) }
def NS.recv(n:NS)(i:Nat)(b:List UInt8):Nat×Bool×NS :=
 (((n.c i).receive b).1.1,(n.setC i ((n.c i).receive b).2).came i)
def zmn(b:List UInt8)(k:Nat)(x:UInt8):List UInt8:=b.take k++([b.getD k 0 ^^^ x]++b.drop (k+1))
def byOf(s:List UInt8):UInt8:=if s.getD 0 0≠0 then s.getD 0 0 else 1
def NS.carryK(n:NS)(s:zcw)(k:Nat)(f:Nat×List UInt8):Bool×NS :=
 if s.kind=7 then(((if pickN s.b 2=0 then n.drop k else n).recv f.1 f.2).1==0&&((if pickN s.b 2=0 then n.drop k else n).recv f.1 f.2).2.1,((if pickN s.b 2=0 then n.drop k else n).recv f.1 f.2).2.2)
 else if s.kind=8 then(true,n.drop k)
 else if s.kind=9 then((n.recv f.1 (zmn f.2 (pickN s.b f.2.length) (byOf s.s))).1==7&&(n.recv f.1 (zmn f.2 (pickN s.b f.2.length) (byOf s.s))).2.1,(n.recv f.1 (zmn f.2 (pickN s.b f.2.length) (byOf s.s))).2.2)
 else(true,n)
def NS.carry(n:NS)(s:zcw):Bool×NS :=
 if n.bag=[]then(true,n)else n.carryK s (pickN s.a n.bag.length) (n.bag.getD (pickN s.a n.bag.length) (0,[]))
def EN.wrong(o:EN)(most:Nat)(r:List UInt8×Nat×Nat):Bool :=
 r.2.2 != 0||decide (most<r.1.length)||decide (o.wrote.length<o.read+r.1.length)||(o.wrote.drop o.read).take r.1.length != r.1||(o.state != 0&&(r.1 != []||r.2.1 != o.state))
def EN.more(o:EN)(r:List UInt8×Nat×Nat):EN:={ o with read:=o.read+r.1.length,state:=r.2.1 }
def EN.fits(o:EN):Bool :=
 if o.state=0 then true else if o.state=1 then o.fin&&o.read==o.wrote.length else if o.state=2 then o.cut&&decide (o.keep≤o.read)else false
def NS.read(n:NS)(i k most:Nat):Bool×NS :=
 if (n.e (1-i) k).wrong most ((n.c i).read k most).1 then(false,n.setC i ((n.c i).read k most).2)
 else(((n.e (1-i) k).more ((n.c i).read k most).1).fits,(n.setC i ((n.c i).read k most).2).setE (1-i) k ((n.e (1-i) k).more ((n.c i).read k most).1))
def NS.step(n:NS)(s:zcw):Bool×NS :=
 if s.kind=1 then n.send (pickN s.side 2) (pickN s.a 8) s.s
 else if s.kind=2 then n.finish (pickN s.side 2) (pickN s.a 8)
 else if s.kind=3 then n.reset (pickN s.side 2) (pickN s.a 8) s.b
 else if s.kind=4 then n.datagram (pickN s.side 2) s
 else if s.kind=5 then n.tick.carry s
 else if s.kind=6 then n.flush (pickN s.side 2)
 else if s.kind=10 then n.read (pickN s.side 2) (pickN s.b 8) (pickN s.a 200)
 else n.carry s
def NS.recvs:List (Nat×List UInt8)→NS→Bool→Bool×NS
 | [],n,ok=>(ok,n)
 | f::l,n,ok=>NS.recvs l (n.recv f.1 f.2).2.2 (ok&&(n.recv f.1 f.2).2.1&&(n.recv f.1 f.2).1==0)
def NS.reads:List (Nat×Nat)→NS→Bool→Bool×NS
 | [],n,ok=>(ok,n)
 | p::l,n,ok=>NS.reads l (n.read p.1 p.2 4096).2 (ok&&(n.read p.1 p.2 4096).1)
def zbC:List (Nat×Nat):=(List.range 16).map fun j=>(j / 8,j % 8)
def NS.fairC(n:NS)(ok:Bool):Bool×NS:=NS.reads zbC (NS.recvs n.bag { n with bag:=[] } ok).2 (NS.recvs n.bag { n with bag:=[] } ok).1
def NS.fairB(n:NS)(ok:Bool):Bool×NS:=(n.flush 1).2.fairC (ok&&(n.flush 1).1)
def NS.fairA(n:NS)(ok:Bool):Bool×NS:=(n.flush 0).2.fairB (ok&&(n.flush 0).1)
def ziM:zcw:=⟨5,0,0,0,[]⟩
def NS.fair1(n:NS):Bool×NS:=(n.step ziM).2.fairA (n.step ziM).1
def NS.fairs:Nat→NS→Bool×NS
 | 0,n=>(true,n)
 | t+1,n=>if n.fair1.1 then NS.fairs t n.fair1.2 else(false,n.fair1.2)
def NS.fair(n:NS)(t:Nat):Bool×NS:=NS.fairs t { n with bag:=[] }
def zgo : zcw := ⟨1, 0, 3, 0, "some bytes of a stream".toUTF8.data.toList⟩
def zpp:zcw:=⟨2,0,3,0,[]⟩
def zhj:NS:=((NS.build 0 100 100).step zgo).2
def zeO:NS:=(zhj.step zpp).2
def zpq:Bool :=
 ((NS.build 0 100 100).step zgo).1&&(zhj.step zpp).1&&(zeO.fair 4).1&&((zeO.fair 4).2.e 0 3).read==22&&((zeO.fair 4).2.e 0 3).state==1
def zc1(w:World)(b:Nat)(v:Value)(s:zaQ):Prop:=w.heap[b]?=some (.cells #[v,.int .u64 (s.fl:Int),.int .i64 (s.most:Int)] 116 (0,0))∧w.ownsRow 0 214 2 v s.rs.length (zn s.rs)
theorem zc1.set{w:World}{b:Nat}{v:Value}{s:zaQ}(h:zc1 w b v s)(hl:s.rs.length≤1099511627776):zbz w b 0 v s.rs s.fl s.most :=
 ⟨za h.1 rfl,za h.1 rfl,za h.1 rfl,h.2,hl,fun j=>zd h.1⟩
theorem zc1.mod{S:Nat→Prop}{w w':World}{b:Nat}{v:Value}{s:zaQ}(h:zc1 w b v s)(m:Mod S w w')(h1:¬S b)(h2:∀g,v.ownBlock=some g→¬S g):zc1 w' b v s:=⟨m.obj h1 h.1,m.owns h.2 h2⟩
theorem zoC(s:zaQ)(b lo hi:Nat)(v:Value)(w:World)(h:zc1 w b v s)(ok:s.Ok)(a:lo≤zA)(d:hi≤zA) :
  Calls Tryz.prog 88 #[.pointer (some ⟨b,0,none⟩),.int .u64 (lo:Int),.int .u64 (hi:Int)] w fun e w'=>e = .returned (.tuple #[])∧∃v',zc1 w' b v' (s.add lo hi)∧Mod (fun k=>k=b∨v.ownBlock=some k) w w'∧zaG w v v':=by
 have hm:=ok.most;have hrl:=ok.rl;have f:v.ownBlock≠some b:=fun e=>by
  rcases h.2.2 with⟨rfl,_⟩|⟨g,c,cur,rfl,_,hg,_⟩
  ·simp[Value.ownBlock]at e
  ·simp[Value.ownBlock]at e;subst e;rw[h.1]at hg;simp at hg
 have i:=ok.fl;unfold zA at a d i;refine(zcj s b 0 lo hi v w (h.set (by omega)) ok.wf (by omega) (by omega) (by omega) f hm.1 (by omega)).mono ?_;rintro e w' ⟨v',rfl,h1,h2,h3,h4⟩;refine⟨rfl,v',⟨?_,h1⟩,h3,h4⟩;rw[h2,zc (zc h.1)];simp only[List.setIfInBounds_toArray,List.set_cons_zero,List.set_cons_succ];have:(s.add lo hi).most=s.most:=by
  unfold zaQ.add;split
  ·rfl
  ·split<;>rfl
 rw[this]
def zpr(w:World)(t:zaQ)(e:Ending)(w':World):Prop :=
 ∃v,e = .returned (.agg #[v,.int .u64 (t.fl:Int),.int .i64 (t.most:Int)])∧w'.ownsRow 0 214 2 v t.rs.length (zn t.rs)∧(∀g,v.ownBlock=some g→w.heap.size≤g)∧Mod NoB w w'
theorem zdd:∀(l:zD) (lo hi:Nat) (t:zaQ),(∀r∈l,r.2≤zA)→t.Ok→(zbI l lo hi t).Ok
 | [],_,_,_,_,h=>h
 | r::l,lo,hi,t,hl,h=>by
  have a:=hl r List.mem_cons_self;have b:min r.2 (lo-1)≤zA:=Nat.le_trans (Nat.min_le_left _ _) a;unfold zbI;refine zdd l lo hi _ (fun r a=>hl r (List.mem_cons_of_mem _ a)) ?_;split
  ·split
   ·exact(h.add _ b).add _ a
   ·exact h.add _ a
  ·split
   ·exact h.add _ b
   ·exact h
theorem zbq(most:Nat)(h:1≤most∧most≤1099511627776):(⟨[],0,most⟩:zaQ).Ok :=
 ⟨⟨fun i hi=>absurd hi (Nat.not_lt_zero i),fun i j _ a=>absurd a (Nat.not_lt_zero j)⟩,fun j a=>absurd a (Nat.not_lt_zero j),Nat.zero_le _,h,Nat.zero_le _⟩
theorem ziP(tmps:Array Value)(w:World)(a:Nat)(x y z:Value)(h2:tmps.getD 6 undef = .pointer (some ⟨a,0,none⟩))(c0:w.cell? ⟨a,0,none⟩=some x)(c1:w.cell? ⟨a,1,none⟩=some y)(c2:w.cell? ⟨a,2,none⟩=some z) :
  (results Tryz.f140 tmps).run Tryz.prog w = .ok (.agg #[x,y,z]) w:=by
 have b:tmps[6]?.getD undef = .pointer (some ⟨a,0,none⟩):=by rw[←h2];simp
 simp[results,Tryz.results140,go_sem,b,c0,c1,c2]
def WoJ(w:World)(rb tb b p q:Nat)(t:zaQ)(a:World):Prop :=
 ∃v,zc1 a tb v t∧t.Ok∧Mod NoB w a∧(∀g,v.ownBlock=some g→rb+2≤g∧g≠b)∧a.heap[rb]?=some (.cells #[.slice none 0 0,.int .u64 0,.int .i64 0] 116 (0,0))∧a.heap[b]?=some (.cells #[.int .u64 (p:Int),.int .u64 (q:Int)] 214 (0,0))∧w.heap.size=rb∧tb=rb+1∧rb+2≤b
theorem WoJ.calls{w:World}{rb tb f p q:Nat}{t:zaQ}{b:World}(h:WoJ w rb tb f p q t b){lo hi:Nat}(c:lo≤zA)(a:hi≤zA) :
  Calls Tryz.prog 88 #[.pointer (some ⟨tb,0,none⟩),.int .u64 (lo:Int),.int .u64 (hi:Int)] b fun e w'=>e = .returned (.tuple #[])∧WoJ w rb tb f p q (t.add lo hi) w':=by
 obtain⟨v,h1,h2,h3,h4,h5,i,h7,h8,h9⟩:=h;refine(zoC t tb lo hi v b h1 h2 c a).mono ?_;rintro e w' ⟨rfl,v',k1,d,k3⟩;have hx:=(Array.getElem?_eq_some_iff.1 i).1;refine⟨rfl,v',k1,h2.add lo a,h3.then d (fun g hg=>.inr ?_),fun g hg=>?_,d.obj (fun x=>?_) h5,d.obj (fun x=>?_) i,h7,h8,h9⟩
 ·rcases hg with hg|hg
  ·omega
  ·have:=h4 g hg;omega
 ·rcases k3 g hg with y|y
  ·exact h4 g y
  ·omega
 ·rcases x with x|x
  ·omega
  ·have:=h4 _ x;omega
 ·rcases x with x|x
  ·omega
  ·exact(h4 _ x).2 rfl
theorem WoJ.two{w:World}{rb tb a p q:Nat}{t:zaQ}{b:World}(h:WoJ w rb tb a p q t b):b.cell? ⟨a,0,none⟩=some (.int .u64 (p:Int))∧b.cell? ⟨a,1,none⟩=some (.int .u64 (q:Int)):=by
 obtain⟨v,h1,h2,h3,h4,h5,c,h7,h8,h9⟩:=h;exact⟨za c rfl,za c rfl⟩
theorem ziQ(s:zaQ)(b o lo hi:Nat)(v:Value)(w:World)(h:zbz w b o v s.rs s.fl s.most)(ok:s.Ok)(ab:lo≤zA)(ac:hi≤zA) :
  Calls Tryz.prog 140 #[.pointer (some ⟨b,o,none⟩),.int .u64 (lo:Int),.int .u64 (hi:Int)] w (zpr w (s.without lo hi)):=by
 obtain⟨a,cap,rfl,q1,q2,q3⟩:=zj h.own;have c0:=h.cl;have c2:w.cell? ⟨b,o+2,none⟩=some (.int .i64 (s.most:Int)):=h.cm;obtain⟨N,hN⟩:=nm s.rs.length;obtain⟨R,hR⟩:=nm (s.without lo hi);rw[hR];have G:=zb h.own;have HA:Hid (∀k,k<N→∃g,a=some ⟨g,0,none⟩):=zb (fun k hk=>q3 (by omega));have f:Hid (zbI s.rs lo hi ⟨[],0,s.most⟩=R):=zb hR;have U:=zb ok;have hNb:N≤1099511627776:=by rw[←hN];exact h.len
 have hS:=zbq s.most ok.most;have HS:=zb hS;obtain⟨M,hM⟩:=nm s.most;rw[hM]at c2 HS f;rw[hN]at c0 G;have HN:=zb hN;have HM:=zb hM;unfold maxLen at q2;unfold zA at ab ac;clear h ok hR hS q3 hN hM;go_enter Tryz.func140,Tryz.ntmps140;go_upto_region 1 with fail;obtain⟨W1,i⟩:=nm (w.alloc (.cells #[.slice none 0 0,.int .u64 0,.int .i64 0] 116));have m1:Mod NoB w W1:=by rw[←i];exact(Mod.refl _ _).alloc _
 have s1:W1.heap.size=w.heap.size+1:=by rw[←i];simp
 have r1:W1.heap[w.heap.size]?=some (.cells #[.slice none 0 0,.int .u64 0,.int .i64 0] 116 (0,0)):=by rw[←i];exact heap_alloc_new w _
 rw[i];have ad:=m1.cell (a:=⟨b,_,none⟩) (fun x=>x) c2;have V:=m1.cell (a:=⟨b,_,none⟩) (fun x=>x) c0;clear c0 c2 i;go_upto_region 2 with fail;obtain⟨W2,j⟩:=nm (W1.alloc (.cells #[.slice none 0 0,.int .u64 0,.int .i64 (M:Int)] 116));have m2:Mod NoB W1 W2:=by rw[←j];exact(Mod.refl _ _).alloc _
 have s2:W2.heap.size=w.heap.size+2:=by rw[←j];simp;omega
 have B:zc1 W2 W1.heap.size (.slice none 0 0) ⟨[],0,M⟩:=by rw[←j];exact⟨heap_alloc_new W1 _,World.ownsRow_nil _ 0 _ 2⟩
 have r2:=m2.obj (fun x=>x) r1;rw[j];have c0:=m2.cell (a:=⟨b,_,none⟩) (fun x=>x) V;have M2:=zb (m1.trans m2);obtain⟨tb,W⟩:=nm (w.heap.size+1);rw[s1]at B;rw[W]at B ⊢;have l:tb=w.heap.size+1:=by omega
 obtain⟨rb,H⟩:=nm w.heap.size;rw[H]at r2 l s2 ⊢;have I:=zb H;clear ad V j m1 m2 r1 s1 W H;go_wp2_with fail;have T2:=zb B;have R2:=zb r2;have C0:=zb c0;have X:=zb (And.intro l s2);clear c0 B r2 l s2
 go_loopw [20] (fun iv wr=>∃(k:Nat) (v:Value) (t:zaQ),k≤N∧iv = .int .i64 (k:Int)∧Hid (zc1 wr tb v t∧t.Ok∧zbI (s.rs.drop k) lo hi t=R)∧Hid (Mod NoB w wr∧rb+2≤wr.heap.size∧(∀g,v.ownBlock=some g→rb+2≤g)∧wr.heap[rb]?=some (.cells #[.slice none 0 0,.int .u64 0,.int .i64 0] 116 (0,0)))) (fun iv _=>N-(intOf iv).toNat)
 case atStart=>exact⟨0,.slice none 0 0,⟨[],0,M⟩,Nat.zero_le _,rfl,zb ⟨T2.out,HS.out,f.out⟩,zb ⟨M2.out,by rw[X.out.2];omega,fun g hg=>by simp[Value.ownBlock]at hg,R2.out⟩⟩
 case round =>
  clear T2 R2 C0 f;obtain⟨k,v,t,hk,rfl,m,c⟩:=hrel;by_cases Y:k<N
  ·obtain⟨g,rfl⟩:=HA.out k Y;have r:k<s.rs.length:=by rw[HN.out];exact Y
   obtain⟨x1,x2⟩:=zaI (rs:=s.rs) (n:=N) (cap:=cap) (g:=g) (by rw[HN.out];exact G.out) k r;have x1:=c.out.1.cell (a:=⟨g,_,none⟩) (fun x=>x) x1;have x2:=c.out.1.cell (a:=⟨g,_,none⟩) (fun x=>x) x2;have u:=U.out.hi k r;have Z:=U.out.wf.1 k r;have Q:Hid (zbI (s.rs.drop (k+1)) lo hi (if hi≤hiAt s.rs k then(if loAt s.rs k<lo then t.add (loAt s.rs k) (min (hiAt s.rs k) (lo-1))else t).add (max (loAt s.rs k) hi) (hiAt s.rs k)else(if loAt s.rs k<lo then t.add (loAt s.rs k) (min (hiAt s.rs k) (lo-1))else t))=R):=by
    have h1:=m.out.2.2;rw[zl1 r]at h1;exact h1
   obtain⟨p,d⟩:=nm (loAt s.rs k);obtain⟨q,hq⟩:=nm (hiAt s.rs k);rw[d]at x1 Q Z;rw[hq]at x2 Q u Z;unfold zA at u;clear d hq r;go_upto_region 5 with fail;obtain⟨W4,C⟩:=nm (wr.alloc (.cells #[.int .u64 (p:Int),.int .u64 (q:Int)] 214));obtain⟨J,D⟩:=nm wr.heap.size;have J4:Hid (WoJ w rb tb J p q t W4):=by
    have m4:Mod NoB wr W4:=by rw[←C];exact(Mod.refl _ _).alloc _
    refine zb ⟨v,m.out.1.mod m4 (fun x=>x) (fun _ _ x=>x),m.out.2.1,c.out.1.trans m4,fun g hg=>⟨c.out.2.2.1 g hg,fun e=>?_⟩,m4.obj (fun x=>x) c.out.2.2.2,?_,I.out,X.out.1,?_⟩
    ·have:=zE m.out.1.2 g hg;omega
    ·rw[←C,←D];exact heap_alloc_new wr _
    ·rw[←D];exact c.out.2.1
   rw[C,D];obtain⟨y0,y1⟩:=J4.out.two;obtain⟨t1,K⟩:=nm ((if p<lo then t.add p (min q (lo-1))else t));rw[K]at Q;have E:=zb K;obtain⟨B,L⟩:=nm ((if hi≤q then t1.add (max p hi) q else t1));rw[L]at Q;have F:=zb L;clear m c C D K L x1 x2;go_upto_if 27 with fail
   go_cut [] (fun wx=>Hid (WoJ w rb tb J p q t1 wx))
   case first =>
    by_cases d:p<lo
    ·have d1:(p:Int)<lo:=by omega
     have y:t.add p (min q (lo-1))=t1:=by
      have:=E.out;rw[if_pos d]at this;exact this
     have kq:q≤lo-1→Calls Tryz.prog 88 #[.pointer (some ⟨tb,0,none⟩),.int .u64 (p:Int),.int .u64 (q:Int)] W4 fun e w'=>e = .returned (.tuple #[])∧WoJ w rb tb J p q t1 w':=fun h=>by
      have k:=J4.out.calls (lo:=p) (hi:=q) (by unfold zA;omega) u;rw[←y,Nat.min_eq_left h];exact k
     have kl:lo-1≤q→Calls Tryz.prog 88 #[.pointer (some ⟨tb,0,none⟩),.int .u64 (p:Int),.int .u64 ((lo:Int)-1)] W4 fun e w'=>e = .returned (.tuple #[])∧WoJ w rb tb J p q t1 w':=fun h=>by
      have k:=J4.out.calls (lo:=p) (hi:=lo-1) (by unfold zA;omega) (by unfold zA;omega);rw[←y,Nat.min_eq_right h];rw[show((lo-1:Nat):Int)=(lo:Int)-1 by omega]at k;exact k
     have KQ:=zb kq;have KL:=zb kl;have yw:IntKind.u64.wrap ((lo:Int)-1)=(lo:Int)-1:=by rw[IntKind.wrap_u64];omega
     clear d y kq kl E;go_wp2_with (go_at_call 88;first|(have z:=KQ.out (by omega);with_reducible refine z.mono ?_;clear z;rintro e w5 ⟨rfl,O⟩;have P:=zb O)|(have z:=KL.out (by omega);with_reducible refine z.mono ?_;clear z;rintro e w5 ⟨rfl,O⟩;have P:=zb O));all_goals go_meet
     all_goals exact P
    ·have d1:¬(p:Int)<lo:=by omega
     have y:t=t1:=by
      have:=E.out;rw[if_neg d]at this;exact this
     subst y;clear d E;go_wp2_with fail;go_meet;exact J4
   case rest =>
   have P:Hid (WoJ w rb tb J p q t1 wc):=hcut;clear J4 y0 y1;obtain⟨y0,y1⟩:=P.out.two;clear hcut;by_cases d:hi≤q
   ·have d1:(hi:Int)≤q:=by omega
    have y:t1.add (max p hi) q=B:=by
     have:=F.out;rw[if_pos d]at this;exact this
    have kq:p≤hi→Calls Tryz.prog 88 #[.pointer (some ⟨tb,0,none⟩),.int .u64 (hi:Int),.int .u64 (q:Int)] wc fun e w'=>e = .returned (.tuple #[])∧WoJ w rb tb J p q B w':=fun h=>by
     have k:=P.out.calls (lo:=hi) (hi:=q) (by unfold zA;omega) u;rw[←y,Nat.max_eq_right h];exact k
    have kl:hi≤p→Calls Tryz.prog 88 #[.pointer (some ⟨tb,0,none⟩),.int .u64 (p:Int),.int .u64 (q:Int)] wc fun e w'=>e = .returned (.tuple #[])∧WoJ w rb tb J p q B w':=fun h=>by
     have k:=P.out.calls (lo:=p) (hi:=q) (by unfold zA;omega) u;rw[←y,Nat.max_eq_left h];exact k
    have KQ:=zb kq;have KL:=zb kl;clear d y kq kl F;go_wp2_with (go_at_call 88;first|(have z:=KQ.out (by omega);with_reducible refine z.mono ?_;clear z;rintro e w5 ⟨rfl,O⟩;have J6:=zb O)|(have z:=KL.out (by omega);with_reducible refine z.mono ?_;clear z;rintro e w5 ⟨rfl,O⟩;have J6:=zb O));all_goals
     go_roundw
     case rel =>
      obtain⟨v6,h1,h2,h3,h4,h5,h6,h7,h8,h9⟩:=J6.out;have:=(Array.getElem?_eq_some_iff.1 h6).1;exact⟨k+1,v6,B,by omega,by go_num,zb ⟨h1,h2,Q.out⟩,zb ⟨h3,by omega,fun g hg=>(h4 g hg).1,h5⟩⟩
     case measure=>simp[intOf];omega
   ·have d1:¬(hi:Int)≤q:=by omega
    have y:t1=B:=by
     have:=F.out;rw[if_neg d]at this;exact this
    subst y;have J6:=P;clear d F;go_wp2_with fail;go_roundw
    case rel =>
     obtain⟨v6,h1,h2,h3,h4,h5,h6,h7,h8,h9⟩:=J6.out;have:=(Array.getElem?_eq_some_iff.1 h6).1;exact⟨k+1,v6,t1,by omega,by go_num,zb ⟨h1,h2,Q.out⟩,zb ⟨h3,by omega,fun g hg=>(h4 g hg).1,h5⟩⟩
    case measure=>simp[intOf];omega
  ·have ae:s.rs.length≤k:=by rw[HN.out];omega
   have af:t=R:=by
    have h1:=m.out.2.2;rw[List.drop_eq_nil_of_le ae]at h1;exact h1
   subst af;obtain⟨g0,g1,g2⟩:wr.cell? ⟨tb,0,none⟩=some v∧wr.cell? ⟨tb,1,none⟩=some (.int .u64 (t.fl:Int))∧wr.cell? ⟨tb,2,none⟩=some (.int .i64 (t.most:Int)):=⟨za m.out.1.1 rfl,za m.out.1.1 rfl,za m.out.1.1 rfl⟩;obtain⟨f0,f1,f2⟩:wr.cell? ⟨rb,0,none⟩=some (.slice none 0 0)∧wr.cell? ⟨rb,1,none⟩=some (.int .u64 0)∧wr.cell? ⟨rb,2,none⟩=some (.int .i64 0):=⟨za c.out.2.2.2 rfl,za c.out.2.2.2 rfl,za c.out.2.2.2 rfl⟩;have fz:∀p,wr.frozen? ⟨rb,p,none⟩=false:=fun p=>zd c.out.2.2.2
   obtain⟨S,T,aa,_⟩:=zj m.out.1.2;have ah:Hid (zpr w t (.returned (.agg #[.slice S t.rs.length T,.int .u64 (t.fl:Int),.int .i64 (t.most:Int)])) (((wr.setCell ⟨rb,0,none⟩ (.slice S t.rs.length T)).setCell ⟨rb,1,none⟩ (.int .u64 (t.fl:Int))).setCell ⟨rb,2,none⟩ (.int .i64 (t.most:Int)))):=by
    have m3:Mod (fun g=>g=rb) wr (((wr.setCell ⟨rb,0,none⟩ (.slice S t.rs.length T)).setCell ⟨rb,1,none⟩ (.int .u64 (t.fl:Int))).setCell ⟨rb,2,none⟩ (.int .i64 (t.most:Int))):=(((Mod.refl (fun g=>g=rb) wr).setCell (p:=⟨rb,0,none⟩) (.inl rfl) _).setCell (p:=⟨rb,1,none⟩) (.inl rfl) _).setCell (p:=⟨rb,2,none⟩) (.inl rfl) _;refine zb ⟨_,rfl,?_,fun g hg=>?_,c.out.1.then m3 (fun g hg=>.inr (by rw[I.out,show g=rb from hg];exact Nat.le_refl _))⟩
    ·have ho:=m3.owns m.out.1.2 (fun g hg x=>by
      have:=c.out.2.2.1 g hg;have x:g=rb:=x;omega)
     rw[aa]at ho;exact ho
    ·rw[←aa]at hg;have:=c.out.2.2.1 g hg;have:=I.out;omega
   have A:Hid ((((wr.setCell ⟨rb,0,none⟩ (.slice S t.rs.length T)).setCell ⟨rb,1,none⟩ (.int .u64 (t.fl:Int))).setCell ⟨rb,2,none⟩ (.int .i64 (t.most:Int))).heap[rb]?=some (.cells #[.slice S t.rs.length T,.int .u64 (t.fl:Int),.int .i64 (t.most:Int)] 116 (0,0))):=by
    refine zb ?_;rw[zc (zc (zc c.out.2.2.2))];rfl
   go_wp2_with fail
   (try simp only[Exit.inBlock,Exit.then])
   refine bodyPost_ret (ziP _ _ rb (.slice S t.rs.length T) (.int .u64 (t.fl:Int)) (.int .i64 (t.most:Int)) rfl (za A.out rfl) (za A.out rfl) (za A.out rfl)) rfl ah.out
theorem zg.storeW2{tag:Nat→Nat×Nat}{i b:Nat}{c:CS}{V:CV}{W:World}{k:Nat}{y:WS}(h:zg tag i b { c with ws:=upd c.ws k y } V W)(hk:k<8)(j:Nat)(hj:j<15)(v:Value)(x:WS)(hx:zbn x (V.wb k) (V.ws k) (V.wc k)=(zbn y (V.wb k) (V.ws k) (V.wc k)).set j v)(h1:x.b=y.b)(h2:x.sent.rs=y.sent.rs)(h3:x.came.rs=y.came.rs) :
  zg tag i b { c with ws:=upd c.ws k x } V (W.setCell ⟨b,9+15*k+j,none⟩ v):=by
 have:=h.storeW hk j hj v x (by simp only[zf];exact hx) (by simp only[zf];exact h1) (by simp only[zf];exact h2) (by simp only[zf];exact h3);simp only[zdb]at this;exact this
theorem zg.storeR2{tag:Nat→Nat×Nat}{i b:Nat}{c:CS}{V:CV}{W:World}{k:Nat}{y:RS}(h:zg tag i b { c with rs:=upd c.rs k y } V W)(hk:k<8)(j:Nat)(hj:j<13)(v:Value)(x:RS)(hx:zbO x (V.rb k) (V.rc k)=(zbO y (V.rb k) (V.rc k)).set j v)(h1:x.b=y.b)(h3:x.came.rs=y.came.rs) :
  zg tag i b { c with rs:=upd c.rs k x } V (W.setCell ⟨b,129+13*k+j,none⟩ v):=by
 have:=h.storeR hk j hj v x (by simp only[zf];exact hx) (by simp only[zf];exact h1) (by simp only[zf];exact h3);simp only[zdb]at this;exact this
end Go.Proofs.YtddfdpbaiedcjaaGreatDoor
