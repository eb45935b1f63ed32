import Derived.Test.YtkghpdcloaiflaaGreatDoorE32
import Derived.Recover
set_option maxHeartbeats 8000000
set_option maxRecDepth 100000
namespace Go.Proofs.YtkghpdcloaiflaaGreatDoor
open _root_.Go.Proofs.Tryz
section
open Go.RowKit
attribute [local go_sem] auv
theorem eR.other {c:qu}{rd:Rd}{pool:Pl}{b:jg}{iv sv nv:Value}{L:List az}{F S:Nat->Prop}{w w':World}(h:eR c rd pool b iv sv nv L F w)(m:ah S w w')(hS:∀ g,S g->¬ F g/\g≠c.nb/\g≠c.pb/\g≠c.pm/\g≠c.v):eR c rd pool b iv sv nv L F w':=
 ⟨h.vol.same (m.on fun g hg hs=>(hS g hs).1 hg) m.size,h.pool.mod m (fun hs=>(hS _ hs).2.2.1 rfl),ab m h.box (fun hs=>(hS _ hs).2.1 rfl),h.map.mod m (fun hs=>(hS _ hs).2.2.2.1 rfl),ab m h.own (fun hs=>(hS _ hs).2.2.2.2 rfl),h.fv,h.fn,h.fp,h.fm⟩
theorem gx.fresh {c:qu}{F F1 S:Nat->Prop}{w w1 w2:World}(h:gx c F F1 w w1)(m:ah S w1 w2)(hS:∀ g,S g->w.heap.size<=g):gx c F F1 w w2:=⟨h.foot,h.mod.trans m fun g hl hs=>by have:=hS g hs;omega⟩
theorem xM {w:World}{base n sz g mb:Nat}{t:TypeId}{v:Value}{xs:List Value}(h:w.ownsRow base t sz v n xs)(hg:v.ownBlock=some g){l:List (Int×fP)}(hm:xL w mb l):g≠mb:=by
 rcases h.2 with⟨rfl,_⟩|⟨k,cap,dz,rfl,hb,hk,_⟩
 ·cases hg
 ·have e:k=g:=by simpa[Value.ownBlock]using hg
  subst e;obtain⟨es,clock,hm,_⟩:=hm;rintro rfl;rw[hm]at hk
  cases hk
structure WW (c:qu)(was:List fC)(old:fP)(nodes:List Nt)(ivo nv:Value)(F:Nat->Prop)(w:World):Prop where
 c10:c.cv[10]?=some ivo
 c2:c.cv[2]?=some (.int .i64 old.root)
 c3:c.cv[3]?=some (.int .i64 old.size)
 was:dU jF 5 128 w 0 ivo was
 nodes:dU gG 4 221 w 0 nv nodes
 fwas:∀ g,ivo.ownBlock=some g->¬ F g/\g≠c.nb/\g≠c.pb/\g≠c.pm
 fnodes:∀ g,nv.ownBlock=some g->¬ F g/\g≠c.nb/\g≠c.pb/\g≠c.pm
theorem Iv {was:List fC}{x:Nt}{r:List Nt}{sk s:az}{tk tb t1:gK}{bl:fP}{rest:List fC}{set:az}(e1:dI tk (ec was x.num) x.data=.ok (bl,tb))(e2:dL tb.rd sk bl=.ok s)(h:mF was (x::r) sk tk=.ok (rest,set,t1)):
  ∃ AJ,mF was r s tb=.ok (AJ,set,t1)/\rest=⟨x.num,x.dir,x.links,bl⟩::AJ:=by
 rw[mF,e1]at h;simp only at h;rw[e2]at h;simp only at h
 cases hr:mF was r s tb with
 |error e=>rw[hr]at h;cases h
 |ok o=>
  rw[hr]at h;simp only[Except.map]at h;injection h with h;injection h with h1 h2;exact⟨o.1,by rw[show o=(o.1,o.2)from rfl,h2],h1.symm⟩
theorem QT:(prog.info? 128).map (fun i=>(i.zero,i.size,i.bytes))=some (some (.agg #[.int .i64 0,.bool false,.int .i64 0,.int .i64 0,.int .i64 0]),5,40):=by kernel_rfl
theorem QU {c:qu}(hc:c.Ok){rd:Rd}{pool:Pl}{b:jg}{sv nv ivo:Value}{L:List az}{F:Nat->Prop}{w:World}(h:eR c rd pool b (.slice none 0 0) sv nv L F w){was:List fC}{old:fP}{nodes:List Nt}(hm:WW c was old nodes ivo nv F w)(mW:pool.blocks=c.n)
  (Xf:was.length<=100) (yy:nodes.length<=60) (hwn:∀ y∈was,0<=y.num/\y.num<=65535) (hnn:∀ x∈nodes,0<=x.num/\x.num<=65535)
  {inos:List fC} {set set1:az} {t1 t2:gK} {table:fP} (RZ:∃ bh U mU,qY was bh U mU nodes ⟨rd,pool⟩) (e1:mF was nodes [] ⟨rd,pool⟩=.ok (inos,set,t1)) (sK:qQ inos=true) (IU:inos.length<=60/\(j9 inos).length<=722)
  (old2:∃ bh S,aR t1.rd bh old S) (e2:dI t1 old (j9 inos)=.ok (table,t2)) (new2:∃ S,aR t2.rd (j9 inos) table S) (e3:dL t2.rd set table=.ok set1):
  Calls prog 130 #[aq c.v,aq c.nb,aq c.pb] w fun e w'=>e=.returned (aC set1)/\∃ F' Ov,eR c t2.rd t2.pool { b with table:=table } Ov sv nv L F' w'/\gx c F F' w w'/\dU jF 5 128 w' w.heap.size Ov inos/\(∀ g,Ov.ownBlock=some g->¬ F' g):=by
 have Ju:=@run_makeMap prog;have HC:=hd0 hc;have H0:=hd0 h;have HM:=hd0 hm;have Cf:=hd0 mW;have aiv:=hd0 RZ;have E1:=hd0 e1;have HIN:=hd0 sK;have HIL:=hd0 IU;have O2:=hd0 old2;have E2:=hd0 e2;have N2:=hd0 new2;have E3:=hd0 e3;have HWL:=hd0 Xf;have HWN:=hd0 hwn;have HNN:=hd0 hnn;have HNL:=hd0 yy;have dE:af w (w.alloc (.map #[] 0)):=(ah.refl _ w).alloc _;have nU:Hid (xL (w.alloc (.map #[] 0)) w.heap.size []):=hd0 (fy.made w);obtain⟨mb,ze⟩:∃ mb,w.heap.size=mb:=⟨_,rfl⟩
 have Hmb:=hd0 ze;have dO:=hd0 dE;have H1:=hd0 (h.keep dE);obtain⟨a,cap,ev,hx⟩:=bZ xA hm.was;subst ev;have HX:=hd0 hx;have v10:(w.alloc (.map #[] 0)).cell? ⟨c.v,10,none⟩=some (.slice a was.length cap):=by rw[aa (h.keep dE).own 10];exact hm.c10
 have hwi:(was.length:Int)<=100:=by omega
 clear hc h hm mW RZ e1 sK IU old2 e2 new2 e3 dE hx hwn hnn yy;rw[ze]at nU;go_enter func130,ntmps130;go_wp2_with fail
 try rw[ze]
 generalize w.alloc (.map #[] 0)=W at*
 go_loopw [23] (fun i wr=>∃ k:Nat,k<=was.length/\i=.int .i64 (k:Int)/\Hid (xL wr mb (sC (was.take k)))/\Hid (af w wr)) (fun i _=>was.length-(intOf i).toNat)
 case atStart=>exact⟨0,by omega,rfl,nU,dO⟩
 case round=>
  clear nU dO H1 v10;obtain⟨k,hk,rfl,HB,HK⟩:=hrel;by_cases aL:k<was.length
  ·have dN:(k:Int)<(was.length:Int):=by omega
   obtain⟨y,hy⟩:∃ y,was[k]?=some y:=⟨_,auB aL⟩
   obtain⟨rb,o,rfl,hc⟩:=HX.out k y hy;have c0:wr.cell? ⟨rb,o+k*5,none⟩=some (.int .i64 y.num):=by have h:=hc 0 _ rfl;rw[HK.out.cell (p:=⟨rb,o+k*5,none⟩) (ak h) id];exact h
   have c1:wr.cell? ⟨rb,o+k*5+1,none⟩=some (.bool y.dir):=by have h:=hc 1 _ rfl;rw[HK.out.cell (p:=⟨rb,o+k*5+1,none⟩) (ak h) id];exact h
   have c2:wr.cell? ⟨rb,o+k*5+2,none⟩=some (.int .i64 y.links):=by have h:=hc 2 _ rfl;rw[HK.out.cell (p:=⟨rb,o+k*5+2,none⟩) (ak h) id];exact h
   have c3:wr.cell? ⟨rb,o+k*5+3,none⟩=some (.int .i64 y.blob.root):=by have h:=hc 3 _ rfl;rw[HK.out.cell (p:=⟨rb,o+k*5+3,none⟩) (ak h) id];exact h
   have c4:wr.cell? ⟨rb,o+k*5+4,none⟩=some (.int .i64 y.blob.size):=by have h:=hc 4 _ rfl;rw[HK.out.cell (p:=⟨rb,o+k*5+4,none⟩) (ak h) id];exact h
   have TF:=HWN.out y (auC hy);have ro:af wr (wr.alloc (.cells (jF y).toArray 128)):=(ah.refl _ wr).alloc _;obtain⟨w2,bi,gV,dh,cK⟩:=(HB.out.mod ro id).store QQ underlying281 underlying3 y.num (by omega) y.blob trivial (by have h1:=QS (was.take k);have h2:=HWL.out;have h3:(was.take k).length<=was.length:=List.length_take_le' _ _;omega);have hws:em j6 y.num y.blob (sC (was.take k))=sC (was.take (k+1)):=by rw[auD,hy];exact(tK _ _).symm
   rw[hws]at gV;have jI:=hd0 gV;have bu:Hid (af w w2):=hd0 ((HK.out.keep ro).new dh (by rw[Hmb.out];exact auE _));unfold dd jF at bi;clear hws gV dh hc TF ro hy;go_wp2_with fail;exact⟨⟨k+1,by omega,by go_num,jI,bu⟩,by simp[intOf];omega⟩
  ·obtain rfl:k=was.length:=by omega
   rw[auF]at HB;have H2:=hd0 (H0.out.keep HK.out);obtain⟨an,N8,en,sT⟩:=bZ fV HM.out.nodes;subst en;have HXN:=hd0 sT;have n11:wr.cell? ⟨c.nb,11,none⟩=some (.slice an nodes.length N8):=aa H2.out.box 11;have hni:(nodes.length:Int)<=60:=by have:=HNL.out;omega
   have hmF:∀ g,F g->g≠mb:=fun g hg e=>by have:=H0.out.lt hg;have:=Hmb.out;omega
   have HmF:=hd0 hmF;clear sT hmF aL;go_wp2_with fail
   go_loopw [10,38] (fun KR i wx=>∃(k:Nat) (tk:gK) (sk:az) (sP:Value) (Fk:Nat->Prop) (kn rest:List fC),k<=nodes.length/\i=.int .i64 (k:Int)/\KR=aC sk/\Hid (eR c tk.rd tk.pool b sP sv (.slice an nodes.length N8) L Fk wx)/\Hid (gx c F Fk w wx)/\Hid (dU jF 5 128 wx w.heap.size sP kn/\(∀ g,sP.ownBlock=some g->¬ Fk g)/\kn.length=k)/\Hid (xL wx mb (sC was)/\¬ Fk mb)/\Hid (kn++rest=inos/\mF was (nodes.drop k) sk tk=.ok (rest,set,t1)/\sk.length<=600/\tk.pool.blocks=c.n/\∃ bh U mU,qY was bh U mU (nodes.drop k) tk)) (fun _ i _=>nodes.length-(intOf i).toNat)
   case atStart=>
    exact⟨0,⟨rd,pool⟩,[],_,F,[],inos,by omega,rfl,rfl,H2,hd0 ((gx.refl c F w).keep HK.out),hd0 ⟨World.ownsRow_nil _ _ _ _,fun g hg=>(by cases hg),rfl⟩,hd0 ⟨HB.out,fun h=>HmF.out mb h rfl⟩,hd0 ⟨rfl,E1.out,by simp,Cf.out,aiv.out⟩⟩
   case round=>
    clear H2 HK HB n11;obtain⟨k,tk,sk,sP,Fk,kn,rest,hk,rfl,rfl,HS,HT,HO,ZE,HR⟩:=hrel;by_cases aL:k<nodes.length
    ·have dN:(k:Int)<(nodes.length:Int):=by omega
     obtain⟨x,hx⟩:∃ x,nodes[k]?=some x:=⟨_,auB aL⟩
     have Xv:nodes.drop k=x::nodes.drop (k+1):=by rw[List.drop_eq_getElem_cons aL];congr 1;rw[auB aL]at hx;injection hx
     obtain⟨KG,tT,KT,hr4,bh,U,mU,ZY⟩:=HR.out;rw[Xv]at tT ZY;obtain⟨bl,tb,s,q1,q2,q3,⟨apS,Sx,q4⟩,q5⟩:=ZY.step sk;obtain⟨AJ,q6,rfl⟩:=Iv q1 q2 tT;obtain⟨rb,o,rfl,RH⟩:=HXN.out k x hx;have cx:∀ i v,(gG x)[i]?=some v->wr.cell? ⟨rb,o+k*4+i,none⟩=some v:=fun i v hi=>by
      have h1:=RH i v hi;have hf:=HM.out.fnodes rb rfl;rw[HT.out.mod.cell (p:=⟨rb,o+k*4+i,none⟩) (ak h1) (fun h=>by rcases h with h|h|h|h;exact hf.1 h;exact hf.2.1 h;exact hf.2.2.1 h;exact hf.2.2.2 h)];exact h1
     have c0:wr.cell? ⟨rb,o+k*4,none⟩=some (.int .i64 x.num):=cx 0 _ rfl;have c1:wr.cell? ⟨rb,o+k*4+1,none⟩=some (.bool x.dir):=cx 1 _ rfl;have c2:wr.cell? ⟨rb,o+k*4+2,none⟩=some (.int .i64 x.links):=cx 2 _ rfl;have c3:wr.cell? ⟨rb,o+k*4+3,none⟩=some (aC x.data):=cx 3 _ rfl;have sT:=HNN.out x (auC hx);have Fz:x.data.length<=16384:=(ZY.each x (by simp)).1;have ro:af wr (wr.alloc (.cells #[.int .i64 x.num,.bool x.dir,.int .i64 x.links,aC x.data] 221)):=(ah.refl _ wr).alloc _;have AI:=(ZE.out.1.mod ro id).look1 QQ underlying281 underlying3 x.num (by omega);rw[QR]at AI;have HS1:=hd0 (HS.out.keep ro);have qg:Hid (World.blk (wr.alloc (.cells #[.int .i64 x.num,.bool x.dir,.int .i64 x.links,aC x.data] 221)) wr.heap.size #[.int .i64 x.num,.bool x.dir,.int .i64 x.links,aC x.data] 221):=hd0 (aw _ _ _);have Ci:=hd0 ro;have Hx:=hd0 hx;have rE:Hid ((kn++[⟨x.num,x.dir,x.links,bl⟩])++AJ=inos/\mF was (nodes.drop (k+1)) s tb=.ok (AJ,set,t1)/\tb.pool.blocks=c.n/\∃ bh U mU,qY was bh U mU (nodes.drop (k+1)) tb):=hd0 ⟨by rw[<-KG];simp,q6,by rw[q5.blocks,<-ZY.blocks,hr4],bh,U,mU,q5⟩;have Q1:=hd0 q1;have Q2:=hd0 q2;have Q3:=hd0 q3;have Q4:=hd0 q4;have Hsk:=hd0 KT;have Hbk:=hd0 hr4;have Hdl:=hd0 Fz;clear Xv KG tT KT hr4 ZY q1 q2 q3 q4 q5 q6 HR RH cx sT ro hx Fz;unfold dd at AI;go_wp2_with fail;obtain⟨W1,Kg⟩:∃ W1,wr.alloc (.cells #[.int .i64 x.num,.bool x.dir,.int .i64 x.links,aC x.data] 221)=W1:=⟨_,rfl⟩
     obtain⟨xb,yA⟩:∃ xb,wr.heap.size=xb:=⟨_,rfl⟩
     have Hxb:=hd0 yA;rw[Kg]at HS1 qg Ci AI ⊢;rw[yA]at qg ⊢;have gi:W1.cell? ⟨c.v,0,none⟩=some (aq c.pv):=by rw[aa HS1.out.own 0];exact HC.out.cv0
     have VS:=hd0 (nO HS1.out.vol HS1.out.pool HS1.out.fp (Hbk.out.trans HC.out.size.symm) (by have:=HC.out.size;have:=HC.out.many;omega) c.v gi Q4.out x.data Hdl.out bl tb Q1.out);clear c0 c1 c2 c3 AI gi Kg yA;unfold dd at VS;refine VS.out.mono ?_;rintro e w2 ⟨rfl,F2,FN⟩;have dg:=HS1.out.stored HC.out FN;have kq:∀ g,g<W1.heap.size->¬ Fk g->g≠c.pb->¬(fun g=>Fk g\/g=c.pb) g:=fun g _ h1 h2 h=>h.elim h1 h2;have Yd:∀ g,g<W1.heap.size->¬ Fk g->¬ F2 g:=fun g hl hn h=>(FN.foot g h).elim hn (fun h2=>by omega);have ad9:xb<W1.heap.size:=ai qg.out;have hxF:¬ Fk xb:=fun h=>by have:=HS.out.lt h;have:=Hxb.out;omega
     have Oo:xb≠c.pb:=fun e=>by have:=ai HS.out.pool.own;have:=Hxb.out;omega
     have sT:xb≠c.nb:=fun e=>by have:=ai HS.out.box;have:=Hxb.out;omega
     have lE:=hd0 (ab FN.mod qg.out (fun h=>h.elim hxF Oo));have acZ:mb<wr.heap.size:=ZE.out.1.lt;have BZ:mb≠c.pb:=fun e=>by have:=ai H0.out.pool.own;have:=Hmb.out;omega
     have Sa:Hid (xL w2 mb (sC was)/\¬ F2 mb):=hd0 ⟨(ZE.out.1.mod Ci.out id).mod FN.mod (fun h=>h.elim ZE.out.2 BZ),Yd mb (auL acZ Ci.out.size) ZE.out.2⟩;have ael:∀ g,sP.ownBlock=some g->g≠c.pb:=fun g hg e=>by
      have h1:=(HO.out.1.lt g hg).1;have:=ai H0.out.pool.own;omega
     have zi:Hid (dU jF 5 128 w2 w.heap.size sP kn/\(∀ g,sP.ownBlock=some g->¬ F2 g)/\kn.length=k):=hd0 ⟨aA (il HO.out.1 Ci.out) (fun g hg=>FN.mod.block g (auL (aT HO.out.1 hg) Ci.out.size) (fun h=>h.elim (HO.out.2.1 g hg) (ael g hg))),fun g hg=>Yd g (auL (aT HO.out.1 hg) Ci.out.size) (HO.out.2.1 g hg),HO.out.2.2⟩;have BV:=hd0 dg.1;have mR:=hd0 ((HT.out.keep Ci.out).trans dg.2);have adR:=hd0 (And.intro (Yd xb ad9 hxF) (And.intro Oo sT));have Hiv:Hid ((∀ g,sP.ownBlock=some g->w.heap.size<=g/\g<xb)/\xb<w2.heap.size):=hd0 ⟨fun g hg=>⟨(HO.out.1.lt g hg).1,by have:=aT HO.out.1 hg;have:=Hxb.out;omega⟩,ai lE.out⟩;clear FN dg kq Yd ad9 hxF Oo sT acZ BZ ael VS HS HT HO ZE HS1 qg Ci;go_wp2_with fail;have RU:af w2 (w2.alloc (.cells #[.int .i64 bl.root,.int .i64 bl.size] 42)):=(ah.refl _ w2).alloc _;have ZI:World.blk (w2.alloc (.cells #[.int .i64 bl.root,.int .i64 bl.size] 42)) w2.heap.size #[.int .i64 bl.root,.int .i64 bl.size] 42:=aw _ _ _;obtain⟨bb,TO⟩:∃ bb,w2.heap.size=bb:=⟨_,rfl⟩
     obtain⟨W3,Yx⟩:∃ W3,w2.alloc (.cells #[.int .i64 bl.root,.int .i64 bl.size] 42)=W3:=⟨_,rfl⟩
     rw[Yx]at RU ZI ⊢;rw[TO]at ZI ⊢;have rG:=BV.out.keep RU;have gi:W3.cell? ⟨c.v,0,none⟩=some (aq c.pv):=by rw[aa rG.own 0];exact HC.out.cv0
     obtain⟨Sb,hSb⟩:=Q3.out;have VA:=hd0 (xI rG.vol c.v gi sk Hsk.out hSb s Q2.out);have Hs6:=hd0 (Ey hSb Hsk.out Q2.out);have I8:=hd0 rG;have ox:=hd0 ZI;have OK:=hd0 RU;have Hbb:=hd0 TO;clear rG gi hSb ZI RU TO Yx;unfold dd at VA;refine VA.out.mono ?_;rintro e w4 ⟨rfl,F4,hv4,iT⟩;have FB:=I8.out.read hv4 iT;have hF4:∀ g,g<W3.heap.size->¬ F2 g->¬ F4 g:=fun g hl hn h=>(iT.foot g h).elim hn (fun h2=>by omega);have Km:=OK.out.size;have hbF:¬ F2 bb:=fun h=>by have:=BV.out.lt h;have:=Hbb.out;omega
     have FG:=hd0 (ab iT.mod ox.out hbF);have B3:=hd0 (ab iT.mod (ab OK.out lE.out id) adR.out.1);have Of:Hid (xL w4 mb (sC was)/\¬ F4 mb):=hd0 ⟨(Sa.out.1.mod OK.out id).mod iT.mod Sa.out.2,hF4 mb (auL Sa.out.1.lt Km) Sa.out.2⟩;have VO:Hid (dU jF 5 128 w4 w.heap.size sP kn/\(∀ g,sP.ownBlock=some g->¬ F4 g)/\kn.length=k):=hd0 ⟨aA (il zi.out.1 OK.out) (fun g hg=>iT.mod.block g (auL (aT zi.out.1 hg) Km) (zi.out.2.1 g hg)),fun g hg=>hF4 g (auL (aT zi.out.1 hg) Km) (zi.out.2.1 g hg),zi.out.2.2⟩;have HS4:=hd0 FB.1;have Sf:=hd0 ((mR.out.keep OK.out).trans FB.2);have hbn:bb≠c.nb:=fun e=>by have:=ai BV.out.box;have:=Hbb.out;omega
     have Hbn:=hd0 (And.intro hbn adR.out.2.2);clear hv4 iT FB hF4 Km hbF VA ox lE Sa zi I8 mR OK hbn BV
     go_upto_region 13 with fail
     refine gM 14 [0,1,2,3,4,5,6,7,8,9,10,11,12] [13,14,15,16,17] (fun X=>World.blk X xb #[.int .i64 x.num,.bool x.dir,.int .i64 x.links,aC x.data] 221/\World.blk X bb #[.int .i64 bl.root,.int .i64 bl.size] 42) (fun X=>X.cell? ⟨c.nb,8,none⟩=some sP) (by kernel_rfl) (by kernel_rfl) (fun _ o _ _ _ h=>by cases o<;>exact h) ?_
     iterate 4 (refine fH rfl (fun L hL=>?_);go_simp;(first|refine hL _ ?_|refine⟨_,fun _ _ _=>rfl,hL _ ?_⟩|refine⟨_,fun X h1 h2=>by simp only[aa h1,aa h2];rfl,hL _ ?_⟩|(trace_state;fail));clear hL L)
     refine Dh rfl (by kernel_rfl) (fun L hL=>?_)
     go_simp
     refine⟨_,fun X _ _ hW=>by simp only[hW];rfl,hL _ ?_⟩;clear hL L
     iterate 8 (refine fH rfl (fun L hL=>?_);go_simp;(first|refine hL _ ?_|refine⟨_,fun _ _ _=>rfl,hL _ ?_⟩|refine⟨_,fun X h1 h2=>by simp only[aa h1,aa h2];rfl,hL _ ?_⟩|refine⟨_,fun X _ h2=>by have e0:X.cell? ⟨bb,0,none⟩=some (.int .i64 bl.root):=aa h2 0;have e1:X.cell? ⟨bb,1,none⟩=some (.int .i64 bl.size):=aa h2 1;simp only[e0,e1,Result.andThen];rfl,hL _ ?_⟩|(trace_state;fail));clear hL L)
     refine ja ?_;obtain⟨W5,Cc⟩:∃ W5:World,({ w4 with drawn:=w4.drawn+1 }:World)=W5:=⟨_,rfl⟩
     have kd:af w4 W5:=by rw[<-Cc];exact(ah.refl _ w4).drawn _
     rw[Cc];have ZX:=ab kd B3.out id;have Xl:=ab kd FG.out id;have FZ:=HS4.out.keep kd;have i5:W5.cell? ⟨c.nb,8,none⟩=some sP:=aa FZ.box 8;have NJ:=il VO.out.1 kd;have nT:=hZ (P:=prog) (ts:=96) (te:=128) underlying96 QT rfl (by decide) w.heap.size sP _ _ W5 NJ (jF ⟨x.num,x.dir,x.links,bl⟩) rfl (QF _) (by have:=VO.out.2.2;unfold maxLen;omega) (by have:=VO.out.2.2;omega) (aux Sf.out.mod.size kd.size);obtain⟨v6,w6,r6,FA,m6,at6,g6,rt,rfl⟩:=nT;have ka5:af W5 (W5.alloc (.cells (jF ⟨x.num,x.dir,x.links,bl⟩).toArray 128)):=(ah.refl _ W5).alloc _;have hxa:=aH ZX (.cells (jF ⟨x.num,x.dir,x.links,bl⟩).toArray 128);have hba:=aH Xl (.cells (jF ⟨x.num,x.dir,x.links,bl⟩).toArray 128);have hia:(W5.alloc (.cells (jF ⟨x.num,x.dir,x.links,bl⟩).toArray 128)).cell? ⟨c.nb,8,none⟩=some sP:=aa (FZ.keep ka5).box 8;have KP:∀ g,sP.ownBlock=some g->w.heap.size<=g/\g≠xb/\g≠bb:=fun g hg=>by
      have h1:=Hiv.out.1 g hg;have h2:=Hiv.out.2;have h3:=Hbb.out;exact⟨h1.1,by omega,by omega⟩
     have hx6:=ab m6 ZX (fun e=>(KP xb e).2.1 rfl);have FH:=ab m6 Xl (fun e=>(KP bb e).2.2 rfl);have Jn:=FZ.other m6 fun g hg=>by
      have h1:=(KP g hg).1;have h2:=ai H0.out.box;have h3:=ai H0.out.pool.own;have h4:=ai H0.out.map.own;have h5:=ai H0.out.own;exact⟨VO.out.2.1 g hg,by omega,by omega,by omega,by omega⟩
     have I4:=(Sf.out.keep kd).fresh m6 fun g hg=>(KP g hg).1;have c68:w6.cell? ⟨c.nb,8,none⟩=some sP:=aa Jn.box 8;have f68:=ae Jn.box ⟨c.nb,8,none⟩ rfl;have m7:ah (fun g=>g=c.nb) w6 (w6.setCell ⟨c.nb,8,none⟩ (.slice (some ⟨g6,0,none⟩) (kn.length+1) rt)):=(ah.refl (fun g=>g=c.nb) w6).setCell (p:=⟨c.nb,8,none⟩) (.inl rfl) _;have hs7:=Jn.boxed (b':=b) (Ov:=.slice (some ⟨g6,0,none⟩) (kn.length+1) rt) HC.out (ag Jn.box 8 _) m7;have hg6:w.heap.size<=g6/\¬ F4 g6/\g6≠mb:=by
      refine⟨(FA.lt g6 rfl).1,?_⟩;rcases at6 with e|⟨kk,e,sR⟩
      ·have e':sP.ownBlock=some g6:=e.symm;exact⟨VO.out.2.1 g6 e',xM VO.out.1 e' Of.out.1⟩
      ·have:kk=g6:=by injection e with e;exact e.symm
       subst this;exact⟨fun h=>by have:=HS4.out.lt h;have:=kd.size;omega,fun e2=>by have:=Of.out.1.lt;have:=kd.size;omega⟩
     unfold jF at r6;have HR6:=hd0 r6;have ac4:∀ g,sP.ownBlock=some g->g≠mb:=fun g hg=>xM VO.out.1 hg Of.out.1;have Kx:mb≠c.nb:=fun e=>by have:=ai H0.out.box;have:=Hmb.out;omega
     have ZP:bb≠c.nb/\xb≠c.nb:=Hbn.out;have akM:Hid (xL (w6.setCell ⟨c.nb,8,none⟩ (.slice (some ⟨g6,0,none⟩) (kn.length+1) rt)) mb (sC was)/\¬ F4 mb):=hd0 ⟨((Of.out.1.mod kd id).mod m6 (fun e=>ac4 mb e rfl)).mod m7 Kx,Of.out.2⟩;have HO7:Hid (dU jF 5 128 (w6.setCell ⟨c.nb,8,none⟩ (.slice (some ⟨g6,0,none⟩) (kn.length+1) rt)) w.heap.size (.slice (some ⟨g6,0,none⟩) (kn.length+1) rt) (kn++[⟨x.num,x.dir,x.links,bl⟩])/\(∀ g,(Value.slice (some ⟨g6,0,none⟩) (kn.length+1) rt).ownBlock=some g->¬ F4 g)/\(kn++[(⟨x.num,x.dir,x.links,bl⟩:fC)]).length=k+1):=hd0 ⟨by
      unfold dU;rw[auR,auS];refine aA (by simpa using FA) fun g hg=>m7.block g (FA.lt g hg).2 (fun e=>?_);have h1:=(FA.lt g hg).1;have h2:=ai H0.out.box
      omega,fun g hg=>by have e:g6=g:=by simpa[Value.ownBlock]using hg
                         subst e;exact hg6.2.1,by have:=VO.out.2.2;simp;omega⟩
     have HS7:=hd0 hs7.1;have HT7:=hd0 (I4.trans hs7.2);have D5:=hd0 (And.intro ZX Xl);have Da:=hd0 (And.intro hxa hba);have D6:=hd0 (And.intro hx6 FH);have D7:=hd0 (And.intro (ab m7 hx6 ZP.2) (ab m7 FH ZP.1));clear hs7 I4 m7 FA r6 at6 m6 hx6 FH Jn hxa hba ZX Xl FZ NJ kd ka5 KP hg6 ac4 Kx ZP FG B3 Of VO HS4 Sf Cc;refine bS rfl ⟨D5.out,.inr i5⟩ ?_;go_wp2_with fail;refine bS rfl ⟨Da.out,.inr hia⟩ ?_;refine aB HR6.out rfl rfl rfl rfl ?_;go_wp2_with fail;refine bS rfl ⟨D6.out,.inl rfl⟩ ?_;go_wp2_with fail;refine bS rfl ⟨D6.out,.inl rfl⟩ ?_;go_wp2_with fail;refine bS rfl ⟨D6.out,.inl rfl⟩ ?_;go_wp2_with fail;refine pP ⟨D7.out,.inl rfl⟩ ?_;generalize w6.setCell ⟨c.nb,8,none⟩ (.slice (some ⟨g6,0,none⟩) (kn.length+1) rt)=w7 at*;have hk1:k+1<=nodes.length:=by omega
     clear aL;go_wp2_with fail;exact⟨⟨k+1,tb,s,_,F4,_,AJ,hk1,by go_num,rfl,HS7,HT7,HO7,akM,hd0 ⟨rE.out.1,rE.out.2.1,Hs6.out,rE.out.2.2.1,rE.out.2.2.2⟩⟩,by simp[intOf];omega⟩
    ·obtain rfl:k=nodes.length:=by omega
     have lG:rest=[]/\sk=set/\tk=t1:=by
      have h1:=HR.out.2.1;rw[List.drop_length]at h1;unfold mF at h1;injection h1 with h1;injection h1 with h1 h2;injection h2 with h2 h3;exact⟨h1.symm,h2,h3⟩
     obtain⟨rfl,rfl,rfl⟩:=lG;have NI:kn=inos:=by have:=HR.out.1;simpa using this
     subst NI;have n8:wr.cell? ⟨c.nb,8,none⟩=some sP:=aa HS.out.box 8;have TI:=hd0 (EA kn sP wr (bZ xA HO.out.1) HIN.out);have MU:=hd0 mQ;have Hs6:=hd0 HR.out.2.2.1;have Htb:=hd0 HR.out.2.2.2.1;clear aL HR ZE;go_wp2_with fail;refine TI.out.mono ?_;rintro e w8 ⟨rfl,k8⟩;have za:=hd0 (HS.out.keep k8);have HT8:=hd0 (HT.out.keep k8);have XC:Hid (dU jF 5 128 w8 w.heap.size sP kn/\(∀ g,sP.ownBlock=some g->¬ Fk g)):=hd0 ⟨il HO.out.1 k8,HO.out.2.1⟩;clear k8 TI HS HT HO n8;go_wp2_with fail;refine(MU.out _).mono ?_;rintro e w9 ⟨rfl,rfl⟩;have v2:w9.cell? ⟨c.v,2,none⟩=some (.int .i64 old.root):=by rw[aa za.out.own 2];exact HM.out.c2
     have v3:w9.cell? ⟨c.v,3,none⟩=some (.int .i64 old.size):=by rw[aa za.out.own 3];exact HM.out.c3
     have gi:w9.cell? ⟨c.v,0,none⟩=some (aq c.pv):=by rw[aa za.out.own 0];exact HC.out.cv0
     obtain⟨bh,S0,hS0⟩:=O2.out;have VS:=hd0 (nO za.out.vol za.out.pool za.out.fp (Htb.out.trans HC.out.size.symm) (by have:=HC.out.size;have:=HC.out.many;omega) c.v gi hS0 (j9 kn) (by have:=HIL.out.2;omega) table t2 E2.out);unfold dd at VS;clear gi hS0;go_wp2_with fail;refine VS.out.mono ?_;rintro e mV ⟨rfl,F2,FN⟩;have dg:=za.out.stored HC.out FN;have HOA:Hid (dU jF 5 128 mV w.heap.size sP kn/\(∀ g,sP.ownBlock=some g->¬ F2 g/\g≠c.nb)):=hd0 ⟨aA XC.out.1 (fun g hg=>FN.mod.block g (aT XC.out.1 hg) (fun h=>h.elim (XC.out.2 g hg) (fun e=>by have h1:=(XC.out.1.lt g hg).1;have:=ai H0.out.pool.own;omega))),fun g hg=>⟨fun h=>(FN.foot g h).elim (XC.out.2 g hg) (fun h2=>by have:=aT XC.out.1 hg;omega),fun e=>by have h1:=(XC.out.1.lt g hg).1;have:=ai H0.out.box;omega⟩⟩;have hb:=dg.1.box;have n0:mV.cell? ⟨c.nb,0,none⟩=some (.int .i64 b.table.root):=aa hb 0;have n1:mV.cell? ⟨c.nb,1,none⟩=some (.int .i64 b.table.size):=aa hb 1;have f0:=ae hb ⟨c.nb,0,none⟩ rfl;have f1:=ae hb ⟨c.nb,1,none⟩ rfl;have m4:ah (fun g=>g=c.nb) mV ((mV.setCell ⟨c.nb,0,none⟩ (.int .i64 table.root)).setCell ⟨c.nb,1,none⟩ (.int .i64 table.size)):=((ah.refl (fun g=>g=c.nb) mV).setCell (p:=⟨c.nb,0,none⟩) (.inl rfl) _).setCell (p:=⟨c.nb,1,none⟩) (.inl rfl) _;have hsH:=dg.1.boxed (b':={ b with table:=table }) HC.out (ag (ag hb 0 (.int .i64 table.root)) 1 (.int .i64 table.size)) m4;have HOB:Hid (dU jF 5 128 ((mV.setCell ⟨c.nb,0,none⟩ (.int .i64 table.root)).setCell ⟨c.nb,1,none⟩ (.int .i64 table.size)) w.heap.size sP kn/\(∀ g,sP.ownBlock=some g->¬ F2 g)):=hd0 ⟨aA HOA.out.1 (fun g hg=>m4.block g (aT HOA.out.1 hg) (fun e=>(HOA.out.2 g hg).2 e)),fun g hg=>(HOA.out.2 g hg).1⟩;have HSB:=hd0 hsH.1;have HTB:=hd0 ((HT8.out.trans dg.2).trans hsH.2);clear FN dg hb m4 hsH za HT8 XC HOA VS v2 v3;go_wp2_with fail;generalize (mV.setCell ⟨c.nb,0,none⟩ (.int .i64 table.root)).setCell ⟨c.nb,1,none⟩ (.int .i64 table.size)=w11 at*;obtain⟨Sn2,hSn⟩:=N2.out;have gi:w11.cell? ⟨c.v,0,none⟩=some (aq c.pv):=by rw[aa HSB.out.own 0];exact HC.out.cv0
     have VA:=hd0 (xI HSB.out.vol c.v gi sk Hs6.out hSn set1 E3.out);unfold dd at VA;clear hSn gi;refine VA.out.mono ?_;rintro e Cy ⟨rfl,F3,OL,dw⟩;have FB:=HSB.out.read OL dw;have HSC:=hd0 FB.1;have HTC:=hd0 (HTB.out.trans FB.2);have HOC:Hid (dU jF 5 128 Cy w.heap.size sP kn/\(∀ g,sP.ownBlock=some g->¬ F3 g)):=hd0 ⟨aA HOB.out.1 (fun g hg=>dw.mod.block g (aT HOB.out.1 hg) (HOB.out.2 g hg)),fun g hg h=>(dw.foot g h).elim (HOB.out.2 g hg) (fun h2=>by have:=aT HOB.out.1 hg;omega)⟩;clear OL dw FB VA;go_wp2;go_ret;exact⟨rfl,F3,sP,HSC.out,HTC.out,HOC.out.1,HOC.out.2⟩
end
section
open Go.RowKit
theorem ME (p e:Nat)(w:World):
  CallsD prog 124 #[aq p,aq e] .returning w fun x u' w'=>x=.returned (.tuple #[])/\u'=.returning/\af w w':=by
 have hta:∀ W,(Instr.typeAssert .nilIface 20 274 true).run prog W=.ok (.tuple #[.agg #[.int .i64 0],.bool false]) W:=fun _=>by kernel_rfl
 refine callsD_of_wpS func124 rfl fun c₀ cs hu=>?_;apply wpS_seq;apply wpS_region;simp[wpOpsS,go_sem,recoverD,hu,ntmps124,Exit.thenS,hta];apply wpS_seq;apply wpS_seq;apply wpS_region;simp[wpOpsS,go_sem,Exit.thenS];refine wpS_cond (t:=true) (by simp[Act.eval,Array.replicate]) ?_;simp only[if_true];refine wpS_of_wp (wp_ret ?_);refine⟨rfl,.returning,?_,.tuple #[],?_,rfl,rfl,(ah.refl _ w).alloc _⟩
 ·cases c₀
  simp_all
 ·simp[results,Tryz.results124]
end
end Go.Proofs.YtkghpdcloaiflaaGreatDoor
