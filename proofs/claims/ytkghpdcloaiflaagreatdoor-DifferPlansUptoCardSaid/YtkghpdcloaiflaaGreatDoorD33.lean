import Derived.Test.YtkghpdcloaiflaaGreatDoorD32
import Derived.Recover
set_option maxHeartbeats 8000000
set_option maxRecDepth 100000
namespace Go.Proofs.YtkghpdcloaiflaaGreatDoor
open _root_.Go.Proofs.Tryz
section
open Go.RowKit
attribute [local go_sem] auG
theorem eR.other {c:qt}{rd:Rd}{pool:Pl}{b:jf}{iv sv nv:Value}{L:List ay}{F S:Nat->Prop}{w w':World}(h:eR c rd pool b iv sv nv L F w)(m:ah S w w')(hS:∀ g,S g->¬ F g/\g≠c.nb/\g≠c.pb/\g≠c.pm/\g≠c.v):eR c rd pool b iv sv nv L F w':=
 ⟨h.vol.same (m.on fun g hg hs=>(hS g hs).1 hg) m.size,h.pool.mod m (fun hs=>(hS _ hs).2.2.1 rfl),ab m h.box (fun hs=>(hS _ hs).2.1 rfl),h.map.mod m (fun hs=>(hS _ hs).2.2.2.1 rfl),ab m h.own (fun hs=>(hS _ hs).2.2.2.2 rfl),h.fv,h.fn,h.fp,h.fm⟩
theorem gw.fresh {c:qt}{F F1 S:Nat->Prop}{w w1 w2:World}(h:gw c F F1 w w1)(m:ah S w1 w2)(hS:∀ g,S g->w.heap.size<=g):gw c F F1 w w2:=⟨h.foot,h.mod.trans m fun g hl hs=>by have:=hS g hs;omega⟩
theorem xJ {w:World}{base n sz g mb:Nat}{t:TypeId}{v:Value}{xs:List Value}(h:w.ownsRow base t sz v n xs)(hg:v.ownBlock=some g){l:List (Int×fQ)}(hm:xI w mb l):g≠mb:=by
 rcases h.2 with⟨rfl,_⟩|⟨k,cap,dz,rfl,hb,hk,_⟩
 ·cases hg
 ·have e:k=g:=by simpa[Value.ownBlock]using hg
  subst e;obtain⟨es,clock,hm,_⟩:=hm;rintro rfl;rw[hm]at hk
  cases hk
structure Xe (c:qt)(was:List fC)(old:fQ)(nodes:List Nt)(ivo nv:Value)(F:Nat->Prop)(w:World):Prop where
 c10:c.cv[10]?=some ivo
 c2:c.cv[2]?=some (.int .i64 old.root)
 c3:c.cv[3]?=some (.int .i64 old.size)
 was:dX jG 5 128 w 0 ivo was
 nodes:dX gF 4 221 w 0 nv nodes
 fwas:∀ g,ivo.ownBlock=some g->¬ F g/\g≠c.nb/\g≠c.pb/\g≠c.pm
 fnodes:∀ g,nv.ownBlock=some g->¬ F g/\g≠c.nb/\g≠c.pb/\g≠c.pm
theorem Iy {was:List fC}{x:Nt}{r:List Nt}{sk s:ay}{tk tb t1:gJ}{bl:fQ}{rest:List fC}{set:ay}(e1:dK tk (eg was x.num) x.data=.ok (bl,tb))(e2:dO tb.rd sk bl=.ok s)(h:mF was (x::r) sk tk=.ok (rest,set,t1)):
  ∃ AC,mF was r s tb=.ok (AC,set,t1)/\rest=⟨x.num,x.dir,x.links,bl⟩::AC:=by
 rw[mF,e1]at h;simp only at h;rw[e2]at h;simp only at h
 cases hr:mF was r s tb with
 |error e=>rw[hr]at h;cases h
 |ok o=>
  rw[hr]at h;simp only[Except.map]at h;injection h with h;injection h with h1 h2;exact⟨o.1,by rw[show o=(o.1,o.2)from rfl,h2],h1.symm⟩
theorem QY:(prog.info? 128).map (fun i=>(i.zero,i.size,i.bytes))=some (some (.agg #[.int .i64 0,.bool false,.int .i64 0,.int .i64 0,.int .i64 0]),5,40):=by kernel_rfl
theorem QZ {c:qt}(hc:c.Ok){rd:Rd}{pool:Pl}{b:jf}{sv nv ivo:Value}{L:List ay}{F:Nat->Prop}{w:World}(h:eR c rd pool b (.slice none 0 0) sv nv L F w){was:List fC}{old:fQ}{nodes:List Nt}(hm:Xe c was old nodes ivo nv F w)(mY:pool.blocks=c.n)
  (Xo:was.length<=100) (yk:nodes.length<=60) (hwn:∀ y∈was,0<=y.num/\y.num<=65535) (hnn:∀ x∈nodes,0<=x.num/\x.num<=65535)
  {inos:List fC} {set set1:ay} {t1 t2:gJ} {table:fQ} (Ty:∃ br U mV,qX was br U mV nodes ⟨rd,pool⟩) (e1:mF was nodes [] ⟨rd,pool⟩=.ok (inos,set,t1)) (tN:qP inos=true) (Je:inos.length<=60/\(kh inos).length<=722)
  (old2:∃ br S,aR t1.rd br old S) (e2:dK t1 old (kh inos)=.ok (table,t2)) (new2:∃ S,aR t2.rd (kh inos) table S) (e3:dO t2.rd set table=.ok set1):
  Calls prog 130 #[aq c.v,aq c.nb,aq c.pb] w fun e w'=>e=.returned (aB set1)/\∃ F' OT,eR c t2.rd t2.pool { b with table:=table } OT sv nv L F' w'/\gw c F F' w w'/\dX jG 5 128 w' w.heap.size OT inos/\(∀ g,OT.ownBlock=some g->¬ F' g):=by
 have I7:=@run_makeMap prog;have HC:=hd0 hc;have H0:=hd0 h;have HM:=hd0 hm;have Cf:=hd0 mY;have akR:=hd0 Ty;have E1:=hd0 e1;have HIN:=hd0 tN;have HIL:=hd0 Je;have O2:=hd0 old2;have E2:=hd0 e2;have N2:=hd0 new2;have E3:=hd0 e3;have HWL:=hd0 Xo;have HWN:=hd0 hwn;have HNN:=hd0 hnn;have HNL:=hd0 yk;have dE:af w (w.alloc (.map #[] 0)):=(ah.refl _ w).alloc _;have nS:Hid (xI (w.alloc (.map #[] 0)) w.heap.size []):=hd0 (fy.made w);obtain⟨mb,zg⟩:∃ mb,w.heap.size=mb:=⟨_,rfl⟩
 have Hmb:=hd0 zg;have dF:=hd0 dE;have H1:=hd0 (h.keep dE);obtain⟨a,cap,ev,hx⟩:=bY xw hm.was;subst ev;have HX:=hd0 hx;have v10:(w.alloc (.map #[] 0)).cell? ⟨c.v,10,none⟩=some (.slice a was.length cap):=by rw[aa (h.keep dE).own 10];exact hm.c10
 have hwi:(was.length:Int)<=100:=by omega
 clear hc h hm mY Ty e1 tN Je old2 e2 new2 e3 dE hx hwn hnn yk;rw[zg]at nS;go_enter func130,ntmps130;go_wp2_with fail
 try rw[zg]
 generalize w.alloc (.map #[] 0)=W at*
 go_loopw [23] (fun i wr=>∃ k:Nat,k<=was.length/\i=.int .i64 (k:Int)/\Hid (xI wr mb (su (was.take k)))/\Hid (af w wr)) (fun i _=>was.length-(intOf i).toNat)
 case atStart=>exact⟨0,by omega,rfl,nS,dF⟩
 case round=>
  clear nS dF H1 v10;obtain⟨k,hk,rfl,HB,HK⟩:=hrel;by_cases aK:k<was.length
  ·have dR:(k:Int)<(was.length:Int):=by omega
   obtain⟨y,hy⟩:∃ y,was[k]?=some y:=⟨_,auM aK⟩
   obtain⟨rb,o,rfl,hc⟩:=HX.out k y hy;have c0:wr.cell? ⟨rb,o+k*5,none⟩=some (.int .i64 y.num):=by have h:=hc 0 _ rfl;rw[HK.out.cell (p:=⟨rb,o+k*5,none⟩) (am h) id];exact h
   have c1:wr.cell? ⟨rb,o+k*5+1,none⟩=some (.bool y.dir):=by have h:=hc 1 _ rfl;rw[HK.out.cell (p:=⟨rb,o+k*5+1,none⟩) (am h) id];exact h
   have c2:wr.cell? ⟨rb,o+k*5+2,none⟩=some (.int .i64 y.links):=by have h:=hc 2 _ rfl;rw[HK.out.cell (p:=⟨rb,o+k*5+2,none⟩) (am h) id];exact h
   have c3:wr.cell? ⟨rb,o+k*5+3,none⟩=some (.int .i64 y.blob.root):=by have h:=hc 3 _ rfl;rw[HK.out.cell (p:=⟨rb,o+k*5+3,none⟩) (am h) id];exact h
   have c4:wr.cell? ⟨rb,o+k*5+4,none⟩=some (.int .i64 y.blob.size):=by have h:=hc 4 _ rfl;rw[HK.out.cell (p:=⟨rb,o+k*5+4,none⟩) (am h) id];exact h
   have YH:=HWN.out y (auN hy);have qh:af wr (wr.alloc (.cells (jG y).toArray 128)):=(ah.refl _ wr).alloc _;obtain⟨w2,bh,gX,dp,cJ⟩:=(HB.out.mod qh id).store QV underlying281 underlying3 y.num (by omega) y.blob trivial (by have h1:=QX (was.take k);have h2:=HWL.out;have h3:(was.take k).length<=was.length:=List.length_take_le' _ _;omega);have hws:eA kc y.num y.blob (su (was.take k))=su (was.take (k+1)):=by rw[auO,hy];exact(tE _ _).symm
   rw[hws]at gX;have jL:=hd0 gX;have bw:Hid (af w w2):=hd0 ((HK.out.keep qh).new dp (by rw[Hmb.out];exact auP _));unfold de jG at bh;clear hws gX dp hc YH qh hy;go_wp2_with fail;exact⟨⟨k+1,by omega,by go_num,jL,bw⟩,by simp[intOf];omega⟩
  ·obtain rfl:k=was.length:=by omega
   rw[auQ]at HB;have H2:=hd0 (H0.out.keep HK.out);obtain⟨an,NQ,en,sJ⟩:=bY fW HM.out.nodes;subst en;have HXN:=hd0 sJ;have n11:wr.cell? ⟨c.nb,11,none⟩=some (.slice an nodes.length NQ):=aa H2.out.box 11;have hni:(nodes.length:Int)<=60:=by have:=HNL.out;omega
   have hmF:∀ g,F g->g≠mb:=fun g hg e=>by have:=H0.out.lt hg;have:=Hmb.out;omega
   have HmF:=hd0 hmF;clear sJ hmF aK;go_wp2_with fail
   go_loopw [10,38] (fun Kn i wx=>∃(k:Nat) (tk:gJ) (sk:ay) (sG:Value) (Fk:Nat->Prop) (j3 rest:List fC),k<=nodes.length/\i=.int .i64 (k:Int)/\Kn=aB sk/\Hid (eR c tk.rd tk.pool b sG sv (.slice an nodes.length NQ) L Fk wx)/\Hid (gw c F Fk w wx)/\Hid (dX jG 5 128 wx w.heap.size sG j3/\(∀ g,sG.ownBlock=some g->¬ Fk g)/\j3.length=k)/\Hid (xI wx mb (su was)/\¬ Fk mb)/\Hid (j3++rest=inos/\mF was (nodes.drop k) sk tk=.ok (rest,set,t1)/\sk.length<=600/\tk.pool.blocks=c.n/\∃ br U mV,qX was br U mV (nodes.drop k) tk)) (fun _ i _=>nodes.length-(intOf i).toNat)
   case atStart=>
    exact⟨0,⟨rd,pool⟩,[],_,F,[],inos,by omega,rfl,rfl,H2,hd0 ((gw.refl c F w).keep HK.out),hd0 ⟨World.ownsRow_nil _ _ _ _,fun g hg=>(by cases hg),rfl⟩,hd0 ⟨HB.out,fun h=>HmF.out mb h rfl⟩,hd0 ⟨rfl,E1.out,by simp,Cf.out,akR.out⟩⟩
   case round=>
    clear H2 HK HB n11;obtain⟨k,tk,sk,sG,Fk,j3,rest,hk,rfl,rfl,HS,HT,HO,HMp,HR⟩:=hrel;by_cases aK:k<nodes.length
    ·have dR:(k:Int)<(nodes.length:Int):=by omega
     obtain⟨x,hx⟩:∃ x,nodes[k]?=some x:=⟨_,auM aK⟩
     have X0:nodes.drop k=x::nodes.drop (k+1):=by rw[List.drop_eq_getElem_cons aK];congr 1;rw[auM aK]at hx;injection hx
     obtain⟨yt,tT,Ki,hr4,br,U,mV,hr5⟩:=HR.out;rw[X0]at tT hr5;obtain⟨bl,tb,s,q1,q2,q3,⟨ar2,Sx,q4⟩,q5⟩:=hr5.step sk;obtain⟨AC,q6,rfl⟩:=Iy q1 q2 tT;obtain⟨rb,o,rfl,Yj⟩:=HXN.out k x hx;have cx:∀ i v,(gF x)[i]?=some v->wr.cell? ⟨rb,o+k*4+i,none⟩=some v:=fun i v hi=>by
      have h1:=Yj i v hi;have hf:=HM.out.fnodes rb rfl;rw[HT.out.mod.cell (p:=⟨rb,o+k*4+i,none⟩) (am h1) (fun h=>by rcases h with h|h|h|h;exact hf.1 h;exact hf.2.1 h;exact hf.2.2.1 h;exact hf.2.2.2 h)];exact h1
     have c0:wr.cell? ⟨rb,o+k*4,none⟩=some (.int .i64 x.num):=cx 0 _ rfl;have c1:wr.cell? ⟨rb,o+k*4+1,none⟩=some (.bool x.dir):=cx 1 _ rfl;have c2:wr.cell? ⟨rb,o+k*4+2,none⟩=some (.int .i64 x.links):=cx 2 _ rfl;have c3:wr.cell? ⟨rb,o+k*4+3,none⟩=some (aB x.data):=cx 3 _ rfl;have sJ:=HNN.out x (auN hx);have Fw:x.data.length<=16384:=(hr5.each x (by simp)).1;have qh:af wr (wr.alloc (.cells #[.int .i64 x.num,.bool x.dir,.int .i64 x.links,aB x.data] 221)):=(ah.refl _ wr).alloc _;have AF:=(HMp.out.1.mod qh id).look1 QV underlying281 underlying3 x.num (by omega);rw[QW]at AF;have Ky:=hd0 (HS.out.keep qh);have qd:Hid (World.blk (wr.alloc (.cells #[.int .i64 x.num,.bool x.dir,.int .i64 x.links,aB x.data] 221)) wr.heap.size #[.int .i64 x.num,.bool x.dir,.int .i64 x.links,aB x.data] 221):=hd0 (aw _ _ _);have BP:=hd0 qh;have Hx:=hd0 hx;have rz:Hid ((j3++[⟨x.num,x.dir,x.links,bl⟩])++AC=inos/\mF was (nodes.drop (k+1)) s tb=.ok (AC,set,t1)/\tb.pool.blocks=c.n/\∃ br U mV,qX was br U mV (nodes.drop (k+1)) tb):=hd0 ⟨by rw[<-yt];simp,q6,by rw[q5.blocks,<-hr5.blocks,hr4],br,U,mV,q5⟩;have Q1:=hd0 q1;have Q2:=hd0 q2;have Q3:=hd0 q3;have Q4:=hd0 q4;have Hsk:=hd0 Ki;have Hbk:=hd0 hr4;have Hdl:=hd0 Fw;clear X0 yt tT Ki hr4 hr5 q1 q2 q3 q4 q5 q6 HR Yj cx sJ qh hx Fw;unfold de at AF;go_wp2_with fail;obtain⟨W1,Kr⟩:∃ W1,wr.alloc (.cells #[.int .i64 x.num,.bool x.dir,.int .i64 x.links,aB x.data] 221)=W1:=⟨_,rfl⟩
     obtain⟨xb,yw⟩:∃ xb,wr.heap.size=xb:=⟨_,rfl⟩
     have Hxb:=hd0 yw;rw[Kr]at Ky qd BP AF ⊢;rw[yw]at qd ⊢;have gi:W1.cell? ⟨c.v,0,none⟩=some (aq c.pv):=by rw[aa Ky.out.own 0];exact HC.out.cv0
     have VS:=hd0 (nN Ky.out.vol Ky.out.pool Ky.out.fp (Hbk.out.trans HC.out.size.symm) (by have:=HC.out.size;have:=HC.out.many;omega) c.v gi Q4.out x.data Hdl.out bl tb Q1.out);clear c0 c1 c2 c3 AF gi Kr yw;unfold de at VS;refine VS.out.mono ?_;rintro e w2 ⟨rfl,F2,FW⟩;have dj:=Ky.out.stored HC.out FW;have kw:∀ g,g<W1.heap.size->¬ Fk g->g≠c.pb->¬(fun g=>Fk g\/g=c.pb) g:=fun g _ h1 h2 h=>h.elim h1 h2;have Yn:∀ g,g<W1.heap.size->¬ Fk g->¬ F2 g:=fun g hl hn h=>(FW.foot g h).elim hn (fun h2=>by omega);have afh:xb<W1.heap.size:=ak qd.out;have hxF:¬ Fk xb:=fun h=>by have:=HS.out.lt h;have:=Hxb.out;omega
     have Ox:xb≠c.pb:=fun e=>by have:=ak HS.out.pool.own;have:=Hxb.out;omega
     have sJ:xb≠c.nb:=fun e=>by have:=ak HS.out.box;have:=Hxb.out;omega
     have lH:=hd0 (ab FW.mod qd.out (fun h=>h.elim hxF Ox));have adk:mb<wr.heap.size:=HMp.out.1.lt;have N0:mb≠c.pb:=fun e=>by have:=ak H0.out.pool.own;have:=Hmb.out;omega
     have Sv:Hid (xI w2 mb (su was)/\¬ F2 mb):=hd0 ⟨(HMp.out.1.mod BP.out id).mod FW.mod (fun h=>h.elim HMp.out.2 N0),Yn mb (auW adk BP.out.size) HMp.out.2⟩;have adb:∀ g,sG.ownBlock=some g->g≠c.pb:=fun g hg e=>by
      have h1:=(HO.out.1.lt g hg).1;have:=ak H0.out.pool.own;omega
     have zl:Hid (dX jG 5 128 w2 w.heap.size sG j3/\(∀ g,sG.ownBlock=some g->¬ F2 g)/\j3.length=k):=hd0 ⟨aA (io HO.out.1 BP.out) (fun g hg=>FW.mod.block g (auW (aU HO.out.1 hg) BP.out.size) (fun h=>h.elim (HO.out.2.1 g hg) (adb g hg))),fun g hg=>Yn g (auW (aU HO.out.1 hg) BP.out.size) (HO.out.2.1 g hg),HO.out.2.2⟩;have yC:=hd0 dj.1;have mZ:=hd0 ((HT.out.keep BP.out).trans dj.2);have afp:=hd0 (And.intro (Yn xb afh hxF) (And.intro Ox sJ));have Hiv:Hid ((∀ g,sG.ownBlock=some g->w.heap.size<=g/\g<xb)/\xb<w2.heap.size):=hd0 ⟨fun g hg=>⟨(HO.out.1.lt g hg).1,by have:=aU HO.out.1 hg;have:=Hxb.out;omega⟩,ak lH.out⟩;clear FW dj kw Yn afh hxF Ox sJ adk N0 adb VS HS HT HO HMp Ky qd BP;go_wp2_with fail;have Tb:af w2 (w2.alloc (.cells #[.int .i64 bl.root,.int .i64 bl.size] 42)):=(ah.refl _ w2).alloc _;have hB0:World.blk (w2.alloc (.cells #[.int .i64 bl.root,.int .i64 bl.size] 42)) w2.heap.size #[.int .i64 bl.root,.int .i64 bl.size] 42:=aw _ _ _;obtain⟨bb,TY⟩:∃ bb,w2.heap.size=bb:=⟨_,rfl⟩
     obtain⟨W3,Yr⟩:∃ W3,w2.alloc (.cells #[.int .i64 bl.root,.int .i64 bl.size] 42)=W3:=⟨_,rfl⟩
     rw[Yr]at Tb hB0 ⊢;rw[TY]at hB0 ⊢;have qe:=yC.out.keep Tb;have gi:W3.cell? ⟨c.v,0,none⟩=some (aq c.pv):=by rw[aa qe.own 0];exact HC.out.cv0
     obtain⟨Sb,hSb⟩:=Q3.out;have VA:=hd0 (xF qe.vol c.v gi sk Hsk.out hSb s Q2.out);have Hs6:=hd0 (Ex hSb Hsk.out Q2.out);have AG:=hd0 qe;have oo:=hd0 hB0;have OE:=hd0 Tb;have Hbb:=hd0 TY;clear qe gi hSb hB0 Tb TY Yr;unfold de at VA;refine VA.out.mono ?_;rintro e w4 ⟨rfl,F4,hv4,jo⟩;have Fu:=AG.out.read hv4 jo;have hF4:∀ g,g<W3.heap.size->¬ F2 g->¬ F4 g:=fun g hl hn h=>(jo.foot g h).elim hn (fun h2=>by omega);have KK:=OE.out.size;have hbF:¬ F2 bb:=fun h=>by have:=yC.out.lt h;have:=Hbb.out;omega
     have FK:=hd0 (ab jo.mod oo.out hbF);have BQ:=hd0 (ab jo.mod (ab OE.out lH.out id) afp.out.1);have Oh:Hid (xI w4 mb (su was)/\¬ F4 mb):=hd0 ⟨(Sv.out.1.mod OE.out id).mod jo.mod Sv.out.2,hF4 mb (auW Sv.out.1.lt KK) Sv.out.2⟩;have WL:Hid (dX jG 5 128 w4 w.heap.size sG j3/\(∀ g,sG.ownBlock=some g->¬ F4 g)/\j3.length=k):=hd0 ⟨aA (io zl.out.1 OE.out) (fun g hg=>jo.mod.block g (auW (aU zl.out.1 hg) KK) (zl.out.2.1 g hg)),fun g hg=>hF4 g (auW (aU zl.out.1 hg) KK) (zl.out.2.1 g hg),zl.out.2.2⟩;have YB:=hd0 Fu.1;have Tv:=hd0 ((mZ.out.keep OE.out).trans Fu.2);have hbn:bb≠c.nb:=fun e=>by have:=ak yC.out.box;have:=Hbb.out;omega
     have Hbn:=hd0 (And.intro hbn afp.out.2.2);clear hv4 jo Fu hF4 KK hbF VA oo lH Sv zl AG mZ OE hbn yC
     go_upto_region 13 with fail
     refine gL 14 [0,1,2,3,4,5,6,7,8,9,10,11,12] [13,14,15,16,17] (fun X=>World.blk X xb #[.int .i64 x.num,.bool x.dir,.int .i64 x.links,aB x.data] 221/\World.blk X bb #[.int .i64 bl.root,.int .i64 bl.size] 42) (fun X=>X.cell? ⟨c.nb,8,none⟩=some sG) (by kernel_rfl) (by kernel_rfl) (fun _ o _ _ _ h=>by cases o<;>exact h) ?_
     iterate 4 (refine fH rfl (fun L hL=>?_);go_simp;(first|refine hL _ ?_|refine⟨_,fun _ _ _=>rfl,hL _ ?_⟩|refine⟨_,fun X h1 h2=>by simp only[aa h1,aa h2];rfl,hL _ ?_⟩|(trace_state;fail));clear hL L)
     refine Dh rfl (by kernel_rfl) (fun L hL=>?_)
     go_simp
     refine⟨_,fun X _ _ hW=>by simp only[hW];rfl,hL _ ?_⟩;clear hL L
     iterate 8 (refine fH rfl (fun L hL=>?_);go_simp;(first|refine hL _ ?_|refine⟨_,fun _ _ _=>rfl,hL _ ?_⟩|refine⟨_,fun X h1 h2=>by simp only[aa h1,aa h2];rfl,hL _ ?_⟩|refine⟨_,fun X _ h2=>by have e0:X.cell? ⟨bb,0,none⟩=some (.int .i64 bl.root):=aa h2 0;have e1:X.cell? ⟨bb,1,none⟩=some (.int .i64 bl.size):=aa h2 1;simp only[e0,e1,Result.andThen];rfl,hL _ ?_⟩|(trace_state;fail));clear hL L)
     refine i6 ?_;obtain⟨W5,BZ⟩:∃ W5:World,({ w4 with drawn:=w4.drawn+1 }:World)=W5:=⟨_,rfl⟩
     have kd:af w4 W5:=by rw[<-BZ];exact(ah.refl _ w4).drawn _
     rw[BZ];have hx5:=ab kd BQ.out id;have XZ:=ab kd FK.out id;have Gc:=YB.out.keep kd;have i5:W5.cell? ⟨c.nb,8,none⟩=some sG:=aa Gc.box 8;have N9:=io WL.out.1 kd;have nW:=ic (P:=prog) (ts:=96) (te:=128) underlying96 QY rfl (by decide) w.heap.size sG _ _ W5 N9 (jG ⟨x.num,x.dir,x.links,bl⟩) rfl (QK _) (by have:=WL.out.2.2;unfold maxLen;omega) (by have:=WL.out.2.2;omega) (auI Tv.out.mod.size kd.size);obtain⟨v6,w6,r6,Fo,m6,at6,g6,rr,rfl⟩:=nW;have ka5:af W5 (W5.alloc (.cells (jG ⟨x.num,x.dir,x.links,bl⟩).toArray 128)):=(ah.refl _ W5).alloc _;have hxa:=aH hx5 (.cells (jG ⟨x.num,x.dir,x.links,bl⟩).toArray 128);have hba:=aH XZ (.cells (jG ⟨x.num,x.dir,x.links,bl⟩).toArray 128);have hia:(W5.alloc (.cells (jG ⟨x.num,x.dir,x.links,bl⟩).toArray 128)).cell? ⟨c.nb,8,none⟩=some sG:=aa (Gc.keep ka5).box 8;have Ks:∀ g,sG.ownBlock=some g->w.heap.size<=g/\g≠xb/\g≠bb:=fun g hg=>by
      have h1:=Hiv.out.1 g hg;have h2:=Hiv.out.2;have h3:=Hbb.out;exact⟨h1.1,by omega,by omega⟩
     have hx6:=ab m6 hx5 (fun e=>(Ks xb e).2.1 rfl);have FG:=ab m6 XZ (fun e=>(Ks bb e).2.2 rfl);have Ju:=Gc.other m6 fun g hg=>by
      have h1:=(Ks g hg).1;have h2:=ak H0.out.box;have h3:=ak H0.out.pool.own;have h4:=ak H0.out.map.own;have h5:=ak H0.out.own;exact⟨WL.out.2.1 g hg,by omega,by omega,by omega,by omega⟩
     have Jb:=(Tv.out.keep kd).fresh m6 fun g hg=>(Ks g hg).1;have c68:w6.cell? ⟨c.nb,8,none⟩=some sG:=aa Ju.box 8;have f68:=ae Ju.box ⟨c.nb,8,none⟩ rfl;have m7:ah (fun g=>g=c.nb) w6 (w6.setCell ⟨c.nb,8,none⟩ (.slice (some ⟨g6,0,none⟩) (j3.length+1) rr)):=(ah.refl (fun g=>g=c.nb) w6).setCell (p:=⟨c.nb,8,none⟩) (.inl rfl) _;have hs7:=Ju.boxed (b':=b) (OT:=.slice (some ⟨g6,0,none⟩) (j3.length+1) rr) HC.out (ag Ju.box 8 _) m7;have hg6:w.heap.size<=g6/\¬ F4 g6/\g6≠mb:=by
      refine⟨(Fo.lt g6 rfl).1,?_⟩;rcases at6 with e|⟨kk,e,sK⟩
      ·have e':sG.ownBlock=some g6:=e.symm;exact⟨WL.out.2.1 g6 e',xJ WL.out.1 e' Oh.out.1⟩
      ·have:kk=g6:=by injection e with e;exact e.symm
       subst this;exact⟨fun h=>by have:=YB.out.lt h;have:=kd.size;omega,fun e2=>by have:=Oh.out.1.lt;have:=kd.size;omega⟩
     unfold jG at r6;have HR6:=hd0 r6;have aeQ:∀ g,sG.ownBlock=some g->g≠mb:=fun g hg=>xJ WL.out.1 hg Oh.out.1;have KO:mb≠c.nb:=fun e=>by have:=ak H0.out.box;have:=Hmb.out;omega
     have aaD:bb≠c.nb/\xb≠c.nb:=Hbn.out;have aj0:Hid (xI (w6.setCell ⟨c.nb,8,none⟩ (.slice (some ⟨g6,0,none⟩) (j3.length+1) rr)) mb (su was)/\¬ F4 mb):=hd0 ⟨((Oh.out.1.mod kd id).mod m6 (fun e=>aeQ mb e rfl)).mod m7 KO,Oh.out.2⟩;have HO7:Hid (dX jG 5 128 (w6.setCell ⟨c.nb,8,none⟩ (.slice (some ⟨g6,0,none⟩) (j3.length+1) rr)) w.heap.size (.slice (some ⟨g6,0,none⟩) (j3.length+1) rr) (j3++[⟨x.num,x.dir,x.links,bl⟩])/\(∀ g,(Value.slice (some ⟨g6,0,none⟩) (j3.length+1) rr).ownBlock=some g->¬ F4 g)/\(j3++[(⟨x.num,x.dir,x.links,bl⟩:fC)]).length=k+1):=hd0 ⟨by
      unfold dX;rw[au2,au3];refine aA (by simpa using Fo) fun g hg=>m7.block g (Fo.lt g hg).2 (fun e=>?_);have h1:=(Fo.lt g hg).1;have h2:=ak H0.out.box
      omega,fun g hg=>by have e:g6=g:=by simpa[Value.ownBlock]using hg
                         subst e;exact hg6.2.1,by have:=WL.out.2.2;simp;omega⟩
     have HS7:=hd0 hs7.1;have HT7:=hd0 (Jb.trans hs7.2);have D5:=hd0 (And.intro hx5 XZ);have Da:=hd0 (And.intro hxa hba);have D6:=hd0 (And.intro hx6 FG);have D7:=hd0 (And.intro (ab m7 hx6 aaD.2) (ab m7 FG aaD.1));clear hs7 Jb m7 Fo r6 at6 m6 hx6 FG Ju hxa hba hx5 XZ Gc N9 kd ka5 Ks hg6 aeQ KO aaD FK BQ Oh WL YB Tv BZ;refine bQ rfl ⟨D5.out,.inr i5⟩ ?_;go_wp2_with fail;refine bQ rfl ⟨Da.out,.inr hia⟩ ?_;refine az HR6.out rfl rfl rfl rfl ?_;go_wp2_with fail;refine bQ rfl ⟨D6.out,.inl rfl⟩ ?_;go_wp2_with fail;refine bQ rfl ⟨D6.out,.inl rfl⟩ ?_;go_wp2_with fail;refine bQ rfl ⟨D6.out,.inl rfl⟩ ?_;go_wp2_with fail;refine pO ⟨D7.out,.inl rfl⟩ ?_;generalize w6.setCell ⟨c.nb,8,none⟩ (.slice (some ⟨g6,0,none⟩) (j3.length+1) rr)=w7 at*;have hk1:k+1<=nodes.length:=by omega
     clear aK;go_wp2_with fail;exact⟨⟨k+1,tb,s,_,F4,_,AC,hk1,by go_num,rfl,HS7,HT7,HO7,aj0,hd0 ⟨rz.out.1,rz.out.2.1,Hs6.out,rz.out.2.2.1,rz.out.2.2.2⟩⟩,by simp[intOf];omega⟩
    ·obtain rfl:k=nodes.length:=by omega
     have lF:rest=[]/\sk=set/\tk=t1:=by
      have h1:=HR.out.2.1;rw[List.drop_length]at h1;unfold mF at h1;injection h1 with h1;injection h1 with h1 h2;injection h2 with h2 h3;exact⟨h1.symm,h2,h3⟩
     obtain⟨rfl,rfl,rfl⟩:=lF;have Ob:j3=inos:=by have:=HR.out.1;simpa using this
     subst Ob;have n8:wr.cell? ⟨c.nb,8,none⟩=some sG:=aa HS.out.box 8;have TI:=hd0 (Ez j3 sG wr (bY xw HO.out.1) HIN.out);have MU:=hd0 mR;have Hs6:=hd0 HR.out.2.2.1;have Htb:=hd0 HR.out.2.2.2.1;clear aK HR HMp;go_wp2_with fail;refine TI.out.mono ?_;rintro e w8 ⟨rfl,k8⟩;have FZ:=hd0 (HS.out.keep k8);have HT8:=hd0 (HT.out.keep k8);have Yh:Hid (dX jG 5 128 w8 w.heap.size sG j3/\(∀ g,sG.ownBlock=some g->¬ Fk g)):=hd0 ⟨io HO.out.1 k8,HO.out.2.1⟩;clear k8 TI HS HT HO n8;go_wp2_with fail;refine(MU.out _).mono ?_;rintro e w9 ⟨rfl,rfl⟩;have v2:w9.cell? ⟨c.v,2,none⟩=some (.int .i64 old.root):=by rw[aa FZ.out.own 2];exact HM.out.c2
     have v3:w9.cell? ⟨c.v,3,none⟩=some (.int .i64 old.size):=by rw[aa FZ.out.own 3];exact HM.out.c3
     have gi:w9.cell? ⟨c.v,0,none⟩=some (aq c.pv):=by rw[aa FZ.out.own 0];exact HC.out.cv0
     obtain⟨br,S0,hS0⟩:=O2.out;have VS:=hd0 (nN FZ.out.vol FZ.out.pool FZ.out.fp (Htb.out.trans HC.out.size.symm) (by have:=HC.out.size;have:=HC.out.many;omega) c.v gi hS0 (kh j3) (by have:=HIL.out.2;omega) table t2 E2.out);unfold de at VS;clear gi hS0;go_wp2_with fail;refine VS.out.mono ?_;rintro e CB ⟨rfl,F2,FW⟩;have dj:=FZ.out.stored HC.out FW;have HOA:Hid (dX jG 5 128 CB w.heap.size sG j3/\(∀ g,sG.ownBlock=some g->¬ F2 g/\g≠c.nb)):=hd0 ⟨aA Yh.out.1 (fun g hg=>FW.mod.block g (aU Yh.out.1 hg) (fun h=>h.elim (Yh.out.2 g hg) (fun e=>by have h1:=(Yh.out.1.lt g hg).1;have:=ak H0.out.pool.own;omega))),fun g hg=>⟨fun h=>(FW.foot g h).elim (Yh.out.2 g hg) (fun h2=>by have:=aU Yh.out.1 hg;omega),fun e=>by have h1:=(Yh.out.1.lt g hg).1;have:=ak H0.out.box;omega⟩⟩;have hb:=dj.1.box;have n0:CB.cell? ⟨c.nb,0,none⟩=some (.int .i64 b.table.root):=aa hb 0;have n1:CB.cell? ⟨c.nb,1,none⟩=some (.int .i64 b.table.size):=aa hb 1;have f0:=ae hb ⟨c.nb,0,none⟩ rfl;have f1:=ae hb ⟨c.nb,1,none⟩ rfl;have m4:ah (fun g=>g=c.nb) CB ((CB.setCell ⟨c.nb,0,none⟩ (.int .i64 table.root)).setCell ⟨c.nb,1,none⟩ (.int .i64 table.size)):=((ah.refl (fun g=>g=c.nb) CB).setCell (p:=⟨c.nb,0,none⟩) (.inl rfl) _).setCell (p:=⟨c.nb,1,none⟩) (.inl rfl) _;have hsH:=dj.1.boxed (b':={ b with table:=table }) HC.out (ag (ag hb 0 (.int .i64 table.root)) 1 (.int .i64 table.size)) m4;have HOB:Hid (dX jG 5 128 ((CB.setCell ⟨c.nb,0,none⟩ (.int .i64 table.root)).setCell ⟨c.nb,1,none⟩ (.int .i64 table.size)) w.heap.size sG j3/\(∀ g,sG.ownBlock=some g->¬ F2 g)):=hd0 ⟨aA HOA.out.1 (fun g hg=>m4.block g (aU HOA.out.1 hg) (fun e=>(HOA.out.2 g hg).2 e)),fun g hg=>(HOA.out.2 g hg).1⟩;have HSB:=hd0 hsH.1;have HTB:=hd0 ((HT8.out.trans dj.2).trans hsH.2);clear FW dj hb m4 hsH FZ HT8 Yh HOA VS v2 v3;go_wp2_with fail;generalize (CB.setCell ⟨c.nb,0,none⟩ (.int .i64 table.root)).setCell ⟨c.nb,1,none⟩ (.int .i64 table.size)=w11 at*;obtain⟨Sn2,hSn⟩:=N2.out;have gi:w11.cell? ⟨c.v,0,none⟩=some (aq c.pv):=by rw[aa HSB.out.own 0];exact HC.out.cv0
     have VA:=hd0 (xF HSB.out.vol c.v gi sk Hs6.out hSn set1 E3.out);unfold de at VA;clear hSn gi;refine VA.out.mono ?_;rintro e AM ⟨rfl,F3,OV,dm⟩;have Fu:=HSB.out.read OV dm;have HSC:=hd0 Fu.1;have HTC:=hd0 (HTB.out.trans Fu.2);have HOC:Hid (dX jG 5 128 AM w.heap.size sG j3/\(∀ g,sG.ownBlock=some g->¬ F3 g)):=hd0 ⟨aA HOB.out.1 (fun g hg=>dm.mod.block g (aU HOB.out.1 hg) (HOB.out.2 g hg)),fun g hg h=>(dm.foot g h).elim (HOB.out.2 g hg) (fun h2=>by have:=aU HOB.out.1 hg;omega)⟩;clear OV dm Fu VA;go_wp2;go_ret;exact⟨rfl,F3,sG,HSC.out,HTC.out,HOC.out.1,HOC.out.2⟩
end
section
open Go.RowKit
theorem MC (p e:Nat)(w:World):
  CallsD prog 124 #[aq p,aq e] .returning w fun x u' w'=>x=.returned (.tuple #[])/\u'=.returning/\af w w':=by
 have hta:∀ W,(Instr.typeAssert .nilIface 20 274 true).run prog W=.ok (.tuple #[.agg #[.int .i64 0],.bool false]) W:=fun _=>by kernel_rfl
 refine callsD_of_wpS func124 rfl fun c₀ cs hu=>?_;apply wpS_seq;apply wpS_region;simp[wpOpsS,go_sem,recoverD,hu,ntmps124,Exit.thenS,hta];apply wpS_seq;apply wpS_seq;apply wpS_region;simp[wpOpsS,go_sem,Exit.thenS];refine wpS_cond (t:=true) (by simp[Act.eval,Array.replicate]) ?_;simp only[if_true];refine wpS_of_wp (wp_ret ?_);refine⟨rfl,.returning,?_,.tuple #[],?_,rfl,rfl,(ah.refl _ w).alloc _⟩
 ·cases c₀
  simp_all
 ·simp[results,Tryz.results124]
end
end Go.Proofs.YtkghpdcloaiflaaGreatDoor
