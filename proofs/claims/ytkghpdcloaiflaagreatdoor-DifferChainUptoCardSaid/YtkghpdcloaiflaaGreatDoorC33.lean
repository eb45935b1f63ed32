import Derived.Test.YtkghpdcloaiflaaGreatDoorC32
import Derived.Recover
set_option maxHeartbeats 8000000
set_option maxRecDepth 100000
namespace Go.Proofs.YtkghpdcloaiflaaGreatDoor
open _root_.Go.Proofs.Tryz
section
open Go.RowKit
attribute [local go_sem] atC
theorem eI.other {c:qd}{rd:Rd}{pool:Pl}{b:iX}{iv sv nv:Value}{L:List ay}{F S:Nat->Prop}{w w':World}(h:eI c rd pool b iv sv nv L F w)(m:ah S w w')(hS:∀ g,S g->¬ F g/\g≠c.nb/\g≠c.pb/\g≠c.pm/\g≠c.v):eI c rd pool b iv sv nv L F w':=
 ⟨h.vol.same (m.on fun g hg hs=>(hS g hs).1 hg) m.size,h.pool.mod m (fun hs=>(hS _ hs).2.2.1 rfl),ab m h.box (fun hs=>(hS _ hs).2.1 rfl),h.map.mod m (fun hs=>(hS _ hs).2.2.2.1 rfl),ab m h.own (fun hs=>(hS _ hs).2.2.2.2 rfl),h.fv,h.fn,h.fp,h.fm⟩
theorem ge.fresh {c:qd}{F F1 S:Nat->Prop}{w w1 w2:World}(h:ge c F F1 w w1)(m:ah S w1 w2)(hS:∀ g,S g->w.heap.size<=g):ge c F F1 w w2:=⟨h.foot,h.mod.trans m fun g hl hs=>by have:=hS g hs;omega⟩
theorem xt {w:World}{base n sz g mb:Nat}{t:TypeId}{v:Value}{xs:List Value}(h:w.ownsRow base t sz v n xs)(hg:v.ownBlock=some g){l:List (Int×fR)}(hm:xr w mb l):g≠mb:=by
 rcases h.2 with⟨rfl,_⟩|⟨k,cap,du,rfl,hb,hk,_⟩
 ·cases hg
 ·have e:k=g:=by simpa[Value.ownBlock]using hg
  subst e;obtain⟨es,clock,hm,_⟩:=hm;rintro rfl;rw[hm]at hk
  cases hk
structure Wk (c:qd)(was:List fF)(old:fR)(nodes:List Nt)(ivo nv:Value)(F:Nat->Prop)(w:World):Prop where
 c10:c.cv[10]?=some ivo
 c2:c.cv[2]?=some (.int .i64 old.root)
 c3:c.cv[3]?=some (.int .i64 old.size)
 was:dQ jv 5 128 w 0 ivo was
 nodes:dQ gx 4 221 w 0 nv nodes
 fwas:∀ g,ivo.ownBlock=some g->¬ F g/\g≠c.nb/\g≠c.pb/\g≠c.pm
 fnodes:∀ g,nv.ownBlock=some g->¬ F g/\g≠c.nb/\g≠c.pb/\g≠c.pm
theorem H5 {was:List fF}{x:Nt}{r:List Nt}{sk s:ay}{tk tb t1:gA}{bl:fR}{rest:List fF}{set:ay}(e1:dE tk (dX was x.num) x.data=.ok (bl,tb))(e2:dI tb.rd sk bl=.ok s)(h:mt was (x::r) sk tk=.ok (rest,set,t1)):
  ∃ Am,mt was r s tb=.ok (Am,set,t1)/\rest=⟨x.num,x.dir,x.links,bl⟩::Am:=by
 rw[mt,e1]at h;simp only at h;rw[e2]at h;simp only at h
 cases hr:mt was r s tb with
 |error e=>rw[hr]at h;cases h
 |ok o=>
  rw[hr]at h;simp only[Except.map]at h;injection h with h;injection h with h1 h2;exact⟨o.1,by rw[show o=(o.1,o.2)from rfl,h2],h1.symm⟩
theorem Qw:(prog.info? 128).map (fun i=>(i.zero,i.size,i.bytes))=some (some (.agg #[.int .i64 0,.bool false,.int .i64 0,.int .i64 0,.int .i64 0]),5,40):=by kernel_rfl
theorem Qx {c:qd}(hc:c.Ok){rd:Rd}{pool:Pl}{b:iX}{sv nv ivo:Value}{L:List ay}{F:Nat->Prop}{w:World}(h:eI c rd pool b (.slice none 0 0) sv nv L F w){was:List fF}{old:fR}{nodes:List Nt}(hm:Wk c was old nodes ivo nv F w)(mL:pool.blocks=c.n)
  (Xi:was.length<=100) (xX:nodes.length<=60) (hwn:∀ y∈was,0<=y.num/\y.num<=65535) (hnn:∀ x∈nodes,0<=x.num/\x.num<=65535)
  {inos:List fF} {set set1:ay} {t1 t2:gA} {table:fR} (Rw:∃ bg U mN,qI was bg U mN nodes ⟨rd,pool⟩) (e1:mt was nodes [] ⟨rd,pool⟩=.ok (inos,set,t1)) (tB:qB inos=true) (I9:inos.length<=60/\(jT inos).length<=722)
  (old2:∃ bg S,aR t1.rd bg old S) (e2:dE t1 old (jT inos)=.ok (table,t2)) (new2:∃ S,aR t2.rd (jT inos) table S) (e3:dI t2.rd set table=.ok set1):
  Calls prog 130 #[aq c.v,aq c.nb,aq c.pb] w fun e w'=>e=.returned (aB set1)/\∃ F' Oh,eI c t2.rd t2.pool { b with table:=table } Oh sv nv L F' w'/\ge c F F' w w'/\dQ jv 5 128 w' w.heap.size Oh inos/\(∀ g,Oh.ownBlock=some g->¬ F' g):=by
 have It:=@run_makeMap prog;have HC:=hd0 hc;have H0:=hd0 h;have HM:=hd0 hm;have Bj:=hd0 mL;have ahz:=hd0 Rw;have E1:=hd0 e1;have HIN:=hd0 tB;have HIL:=hd0 I9;have O2:=hd0 old2;have E2:=hd0 e2;have N2:=hd0 new2;have E3:=hd0 e3;have HWL:=hd0 Xi;have HWN:=hd0 hwn;have HNN:=hd0 hnn;have HNL:=hd0 xX;have dA:af w (w.alloc (.map #[] 0)):=(ah.refl _ w).alloc _;have nG:Hid (xr (w.alloc (.map #[] 0)) w.heap.size []):=hd0 (fg.made w);obtain⟨mb,yU⟩:∃ mb,w.heap.size=mb:=⟨_,rfl⟩
 have Hmb:=hd0 yU;have dN:=hd0 dA;have H1:=hd0 (h.keep dA);obtain⟨a,cap,ev,hx⟩:=cf xe hm.was;subst ev;have HX:=hd0 hx;have v10:(w.alloc (.map #[] 0)).cell? ⟨c.v,10,none⟩=some (.slice a was.length cap):=by rw[aa (h.keep dA).own 10];exact hm.c10
 have hwi:(was.length:Int)<=100:=by omega
 clear hc h hm mL Rw e1 tB I9 old2 e2 new2 e3 dA hx hwn hnn xX;rw[yU]at nG;go_enter func130,ntmps130;go_wp2_with fail
 try rw[yU]
 generalize w.alloc (.map #[] 0)=W at*
 go_loopw [23] (fun i wr=>∃ k:Nat,k<=was.length/\i=.int .i64 (k:Int)/\Hid (xr wr mb (rO (was.take k)))/\Hid (af w wr)) (fun i _=>was.length-(intOf i).toNat)
 case atStart=>exact⟨0,by omega,rfl,nG,dN⟩
 case round=>
  clear nG dN H1 v10;obtain⟨k,hk,rfl,HB,HK⟩:=hrel;by_cases aM:k<was.length
  ·have dS:(k:Int)<(was.length:Int):=by omega
   obtain⟨y,hy⟩:∃ y,was[k]?=some y:=⟨_,atI aM⟩
   obtain⟨rb,o,rfl,hc⟩:=HX.out k y hy;have c0:wr.cell? ⟨rb,o+k*5,none⟩=some (.int .i64 y.num):=by have h:=hc 0 _ rfl;rw[HK.out.cell (p:=⟨rb,o+k*5,none⟩) (am h) id];exact h
   have c1:wr.cell? ⟨rb,o+k*5+1,none⟩=some (.bool y.dir):=by have h:=hc 1 _ rfl;rw[HK.out.cell (p:=⟨rb,o+k*5+1,none⟩) (am h) id];exact h
   have c2:wr.cell? ⟨rb,o+k*5+2,none⟩=some (.int .i64 y.links):=by have h:=hc 2 _ rfl;rw[HK.out.cell (p:=⟨rb,o+k*5+2,none⟩) (am h) id];exact h
   have c3:wr.cell? ⟨rb,o+k*5+3,none⟩=some (.int .i64 y.blob.root):=by have h:=hc 3 _ rfl;rw[HK.out.cell (p:=⟨rb,o+k*5+3,none⟩) (am h) id];exact h
   have c4:wr.cell? ⟨rb,o+k*5+4,none⟩=some (.int .i64 y.blob.size):=by have h:=hc 4 _ rfl;rw[HK.out.cell (p:=⟨rb,o+k*5+4,none⟩) (am h) id];exact h
   have hyn:=HWN.out y (atJ hy);have qY:af wr (wr.alloc (.cells (jv y).toArray 128)):=(ah.refl _ wr).alloc _;obtain⟨w2,bh,gO,de,cA⟩:=(HB.out.mod qY id).store Qt underlying281 underlying3 y.num (by omega) y.blob trivial (by have h1:=Qv (was.take k);have h2:=HWL.out;have h3:(was.take k).length<=was.length:=List.length_take_le' _ _;omega);have hws:ee jQ y.num y.blob (rO (was.take k))=rO (was.take (k+1)):=by rw[atK,hy];exact(sZ _ _).symm
   rw[hws]at gO;have lU:=hd0 gO;have bu:Hid (af w w2):=hd0 ((HK.out.keep qY).new de (by rw[Hmb.out];exact atL _));unfold db jv at bh;clear hws gO de hc hyn qY hy;go_wp2_with fail;exact⟨⟨k+1,by omega,by go_num,lU,bu⟩,by simp[intOf];omega⟩
  ·obtain rfl:k=was.length:=by omega
   rw[atM]at HB;have H2:=hd0 (H0.out.keep HK.out);obtain⟨an,NG,en,sj⟩:=cf fP HM.out.nodes;subst en;have HXN:=hd0 sj;have n11:wr.cell? ⟨c.nb,11,none⟩=some (.slice an nodes.length NG):=aa H2.out.box 11;have hni:(nodes.length:Int)<=60:=by have:=HNL.out;omega
   have hmF:∀ g,F g->g≠mb:=fun g hg e=>by have:=H0.out.lt hg;have:=Hmb.out;omega
   have HmF:=hd0 hmF;clear sj hmF aM;go_wp2_with fail
   go_loopw [10,38] (fun Km i wx=>∃(k:Nat) (tk:gA) (sk:ay) (su:Value) (Fk:Nat->Prop) (j5 rest:List fF),k<=nodes.length/\i=.int .i64 (k:Int)/\Km=aB sk/\Hid (eI c tk.rd tk.pool b su sv (.slice an nodes.length NG) L Fk wx)/\Hid (ge c F Fk w wx)/\Hid (dQ jv 5 128 wx w.heap.size su j5/\(∀ g,su.ownBlock=some g->¬ Fk g)/\j5.length=k)/\Hid (xr wx mb (rO was)/\¬ Fk mb)/\Hid (j5++rest=inos/\mt was (nodes.drop k) sk tk=.ok (rest,set,t1)/\sk.length<=600/\tk.pool.blocks=c.n/\∃ bg U mN,qI was bg U mN (nodes.drop k) tk)) (fun _ i _=>nodes.length-(intOf i).toNat)
   case atStart=>
    exact⟨0,⟨rd,pool⟩,[],_,F,[],inos,by omega,rfl,rfl,H2,hd0 ((ge.refl c F w).keep HK.out),hd0 ⟨World.ownsRow_nil _ _ _ _,fun g hg=>(by cases hg),rfl⟩,hd0 ⟨HB.out,fun h=>HmF.out mb h rfl⟩,hd0 ⟨rfl,E1.out,by simp,Bj.out,ahz.out⟩⟩
   case round=>
    clear H2 HK HB n11;obtain⟨k,tk,sk,su,Fk,j5,rest,hk,rfl,rfl,HS,HT,HO,HMp,HR⟩:=hrel;by_cases aM:k<nodes.length
    ·have dS:(k:Int)<(nodes.length:Int):=by omega
     obtain⟨x,hx⟩:∃ x,nodes[k]?=some x:=⟨_,atI aM⟩
     have XR:nodes.drop k=x::nodes.drop (k+1):=by rw[List.drop_eq_getElem_cons aM];congr 1;rw[atI aM]at hx;injection hx
     obtain⟨Kq,tC,Ks,hr4,bg,U,mN,hr5⟩:=HR.out;rw[XR]at tC hr5;obtain⟨bl,tb,s,q1,q2,q3,⟨apr,Sx,q4⟩,q5⟩:=hr5.step sk;obtain⟨Am,q6,rfl⟩:=H5 q1 q2 tC;obtain⟨rb,o,rfl,WO⟩:=HXN.out k x hx;have cx:∀ i v,(gx x)[i]?=some v->wr.cell? ⟨rb,o+k*4+i,none⟩=some v:=fun i v hi=>by
      have h1:=WO i v hi;have hf:=HM.out.fnodes rb rfl;rw[HT.out.mod.cell (p:=⟨rb,o+k*4+i,none⟩) (am h1) (fun h=>by rcases h with h|h|h|h;exact hf.1 h;exact hf.2.1 h;exact hf.2.2.1 h;exact hf.2.2.2 h)];exact h1
     have c0:wr.cell? ⟨rb,o+k*4,none⟩=some (.int .i64 x.num):=cx 0 _ rfl;have c1:wr.cell? ⟨rb,o+k*4+1,none⟩=some (.bool x.dir):=cx 1 _ rfl;have c2:wr.cell? ⟨rb,o+k*4+2,none⟩=some (.int .i64 x.links):=cx 2 _ rfl;have c3:wr.cell? ⟨rb,o+k*4+3,none⟩=some (aB x.data):=cx 3 _ rfl;have sj:=HNN.out x (atJ hx);have EV:x.data.length<=16384:=(hr5.each x (by simp)).1;have qY:af wr (wr.alloc (.cells #[.int .i64 x.num,.bool x.dir,.int .i64 x.links,aB x.data] 221)):=(ah.refl _ wr).alloc _;have Al:=(HMp.out.1.mod qY id).look1 Qt underlying281 underlying3 x.num (by omega);rw[Qu]at Al;have ZG:=hd0 (HS.out.keep qY);have pQ:Hid (World.blk (wr.alloc (.cells #[.int .i64 x.num,.bool x.dir,.int .i64 x.links,aB x.data] 221)) wr.heap.size #[.int .i64 x.num,.bool x.dir,.int .i64 x.links,aB x.data] 221):=hd0 (aw _ _ _);have BB:=hd0 qY;have Hx:=hd0 hx;have rj:Hid ((j5++[⟨x.num,x.dir,x.links,bl⟩])++Am=inos/\mt was (nodes.drop (k+1)) s tb=.ok (Am,set,t1)/\tb.pool.blocks=c.n/\∃ bg U mN,qI was bg U mN (nodes.drop (k+1)) tb):=hd0 ⟨by rw[<-Kq];simp,q6,by rw[q5.blocks,<-hr5.blocks,hr4],bg,U,mN,q5⟩;have Q1:=hd0 q1;have Q2:=hd0 q2;have Q3:=hd0 q3;have Q4:=hd0 q4;have Hsk:=hd0 Ks;have Hbk:=hd0 hr4;have Hdl:=hd0 EV;clear XR Kq tC Ks hr4 hr5 q1 q2 q3 q4 q5 q6 HR WO cx sj qY hx EV;unfold db at Al;go_wp2_with fail;obtain⟨W1,Kl⟩:∃ W1,wr.alloc (.cells #[.int .i64 x.num,.bool x.dir,.int .i64 x.links,aB x.data] 221)=W1:=⟨_,rfl⟩
     obtain⟨xb,ye⟩:∃ xb,wr.heap.size=xb:=⟨_,rfl⟩
     have Hxb:=hd0 ye;rw[Kl]at ZG pQ BB Al ⊢;rw[ye]at pQ ⊢;have fX:W1.cell? ⟨c.v,0,none⟩=some (aq c.pv):=by rw[aa ZG.out.own 0];exact HC.out.cv0
     have VS:=hd0 (nA ZG.out.vol ZG.out.pool ZG.out.fp (Hbk.out.trans HC.out.size.symm) (by have:=HC.out.size;have:=HC.out.many;omega) c.v fX Q4.out x.data Hdl.out bl tb Q1.out);clear c0 c1 c2 c3 Al fX Kl ye;unfold db at VS;refine VS.out.mono ?_;rintro e w2 ⟨rfl,F2,Fx⟩;have dr:=ZG.out.stored HC.out Fx;have j4:∀ g,g<W1.heap.size->¬ Fk g->g≠c.pb->¬(fun g=>Fk g\/g=c.pb) g:=fun g _ h1 h2 h=>h.elim h1 h2;have XB:∀ g,g<W1.heap.size->¬ Fk g->¬ F2 g:=fun g hl hn h=>(Fx.foot g h).elim hn (fun h2=>by omega);have ae8:xb<W1.heap.size:=ai pQ.out;have hxF:¬ Fk xb:=fun h=>by have:=HS.out.lt h;have:=Hxb.out;omega
     have Oo:xb≠c.pb:=fun e=>by have:=ai HS.out.pool.own;have:=Hxb.out;omega
     have sj:xb≠c.nb:=fun e=>by have:=ai HS.out.box;have:=Hxb.out;omega
     have ly:=hd0 (ab Fx.mod pQ.out (fun h=>h.elim hxF Oo));have aeu:mb<wr.heap.size:=HMp.out.1.lt;have Ns:mb≠c.pb:=fun e=>by have:=ai H0.out.pool.own;have:=Hmb.out;omega
     have RZ:Hid (xr w2 mb (rO was)/\¬ F2 mb):=hd0 ⟨(HMp.out.1.mod BB.out id).mod Fx.mod (fun h=>h.elim HMp.out.2 Ns),XB mb (atS aeu BB.out.size) HMp.out.2⟩;have ad4:∀ g,su.ownBlock=some g->g≠c.pb:=fun g hg e=>by
      have h1:=(HO.out.1.lt g hg).1;have:=ai H0.out.pool.own;omega
     have yK:Hid (dQ jv 5 128 w2 w.heap.size su j5/\(∀ g,su.ownBlock=some g->¬ F2 g)/\j5.length=k):=hd0 ⟨az (gZ HO.out.1 BB.out) (fun g hg=>Fx.mod.block g (atS (aS HO.out.1 hg) BB.out.size) (fun h=>h.elim (HO.out.2.1 g hg) (ad4 g hg))),fun g hg=>XB g (atS (aS HO.out.1 hg) BB.out.size) (HO.out.2.1 g hg),HO.out.2.2⟩;have Bw:=hd0 dr.1;have mQ:=hd0 ((HT.out.keep BB.out).trans dr.2);have adj:=hd0 (And.intro (XB xb ae8 hxF) (And.intro Oo sj));have Hiv:Hid ((∀ g,su.ownBlock=some g->w.heap.size<=g/\g<xb)/\xb<w2.heap.size):=hd0 ⟨fun g hg=>⟨(HO.out.1.lt g hg).1,by have:=aS HO.out.1 hg;have:=Hxb.out;omega⟩,ai ly.out⟩;clear Fx dr j4 XB ae8 hxF Oo sj aeu Ns ad4 VS HS HT HO HMp ZG pQ BB;go_wp2_with fail;have RJ:af w2 (w2.alloc (.cells #[.int .i64 bl.root,.int .i64 bl.size] 42)):=(ah.refl _ w2).alloc _;have Zg:World.blk (w2.alloc (.cells #[.int .i64 bl.root,.int .i64 bl.size] 42)) w2.heap.size #[.int .i64 bl.root,.int .i64 bl.size] 42:=aw _ _ _;obtain⟨bb,SW⟩:∃ bb,w2.heap.size=bb:=⟨_,rfl⟩
     obtain⟨W3,WY⟩:∃ W3,w2.alloc (.cells #[.int .i64 bl.root,.int .i64 bl.size] 42)=W3:=⟨_,rfl⟩
     rw[WY]at RJ Zg ⊢;rw[SW]at Zg ⊢;have rh:=Bw.out.keep RJ;have fX:W3.cell? ⟨c.v,0,none⟩=some (aq c.pv):=by rw[aa rh.own 0];exact HC.out.cv0
     obtain⟨Sb,hSb⟩:=Q3.out;have VA:=hd0 (xn rh.vol c.v fX sk Hsk.out hSb s Q2.out);have Hs6:=hd0 (D8 hSb Hsk.out Q2.out);have IK:=hd0 rh;have nW:=hd0 Zg;have Of:=hd0 RJ;have Hbb:=hd0 SW;clear rh fX hSb Zg RJ SW WY;unfold db at VA;refine VA.out.mono ?_;rintro e w4 ⟨rfl,F4,hv4,je⟩;have EM:=IK.out.read hv4 je;have hF4:∀ g,g<W3.heap.size->¬ F2 g->¬ F4 g:=fun g hl hn h=>(je.foot g h).elim hn (fun h2=>by omega);have J3:=Of.out.size;have hbF:¬ F2 bb:=fun h=>by have:=Bw.out.lt h;have:=Hbb.out;omega
     have Fu:=hd0 (ab je.mod nW.out hbF);have Bp:=hd0 (ab je.mod (ab Of.out ly.out id) adj.out.1);have Nl:Hid (xr w4 mb (rO was)/\¬ F4 mb):=hd0 ⟨(RZ.out.1.mod Of.out id).mod je.mod RZ.out.2,hF4 mb (atS RZ.out.1.lt J3) RZ.out.2⟩;have VG:Hid (dQ jv 5 128 w4 w.heap.size su j5/\(∀ g,su.ownBlock=some g->¬ F4 g)/\j5.length=k):=hd0 ⟨az (gZ yK.out.1 Of.out) (fun g hg=>je.mod.block g (atS (aS yK.out.1 hg) J3) (yK.out.2.1 g hg)),fun g hg=>hF4 g (atS (aS yK.out.1 hg) J3) (yK.out.2.1 g hg),yK.out.2.2⟩;have HS4:=hd0 EM.1;have RT:=hd0 ((mQ.out.keep Of.out).trans EM.2);have hbn:bb≠c.nb:=fun e=>by have:=ai Bw.out.box;have:=Hbb.out;omega
     have Hbn:=hd0 (And.intro hbn adj.out.2.2);clear hv4 je EM hF4 J3 hbF VA nW ly RZ yK IK mQ Of hbn Bw
     go_upto_region 13 with fail
     refine gC 14 [0,1,2,3,4,5,6,7,8,9,10,11,12] [13,14,15,16,17] (fun X=>World.blk X xb #[.int .i64 x.num,.bool x.dir,.int .i64 x.links,aB x.data] 221/\World.blk X bb #[.int .i64 bl.root,.int .i64 bl.size] 42) (fun X=>X.cell? ⟨c.nb,8,none⟩=some su) (by kernel_rfl) (by kernel_rfl) (fun _ o _ _ _ h=>by cases o<;>exact h) ?_
     iterate 4 (refine fA rfl (fun L hL=>?_);go_simp;(first|refine hL _ ?_|refine⟨_,fun _ _ _=>rfl,hL _ ?_⟩|refine⟨_,fun X h1 h2=>by simp only[aa h1,aa h2];rfl,hL _ ?_⟩|(trace_state;fail));clear hL L)
     refine CM rfl (by kernel_rfl) (fun L hL=>?_)
     go_simp
     refine⟨_,fun X _ _ hW=>by simp only[hW];rfl,hL _ ?_⟩;clear hL L
     iterate 8 (refine fA rfl (fun L hL=>?_);go_simp;(first|refine hL _ ?_|refine⟨_,fun _ _ _=>rfl,hL _ ?_⟩|refine⟨_,fun X h1 h2=>by simp only[aa h1,aa h2];rfl,hL _ ?_⟩|refine⟨_,fun X _ h2=>by have e0:X.cell? ⟨bb,0,none⟩=some (.int .i64 bl.root):=aa h2 0;have e1:X.cell? ⟨bb,1,none⟩=some (.int .i64 bl.size):=aa h2 1;simp only[e0,e1,Result.andThen];rfl,hL _ ?_⟩|(trace_state;fail));clear hL L)
     refine iS ?_;obtain⟨W5,Br⟩:∃ W5:World,({ w4 with drawn:=w4.drawn+1 }:World)=W5:=⟨_,rfl⟩
     have kd:af w4 W5:=by rw[<-Br];exact(ah.refl _ w4).drawn _
     rw[Br];have Zm:=ab kd Bp.out id;have Xc:=ab kd Fu.out id;have Fb:=HS4.out.keep kd;have i5:W5.cell? ⟨c.nb,8,none⟩=some su:=aa Fb.box 8;have M9:=gZ VG.out.1 kd;have nJ:=gS (P:=prog) (ts:=96) (te:=128) underlying96 Qw rfl (by decide) w.heap.size su _ _ W5 M9 (jv ⟨x.num,x.dir,x.links,bl⟩) rfl (Qi _) (by have:=VG.out.2.2;unfold maxLen;omega) (by have:=VG.out.2.2;omega) (atE RT.out.mod.size kd.size);obtain⟨v6,w6,r6,EX,m6,at6,g6,qR,rfl⟩:=nJ;have ka5:af W5 (W5.alloc (.cells (jv ⟨x.num,x.dir,x.links,bl⟩).toArray 128)):=(ah.refl _ W5).alloc _;have hxa:=aG Zm (.cells (jv ⟨x.num,x.dir,x.links,bl⟩).toArray 128);have hba:=aG Xc (.cells (jv ⟨x.num,x.dir,x.links,bl⟩).toArray 128);have hia:(W5.alloc (.cells (jv ⟨x.num,x.dir,x.links,bl⟩).toArray 128)).cell? ⟨c.nb,8,none⟩=some su:=aa (Fb.keep ka5).box 8;have Kf:∀ g,su.ownBlock=some g->w.heap.size<=g/\g≠xb/\g≠bb:=fun g hg=>by
      have h1:=Hiv.out.1 g hg;have h2:=Hiv.out.2;have h3:=Hbb.out;exact⟨h1.1,by omega,by omega⟩
     have hx6:=ab m6 Zm (fun e=>(Kf xb e).2.1 rfl);have E9:=ab m6 Xc (fun e=>(Kf bb e).2.2 rfl);have IT:=Fb.other m6 fun g hg=>by
      have h1:=(Kf g hg).1;have h2:=ai H0.out.box;have h3:=ai H0.out.pool.own;have h4:=ai H0.out.map.own;have h5:=ai H0.out.own;exact⟨VG.out.2.1 g hg,by omega,by omega,by omega,by omega⟩
     have Ip:=(RT.out.keep kd).fresh m6 fun g hg=>(Kf g hg).1;have c68:w6.cell? ⟨c.nb,8,none⟩=some su:=aa IT.box 8;have f68:=ae IT.box ⟨c.nb,8,none⟩ rfl;have m7:ah (fun g=>g=c.nb) w6 (w6.setCell ⟨c.nb,8,none⟩ (.slice (some ⟨g6,0,none⟩) (j5.length+1) qR)):=(ah.refl (fun g=>g=c.nb) w6).setCell (p:=⟨c.nb,8,none⟩) (.inl rfl) _;have Zn:=IT.boxed (b':=b) (Oh:=.slice (some ⟨g6,0,none⟩) (j5.length+1) qR) HC.out (ag IT.box 8 _) m7;have hg6:w.heap.size<=g6/\¬ F4 g6/\g6≠mb:=by
      refine⟨(EX.lt g6 rfl).1,?_⟩;rcases at6 with e|⟨kk,e,rZ⟩
      ·have e':su.ownBlock=some g6:=e.symm;exact⟨VG.out.2.1 g6 e',xt VG.out.1 e' Nl.out.1⟩
      ·have:kk=g6:=by injection e with e;exact e.symm
       subst this;exact⟨fun h=>by have:=HS4.out.lt h;have:=kd.size;omega,fun e2=>by have:=Nl.out.1.lt;have:=kd.size;omega⟩
     unfold jv at r6;have HR6:=hd0 r6;have acY:∀ g,su.ownBlock=some g->g≠mb:=fun g hg=>xt VG.out.1 hg Nl.out.1;have Ff:mb≠c.nb:=fun e=>by have:=ai H0.out.box;have:=Hmb.out;omega
     have Z4:bb≠c.nb/\xb≠c.nb:=Hbn.out;have ajA:Hid (xr (w6.setCell ⟨c.nb,8,none⟩ (.slice (some ⟨g6,0,none⟩) (j5.length+1) qR)) mb (rO was)/\¬ F4 mb):=hd0 ⟨((Nl.out.1.mod kd id).mod m6 (fun e=>acY mb e rfl)).mod m7 Ff,Nl.out.2⟩;have HO7:Hid (dQ jv 5 128 (w6.setCell ⟨c.nb,8,none⟩ (.slice (some ⟨g6,0,none⟩) (j5.length+1) qR)) w.heap.size (.slice (some ⟨g6,0,none⟩) (j5.length+1) qR) (j5++[⟨x.num,x.dir,x.links,bl⟩])/\(∀ g,(Value.slice (some ⟨g6,0,none⟩) (j5.length+1) qR).ownBlock=some g->¬ F4 g)/\(j5++[(⟨x.num,x.dir,x.links,bl⟩:fF)]).length=k+1):=hd0 ⟨by
      unfold dQ;rw[atZ,at0];refine az (by simpa using EX) fun g hg=>m7.block g (EX.lt g hg).2 (fun e=>?_);have h1:=(EX.lt g hg).1;have h2:=ai H0.out.box
      omega,fun g hg=>by have e:g6=g:=by simpa[Value.ownBlock]using hg
                         subst e;exact hg6.2.1,by have:=VG.out.2.2;simp;omega⟩
     have HS7:=hd0 Zn.1;have HT7:=hd0 (Ip.trans Zn.2);have D5:=hd0 (And.intro Zm Xc);have Da:=hd0 (And.intro hxa hba);have D6:=hd0 (And.intro hx6 E9);have D7:=hd0 (And.intro (ab m7 hx6 Z4.2) (ab m7 E9 Z4.1));clear Zn Ip m7 EX r6 at6 m6 hx6 E9 IT hxa hba Zm Xc Fb M9 kd ka5 Kf hg6 acY Ff Z4 Fu Bp Nl VG HS4 RT Br;refine bQ rfl ⟨D5.out,.inr i5⟩ ?_;go_wp2_with fail;refine bQ rfl ⟨Da.out,.inr hia⟩ ?_;refine aA HR6.out rfl rfl rfl rfl ?_;go_wp2_with fail;refine bQ rfl ⟨D6.out,.inl rfl⟩ ?_;go_wp2_with fail;refine bQ rfl ⟨D6.out,.inl rfl⟩ ?_;go_wp2_with fail;refine bQ rfl ⟨D6.out,.inl rfl⟩ ?_;go_wp2_with fail;refine pB ⟨D7.out,.inl rfl⟩ ?_;generalize w6.setCell ⟨c.nb,8,none⟩ (.slice (some ⟨g6,0,none⟩) (j5.length+1) qR)=w7 at*;have hk1:k+1<=nodes.length:=by omega
     clear aM;go_wp2_with fail;exact⟨⟨k+1,tb,s,_,F4,_,Am,hk1,by go_num,rfl,HS7,HT7,HO7,ajA,hd0 ⟨rj.out.1,rj.out.2.1,Hs6.out,rj.out.2.2.1,rj.out.2.2.2⟩⟩,by simp[intOf];omega⟩
    ·obtain rfl:k=nodes.length:=by omega
     have lz:rest=[]/\sk=set/\tk=t1:=by
      have h1:=HR.out.2.1;rw[List.drop_length]at h1;unfold mt at h1;injection h1 with h1;injection h1 with h1 h2;injection h2 with h2 h3;exact⟨h1.symm,h2,h3⟩
     obtain⟨rfl,rfl,rfl⟩:=lz;have Nz:j5=inos:=by have:=HR.out.1;simpa using this
     subst Nz;have n8:wr.cell? ⟨c.nb,8,none⟩=some su:=aa HS.out.box 8;have TI:=hd0 (Ea j5 su wr (cf xe HO.out.1) HIN.out);have MU:=hd0 mJ;have Hs6:=hd0 HR.out.2.2.1;have Htb:=hd0 HR.out.2.2.2.1;clear aM HR HMp;go_wp2_with fail;refine TI.out.mono ?_;rintro e w8 ⟨rfl,k8⟩;have Fr:=hd0 (HS.out.keep k8);have HT8:=hd0 (HT.out.keep k8);have Xp:Hid (dQ jv 5 128 w8 w.heap.size su j5/\(∀ g,su.ownBlock=some g->¬ Fk g)):=hd0 ⟨gZ HO.out.1 k8,HO.out.2.1⟩;clear k8 TI HS HT HO n8;go_wp2_with fail;refine(MU.out _).mono ?_;rintro e w9 ⟨rfl,rfl⟩;have v2:w9.cell? ⟨c.v,2,none⟩=some (.int .i64 old.root):=by rw[aa Fr.out.own 2];exact HM.out.c2
     have v3:w9.cell? ⟨c.v,3,none⟩=some (.int .i64 old.size):=by rw[aa Fr.out.own 3];exact HM.out.c3
     have fX:w9.cell? ⟨c.v,0,none⟩=some (aq c.pv):=by rw[aa Fr.out.own 0];exact HC.out.cv0
     obtain⟨bg,S0,hS0⟩:=O2.out;have VS:=hd0 (nA Fr.out.vol Fr.out.pool Fr.out.fp (Htb.out.trans HC.out.size.symm) (by have:=HC.out.size;have:=HC.out.many;omega) c.v fX hS0 (jT j5) (by have:=HIL.out.2;omega) table t2 E2.out);unfold db at VS;clear fX hS0;go_wp2_with fail;refine VS.out.mono ?_;rintro e Kc ⟨rfl,F2,Fx⟩;have dr:=Fr.out.stored HC.out Fx;have HOA:Hid (dQ jv 5 128 Kc w.heap.size su j5/\(∀ g,su.ownBlock=some g->¬ F2 g/\g≠c.nb)):=hd0 ⟨az Xp.out.1 (fun g hg=>Fx.mod.block g (aS Xp.out.1 hg) (fun h=>h.elim (Xp.out.2 g hg) (fun e=>by have h1:=(Xp.out.1.lt g hg).1;have:=ai H0.out.pool.own;omega))),fun g hg=>⟨fun h=>(Fx.foot g h).elim (Xp.out.2 g hg) (fun h2=>by have:=aS Xp.out.1 hg;omega),fun e=>by have h1:=(Xp.out.1.lt g hg).1;have:=ai H0.out.box;omega⟩⟩;have hb:=dr.1.box;have n0:Kc.cell? ⟨c.nb,0,none⟩=some (.int .i64 b.table.root):=aa hb 0;have n1:Kc.cell? ⟨c.nb,1,none⟩=some (.int .i64 b.table.size):=aa hb 1;have f0:=ae hb ⟨c.nb,0,none⟩ rfl;have f1:=ae hb ⟨c.nb,1,none⟩ rfl;have m4:ah (fun g=>g=c.nb) Kc ((Kc.setCell ⟨c.nb,0,none⟩ (.int .i64 table.root)).setCell ⟨c.nb,1,none⟩ (.int .i64 table.size)):=((ah.refl (fun g=>g=c.nb) Kc).setCell (p:=⟨c.nb,0,none⟩) (.inl rfl) _).setCell (p:=⟨c.nb,1,none⟩) (.inl rfl) _;have ZW:=dr.1.boxed (b':={ b with table:=table }) HC.out (ag (ag hb 0 (.int .i64 table.root)) 1 (.int .i64 table.size)) m4;have HOB:Hid (dQ jv 5 128 ((Kc.setCell ⟨c.nb,0,none⟩ (.int .i64 table.root)).setCell ⟨c.nb,1,none⟩ (.int .i64 table.size)) w.heap.size su j5/\(∀ g,su.ownBlock=some g->¬ F2 g)):=hd0 ⟨az HOA.out.1 (fun g hg=>m4.block g (aS HOA.out.1 hg) (fun e=>(HOA.out.2 g hg).2 e)),fun g hg=>(HOA.out.2 g hg).1⟩;have HSB:=hd0 ZW.1;have HTB:=hd0 ((HT8.out.trans dr.2).trans ZW.2);clear Fx dr hb m4 ZW Fr HT8 Xp HOA VS v2 v3;go_wp2_with fail;generalize (Kc.setCell ⟨c.nb,0,none⟩ (.int .i64 table.root)).setCell ⟨c.nb,1,none⟩ (.int .i64 table.size)=w11 at*;obtain⟨Sn2,hSn⟩:=N2.out;have fX:w11.cell? ⟨c.v,0,none⟩=some (aq c.pv):=by rw[aa HSB.out.own 0];exact HC.out.cv0
     have VA:=hd0 (xn HSB.out.vol c.v fX sk Hs6.out hSn set1 E3.out);unfold db at VA;clear hSn fX;refine VA.out.mono ?_;rintro e B3 ⟨rfl,F3,N4,dq⟩;have EM:=HSB.out.read N4 dq;have HSC:=hd0 EM.1;have HTC:=hd0 (HTB.out.trans EM.2);have HOC:Hid (dQ jv 5 128 B3 w.heap.size su j5/\(∀ g,su.ownBlock=some g->¬ F3 g)):=hd0 ⟨az HOB.out.1 (fun g hg=>dq.mod.block g (aS HOB.out.1 hg) (HOB.out.2 g hg)),fun g hg h=>(dq.foot g h).elim (HOB.out.2 g hg) (fun h2=>by have:=aS HOB.out.1 hg;omega)⟩;clear N4 dq EM VA;go_wp2;go_ret;exact⟨rfl,F3,su,HSC.out,HTC.out,HOC.out.1,HOC.out.2⟩
end
section
open Go.RowKit
theorem Mc (p e:Nat)(w:World):
  CallsD prog 124 #[aq p,aq e] .returning w fun x u' w'=>x=.returned (.tuple #[])/\u'=.returning/\af w w':=by
 have hta:∀ W,(Instr.typeAssert .nilIface 20 274 true).run prog W=.ok (.tuple #[.agg #[.int .i64 0],.bool false]) W:=fun _=>by kernel_rfl
 refine callsD_of_wpS func124 rfl fun c₀ cs hu=>?_;apply wpS_seq;apply wpS_region;simp[wpOpsS,go_sem,recoverD,hu,ntmps124,Exit.thenS,hta];apply wpS_seq;apply wpS_seq;apply wpS_region;simp[wpOpsS,go_sem,Exit.thenS];refine wpS_cond (t:=true) (by simp[Act.eval,Array.replicate]) ?_;simp only[if_true];refine wpS_of_wp (wp_ret ?_);refine⟨rfl,.returning,?_,.tuple #[],?_,rfl,rfl,(ah.refl _ w).alloc _⟩
 ·cases c₀
  simp_all
 ·simp[results,Tryz.results124]
end
end Go.Proofs.YtkghpdcloaiflaaGreatDoor
