import Derived.Test.YtkghpdcloaiflaaGreatDoorH31
import Derived.Recover
set_option maxHeartbeats 8000000
set_option maxRecDepth 100000
namespace Go.Proofs.YtkghpdcloaiflaaGreatDoor
open _root_.Go.Proofs.Tryz
variable {F S:Nat->Prop}{nv sv:Value}{w:World}
section
open Go.RowKit
attribute [local go_sem] av0
theorem eO.other {c:qj}{rd:Rd}{pool:Pl}{b:iX}{iv:Value}{L:List ay}{w':World}(h:eO c rd pool b iv sv nv L F w)(m:ai S w w')(hS:∀ g,S g->¬ F g/\g≠c.nb/\g≠c.pb/\g≠c.pm/\g≠c.v):eO c rd pool b iv sv nv L F w':=
 ⟨h.vol.same (m.on λg hg hs=>(hS g hs).1 hg) m.size,h.pool.mod m (λhs=>(hS _ hs).2.2.1 rfl),ab m h.box (λhs=>(hS _ hs).2.1 rfl),h.map.mod m (λhs=>(hS _ hs).2.2.2.1 rfl),ab m h.own (λhs=>(hS _ hs).2.2.2.2 rfl),h.fv,h.fn,h.fp,h.fm⟩
theorem ga.fresh {c:qj}{F1:Nat->Prop}{w1 w2:World}(h:ga c F F1 w w1)(m:ai S w1 w2)(hS:∀ g,S g->w.heap.size<=g):ga c F F1 w w2:=⟨h.foot,h.mod.trans m λg hl hs=>by have:=hS g hs;omega⟩
theorem xE {base n sz g mb:Nat}{t:TypeId}{v:Value}{xs:List Value}(h:w.ownsRow base t sz v n xs)(hg:v.ownBlock=some g){l:List (Int×fI)}(hm:xD w mb l):g≠mb:=by
 rcases h.2 with⟨rfl,_⟩|⟨k,cap,dW,rfl,hb,hk,_⟩
 ·cases hg
 ·have e:k=g:=by simpa[Value.ownBlock]using hg
  subst e;obtain⟨es,clock,hm,_⟩:=hm;rintro rfl;rw[hm]at hk
  cases hk
structure XS (c:qj)(was:List fD)(old:fI)(nodes:List Nt)(ivo nv:Value)(F:Nat->Prop)(w:World):Prop where
 c10:c.cv[10]?=some ivo
 c2:c.cv[2]?=some (.int .i64 old.root)
 c3:c.cv[3]?=some (.int .i64 old.size)
 was:dX jA 5 128 w 0 ivo was
 nodes:dX gt 4 221 w 0 nv nodes
 fwas:∀ g,ivo.ownBlock=some g->¬ F g/\g≠c.nb/\g≠c.pb/\g≠c.pm
 fnodes:∀ g,nv.ownBlock=some g->¬ F g/\g≠c.nb/\g≠c.pb/\g≠c.pm
theorem IO {was:List fD}{x:Nt}{r:List Nt}{sk s:ay}{tk tb t1:gy}{bl:fI}{rest:List fD}{set:ay}(e1:dz tk (dR was x.num) x.data=.ok (bl,tb))(e2:dD tb.rd sk bl=.ok s)(h:mj was (x::r) sk tk=.ok (rest,set,t1)):
  ∃ AI,mj was r s tb=.ok (AI,set,t1)/\rest=⟨x.num,x.dir,x.links,bl⟩::AI:=by
 rw[mj,e1]at h;simp only at h;rw[e2]at h;simp only at h
 cases hr:mj was r s tb with
 |error e=>rw[hr]at h;cases h
 |ok o=>
  rw[hr]at h;simp only[Except.map]at h;injection h with h;injection h with h1 h2;exact⟨o.1,by rw[show o=(o.1,o.2)from rfl,h2],h1.symm⟩
theorem Rh:(prog.info? 128).map (λi=>(i.zero,i.size,i.bytes))=some (some (.agg #[.int .i64 0,.bool false,.int .i64 0,.int .i64 0,.int .i64 0]),5,40):=kr7
theorem Ri {c:qj}(hc:c.Ok){rd:Rd}{pool:Pl}{b:iX}{ivo:Value}{L:List ay}(h:eO c rd pool b (.slice none 0 0) sv nv L F w){was:List fD}{old:fI}{nodes:List Nt}(hm:XS c was old nodes ivo nv F w)(nX:pool.blocks=c.n)
  (YX:was.length<=100) (rk:nodes.length<=60) (hwn:∀ y∈was,0<=y.num/\y.num<=65535) (hnn:∀ x∈nodes,0<=x.num/\x.num<=65535)
  {inos:List fD} {set set1:ay} {t1 t2:gy} {table:fI} (Ts:∃ br U mG,qR was br U mG nodes ⟨rd,pool⟩) (e1:mj was nodes [] ⟨rd,pool⟩=.ok (inos,set,t1)) (tQ:qJ inos=true) (XD:inos.length<=60/\(jV inos).length<=722)
  (old2:∃ br S,aW t1.rd br old S) (e2:dz t1 old (jV inos)=.ok (table,t2)) (new2:∃ S,aW t2.rd (jV inos) table S) (e3:dD t2.rd set table=.ok set1):
  Calls prog 130 #[au c.v,au c.nb,au c.pb] w λe w'=>e=.returned (az set1)/\∃ F' OY,eO c t2.rd t2.pool { b with table:=table } OY sv nv L F' w'/\ga c F F' w w'/\dX jA 5 128 w' w.heap.size OY inos/\(∀ g,OY.ownBlock=some g->¬ F' g):=by
 have Ug:=@run_makeMap prog;obtain⟨HC,H0,HM,Cj,ak9,E1,HIN,HIL,O2⟩:=K9 hc h hm nX Ts e1 tQ XD old2;obtain⟨E2,N2,E3,HWL,HWN,HNN,HNL⟩:=K7 e2 new2 e3 YX hwn hnn rk;have dM:af w (w.alloc (.map #[] 0)):=(ai.refl _ w).alloc _;have nE:Hid (xD (w.alloc (.map #[] 0)) w.heap.size []):=Z (eY.made w);obtain⟨mb,zn⟩:∃ mb,w.heap.size=mb:=⟨_,rfl⟩
 obtain⟨Hmb,eR,H1⟩:=K3 zn dM (h.keep dM);obtain⟨a,cap,ev,hx⟩:=cg xo hm.was;subst ev;have HX:=Z hx;have v10:(w.alloc (.map #[] 0)).cell? ⟨c.v,10,none⟩=some (.slice a was.length cap):=by rw[aa (h.keep dM).own 10];exact hm.c10
 have hwi:(was.length:Int)<=100:=J
 clear hc h hm nX Ts e1 tQ XD old2 e2 new2 e3 dM hx hwn hnn rk;rw[zn]at nE;go_enter func130,ntmps130;go_wp2_with fail
 try rw[zn]
 generalize w.alloc (.map #[] 0)=W at*
 go_loopw [23] (λi wr=>∃ k:Nat,k<=was.length/\i=.int .i64 (k:Int)/\Hid (xD wr mb (rX (was.take k)))/\Hid (af w wr)) (λi _=>was.length-(intOf i).toNat)
 case atStart=>exact⟨0,J,rfl,nE,eR⟩
 case round=>
  clear nE eR H1 v10;obtain⟨k,hk,rfl,HB,HK⟩:=hrel;by_cases aP:k<was.length
  ·have dL:(k:Int)<(was.length:Int):=J
   obtain⟨y,hy⟩:∃ y,was[k]?=some y:=⟨_,av6 aP⟩
   obtain⟨rb,o,rfl,hc⟩:=HX.o k y hy;have c0:wr.cell? ⟨rb,o+k*5,none⟩=some (.int .i64 y.num):=by have h:=hc 0 _ rfl;rw[HK.cell (p:=⟨rb,o+k*5,none⟩) (am h) id];exact h
   have c1:wr.cell? ⟨rb,o+k*5+1,none⟩=some (.bool y.dir):=by have h:=hc 1 _ rfl;rw[HK.cell (p:=⟨rb,o+k*5+1,none⟩) (am h) id];exact h
   have c2:wr.cell? ⟨rb,o+k*5+2,none⟩=some (.int .i64 y.links):=by have h:=hc 2 _ rfl;rw[HK.cell (p:=⟨rb,o+k*5+2,none⟩) (am h) id];exact h
   have c3:wr.cell? ⟨rb,o+k*5+3,none⟩=some (.int .i64 y.blob.root):=by have h:=hc 3 _ rfl;rw[HK.cell (p:=⟨rb,o+k*5+3,none⟩) (am h) id];exact h
   have c4:wr.cell? ⟨rb,o+k*5+4,none⟩=some (.int .i64 y.blob.size):=by have h:=hc 4 _ rfl;rw[HK.cell (p:=⟨rb,o+k*5+4,none⟩) (am h) id];exact h
   have hyn:=HWN.o y (av7 hy);have ro:af wr (wr.alloc (.cells (jA y).toArray 128)):=(ai.refl _ wr).alloc _;obtain⟨w2,bN,db,dV,cJ⟩:=(HB.mod ro id).store Re underlying281 underlying3 y.num J y.blob trivial (by have h1:=Rg (was.take k);have h2:=HWL.o;have h3:(was.take k).length<=was.length:=List.length_take_le' _ _;omega);have hws:ee jS y.num y.blob (rX (was.take k))=rX (was.take (k+1)):=by rw[av8,hy];exact(tt _ _).symm
   rw[hws]at db;have lJ:=Z db;have bJ:Hid (af w w2):=Z ((HK.keep ro).new dV (by rw[Hmb.o];exact av9 _));unfold cR jA at bN;clear hws db dV hc hyn ro hy;go_wp2_with fail;exact⟨⟨k+1,J,by go_num,lJ,bJ⟩,by simp[intOf];omega⟩
  ·obtain rfl:k=was.length:=J
   rw[awa]at HB;have H2:=Z (H0.keep HK.o);obtain⟨an,Oq,en,sp⟩:=cg fP HM.nodes;subst en;have HXN:=Z sp;have n11:wr.cell? ⟨c.nb,11,none⟩=some (.slice an nodes.length Oq):=aa H2.box 11;have hni:(nodes.length:Int)<=60:=by have:=HNL.o;omega
   have hmF:∀ g,F g->g≠mb:=λg hg e=>by have:=H0.lt hg;have:=Hmb.o;omega
   have HmF:=Z hmF;clear sp hmF aP;go_wp2_with fail
   go_loopw [10,38] (λKH i wx=>∃(k:Nat) (tk:gy) (sk:ay) (sq:Value) (Fk:Nat->Prop) (dm rest:List fD),k<=nodes.length/\i=.int .i64 (k:Int)/\KH=az sk/\Hid (eO c tk.rd tk.pool b sq sv (.slice an nodes.length Oq) L Fk wx)/\Hid (ga c F Fk w wx)/\Hid (dX jA 5 128 wx w.heap.size sq dm/\(∀ g,sq.ownBlock=some g->¬ Fk g)/\dm.length=k)/\Hid (xD wx mb (rX was)/\¬ Fk mb)/\Hid (dm++rest=inos/\mj was (nodes.drop k) sk tk=.ok (rest,set,t1)/\sk.length<=600/\tk.pool.blocks=c.n/\∃ br U mG,qR was br U mG (nodes.drop k) tk)) (λ_ i _=>nodes.length-(intOf i).toNat)
   case atStart=>
    exact⟨0,⟨rd,pool⟩,[],_,F,[],inos,J,rfl,rfl,H2,Z ((ga.refl c F w).keep HK.o),Z ⟨World.ownsRow_nil _ _ _ _,λg hg=>(by cases hg),rfl⟩,Z ⟨HB.o,λh=>HmF.o mb h rfl⟩,Z ⟨rfl,E1.o,by simp,Cj.o,ak9.o⟩⟩
   case round=>
    clear H2 HK HB n11;obtain⟨k,tk,sk,sq,Fk,dm,rest,hk,rfl,rfl,HS,HT,HO,HMp,HR⟩:=hrel;by_cases aP:k<nodes.length
    ·have dL:(k:Int)<(nodes.length:Int):=J
     obtain⟨x,hx⟩:∃ x,nodes[k]?=some x:=⟨_,av6 aP⟩
     have Zd:nodes.drop k=x::nodes.drop (k+1):=by rw[List.drop_eq_getElem_cons aP];congr 1;rw[av6 aP]at hx;injection hx
     obtain⟨Gf,nU,yF,O4,br,U,mG,Ce⟩:=HR.o;rw[Zd]at nU Ce;obtain⟨bl,tb,s,q1,q2,q3,⟨asH,Sx,q4⟩,q5⟩:=Ce.step sk;obtain⟨AI,q6,rfl⟩:=IO q1 q2 nU;obtain⟨rb,o,rfl,Zp⟩:=HXN.o k x hx;have cx:∀ i v,(gt x)[i]?=some v->wr.cell? ⟨rb,o+k*4+i,none⟩=some v:=λi v hi=>by
      have h1:=Zp i v hi;have hf:=HM.fnodes rb rfl;rw[HT.mod.cell (p:=⟨rb,o+k*4+i,none⟩) (am h1) (λh=>by rcases h with h|h|h|h;exact hf.1 h;exact hf.2.1 h;exact hf.2.2.1 h;exact hf.2.2.2 h)];exact h1
     have c0:wr.cell? ⟨rb,o+k*4,none⟩=some (.int .i64 x.num):=cx 0 _ rfl;have c1:wr.cell? ⟨rb,o+k*4+1,none⟩=some (.bool x.dir):=cx 1 _ rfl;have c2:wr.cell? ⟨rb,o+k*4+2,none⟩=some (.int .i64 x.links):=cx 2 _ rfl;have c3:wr.cell? ⟨rb,o+k*4+3,none⟩=some (az x.data):=cx 3 _ rfl;have sp:=HNN.o x (av7 hx);have yw:x.data.length<=16384:=(Ce.each x sp7).1;have ro:af wr (wr.alloc (.cells #[.int .i64 x.num,.bool x.dir,.int .i64 x.links,az x.data] 221)):=(ai.refl _ wr).alloc _;have FZ:=(HMp.1.mod ro id).look1 Re underlying281 underlying3 x.num J;rw[Rf]at FZ;have HS1:=Z (HS.keep ro);have pR:Hid (World.blk (wr.alloc (.cells #[.int .i64 x.num,.bool x.dir,.int .i64 x.links,az x.data] 221)) wr.heap.size #[.int .i64 x.num,.bool x.dir,.int .i64 x.links,az x.data] 221):=Z (av _ _ _);obtain⟨Cm,Hx⟩:=K2 ro hx;have ru:Hid ((dm++[⟨x.num,x.dir,x.links,bl⟩])++AI=inos/\mj was (nodes.drop (k+1)) s tb=.ok (AI,set,t1)/\tb.pool.blocks=c.n/\∃ br U mG,qR was br U mG (nodes.drop (k+1)) tb):=Z ⟨by rw[<-Gf];simp,q6,by rw[q5.blocks,<-Ce.blocks,O4],br,U,mG,q5⟩;obtain⟨Q1,Q2,Q3,Q4,Hsk,Hbk,Hdl⟩:=K7 q1 q2 q3 q4 yF O4 yw;clear Zd Gf nU yF O4 Ce q1 q2 q3 q4 q5 q6 HR Zp cx sp ro hx yw;unfold cR at FZ;go_wp2_with fail;obtain⟨W1,UK⟩:∃ W1,wr.alloc (.cells #[.int .i64 x.num,.bool x.dir,.int .i64 x.links,az x.data] 221)=W1:=⟨_,rfl⟩
     obtain⟨xb,yy⟩:∃ xb,wr.heap.size=xb:=⟨_,rfl⟩
     have Hxb:=Z yy;rw[UK]at HS1 pR Cm FZ ⊢;rw[yy]at pR ⊢;have lG:W1.cell? ⟨c.v,0,none⟩=some (au c.pv):=by rw[aa HS1.own 0];exact HC.cv0
     have VS:=Z (nt HS1.vol HS1.pool HS1.fp (Hbk.trans HC.size.symm) (by have:=HC.size;have:=HC.many;omega) c.v lG Q4.o x.data Hdl.o bl tb Q1.o);clear c0 c1 c2 c3 FZ lG UK yy;unfold cR at VS;refine VS.mono ?_;rintro e w2 ⟨rfl,F2,Gl⟩;have dh:=HS1.stored HC.o Gl;have j4:∀ g,g<W1.heap.size->¬ Fk g->g≠c.pb->¬(λg=>Fk g\/g=c.pb) g:=λg _ h1 h2 h=>h.elim h1 h2;have Ze:∀ g,g<W1.heap.size->¬ Fk g->¬ F2 g:=λg hl hn h=>(Gl.foot g h).elim hn (λh2=>J);have agC:xb<W1.heap.size:=ak pR.o;have hxF:¬ Fk xb:=λh=>by have:=HS.lt h;have:=Hxb.o;omega
     have OH:xb≠c.pb:=λe=>by have:=ak HS.pool.own;have:=Hxb.o;omega
     have sp:xb≠c.nb:=λe=>by have:=ak HS.box;have:=Hxb.o;omega
     have lg:=Z (ab Gl.mod pR.o (λh=>h.elim hxF OH));have adS:mb<wr.heap.size:=HMp.1.lt;have T8:mb≠c.pb:=λe=>by have:=ak H0.pool.own;have:=Hmb.o;omega
     have TW:Hid (xD w2 mb (rX was)/\¬ F2 mb):=Z ⟨(HMp.1.mod Cm.o id).mod Gl.mod (λh=>h.elim HMp.2 T8),Ze mb (awg adS Cm.size) HMp.2⟩;have aeb:∀ g,sq.ownBlock=some g->g≠c.pb:=λg hg e=>by
      have h1:=(HO.1.lt g hg).1;have:=ak H0.pool.own;omega
     have zi:Hid (dX jA 5 128 w2 w.heap.size sq dm/\(∀ g,sq.ownBlock=some g->¬ F2 g)/\dm.length=k):=Z ⟨aA (gY HO.1 Cm.o) (λg hg=>Gl.mod.block g (awg (aX HO.1 hg) Cm.size) (λh=>h.elim (HO.2.1 g hg) (aeb g hg))),λg hg=>Ze g (awg (aX HO.1 hg) Cm.size) (HO.2.1 g hg),HO.2.2⟩;obtain⟨B3,sC,afe⟩:=K3 dh.1 ((HT.keep Cm.o).trans dh.2) (And.intro (Ze xb agC hxF) (And.intro OH sp));have Hiv:Hid ((∀ g,sq.ownBlock=some g->w.heap.size<=g/\g<xb)/\xb<w2.heap.size):=Z ⟨λg hg=>⟨(HO.1.lt g hg).1,by have:=aX HO.1 hg;have:=Hxb.o;omega⟩,ak lg.o⟩;clear Gl dh j4 Ze agC hxF OH sp adS T8 aeb VS HS HT HO HMp HS1 pR Cm;go_wp2_with fail;have TT:af w2 (w2.alloc (.cells #[.int .i64 bl.root,.int .i64 bl.size] 42)):=(ai.refl _ w2).alloc _;have hB0:World.blk (w2.alloc (.cells #[.int .i64 bl.root,.int .i64 bl.size] 42)) w2.heap.size #[.int .i64 bl.root,.int .i64 bl.size] 42:=av _ _ _;obtain⟨bb,UA⟩:∃ bb,w2.heap.size=bb:=⟨_,rfl⟩
     obtain⟨W3,T4⟩:∃ W3,w2.alloc (.cells #[.int .i64 bl.root,.int .i64 bl.size] 42)=W3:=⟨_,rfl⟩
     rw[T4]at TT hB0 ⊢;rw[UA]at hB0 ⊢;have Cx:=B3.keep TT;have lG:W3.cell? ⟨c.v,0,none⟩=some (au c.pv):=by rw[aa Cx.own 0];exact HC.cv0
     obtain⟨Sb,hSb⟩:=Q3.o;obtain⟨VA,Hs6,WM,qv,O3,Hbb⟩:=K6 (xA Cx.vol c.v lG sk Hsk.o hSb s Q2.o) (EI hSb Hsk.o Q2.o) Cx hB0 TT UA;clear Cx lG hSb hB0 TT UA T4;unfold cR at VA;refine VA.mono ?_;rintro e w4 ⟨rfl,F4,hv4,jE⟩;have yX:=WM.read hv4 jE;have hF4:∀ g,g<W3.heap.size->¬ F2 g->¬ F4 g:=λg hl hn h=>(jE.foot g h).elim hn (λh2=>J);have KY:=O3.size;have hbF:¬ F2 bb:=λh=>by have:=B3.lt h;have:=Hbb.o;omega
     obtain⟨Gd,Cp⟩:=K2 (ab jE.mod qv.o hbF) (ab jE.mod (ab O3.o lg.o id) afe.1);have Ov:Hid (xD w4 mb (rX was)/\¬ F4 mb):=Z ⟨(TW.1.mod O3.o id).mod jE.mod TW.2,hF4 mb (awg TW.1.lt KY) TW.2⟩;have Xa:Hid (dX jA 5 128 w4 w.heap.size sq dm/\(∀ g,sq.ownBlock=some g->¬ F4 g)/\dm.length=k):=Z ⟨aA (gY zi.1 O3.o) (λg hg=>jE.mod.block g (awg (aX zi.1 hg) KY) (zi.2.1 g hg)),λg hg=>hF4 g (awg (aX zi.1 hg) KY) (zi.2.1 g hg),zi.2.2⟩;obtain⟨HS4,HT4⟩:=K2 yX.1 ((sC.keep O3.o).trans yX.2);have hbn:bb≠c.nb:=λe=>by have:=ak B3.box;have:=Hbb.o;omega
     have Hbn:=Z (And.intro hbn afe.2.2);clear hv4 jE yX hF4 KY hbF VA qv lg TW zi WM sC O3 hbn B3
     go_upto_region 13 with fail
     refine gA 14 [0,1,2,3,4,5,6,7,8,9,10,11,12] [13,14,15,16,17] (λX=>World.blk X xb #[.int .i64 x.num,.bool x.dir,.int .i64 x.links,az x.data] 221/\World.blk X bb #[.int .i64 bl.root,.int .i64 bl.size] 42) (λX=>X.cell? ⟨c.nb,8,none⟩=some sq) kr7 kr7 (λ_ o _ _ _ h=>by cases o<;>exact h) ?_
     iterate 4 (refine eJ rfl (λL hL=>?_);go_simp;(first|refine hL _ ?_|refine⟨_,λ_ _ _=>rfl,hL _ ?_⟩|refine⟨_,λX h1 h2=>by simp only[aa h1,aa h2];rfl,hL _ ?_⟩|(trace_state;fail));clear hL L)
     refine Do rfl kr7 (λL hL=>?_)
     go_simp
     refine⟨_,λX _ _ hW=>by simp only[hW];rfl,hL _ ?_⟩;clear hL L
     iterate 8 (refine eJ rfl (λL hL=>?_);go_simp;(first|refine hL _ ?_|refine⟨_,λ_ _ _=>rfl,hL _ ?_⟩|refine⟨_,λX h1 h2=>by simp only[aa h1,aa h2];rfl,hL _ ?_⟩|refine⟨_,λX _ h2=>by have e0:X.cell? ⟨bb,0,none⟩=some (.int .i64 bl.root):=aa h2 0;have e1:X.cell? ⟨bb,1,none⟩=some (.int .i64 bl.size):=aa h2 1;simp only[e0,e1,Result.andThen];rfl,hL _ ?_⟩|(trace_state;fail));clear hL L)
     refine gT ?_;obtain⟨W5,yE⟩:∃ W5:World,({ w4 with drawn:=w4.drawn+1 }:World)=W5:=⟨_,rfl⟩
     have kd:af w4 W5:=by rw[<-yE];exact(ai.refl _ w4).drawn _
     rw[yE];have hx5:=ab kd Cp.o id;have SA:=ab kd Gd.o id;have Gb:=HS4.keep kd;have i5:W5.cell? ⟨c.nb,8,none⟩=some sq:=aa Gb.box 8;have N9:=gY Xa.1 kd;have nI:=gQ (P:=prog) (ts:=96) (te:=128) underlying96 Rh rfl dc7 w.heap.size sq _ _ W5 N9 (jA ⟨x.num,x.dir,x.links,bl⟩) rfl (QY _) (by have:=Xa.2.2;unfold maxLen;omega) (by have:=Xa.2.2;omega) (av2 HT4.mod.size kd.size);obtain⟨v6,w6,r6,Ft,m6,at6,g6,rh,rfl⟩:=nI;have ka5:af W5 (W5.alloc (.cells (jA ⟨x.num,x.dir,x.links,bl⟩).toArray 128)):=(ai.refl _ W5).alloc _;have hxa:=aE hx5 (.cells (jA ⟨x.num,x.dir,x.links,bl⟩).toArray 128);have hba:=aE SA (.cells (jA ⟨x.num,x.dir,x.links,bl⟩).toArray 128);have hia:(W5.alloc (.cells (jA ⟨x.num,x.dir,x.links,bl⟩).toArray 128)).cell? ⟨c.nb,8,none⟩=some sq:=aa (Gb.keep ka5).box 8;have Ku:∀ g,sq.ownBlock=some g->w.heap.size<=g/\g≠xb/\g≠bb:=λg hg=>by
      have h1:=Hiv.1 g hg;have h2:=Hiv.2;have h3:=Hbb.o;exact⟨h1.1,J,J⟩
     have hx6:=ab m6 hx5 (λe=>(Ku xb e).2.1 rfl);have Gm:=ab m6 SA (λe=>(Ku bb e).2.2 rfl);have OP:=Gb.other m6 λg hg=>by
      have h1:=(Ku g hg).1;have h2:=ak H0.box;have h3:=ak H0.pool.own;have h4:=ak H0.map.own;have h5:=ak H0.own;exact⟨Xa.2.1 g hg,J,J,J,J⟩
     have UD:=(HT4.keep kd).fresh m6 λg hg=>(Ku g hg).1;have c68:w6.cell? ⟨c.nb,8,none⟩=some sq:=aa OP.box 8;have f68:=ae OP.box ⟨c.nb,8,none⟩ rfl;have m7:ai (λg=>g=c.nb) w6 (w6.setCell ⟨c.nb,8,none⟩ (.slice (some ⟨g6,0,none⟩) (dm.length+1) rh)):=(ai.refl (λg=>g=c.nb) w6).setCell (p:=⟨c.nb,8,none⟩) (.inl rfl) _;have hs7:=OP.boxed (b':=b) (OY:=.slice (some ⟨g6,0,none⟩) (dm.length+1) rh) HC.o (ah OP.box 8 _) m7;have hg6:w.heap.size<=g6/\¬ F4 g6/\g6≠mb:=by
      refine⟨(Ft.lt g6 rfl).1,?_⟩;rcases at6 with e|⟨kk,e,tP⟩
      ·have e':sq.ownBlock=some g6:=e.symm;exact⟨Xa.2.1 g6 e',xE Xa.1 e' Ov.1⟩
      ·have:kk=g6:=by injection e with e;exact e.symm
       subst this;exact⟨λh=>by have:=HS4.lt h;have:=kd.size;omega,λe2=>by have:=Ov.1.lt;have:=kd.size;omega⟩
     unfold jA at r6;have HR6:=Z r6;have ae1:∀ g,sq.ownBlock=some g->g≠mb:=λg hg=>xE Xa.1 hg Ov.1;have Kw:mb≠c.nb:=λe=>by have:=ak H0.box;have:=Hmb.o;omega
     have abI:bb≠c.nb/\xb≠c.nb:=Hbn.o;have aiZ:Hid (xD (w6.setCell ⟨c.nb,8,none⟩ (.slice (some ⟨g6,0,none⟩) (dm.length+1) rh)) mb (rX was)/\¬ F4 mb):=Z ⟨((Ov.1.mod kd id).mod m6 (λe=>ae1 mb e rfl)).mod m7 Kw,Ov.2⟩;have HO7:Hid (dX jA 5 128 (w6.setCell ⟨c.nb,8,none⟩ (.slice (some ⟨g6,0,none⟩) (dm.length+1) rh)) w.heap.size (.slice (some ⟨g6,0,none⟩) (dm.length+1) rh) (dm++[⟨x.num,x.dir,x.links,bl⟩])/\(∀ g,(Value.slice (some ⟨g6,0,none⟩) (dm.length+1) rh).ownBlock=some g->¬ F4 g)/\(dm++[(⟨x.num,x.dir,x.links,bl⟩:fD)]).length=k+1):=Z ⟨by
      unfold dX;rw[awm,awn];refine aA (by simpa using Ft) λg hg=>m7.block g (Ft.lt g hg).2 (λe=>?_);have h1:=(Ft.lt g hg).1;have h2:=ak H0.box
      omega,λg hg=>by have e:g6=g:=by simpa[Value.ownBlock]using hg
                      subst e;exact hg6.2.1,by have:=Xa.2.2;simp;omega⟩
     obtain⟨HS7,HT7,D5,Da,D6,D7⟩:=K6 hs7.1 (UD.trans hs7.2) (And.intro hx5 SA) (And.intro hxa hba) (And.intro hx6 Gm) (And.intro (ab m7 hx6 abI.2) (ab m7 Gm abI.1));clear hs7 UD m7 Ft r6 at6 m6 hx6 Gm OP hxa hba hx5 SA Gb N9 kd ka5 Ku hg6 ae1 Kw abI Gd Cp Ov Xa HS4 HT4 yE;refine bS rfl ⟨D5.o,.inr i5⟩ ?_;go_wp2_with fail;refine bS rfl ⟨Da.o,.inr hia⟩ ?_;refine aB HR6.o rfl rfl rfl rfl ?_;go_wp2_with fail;refine bS rfl ⟨D6.o,.inl rfl⟩ ?_;go_wp2_with fail;refine bS rfl ⟨D6.o,.inl rfl⟩ ?_;go_wp2_with fail;refine bS rfl ⟨D6.o,.inl rfl⟩ ?_;go_wp2_with fail;refine pA ⟨D7.o,.inl rfl⟩ ?_;generalize w6.setCell ⟨c.nb,8,none⟩ (.slice (some ⟨g6,0,none⟩) (dm.length+1) rh)=w7 at*;have hk1:k+1<=nodes.length:=J
     clear aP;go_wp2_with fail;exact⟨⟨k+1,tb,s,_,F4,_,AI,hk1,by go_num,rfl,HS7,HT7,HO7,aiZ,Z ⟨ru.1,ru.2.1,Hs6.o,ru.2.2.1,ru.2.2.2⟩⟩,by simp[intOf];omega⟩
    ·obtain rfl:k=nodes.length:=J
     have gN:rest=[]/\sk=set/\tk=t1:=by
      have h1:=HR.2.1;rw[List.drop_length]at h1;unfold mj at h1;injection h1 with h1;injection h1 with h1 h2;injection h2 with h2 h3;exact⟨h1.symm,h2,h3⟩
     obtain⟨rfl,rfl,rfl⟩:=gN;have yf:dm=inos:=by have:=HR.1;simpa using this
     subst yf;have n8:wr.cell? ⟨c.nb,8,none⟩=some sq:=aa HS.box 8;obtain⟨TI,MU,Hs6,Htb⟩:=K4 (EK dm sq wr (cg xo HO.1) HIN.o) mF HR.2.2.1 HR.2.2.2.1;clear aP HR HMp;go_wp2_with fail;refine TI.mono ?_;rintro e w8 ⟨rfl,k8⟩;obtain⟨FW,HT8⟩:=K2 (HS.keep k8) (HT.keep k8);have YA:Hid (dX jA 5 128 w8 w.heap.size sq dm/\(∀ g,sq.ownBlock=some g->¬ Fk g)):=Z ⟨gY HO.1 k8,HO.2.1⟩;clear k8 TI HS HT HO n8;go_wp2_with fail;refine(MU.o _).mono ?_;rintro e w9 ⟨rfl,rfl⟩;have v2:w9.cell? ⟨c.v,2,none⟩=some (.int .i64 old.root):=by rw[aa FW.own 2];exact HM.c2
     have v3:w9.cell? ⟨c.v,3,none⟩=some (.int .i64 old.size):=by rw[aa FW.own 3];exact HM.c3
     have lG:w9.cell? ⟨c.v,0,none⟩=some (au c.pv):=by rw[aa FW.own 0];exact HC.cv0
     obtain⟨br,S0,hS0⟩:=O2.o;have VS:=Z (nt FW.vol FW.pool FW.fp (Htb.trans HC.size.symm) (by have:=HC.size;have:=HC.many;omega) c.v lG hS0 (jV dm) (by have:=HIL.2;omega) table t2 E2.o);unfold cR at VS;clear lG hS0;go_wp2_with fail;refine VS.mono ?_;rintro e sH ⟨rfl,F2,Gl⟩;have dh:=FW.stored HC.o Gl;have HOA:Hid (dX jA 5 128 sH w.heap.size sq dm/\(∀ g,sq.ownBlock=some g->¬ F2 g/\g≠c.nb)):=Z ⟨aA YA.1 (λg hg=>Gl.mod.block g (aX YA.1 hg) (λh=>h.elim (YA.2 g hg) (λe=>by have h1:=(YA.1.lt g hg).1;have:=ak H0.pool.own;omega))),λg hg=>⟨λh=>(Gl.foot g h).elim (YA.2 g hg) (λh2=>by have:=aX YA.1 hg;omega),λe=>by have h1:=(YA.1.lt g hg).1;have:=ak H0.box;omega⟩⟩;have hb:=dh.1.box;have n0:sH.cell? ⟨c.nb,0,none⟩=some (.int .i64 b.table.root):=aa hb 0;have n1:sH.cell? ⟨c.nb,1,none⟩=some (.int .i64 b.table.size):=aa hb 1;have f0:=ae hb ⟨c.nb,0,none⟩ rfl;have f1:=ae hb ⟨c.nb,1,none⟩ rfl;have m4:ai (λg=>g=c.nb) sH ((sH.setCell ⟨c.nb,0,none⟩ (.int .i64 table.root)).setCell ⟨c.nb,1,none⟩ (.int .i64 table.size)):=((ai.refl (λg=>g=c.nb) sH).setCell (p:=⟨c.nb,0,none⟩) (.inl rfl) _).setCell (p:=⟨c.nb,1,none⟩) (.inl rfl) _;have hsH:=dh.1.boxed (b':={ b with table:=table }) HC.o (ah (ah hb 0 (.int .i64 table.root)) 1 (.int .i64 table.size)) m4;have HOB:Hid (dX jA 5 128 ((sH.setCell ⟨c.nb,0,none⟩ (.int .i64 table.root)).setCell ⟨c.nb,1,none⟩ (.int .i64 table.size)) w.heap.size sq dm/\(∀ g,sq.ownBlock=some g->¬ F2 g)):=Z ⟨aA HOA.1 (λg hg=>m4.block g (aX HOA.1 hg) (λe=>(HOA.2 g hg).2 e)),λg hg=>(HOA.2 g hg).1⟩;obtain⟨HSB,HTB⟩:=K2 hsH.1 ((HT8.trans dh.2).trans hsH.2);clear Gl dh hb m4 hsH FW HT8 YA HOA VS v2 v3;go_wp2_with fail;generalize (sH.setCell ⟨c.nb,0,none⟩ (.int .i64 table.root)).setCell ⟨c.nb,1,none⟩ (.int .i64 table.size)=Zh at*;obtain⟨Sn2,hSn⟩:=N2.o;have lG:Zh.cell? ⟨c.v,0,none⟩=some (au c.pv):=by rw[aa HSB.own 0];exact HC.cv0
     have VA:=Z (xA HSB.vol c.v lG sk Hs6.o hSn set1 E3.o);unfold cR at VA;clear hSn lG;refine VA.mono ?_;rintro e ve ⟨rfl,F3,XZ,dr⟩;have yX:=HSB.read XZ dr;obtain⟨HSC,HTC⟩:=K2 yX.1 (HTB.trans yX.2);have HOC:Hid (dX jA 5 128 ve w.heap.size sq dm/\(∀ g,sq.ownBlock=some g->¬ F3 g)):=Z ⟨aA HOB.1 (λg hg=>dr.mod.block g (aX HOB.1 hg) (HOB.2 g hg)),λg hg h=>(dr.foot g h).elim (HOB.2 g hg) (λh2=>by have:=aX HOB.1 hg;omega)⟩;clear XZ dr yX VA;go_wp2;go_ret;exact⟨rfl,F3,sq,HSC.o,HTC.o,HOC.1,HOC.2⟩
end
section
open Go.RowKit
theorem MH (p e:Nat)(w:World):
  CallsD prog 124 #[au p,au e] .returning w λx u' w'=>x=.returned (.tuple #[])/\u'=.returning/\af w w':=by
 have hta:∀ W,(Instr.typeAssert .nilIface 20 274 true).run prog W=.ok (.tuple #[.agg #[.int .i64 0],.bool false]) W:=λ_=>kr7
 refine callsD_of_wpS func124 rfl λc₀ cs hu=>?_;apply wpS_seq;apply wpS_region;simp[wpOpsS,go_sem,recoverD,hu,ntmps124,Exit.thenS,hta];apply wpS_seq;apply wpS_seq;apply wpS_region;simp[wpOpsS,go_sem,Exit.thenS];refine wpS_cond (t:=true) (by simp[Act.eval,Array.replicate]) ?_;simp only[if_true];refine wpS_of_wp (wp_ret ?_);refine⟨rfl,.returning,?_,.tuple #[],?_,rfl,rfl,(ai.refl _ w).alloc _⟩
 ·cases c₀
  simp_all
 ·simp[results,Tryz.results124]
end
end Go.Proofs.YtkghpdcloaiflaaGreatDoor
