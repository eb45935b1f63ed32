import Derived.Test.YtkghpdcloaiflaaGreatDoorB32
import Derived.Recover
set_option maxHeartbeats 8000000
set_option maxRecDepth 100000
namespace Go.Proofs.YtkghpdcloaiflaaGreatDoor
open _root_.Go.Proofs.Tryz
section
open Go.RowKit
attribute [local go_sem] auV
theorem eO.other {c:qn}{rd:Rd}{pool:Pl}{b:i7}{iv sv nv:Value}{L:List ay}{F S:Nat->Prop}{w w':World}(h:eO c rd pool b iv sv nv L F w)(m:ah S w w')(hS:∀ g,S g->¬ F g/\g≠c.nb/\g≠c.pb/\g≠c.pm/\g≠c.v):eO c rd pool b iv sv nv L F w':=
 ⟨h.vol.same (m.on fun g hg hs=>(hS g hs).1 hg) m.size,h.pool.mod m (fun hs=>(hS _ hs).2.2.1 rfl),ab m h.box (fun hs=>(hS _ hs).2.1 rfl),h.map.mod m (fun hs=>(hS _ hs).2.2.2.1 rfl),ab m h.own (fun hs=>(hS _ hs).2.2.2.2 rfl),h.fv,h.fn,h.fp,h.fm⟩
theorem gh.fresh {c:qn}{F F1 S:Nat->Prop}{w w1 w2:World}(h:gh c F F1 w w1)(m:ah S w1 w2)(hS:∀ g,S g->w.heap.size<=g):gh c F F1 w w2:=⟨h.foot,h.mod.trans m fun g hl hs=>by have:=hS g hs;omega⟩
theorem xD {w:World}{base n sz g mb:Nat}{t:TypeId}{v:Value}{xs:List Value}(h:w.ownsRow base t sz v n xs)(hg:v.ownBlock=some g){l:List (Int×fU)}(hm:xC w mb l):g≠mb:=by
 rcases h.2 with⟨rfl,_⟩|⟨k,cap,d7,rfl,hb,hk,_⟩
 ·cases hg
 ·have e:k=g:=by simpa[Value.ownBlock]using hg
  subst e;obtain⟨es,clock,hm,_⟩:=hm;rintro rfl;rw[hm]at hk
  cases hk
structure Xa (c:qn)(was:List fH)(old:fU)(nodes:List Nt)(ivo nv:Value)(F:Nat->Prop)(w:World):Prop where
 c10:c.cv[10]?=some ivo
 c2:c.cv[2]?=some (.int .i64 old.root)
 c3:c.cv[3]?=some (.int .i64 old.size)
 was:ec jD 5 128 w 0 ivo was
 nodes:ec gx 4 221 w 0 nv nodes
 fwas:∀ g,ivo.ownBlock=some g->¬ F g/\g≠c.nb/\g≠c.pb/\g≠c.pm
 fnodes:∀ g,nv.ownBlock=some g->¬ F g/\g≠c.nb/\g≠c.pb/\g≠c.pm
theorem Iw {was:List fH}{x:Nt}{r:List Nt}{sk s:ay}{tk tb t1:gC}{bl:fU}{rest:List fH}{set:ay}(e1:dG tk (dZ was x.num) x.data=.ok (bl,tb))(e2:dK tb.rd sk bl=.ok s)(h:mw was (x::r) sk tk=.ok (rest,set,t1)):
  ∃ Az,mw was r s tb=.ok (Az,set,t1)/\rest=⟨x.num,x.dir,x.links,bl⟩::Az:=by
 rw[mw,e1]at h;simp only at h;rw[e2]at h;simp only at h
 cases hr:mw was r s tb with
 |error e=>rw[hr]at h;cases h
 |ok o=>
  rw[hr]at h;simp only[Except.map]at h;injection h with h;injection h with h1 h2;exact⟨o.1,by rw[show o=(o.1,o.2)from rfl,h2],h1.symm⟩
theorem QQ:(prog.info? 128).map (fun i=>(i.zero,i.size,i.bytes))=some (some (.agg #[.int .i64 0,.bool false,.int .i64 0,.int .i64 0,.int .i64 0]),5,40):=by kernel_rfl
theorem QR {c:qn}(hc:c.Ok){rd:Rd}{pool:Pl}{b:i7}{sv nv ivo:Value}{L:List ay}{F:Nat->Prop}{w:World}(h:eO c rd pool b (.slice none 0 0) sv nv L F w){was:List fH}{old:fU}{nodes:List Nt}(hm:Xa c was old nodes ivo nv F w)(mV:pool.blocks=c.n)
  (XV:was.length<=100) (yc:nodes.length<=60) (hwn:∀ y∈was,0<=y.num/\y.num<=65535) (hnn:∀ x∈nodes,0<=x.num/\x.num<=65535)
  {inos:List fH} {set set1:ay} {t1 t2:gC} {table:fU} (RY:∃ bg U mW,qW was bg U mW nodes ⟨rd,pool⟩) (e1:mw was nodes [] ⟨rd,pool⟩=.ok (inos,set,t1)) (tL:qN inos=true) (VG:inos.length<=60/\(j7 inos).length<=722)
  (old2:∃ bg S,aS t1.rd bg old S) (e2:dG t1 old (j7 inos)=.ok (table,t2)) (new2:∃ S,aS t2.rd (j7 inos) table S) (e3:dK t2.rd set table=.ok set1):
  Calls prog 130 #[aq c.v,aq c.nb,aq c.pb] w fun e w'=>e=.returned (ax set1)/\∃ F' OO,eO c t2.rd t2.pool { b with table:=table } OO sv nv L F' w'/\gh c F F' w w'/\ec jD 5 128 w' w.heap.size OO inos/\(∀ g,OO.ownBlock=some g->¬ F' g):=by
 have To:=@run_makeMap prog;have HC:=hd0 hc;have H0:=hd0 h;have HM:=hd0 hm;have BM:=hd0 mV;have ajj:=hd0 RY;have E1:=hd0 e1;have HIN:=hd0 tL;have HIL:=hd0 VG;have O2:=hd0 old2;have E2:=hd0 e2;have N2:=hd0 new2;have E3:=hd0 e3;have HWL:=hd0 XV;have HWN:=hd0 hwn;have HNN:=hd0 hnn;have HNL:=hd0 yc;have dt:af w (w.alloc (.map #[] 0)):=(ah.refl _ w).alloc _;have nT:Hid (xC (w.alloc (.map #[] 0)) w.heap.size []):=hd0 (fh.made w);obtain⟨mb,yR⟩:∃ mb,w.heap.size=mb:=⟨_,rfl⟩
 have Hmb:=hd0 yR;have dT:=hd0 dt;have H1:=hd0 (h.keep dt);obtain⟨a,cap,ev,hx⟩:=cl xn hm.was;subst ev;have HX:=hd0 hx;have v10:(w.alloc (.map #[] 0)).cell? ⟨c.v,10,none⟩=some (.slice a was.length cap):=by rw[aa (h.keep dt).own 10];exact hm.c10
 have hwi:(was.length:Int)<=100:=by omega
 clear hc h hm mV RY e1 tL VG old2 e2 new2 e3 dt hx hwn hnn yc;rw[yR]at nT;go_enter func130,ntmps130;go_wp2_with fail
 try rw[yR]
 generalize w.alloc (.map #[] 0)=W at*
 go_loopw [23] (fun i wr=>∃ k:Nat,k<=was.length/\i=.int .i64 (k:Int)/\Hid (xC wr mb (rY (was.take k)))/\Hid (af w wr)) (fun i _=>was.length-(intOf i).toNat)
 case atStart=>exact⟨0,by omega,rfl,nT,dT⟩
 case round=>
  clear nT dT H1 v10;obtain⟨k,hk,rfl,HB,HK⟩:=hrel;by_cases aL:k<was.length
  ·have dU:(k:Int)<(was.length:Int):=by omega
   obtain⟨y,hy⟩:∃ y,was[k]?=some y:=⟨_,au1 aL⟩
   obtain⟨rb,o,rfl,hc⟩:=HX.out k y hy;have c0:wr.cell? ⟨rb,o+k*5,none⟩=some (.int .i64 y.num):=by have h:=hc 0 _ rfl;rw[HK.out.cell (p:=⟨rb,o+k*5,none⟩) (ai h) id];exact h
   have c1:wr.cell? ⟨rb,o+k*5+1,none⟩=some (.bool y.dir):=by have h:=hc 1 _ rfl;rw[HK.out.cell (p:=⟨rb,o+k*5+1,none⟩) (ai h) id];exact h
   have c2:wr.cell? ⟨rb,o+k*5+2,none⟩=some (.int .i64 y.links):=by have h:=hc 2 _ rfl;rw[HK.out.cell (p:=⟨rb,o+k*5+2,none⟩) (ai h) id];exact h
   have c3:wr.cell? ⟨rb,o+k*5+3,none⟩=some (.int .i64 y.blob.root):=by have h:=hc 3 _ rfl;rw[HK.out.cell (p:=⟨rb,o+k*5+3,none⟩) (ai h) id];exact h
   have c4:wr.cell? ⟨rb,o+k*5+4,none⟩=some (.int .i64 y.blob.size):=by have h:=hc 4 _ rfl;rw[HK.out.cell (p:=⟨rb,o+k*5+4,none⟩) (ai h) id];exact h
   have hyn:=HWN.out y (au2 hy);have mZ:af wr (wr.alloc (.cells (jD y).toArray 128)):=(ah.refl _ wr).alloc _;obtain⟨w2,bh,df,dF,cV⟩:=(HB.out.mod mZ id).store QN underlying281 underlying3 y.num (by omega) y.blob trivial (by have h1:=QP (was.take k);have h2:=HWL.out;have h3:(was.take k).length<=was.length:=List.length_take_le' _ _;omega);have hws:ei j4 y.num y.blob (rY (was.take k))=rY (was.take (k+1)):=by rw[au3,hy];exact(tr _ _).symm
   rw[hws]at df;have lW:=hd0 df;have bw:Hid (af w w2):=hd0 ((HK.out.keep mZ).new dF (by rw[Hmb.out];exact au4 _));unfold dc jD at bh;clear hws df dF hc hyn mZ hy;go_wp2_with fail;exact⟨⟨k+1,by omega,by go_num,lW,bw⟩,by simp[intOf];omega⟩
  ·obtain rfl:k=was.length:=by omega
   rw[au5]at HB;have H2:=hd0 (H0.out.keep HK.out);obtain⟨an,N7,en,sp⟩:=cl fR HM.out.nodes;subst en;have HXN:=hd0 sp;have n11:wr.cell? ⟨c.nb,11,none⟩=some (.slice an nodes.length N7):=aa H2.out.box 11;have hni:(nodes.length:Int)<=60:=by have:=HNL.out;omega
   have hmF:∀ g,F g->g≠mb:=fun g hg e=>by have:=H0.out.lt hg;have:=Hmb.out;omega
   have HmF:=hd0 hmF;clear sp hmF aL;go_wp2_with fail
   go_loopw [10,38] (fun Kr i wx=>∃(k:Nat) (tk:gC) (sk:ay) (sD:Value) (Fk:Nat->Prop) (dw rest:List fH),k<=nodes.length/\i=.int .i64 (k:Int)/\Kr=ax sk/\Hid (eO c tk.rd tk.pool b sD sv (.slice an nodes.length N7) L Fk wx)/\Hid (gh c F Fk w wx)/\Hid (ec jD 5 128 wx w.heap.size sD dw/\(∀ g,sD.ownBlock=some g->¬ Fk g)/\dw.length=k)/\Hid (xC wx mb (rY was)/\¬ Fk mb)/\Hid (dw++rest=inos/\mw was (nodes.drop k) sk tk=.ok (rest,set,t1)/\sk.length<=600/\tk.pool.blocks=c.n/\∃ bg U mW,qW was bg U mW (nodes.drop k) tk)) (fun _ i _=>nodes.length-(intOf i).toNat)
   case atStart=>
    exact⟨0,⟨rd,pool⟩,[],_,F,[],inos,by omega,rfl,rfl,H2,hd0 ((gh.refl c F w).keep HK.out),hd0 ⟨World.ownsRow_nil _ _ _ _,fun g hg=>(by cases hg),rfl⟩,hd0 ⟨HB.out,fun h=>HmF.out mb h rfl⟩,hd0 ⟨rfl,E1.out,by simp,BM.out,ajj.out⟩⟩
   case round=>
    clear H2 HK HB n11;obtain⟨k,tk,sk,sD,Fk,dw,rest,hk,rfl,rfl,HS,HT,HO,HMp,HR⟩:=hrel;by_cases aL:k<nodes.length
    ·have dU:(k:Int)<(nodes.length:Int):=by omega
     obtain⟨x,hx⟩:∃ x,nodes[k]?=some x:=⟨_,au1 aL⟩
     have Xw:nodes.drop k=x::nodes.drop (k+1):=by rw[List.drop_eq_getElem_cons aL];congr 1;rw[au1 aL]at hx;injection hx
     obtain⟨KK,ol,vh,hr4,bg,U,mW,hr5⟩:=HR.out;rw[Xw]at ol hr5;obtain⟨bl,tb,s,q1,q2,q3,⟨apB,Sx,q4⟩,q5⟩:=hr5.step sk;obtain⟨Az,q6,rfl⟩:=Iw q1 q2 ol;obtain⟨rb,o,rfl,Yz⟩:=HXN.out k x hx;have cx:∀ i v,(gx x)[i]?=some v->wr.cell? ⟨rb,o+k*4+i,none⟩=some v:=fun i v hi=>by
      have h1:=Yz i v hi;have hf:=HM.out.fnodes rb rfl;rw[HT.out.mod.cell (p:=⟨rb,o+k*4+i,none⟩) (ai h1) (fun h=>by rcases h with h|h|h|h;exact hf.1 h;exact hf.2.1 h;exact hf.2.2.1 h;exact hf.2.2.2 h)];exact h1
     have c0:wr.cell? ⟨rb,o+k*4,none⟩=some (.int .i64 x.num):=cx 0 _ rfl;have c1:wr.cell? ⟨rb,o+k*4+1,none⟩=some (.bool x.dir):=cx 1 _ rfl;have c2:wr.cell? ⟨rb,o+k*4+2,none⟩=some (.int .i64 x.links):=cx 2 _ rfl;have c3:wr.cell? ⟨rb,o+k*4+3,none⟩=some (ax x.data):=cx 3 _ rfl;have sp:=HNN.out x (au2 hx);have FA:x.data.length<=16384:=(hr5.each x (by simp)).1;have mZ:af wr (wr.alloc (.cells #[.int .i64 x.num,.bool x.dir,.int .i64 x.links,ax x.data] 221)):=(ah.refl _ wr).alloc _;have AE:=(HMp.out.1.mod mZ id).look1 QN underlying281 underlying3 x.num (by omega);rw[QO]at AE;have HS1:=hd0 (HS.out.keep mZ);have pZ:Hid (World.blk (wr.alloc (.cells #[.int .i64 x.num,.bool x.dir,.int .i64 x.links,ax x.data] 221)) wr.heap.size #[.int .i64 x.num,.bool x.dir,.int .i64 x.links,ax x.data] 221):=hd0 (av _ _ _);have BH:=hd0 mZ;have Hx:=hd0 hx;have qx:Hid ((dw++[⟨x.num,x.dir,x.links,bl⟩])++Az=inos/\mw was (nodes.drop (k+1)) s tb=.ok (Az,set,t1)/\tb.pool.blocks=c.n/\∃ bg U mW,qW was bg U mW (nodes.drop (k+1)) tb):=hd0 ⟨by rw[<-KK];simp,q6,by rw[q5.blocks,<-hr5.blocks,hr4],bg,U,mW,q5⟩;have Q1:=hd0 q1;have Q2:=hd0 q2;have Q3:=hd0 q3;have Q4:=hd0 q4;have Hsk:=hd0 vh;have Hbk:=hd0 hr4;have Hdl:=hd0 FA;clear Xw KK ol vh hr4 hr5 q1 q2 q3 q4 q5 q6 HR Yz cx sp mZ hx FA;unfold dc at AE;go_wp2_with fail;obtain⟨W1,TT⟩:∃ W1,wr.alloc (.cells #[.int .i64 x.num,.bool x.dir,.int .i64 x.links,ax x.data] 221)=W1:=⟨_,rfl⟩
     obtain⟨xb,yr⟩:∃ xb,wr.heap.size=xb:=⟨_,rfl⟩
     have Hxb:=hd0 yr;rw[TT]at HS1 pZ BH AE ⊢;rw[yr]at pZ ⊢;have lV:W1.cell? ⟨c.v,0,none⟩=some (aq c.pv):=by rw[aa HS1.out.own 0];exact HC.out.cv0
     have VS:=hd0 (nL HS1.out.vol HS1.out.pool HS1.out.fp (Hbk.out.trans HC.out.size.symm) (by have:=HC.out.size;have:=HC.out.many;omega) c.v lV Q4.out x.data Hdl.out bl tb Q1.out);clear c0 c1 c2 c3 AE lV TT yr;unfold dc at VS;refine VS.out.mono ?_;rintro e w2 ⟨rfl,F2,FY⟩;have dr:=HS1.out.stored HC.out FY;have kj:∀ g,g<W1.heap.size->¬ Fk g->g≠c.pb->¬(fun g=>Fk g\/g=c.pb) g:=fun g _ h1 h2 h=>h.elim h1 h2;have Xs:∀ g,g<W1.heap.size->¬ Fk g->¬ F2 g:=fun g hl hn h=>(FY.foot g h).elim hn (fun h2=>by omega);have aec:xb<W1.heap.size:=ak pZ.out;have hxF:¬ Fk xb:=fun h=>by have:=HS.out.lt h;have:=Hxb.out;omega
     have Oq:xb≠c.pb:=fun e=>by have:=ak HS.out.pool.own;have:=Hxb.out;omega
     have sp:xb≠c.nb:=fun e=>by have:=ak HS.out.box;have:=Hxb.out;omega
     have lC:=hd0 (ab FY.mod pZ.out (fun h=>h.elim hxF Oq));have afc:mb<wr.heap.size:=HMp.out.1.lt;have Ny:mb≠c.pb:=fun e=>by have:=ak H0.out.pool.own;have:=Hmb.out;omega
     have Sd:Hid (xC w2 mb (rY was)/\¬ F2 mb):=hd0 ⟨(HMp.out.1.mod BH.out id).mod FY.mod (fun h=>h.elim HMp.out.2 Ny),Xs mb (avb afc BH.out.size) HMp.out.2⟩;have afz:∀ g,sD.ownBlock=some g->g≠c.pb:=fun g hg e=>by
      have h1:=(HO.out.1.lt g hg).1;have:=ak H0.out.pool.own;omega
     have yX:Hid (ec jD 5 128 w2 w.heap.size sD dw/\(∀ g,sD.ownBlock=some g->¬ F2 g)/\dw.length=k):=hd0 ⟨az (ib HO.out.1 BH.out) (fun g hg=>FY.mod.block g (avb (aT HO.out.1 hg) BH.out.size) (fun h=>h.elim (HO.out.2.1 g hg) (afz g hg))),fun g hg=>Xs g (avb (aT HO.out.1 hg) BH.out.size) (HO.out.2.1 g hg),HO.out.2.2⟩;have Ck:=hd0 dr.1;have mS:=hd0 ((HT.out.keep BH.out).trans dr.2);have aek:=hd0 (And.intro (Xs xb aec hxF) (And.intro Oq sp));have Hiv:Hid ((∀ g,sD.ownBlock=some g->w.heap.size<=g/\g<xb)/\xb<w2.heap.size):=hd0 ⟨fun g hg=>⟨(HO.out.1.lt g hg).1,by have:=aT HO.out.1 hg;have:=Hxb.out;omega⟩,ak lC.out⟩;clear FY dr kj Xs aec hxF Oq sp afc Ny afz VS HS HT HO HMp HS1 pZ BH;go_wp2_with fail;have Tl:af w2 (w2.alloc (.cells #[.int .i64 bl.root,.int .i64 bl.size] 42)):=(ah.refl _ w2).alloc _;have hB0:World.blk (w2.alloc (.cells #[.int .i64 bl.root,.int .i64 bl.size] 42)) w2.heap.size #[.int .i64 bl.root,.int .i64 bl.size] 42:=av _ _ _;obtain⟨bb,TW⟩:∃ bb,w2.heap.size=bb:=⟨_,rfl⟩
     obtain⟨W3,Yd⟩:∃ W3,w2.alloc (.cells #[.int .i64 bl.root,.int .i64 bl.size] 42)=W3:=⟨_,rfl⟩
     rw[Yd]at Tl hB0 ⊢;rw[TW]at hB0 ⊢;have qu:=Ck.out.keep Tl;have lV:W3.cell? ⟨c.v,0,none⟩=some (aq c.pv):=by rw[aa qu.own 0];exact HC.out.cv0
     obtain⟨Sb,hSb⟩:=Q3.out;have VA:=hd0 (xz qu.vol c.v lV sk Hsk.out hSb s Q2.out);have Hs6:=hd0 (Es hSb Hsk.out Q2.out);have JA:=hd0 qu;have oq:=hd0 hB0;have OA:=hd0 Tl;have Hbb:=hd0 TW;clear qu lV hSb hB0 Tl TW Yd;unfold dc at VA;refine VA.out.mono ?_;rintro e w4 ⟨rfl,F4,hv4,jj⟩;have Fr:=JA.out.read hv4 jj;have hF4:∀ g,g<W3.heap.size->¬ F2 g->¬ F4 g:=fun g hl hn h=>(jj.foot g h).elim hn (fun h2=>by omega);have Kl:=OA.out.size;have hbF:¬ F2 bb:=fun h=>by have:=Ck.out.lt h;have:=Hbb.out;omega
     have FH:=hd0 (ab jj.mod oq.out hbF);have BQ:=hd0 (ab jj.mod (ab OA.out lC.out id) aek.out.1);have NC:Hid (xC w4 mb (rY was)/\¬ F4 mb):=hd0 ⟨(Sd.out.1.mod OA.out id).mod jj.mod Sd.out.2,hF4 mb (avb Sd.out.1.lt Kl) Sd.out.2⟩;have Wo:Hid (ec jD 5 128 w4 w.heap.size sD dw/\(∀ g,sD.ownBlock=some g->¬ F4 g)/\dw.length=k):=hd0 ⟨az (ib yX.out.1 OA.out) (fun g hg=>jj.mod.block g (avb (aT yX.out.1 hg) Kl) (yX.out.2.1 g hg)),fun g hg=>hF4 g (avb (aT yX.out.1 hg) Kl) (yX.out.2.1 g hg),yX.out.2.2⟩;have HS4:=hd0 Fr.1;have Sh:=hd0 ((mS.out.keep OA.out).trans Fr.2);have hbn:bb≠c.nb:=fun e=>by have:=ak Ck.out.box;have:=Hbb.out;omega
     have Hbn:=hd0 (And.intro hbn aek.out.2.2);clear hv4 jj Fr hF4 Kl hbF VA oq lC Sd yX JA mS OA hbn Ck
     go_upto_region 13 with fail
     refine gE 14 [0,1,2,3,4,5,6,7,8,9,10,11,12] [13,14,15,16,17] (fun X=>World.blk X xb #[.int .i64 x.num,.bool x.dir,.int .i64 x.links,ax x.data] 221/\World.blk X bb #[.int .i64 bl.root,.int .i64 bl.size] 42) (fun X=>X.cell? ⟨c.nb,8,none⟩=some sD) (by kernel_rfl) (by kernel_rfl) (fun _ o _ _ _ h=>by cases o<;>exact h) ?_
     iterate 4 (refine fD rfl (fun L hL=>?_);go_simp;(first|refine hL _ ?_|refine⟨_,fun _ _ _=>rfl,hL _ ?_⟩|refine⟨_,fun X h1 h2=>by simp only[aa h1,aa h2];rfl,hL _ ?_⟩|(trace_state;fail));clear hL L)
     refine Dc rfl (by kernel_rfl) (fun L hL=>?_)
     go_simp
     refine⟨_,fun X _ _ hW=>by simp only[hW];rfl,hL _ ?_⟩;clear hL L
     iterate 8 (refine fD rfl (fun L hL=>?_);go_simp;(first|refine hL _ ?_|refine⟨_,fun _ _ _=>rfl,hL _ ?_⟩|refine⟨_,fun X h1 h2=>by simp only[aa h1,aa h2];rfl,hL _ ?_⟩|refine⟨_,fun X _ h2=>by have e0:X.cell? ⟨bb,0,none⟩=some (.int .i64 bl.root):=aa h2 0;have e1:X.cell? ⟨bb,1,none⟩=some (.int .i64 bl.size):=aa h2 1;simp only[e0,e1,Result.andThen];rfl,hL _ ?_⟩|(trace_state;fail));clear hL L)
     refine iX ?_;obtain⟨W5,BV⟩:∃ W5:World,({ w4 with drawn:=w4.drawn+1 }:World)=W5:=⟨_,rfl⟩
     have kd:af w4 W5:=by rw[<-BV];exact(ah.refl _ w4).drawn _
     rw[BV];have hx5:=ab kd BQ.out id;have Xq:=ab kd FH.out id;have FT:=HS4.out.keep kd;have i5:W5.cell? ⟨c.nb,8,none⟩=some sD:=aa FT.box 8;have Nu:=ib Wo.out.1 kd;have nP:=gU (P:=prog) (ts:=96) (te:=128) underlying96 QQ rfl (by decide) w.heap.size sD _ _ W5 Nu (jD ⟨x.num,x.dir,x.links,bl⟩) rfl (QC _) (by have:=Wo.out.2.2;unfold maxLen;omega) (by have:=Wo.out.2.2;omega) (auX Sh.out.mod.size kd.size);obtain⟨v6,w6,r6,Fm,m6,at6,g6,rr,rfl⟩:=nP;have ka5:af W5 (W5.alloc (.cells (jD ⟨x.num,x.dir,x.links,bl⟩).toArray 128)):=(ah.refl _ W5).alloc _;have hxa:=aF hx5 (.cells (jD ⟨x.num,x.dir,x.links,bl⟩).toArray 128);have hba:=aF Xq (.cells (jD ⟨x.num,x.dir,x.links,bl⟩).toArray 128);have hia:(W5.alloc (.cells (jD ⟨x.num,x.dir,x.links,bl⟩).toArray 128)).cell? ⟨c.nb,8,none⟩=some sD:=aa (FT.keep ka5).box 8;have KN:∀ g,sD.ownBlock=some g->w.heap.size<=g/\g≠xb/\g≠bb:=fun g hg=>by
      have h1:=Hiv.out.1 g hg;have h2:=Hiv.out.2;have h3:=Hbb.out;exact⟨h1.1,by omega,by omega⟩
     have hx6:=ab m6 hx5 (fun e=>(KN xb e).2.1 rfl);have F8:=ab m6 Xq (fun e=>(KN bb e).2.2 rfl);have Ji:=FT.other m6 fun g hg=>by
      have h1:=(KN g hg).1;have h2:=ak H0.out.box;have h3:=ak H0.out.pool.own;have h4:=ak H0.out.map.own;have h5:=ak H0.out.own;exact⟨Wo.out.2.1 g hg,by omega,by omega,by omega,by omega⟩
     have Ju:=(Sh.out.keep kd).fresh m6 fun g hg=>(KN g hg).1;have c68:w6.cell? ⟨c.nb,8,none⟩=some sD:=aa Ji.box 8;have f68:=ae Ji.box ⟨c.nb,8,none⟩ rfl;have m7:ah (fun g=>g=c.nb) w6 (w6.setCell ⟨c.nb,8,none⟩ (.slice (some ⟨g6,0,none⟩) (dw.length+1) rr)):=(ah.refl (fun g=>g=c.nb) w6).setCell (p:=⟨c.nb,8,none⟩) (.inl rfl) _;have hs7:=Ji.boxed (b':=b) (OO:=.slice (some ⟨g6,0,none⟩) (dw.length+1) rr) HC.out (ag Ji.box 8 _) m7;have hg6:w.heap.size<=g6/\¬ F4 g6/\g6≠mb:=by
      refine⟨(Fm.lt g6 rfl).1,?_⟩;rcases at6 with e|⟨kk,e,sB⟩
      ·have e':sD.ownBlock=some g6:=e.symm;exact⟨Wo.out.2.1 g6 e',xD Wo.out.1 e' NC.out.1⟩
      ·have:kk=g6:=by injection e with e;exact e.symm
       subst this;exact⟨fun h=>by have:=HS4.out.lt h;have:=kd.size;omega,fun e2=>by have:=NC.out.1.lt;have:=kd.size;omega⟩
     unfold jD at r6;have HR6:=hd0 r6;have afi:∀ g,sD.ownBlock=some g->g≠mb:=fun g hg=>xD Wo.out.1 hg NC.out.1;have KD:mb≠c.nb:=fun e=>by have:=ak H0.out.box;have:=Hmb.out;omega
     have aaW:bb≠c.nb/\xb≠c.nb:=Hbn.out;have ah7:Hid (xC (w6.setCell ⟨c.nb,8,none⟩ (.slice (some ⟨g6,0,none⟩) (dw.length+1) rr)) mb (rY was)/\¬ F4 mb):=hd0 ⟨((NC.out.1.mod kd id).mod m6 (fun e=>afi mb e rfl)).mod m7 KD,NC.out.2⟩;have HO7:Hid (ec jD 5 128 (w6.setCell ⟨c.nb,8,none⟩ (.slice (some ⟨g6,0,none⟩) (dw.length+1) rr)) w.heap.size (.slice (some ⟨g6,0,none⟩) (dw.length+1) rr) (dw++[⟨x.num,x.dir,x.links,bl⟩])/\(∀ g,(Value.slice (some ⟨g6,0,none⟩) (dw.length+1) rr).ownBlock=some g->¬ F4 g)/\(dw++[(⟨x.num,x.dir,x.links,bl⟩:fH)]).length=k+1):=hd0 ⟨by
      unfold ec;rw[avh,avi];refine az (by simpa using Fm) fun g hg=>m7.block g (Fm.lt g hg).2 (fun e=>?_);have h1:=(Fm.lt g hg).1;have h2:=ak H0.out.box
      omega,fun g hg=>by have e:g6=g:=by simpa[Value.ownBlock]using hg
                         subst e;exact hg6.2.1,by have:=Wo.out.2.2;simp;omega⟩
     have HS7:=hd0 hs7.1;have HT7:=hd0 (Ju.trans hs7.2);have D5:=hd0 (And.intro hx5 Xq);have Da:=hd0 (And.intro hxa hba);have D6:=hd0 (And.intro hx6 F8);have D7:=hd0 (And.intro (ab m7 hx6 aaW.2) (ab m7 F8 aaW.1));clear hs7 Ju m7 Fm r6 at6 m6 hx6 F8 Ji hxa hba hx5 Xq FT Nu kd ka5 KN hg6 afi KD aaW FH BQ NC Wo HS4 Sh BV;refine bS rfl ⟨D5.out,.inr i5⟩ ?_;go_wp2_with fail;refine bS rfl ⟨Da.out,.inr hia⟩ ?_;refine aA HR6.out rfl rfl rfl rfl ?_;go_wp2_with fail;refine bS rfl ⟨D6.out,.inl rfl⟩ ?_;go_wp2_with fail;refine bS rfl ⟨D6.out,.inl rfl⟩ ?_;go_wp2_with fail;refine bS rfl ⟨D6.out,.inl rfl⟩ ?_;go_wp2_with fail;refine pL ⟨D7.out,.inl rfl⟩ ?_;generalize w6.setCell ⟨c.nb,8,none⟩ (.slice (some ⟨g6,0,none⟩) (dw.length+1) rr)=w7 at*;have hk1:k+1<=nodes.length:=by omega
     clear aL;go_wp2_with fail;exact⟨⟨k+1,tb,s,_,F4,_,Az,hk1,by go_num,rfl,HS7,HT7,HO7,ah7,hd0 ⟨qx.out.1,qx.out.2.1,Hs6.out,qx.out.2.2.1,qx.out.2.2.2⟩⟩,by simp[intOf];omega⟩
    ·obtain rfl:k=nodes.length:=by omega
     have gQ:rest=[]/\sk=set/\tk=t1:=by
      have h1:=HR.out.2.1;rw[List.drop_length]at h1;unfold mw at h1;injection h1 with h1;injection h1 with h1 h2;injection h2 with h2 h3;exact⟨h1.symm,h2,h3⟩
     obtain⟨rfl,rfl,rfl⟩:=gQ;have yl:dw=inos:=by have:=HR.out.1;simpa using this
     subst yl;have n8:wr.cell? ⟨c.nb,8,none⟩=some sD:=aa HS.out.box 8;have TI:=hd0 (Eu dw sD wr (cl xn HO.out.1) HIN.out);have MU:=hd0 mQ;have Hs6:=hd0 HR.out.2.2.1;have Htb:=hd0 HR.out.2.2.2.1;clear aL HR HMp;go_wp2_with fail;refine TI.out.mono ?_;rintro e w8 ⟨rfl,k8⟩;have FV:=hd0 (HS.out.keep k8);have HT8:=hd0 (HT.out.keep k8);have Yw:Hid (ec jD 5 128 w8 w.heap.size sD dw/\(∀ g,sD.ownBlock=some g->¬ Fk g)):=hd0 ⟨ib HO.out.1 k8,HO.out.2.1⟩;clear k8 TI HS HT HO n8;go_wp2_with fail;refine(MU.out _).mono ?_;rintro e w9 ⟨rfl,rfl⟩;have v2:w9.cell? ⟨c.v,2,none⟩=some (.int .i64 old.root):=by rw[aa FV.out.own 2];exact HM.out.c2
     have v3:w9.cell? ⟨c.v,3,none⟩=some (.int .i64 old.size):=by rw[aa FV.out.own 3];exact HM.out.c3
     have lV:w9.cell? ⟨c.v,0,none⟩=some (aq c.pv):=by rw[aa FV.out.own 0];exact HC.out.cv0
     obtain⟨bg,S0,hS0⟩:=O2.out;have VS:=hd0 (nL FV.out.vol FV.out.pool FV.out.fp (Htb.out.trans HC.out.size.symm) (by have:=HC.out.size;have:=HC.out.many;omega) c.v lV hS0 (j7 dw) (by have:=HIL.out.2;omega) table t2 E2.out);unfold dc at VS;clear lV hS0;go_wp2_with fail;refine VS.out.mono ?_;rintro e KJ ⟨rfl,F2,FY⟩;have dr:=FV.out.stored HC.out FY;have HOA:Hid (ec jD 5 128 KJ w.heap.size sD dw/\(∀ g,sD.ownBlock=some g->¬ F2 g/\g≠c.nb)):=hd0 ⟨az Yw.out.1 (fun g hg=>FY.mod.block g (aT Yw.out.1 hg) (fun h=>h.elim (Yw.out.2 g hg) (fun e=>by have h1:=(Yw.out.1.lt g hg).1;have:=ak H0.out.pool.own;omega))),fun g hg=>⟨fun h=>(FY.foot g h).elim (Yw.out.2 g hg) (fun h2=>by have:=aT Yw.out.1 hg;omega),fun e=>by have h1:=(Yw.out.1.lt g hg).1;have:=ak H0.out.box;omega⟩⟩;have hb:=dr.1.box;have n0:KJ.cell? ⟨c.nb,0,none⟩=some (.int .i64 b.table.root):=aa hb 0;have n1:KJ.cell? ⟨c.nb,1,none⟩=some (.int .i64 b.table.size):=aa hb 1;have f0:=ae hb ⟨c.nb,0,none⟩ rfl;have f1:=ae hb ⟨c.nb,1,none⟩ rfl;have m4:ah (fun g=>g=c.nb) KJ ((KJ.setCell ⟨c.nb,0,none⟩ (.int .i64 table.root)).setCell ⟨c.nb,1,none⟩ (.int .i64 table.size)):=((ah.refl (fun g=>g=c.nb) KJ).setCell (p:=⟨c.nb,0,none⟩) (.inl rfl) _).setCell (p:=⟨c.nb,1,none⟩) (.inl rfl) _;have hsH:=dr.1.boxed (b':={ b with table:=table }) HC.out (ag (ag hb 0 (.int .i64 table.root)) 1 (.int .i64 table.size)) m4;have HOB:Hid (ec jD 5 128 ((KJ.setCell ⟨c.nb,0,none⟩ (.int .i64 table.root)).setCell ⟨c.nb,1,none⟩ (.int .i64 table.size)) w.heap.size sD dw/\(∀ g,sD.ownBlock=some g->¬ F2 g)):=hd0 ⟨az HOA.out.1 (fun g hg=>m4.block g (aT HOA.out.1 hg) (fun e=>(HOA.out.2 g hg).2 e)),fun g hg=>(HOA.out.2 g hg).1⟩;have HSB:=hd0 hsH.1;have HTB:=hd0 ((HT8.out.trans dr.2).trans hsH.2);clear FY dr hb m4 hsH FV HT8 Yw HOA VS v2 v3;go_wp2_with fail;generalize (KJ.setCell ⟨c.nb,0,none⟩ (.int .i64 table.root)).setCell ⟨c.nb,1,none⟩ (.int .i64 table.size)=w11 at*;obtain⟨Sn2,hSn⟩:=N2.out;have lV:w11.cell? ⟨c.v,0,none⟩=some (aq c.pv):=by rw[aa HSB.out.own 0];exact HC.out.cv0
     have VA:=hd0 (xz HSB.out.vol c.v lV sk Hs6.out hSn set1 E3.out);unfold dc at VA;clear hSn lV;refine VA.out.mono ?_;rintro e Cv ⟨rfl,F3,Oy,dg⟩;have Fr:=HSB.out.read Oy dg;have HSC:=hd0 Fr.1;have HTC:=hd0 (HTB.out.trans Fr.2);have HOC:Hid (ec jD 5 128 Cv w.heap.size sD dw/\(∀ g,sD.ownBlock=some g->¬ F3 g)):=hd0 ⟨az HOB.out.1 (fun g hg=>dg.mod.block g (aT HOB.out.1 hg) (HOB.out.2 g hg)),fun g hg h=>(dg.foot g h).elim (HOB.out.2 g hg) (fun h2=>by have:=aT HOB.out.1 hg;omega)⟩;clear Oy dg Fr VA;go_wp2;go_ret;exact⟨rfl,F3,sD,HSC.out,HTC.out,HOC.out.1,HOC.out.2⟩
end
section
open Go.RowKit
theorem Mx (p e:Nat)(w:World):
  CallsD prog 124 #[aq p,aq e] .returning w fun x u' w'=>x=.returned (.tuple #[])/\u'=.returning/\af w w':=by
 have hta:∀ W,(Instr.typeAssert .nilIface 20 274 true).run prog W=.ok (.tuple #[.agg #[.int .i64 0],.bool false]) W:=fun _=>by kernel_rfl
 refine callsD_of_wpS func124 rfl fun c₀ cs hu=>?_;apply wpS_seq;apply wpS_region;simp[wpOpsS,go_sem,recoverD,hu,ntmps124,Exit.thenS,hta];apply wpS_seq;apply wpS_seq;apply wpS_region;simp[wpOpsS,go_sem,Exit.thenS];refine wpS_cond (t:=true) (by simp[Act.eval,Array.replicate]) ?_;simp only[if_true];refine wpS_of_wp (wp_ret ?_);refine⟨rfl,.returning,?_,.tuple #[],?_,rfl,rfl,(ah.refl _ w).alloc _⟩
 ·cases c₀
  simp_all
 ·simp[results,Tryz.results124]
end
end Go.Proofs.YtkghpdcloaiflaaGreatDoor
