import Derived.Test.YtkghpdcloaiflaaGreatDoorH30
set_option maxHeartbeats 8000000
set_option maxRecDepth 100000
namespace Go.Proofs.YtkghpdcloaiflaaGreatDoor
open _root_.Go.Proofs.Tryz
variable {F F' F1:Nat->Prop}{b n:Nat}{iv nv sv:Value}{w w' w1 w2:World}
section
open Go.RowKit
attribute [local go_sem] av0
theorem MF (x0 x1 x2 x3 x4 x5 x6 x7:Nat)(hx:∀ x∈[x0,x1,x2,x3,x4,x5,x6,x7],x<=1099511627777)(iv sv mv nv:Value)(nb:Nat)(w:World)
  (hn:World.blk w nb #[.int .i64 (x0:Int),.int .i64 (x1:Int),.int .i64 (x2:Int),.int .i64 (x3:Int),.int .i64 (x4:Int),.int .i64 (x5:Int),.int .i64 (x6:Int),.int .i64 (x7:Int),iv,sv,mv,nv] 99):
  Calls prog 141 #[au nb] w λe w'=>e=.returned (az ([x0,x1,x2,x3,x4,x5,x6,x7].flatMap aD))/\af w w':=by
 obtain⟨xs,hxs⟩:∃ xs,[x0,x1,x2,x3,x4,x5,x6,x7]=xs:=⟨_,rfl⟩
 have bt:xs.length=8:=by rw[<-hxs];rfl
 rw[hxs]at hx ⊢;obtain⟨HXS,HX,Tw⟩:=K3 hxs hx bt;have dM:af w (w.alloc (.cells #[.pointer none,.slice none 0 0] 176)):=(ai.refl _ w).alloc _;have nE:=Z (mS w);have hnn:=ab dM hn id;obtain⟨B,hB⟩:∃ B,w.heap.size=B:=⟨_,rfl⟩
 have HBs:=Z hB;clear hx bt hxs hn;go_enter func141,ntmps141
 go_upto_region 2 with fail
 rw[hB]at nE
 try rw[hB]
 obtain⟨W,hW⟩:∃ W,w.alloc (.cells #[.pointer none,.slice none 0 0] 176)=W:=⟨_,rfl⟩
 rw[hW]at dM hnn nE ⊢;obtain⟨eR,HN⟩:=K2 dM hnn;have HsW:Hid (B<W.heap.size):=Z (by rw[<-hW,<-hB];simp);clear hW dM hnn hB;refine gA 100 [0,1,2,3,4,5,6,7,8,9,10,11,12,13,14,15,16,17,18,19,20,21,22,23,24,25,26,27,28,29,30,31,32,33,34,35,36,37,40] [38,39] (λX=>World.blk X nb #[.int .i64 (x0:Int),.int .i64 (x1:Int),.int .i64 (x2:Int),.int .i64 (x3:Int),.int .i64 (x4:Int),.int .i64 (x5:Int),.int .i64 (x6:Int),.int .i64 (x7:Int),iv,sv,mv,nv] 99) (λ_=>True) kr7 kr7 (λ_ o _ _ _ h=>by cases o<;>exact h) ?_
 iterate 39 (refine eJ rfl (λL hL=>?_);go_simp;(first|refine hL _ ?_|refine⟨_,λ_ _=>rfl,hL _ ?_⟩|refine⟨_,λX h=>by simp only[aa h];rfl,hL _ ?_⟩|refine⟨_,λX h=>by simp only[aa h,Result.andThen];rfl,hL _ ?_⟩|(trace_state;fail));clear hL L)
 refine gT ?_;obtain⟨W0,pQ⟩:∃ W0:World,({ W with drawn:=W.drawn+1 }:World)=W0:=⟨_,rfl⟩
 have kd:af W W0:=by rw[<-pQ];exact(ai.refl _ W).drawn _
 have aft:Hid (B<W0.heap.size):=Z (awg HsW.o kd.size);obtain⟨HN0,jg,cC⟩:=K3 (ab kd HN.o id) (cr nE.o kd) (eR.keep kd);rw[pQ];clear pQ kd HN nE eR;refine bS rfl ⟨HN0.o,.inr trivial⟩ ?_;go_wp2_with fail;refine bS rfl ⟨aE HN0.o _,.inr trivial⟩ ?_;go_wp2_with fail;refine pA ⟨aE HN0.o _,.inr trivial⟩ ?_;have cq:World.blk (W0.alloc (.cells #[.int .i64 (x0:Int),.int .i64 (x1:Int),.int .i64 (x2:Int),.int .i64 (x3:Int),.int .i64 (x4:Int),.int .i64 (x5:Int),.int .i64 (x6:Int),.int .i64 (x7:Int)] 3)) W0.heap.size (xs.map λ(n:Nat)=>Value.int .i64 (n:Int)).toArray 3:=by rw[<-HXS.o];exact av _ _ _
 obtain⟨HR,lJ,bJ⟩:=K3 cq (cr jg.o ((ai.refl (λ_=>False) W0).alloc (.cells #[.int .i64 (x0:Int),.int .i64 (x1:Int),.int .i64 (x2:Int),.int .i64 (x3:Int),.int .i64 (x4:Int),.int .i64 (x5:Int),.int .i64 (x6:Int),.int .i64 (x7:Int)] 3))) (cC.alloc (.cells #[.int .i64 (x0:Int),.int .i64 (x1:Int),.int .i64 (x2:Int),.int .i64 (x3:Int),.int .i64 (x4:Int),.int .i64 (x5:Int),.int .i64 (x6:Int),.int .i64 (x7:Int)] 3));have hRB:W0.heap.size≠B:=λe=>by have:=aft.o;omega
 have HRB:=Z hRB;clear cq jg cC HN0 hRB aft;generalize W0.alloc (.cells #[.int .i64 (x0:Int),.int .i64 (x1:Int),.int .i64 (x2:Int),.int .i64 (x3:Int),.int .i64 (x4:Int),.int .i64 (x5:Int),.int .i64 (x6:Int),.int .i64 (x7:Int)] 3)=W2 at*;generalize W0.heap.size=rb at*;clear HXS;go_wp2_with fail
 go_loopw [48] (λi wr=>∃ k:Nat,k<=8/\i=.int .i64 (k:Int)/\Hid (cX B B ((xs.take k).flatMap aD) wr)/\Hid (af w wr)/\Hid (World.blk wr rb (xs.map λ(n:Nat)=>Value.int .i64 (n:Int)).toArray 3)) (λi _=>8-(intOf i).toNat)
 case atStart=>exact⟨0,J,rfl,lJ,bJ,HR⟩
 case round=>
  clear lJ bJ HR;obtain⟨k,hk,rfl,HB,HK,HR⟩:=hrel;by_cases aP:k<8
  ·have dL:(k:Int)<8:=J
   obtain⟨x,hx⟩:∃ x,xs[k]?=some x:=⟨_,av6 (by have:=Tw.o;omega)⟩
   have ck:wr.cell? ⟨rb,k,none⟩=some (.int .i64 (x:Int)):=by rw[aa HR.o];simp[hx]
   have Yq:=HX.o x (av7 hx);have WN:=Z (lB x wr J);have tN:((xs.take k).flatMap aD).length<=100:=by
    have:∀ l:List Nat,(∀ y∈l,y<=1099511627777)->(l.flatMap aD).length<=9*l.length:=by
     intro l
     induction l with
     |nil=>intro _;simp
     |cons y r ih=>
      intro h;have h1:=aK (n:=y) (by have:=h y sp7;omega);have h2:=ih λz hz=>h z (by simp[hz]);rw[awL,awn,av5];omega
    have h1:=this (xs.take k) λy hy=>HX.o y (awb hy);have h2:(xs.take k).length<=8:=by rw[awc];omega
    omega
   have hen:=aK (n:=x) J;have BZ:Hid ((xs.take k).flatMap aD++aD x=(xs.take (k+1)).flatMap aD):=Z (by rw[av8,hx];simp);clear hx Yq;go_wp2_with fail;refine WN.mono ?_;rintro e w2 ⟨rfl,k2⟩;obtain⟨lJ,bJ,ru,MU⟩:=K4 (cr HB.o k2) (HK.keep k2) (ab k2 HR.o id) (mF w2);clear k2 ck WN HB HK HR;go_wp2_with fail;refine MU.mono ?_;rintro e w3 ⟨rfl,rfl⟩;have BS:=Z (jj B B _ (aD x) w3 lJ.o J (by have:=bJ.size;have:=HBs.o;omega));go_wp2_with fail;refine BS.mono ?_;rintro e w4 ⟨rfl,FA,Tz,AG⟩;obtain⟨Gd,HR4,pO⟩:=K3 FA (ab AG ru.o (cO HRB.o ru.o dc7)) (cW bJ.o Tz (by have:=HBs.o;omega));rw[BZ.o]at Gd;clear FA Tz AG BS lJ ru bJ tN;go_wp2_with fail;exact⟨⟨k+1,J,by go_num,Gd,pO,HR4⟩,by simp[intOf];omega⟩
  ·obtain rfl:k=8:=J
   have BT:=Z (gF B B _ wr HB.o (by have:=HK.size;have:=HBs.o;omega));go_wp2_with fail;refine BT.mono ?_;rintro e w4 ⟨rfl,Tz⟩;have pO:=Z (cW HK.o Tz (by have:=HBs.o;omega));clear Tz;go_wp2;go_ret;exact⟨by rw[awQ (by have:=Tw.o;omega)];rfl,pO.o⟩
theorem tr (size:Nat)(w:World)(hs:size<=16384):
  Calls prog 213 #[.int .i64 (size:Int)] w λe w'=>e=.returned (.tuple #[.int .i64 (aU size:Int),.int .i64 0])/\af w w':=by
 have LV:=Z (qN size w hs);have h0:¬(size:Int)<0:=J
 have h1:decide ((16384:Int)<(size:Int))=false:=by simp;omega
 have h0':decide ((size:Int)<0)=false:=by simp
 have HSh:Hid (aU size=(ax size).sum):=Z rfl;have Ut:(ax size).length<=3/\∀ x∈ax size,x<=100:=by
  have hu:=(aL (n:=size) (each:=240) (k:=100) dc7).2 J;have hv:=(aL (n:=bQ size 240) (each:=60) (k:=100) dc7).2 J;rcases aN size with⟨_,e⟩|⟨_,_,e⟩|⟨_,_,e⟩|⟨_,e⟩<;>rw[e]<;>simp<;>omega
 have T6:=Z Ut;generalize aU size=sh at*;generalize ax size=L at*;clear Ut hs;go_enter func213,ntmps213;go_wp2_with fail;refine LV.mono ?_;rintro e w1 ⟨v,rfl,ho,k1⟩;obtain⟨a,cap,ev,hx⟩:=bh ho;have e2:v=.slice a L.length cap:=by rw[ev];simp[bu,gh]
 subst e2;obtain⟨HX,cC⟩:=K2 hx k1;have hLi:(L.length:Int)<=3:=by have:=T6.1;omega
 clear LV ho k1 hx ev;go_wp2_with fail
 go_loopw [4,16] (λs i wr=>∃ k:Nat,k<=L.length/\i=.int .i64 (k:Int)/\s=.int .i64 (((L.take k).sum:Nat):Int)/\wr=w1) (λ_ i _=>L.length-(intOf i).toNat)
 case atStart=>exact⟨0,J,rfl,rfl,rfl⟩
 case round=>
  obtain⟨k,hk,rfl,rfl,rfl⟩:=hrel;by_cases aP:k<L.length
  ·have dL:(k:Int)<(L.length:Int):=J
   obtain⟨x,hx⟩:∃ x,L[k]?=some x:=⟨_,av6 aP⟩
   have Cs:(bu (gh L))[k]?=some (.int .i64 (x:Int)):=by simp[bu,gh,hx]
   obtain⟨b,o,rfl,c0⟩:=HX.o k _ Cs;have Yq:=T6.2 x (av7 hx);have acd:(L.take k).sum<=100*k:=by
    have h2:∀ l:List Nat,(∀ y∈l,y<=100)->l.sum<=100*l.length:=by
     intro l
     induction l with
     |nil=>intro _;simp
     |cons y r ih=>
      intro h;have:=h y sp7;have:=ih λz hz=>h z (by simp[hz]);simp only[av4,av5];omega
    have h3:=h2 (L.take k) λy hy=>T6.2 y (awb hy);rw[awc]at h3;omega
   have Y2:(L.take (k+1)).sum=(L.take k).sum+x:=by rw[av8,hx];simp
   have HT:=Z Y2;generalize (L.take k).sum=s at*;have hsi:(s:Int)<=400:=by have:=T6.1;omega
   have hxi:(x:Int)<=100:=J
   clear hx Cs Y2 Yq acd;go_wp2_with fail;exact⟨⟨k+1,J,by go_num,by rw[HT.o];go_num,trivial⟩,by simp[intOf];omega⟩
  ·obtain rfl:k=L.length:=J
   rw[awa,<-HSh.o];go_wp2;go_ret2;exact⟨rfl,cC.o⟩
theorem Aj {p:Pl}(h:jK w b p):
  Calls prog 214 #[au b] w λe w'=>e=.returned (.int .i64 (p.next:Int))/\w'=w:=by
 have c3:=(ir h).2.2.2.1;clear h;go_enter func214,ntmps214
 go_wp2
 go_ret;exact⟨rfl,rfl⟩
theorem xC {p:Pl}(h:jK w b p):
  Calls prog 215 #[au b] w λe w'=>e=.returned (az p.taken)/\w'=w:=by
 have c1:=(ir h).2.1;clear h;go_enter func215,ntmps215
 go_wp2
 go_ret;exact⟨rfl,rfl⟩
end
section
open Go.RowKit
def lU (b:iX)(iv sv:Value)(pm:Nat)(nv:Value):Array Value:=
 #[.int .i64 b.table.root,.int .i64 b.table.size,.int .i64 b.snaps.root,.int .i64 b.snaps.size,.int .i64 b.mapped.root,.int .i64 b.mapped.size,.int .i64 (b.next:Int),.int .i64 (b.id:Int),iv,sv,au pm,nv]
structure qj where
 pv:Nat
 size:Nat
 text:ay
 num:Nat
 v:Nat
 nb:Nat
 pb:Nat
 pm:Nat
 n:Nat
 cv:Array Value
structure qj.Ok (c:qj):Prop where
 cv0:c.cv[0]?=some (au c.pv)
 vn:c.v≠c.nb
 vp:c.v≠c.pb
 vm:c.v≠c.pm
 np:c.nb≠c.pb
 nm:c.nb≠c.pm
 pm:c.pb≠c.pm
 size:c.size/4=c.n
 many:32<=c.n/\c.n<=4096
structure eO (c:qj)(rd:Rd)(pool:Pl)(b:iX)(iv sv nv:Value)(L:List ay)(F:Nat->Prop)(w:World):Prop where
 vol:ld c.pv c.size c.text c.num rd w F
 pool:jK w c.pb pool
 box:World.blk w c.nb (lU b iv sv c.pm nv) 99
 map:dp w c.pm c.n L
 own:World.blk w c.v c.cv 102
 fv:¬ F c.v
 fn:¬ F c.nb
 fp:¬ F c.pb
 fm:¬ F c.pm
theorem eO.keep {c:qj}{rd:Rd}{pool:Pl}{b:iX}{L:List ay}(h:eO c rd pool b iv sv nv L F w)(k:af w w'):eO c rd pool b iv sv nv L F w':=
 ⟨h.vol.same (k.on λ_ _=>id) k.size,h.pool.mod k id,ab k h.box id,h.map.mod k id,ab k h.own id,h.fv,h.fn,h.fp,h.fm⟩
structure ga (c:qj)(F F':Nat->Prop)(w w':World):Prop where
 foot:∀ g,F' g->F g\/w.heap.size<=g
 mod:ai (λg=>F g\/g=c.nb\/g=c.pb\/g=c.pm) w w'
theorem ga.refl (c:qj)(F:Nat->Prop)(w:World):ga c F F w w:=⟨λ_ h=>.inl h,ai.refl _ _⟩
theorem ga.trans {c:qj}{F2:Nat->Prop}(h:ga c F F1 w w1)(k:ga c F1 F2 w1 w2):ga c F F2 w w2:=
 ⟨λg hg=>(k.foot g hg).elim (h.foot g) (λhh=>.inr (av2 h.mod.size hh)),h.mod.trans k.mod λg hl hg=>hg.elim (λhg=>(h.foot g hg).elim .inl (λhh=>J)) .inr⟩
theorem ga.keep {c:qj}(h:ga c F F1 w w1)(k:af w1 w2):ga c F F1 w w2:=⟨h.foot,h.mod.keep k⟩
section
variable {c:qj}{rd:Rd}{pool:Pl}{b:iX}{iv sv nv:Value}{L:List ay}{F:Nat->Prop}{w:World}
theorem eO.lt (h:eO c rd pool b iv sv nv L F w){g:Nat}(hg:F g):g<w.heap.size:=h.vol.lt g hg
theorem eO.pooled (h:eO c rd pool b iv sv nv L F w)(hc:c.Ok){p':Pl}(hp:jK w' c.pb p')(m:ai (λg=>g=c.pb) w w'):eO c rd p' b iv sv nv L F w'/\ga c F F w w':=
 ⟨⟨h.vol.same (m.on λ_g hg e=>h.fp (e▸hg)) m.size,hp,ab m h.box hc.np,h.map.mod m (λe=>hc.pm e.symm),ab m h.own hc.vp,h.fv,h.fn,h.fp,h.fm⟩,⟨λ_ h=>.inl h,m.mono λ_ _ e=>.inr (.inr (.inl e))⟩⟩
theorem eO.mapped (h:eO c rd pool b iv sv nv L F w)(hc:c.Ok){L':List ay}(hp:dp w' c.pm c.n L')(m:ai (λg=>g=c.pm) w w'):eO c rd pool b iv sv nv L' F w'/\ga c F F w w':=
 ⟨⟨h.vol.same (m.on λ_g hg e=>h.fm (e▸hg)) m.size,h.pool.mod m hc.pm,ab m h.box hc.nm,hp,ab m h.own hc.vm,h.fv,h.fn,h.fp,h.fm⟩,⟨λ_ h=>.inl h,m.mono λ_ _ e=>.inr (.inr (.inr e))⟩⟩
theorem eO.boxed (h:eO c rd pool b iv sv nv L F w)(hc:c.Ok){b':iX}{OY KH nv':Value}(hp:World.blk w' c.nb (lU b' OY KH c.pm nv') 99)(m:ai (λg=>g=c.nb) w w'):eO c rd pool b' OY KH nv' L F w'/\ga c F F w w':=
 ⟨⟨h.vol.same (m.on λ_g hg e=>h.fn (e▸hg)) m.size,h.pool.mod m (λe=>hc.np e.symm),hp,h.map.mod m (λe=>hc.nm e.symm),ab m h.own hc.vn,h.fv,h.fn,h.fp,h.fm⟩,⟨λ_ h=>.inl h,m.mono λ_ _ e=>.inr (.inl e)⟩⟩
theorem eO.read (h:eO c rd pool b iv sv nv L F w)(hv:ld c.pv c.size c.text c.num rd w' F')(k:dO F F' w w'):eO c rd pool b iv sv nv L F' w'/\ga c F F' w w':=by
 have hn:∀ {g},¬ F g->g<w.heap.size->¬ F' g:=λhg hl h=>(k.foot _ h).elim hg (λh2=>J);exact⟨⟨hv,h.pool.mod k.mod h.fp,ab k.mod h.box h.fn,h.map.mod k.mod h.fm,ab k.mod h.own h.fv,hn h.fv (ak h.own),hn h.fn (ak h.box),hn h.fp (ak h.pool.own),hn h.fm (ak h.map.own)⟩,⟨k.foot,k.mod.mono λ_ _ h=>.inl h⟩⟩
theorem eO.stored (h:eO c rd pool b iv sv nv L F w)(hc:c.Ok){t:gy}(s:xz c.pv c.size c.text c.num c.pb F t w w' F'):eO c t.rd t.pool b iv sv nv L F' w'/\ga c F F' w w':=by
 have hn:∀ {g},¬ F g->g<w.heap.size->¬ F' g:=λhg hl h=>(s.foot _ h).elim hg (λh2=>J);exact⟨⟨s.vol,s.pool,ab s.mod h.box (λe=>e.elim h.fn hc.np),h.map.mod s.mod (λe=>e.elim h.fm (λe=>hc.pm e.symm)),ab s.mod h.own (λe=>e.elim h.fv hc.vp),hn h.fv (ak h.own),hn h.fn (ak h.box),s.npb,hn h.fm (ak h.map.own)⟩,
  ⟨s.foot,s.mod.mono λ_ _ h=>h.elim .inl (λe=>.inr (.inr (.inl e)))⟩⟩
theorem eO.stored2 (h:eO c rd pool b iv sv nv L F w){t:gy}{qb B:Nat}(s:xz c.pv c.size c.text c.num qb F t w w' F')(hB:B<=qb)(h1:c.v<B)(h2:c.nb<B)(h3:c.pb<B)(h4:c.pm<B):eO c t.rd pool b iv sv nv L F' w':=by
 have hn:∀ {g},¬ F g->g<w.heap.size->¬ F' g:=λhg hl h=>(s.foot _ h).elim hg (λh2=>J);exact⟨s.vol,h.pool.mod s.mod (λe=>e.elim h.fp (λe=>J)),ab s.mod h.box (λe=>e.elim h.fn (λe=>J)),h.map.mod s.mod (λe=>e.elim h.fm (λe=>J)),ab s.mod h.own (λe=>e.elim h.fv (λe=>J)),hn h.fv (ak h.own),hn h.fn (ak h.box),hn h.fp (ak h.pool.own),hn h.fm (ak h.map.own)⟩
end
theorem uq {s:ay}(h:mC s n):gm s n=none:=by
 unfold gm;rw[aw4];intro m hm hh;rw[aw3]at hm;have:=(h.range m hh).2;omega
theorem mC.zero {s:ay}(h:mC s n):aq s 0=false:=by
 cases e:aq s 0 with
 |false=>rfl
 |true=>have:=(h.range 0 e).1;omega
theorem mC.len {s:ay}(h:mC s n)(hn:n<=4096):s.length<=512:=pK h.least λm hm=>by have:=(h.range m hm).2;omega
end
section
open Go.RowKit
attribute [local go_sem] av0
theorem V3 {base:Nat}{v:Value}{l:List Nat}(h:aO w base v (gh l)):eg w v (pT l):=by
 have h1:=bh h;have e:bu (gh l)=pT l:=by unfold bu gh pT;rw[awv];rfl
 rw[e]at h1;exact h1
theorem Ak (n:Nat)(h:n<=4096):(iE (List.range n)).length<=513:=by
 have:(iE (List.range n)).length<=4096/8+1:=Bb λx hx=>by rw[aw0]at hx;omega
 omega
structure ZX (n:Nat)(set:ay)(t3:gy)(p4:Pl)(L:List ay)(mapped:fI)(t5:gy):Prop where
 slen:set.length<=600
 house:aU n<=t3.pool.left
 e6:oJ (aU n) t3.pool=.ok p4
 pset:mC (dZ set (bV p4.taken t3.pool.taken)) n
 planes:∀ p,p<8->mC ((L.set 0 (dZ (dZ set (bV p4.taken t3.pool.taken)) [])).getD p []) n
 e7:dz ⟨t3.rd,gp (bV (iE (List.range n)) (bV p4.taken t3.pool.taken)) n t3.pool.next⟩ ⟨0,0⟩ (gV (L.set 0 (dZ (dZ set (bV p4.taken t3.pool.taken)) [])) n)=.ok (mapped,t5)
theorem MG {c:qj}(hc:c.Ok){b:iX}{L:List ay}{t3:gy}(h:eO c t3.rd t3.pool b iv sv nv L F w){set:ay}{p4:Pl}{mapped:fI}{t5:gy}(hm:ZX c.n set t3 p4 L mapped t5)(nX:t3.pool.blocks=c.n):
  Calls prog 138 #[au c.v,au c.nb,az set,au c.pb] w λe w'=>e=.returned (.tuple #[])/\∃ F',eO c t5.rd p4 { b with mapped:=mapped,next:=p4.next } iv sv nv (L.set 0 (dZ (dZ set (bV p4.taken t3.pool.taken)) [])) F' w'/\ga c F F' w w':=by
 have hn:=hc.many;obtain⟨HC,HM,H0,Cj⟩:=K4 hc hm h nX;have n10:w.cell? ⟨c.nb,10,none⟩=some (au c.pm):=aa h.box 10;obtain⟨PB,SH,MU⟩:=K3 (gX h.map) (tr c.n w J) mF;have hP3:=h.pool.ok;have HP3:=Z hP3;clear h hm nX hP3;go_enter func138,ntmps138;go_wp2_with fail;refine PB.mono ?_;rintro e w1 ⟨rfl,rfl⟩;go_wp2_with fail;refine SH.mono ?_;rintro e w2 ⟨rfl,k2⟩;obtain⟨H2,bJ⟩:=K2 (H0.keep k2) k2;clear k2 SH PB n10;go_wp2_with fail;refine(MU.o _).mono ?_;rintro e w3 ⟨rfl,rfl⟩;obtain⟨PN,PT⟩:=K2 (Aj H2.pool) (xC H2.pool);go_wp2_with fail;refine PN.mono ?_;rintro e w4 ⟨rfl,rfl⟩;go_wp2_with fail;refine PT.mono ?_;rintro e w5 ⟨rfl,rfl⟩;have aeS:aU c.n<=100:=by
  unfold aU;have hu:=(aL (n:=c.n) (each:=240) (k:=30) dc7).2 J;have hv:=(aL (n:=bQ c.n 240) (each:=60) (k:=30) dc7).2 J;rcases aN c.n with⟨_,e⟩|⟨_,_,e⟩|⟨_,_,e⟩|⟨_,e⟩<;>rw[e]<;>simp<;>omega
 obtain⟨m,Ug⟩:∃ m,aU c.n=m:=⟨_,rfl⟩
 have Hmm:=Z Ug;rw[Ug]at aeS ⊢;have hmi:(m:Int)<=100:=J
 clear Ug PN PT aeS;go_wp2_with fail;have zh:Hid (oJ m t3.pool=.ok p4/\m<=t3.pool.left):=Z (by rw[<-Hmm.o];exact⟨HM.e6,HM.house⟩)
 go_loopw [34] (λi wr=>∃(k:Nat) (q:Pl),k<=m/\i=.int .i64 (k:Int)/\Hid (eO c t3.rd q b iv sv nv L F wr)/\Hid (ga c F F w1 wr)/\Hid (oJ (m-k) q=.ok p4/\m-k<=q.left)) (λi _=>m-(intOf i).toNat)
 case atStart=>exact⟨0,_,J,rfl,H2,Z ((ga.refl c F w1).keep bJ.o),zh⟩
 case round=>
  clear H2 bJ zh;obtain⟨k,q,hk,rfl,HS,HK,HT⟩:=hrel;by_cases aP:k<m
  ·have dL:(k:Int)<(m:Int):=J
   have hl:0<q.left:=by have:=HT.2;omega
   have TK:=Z (zX HS.pool hl);have sC:Hid (oJ (m-(k+1)) q.took=.ok p4/\m-(k+1)<=q.took.left):=Z (by
    have h1:=HT.1;rw[show m-k=(m-(k+1))+1 by omega,oJ,sZ hl]at h1;exact⟨h1,by have:=HT.2;show m-(k+1)<=q.left-1;omega⟩)
   clear hl;go_wp2_with fail;refine TK.mono ?_;rintro e w6 ⟨rfl,hp6,m6⟩;have OP:=HS.pooled HC.o hp6 m6;obtain⟨HS6,vf⟩:=K2 OP.1 (HK.trans OP.2);clear hp6 m6 OP TK;go_wp2_with fail;refine(MU.o _).mono ?_;rintro e w7 ⟨rfl,rfl⟩;go_wp2_with fail;exact⟨⟨k+1,q.took,J,by go_num,HS6,vf,sC⟩,by simp[intOf];omega⟩
  ·obtain rfl:k=m:=J
   obtain rfl:q=p4:=by
    have h1:=HT.1;rw[Nat.sub_self]at h1;unfold oJ at h1;injection h1
   obtain⟨PT,MI⟩:=K2 (xC HS.pool) (λW=>mW q.taken t3.pool.taken W (by have:=HS.pool.taken;omega) (by have:=H0.pool.taken;omega));obtain⟨own,bC⟩:∃ own,bV q.taken t3.pool.taken=own:=⟨_,rfl⟩
   have Ty:=Z bC;rw[bC]at MI;have M1:Hid (mC (dZ set own) c.n):=Z (by rw[<-bC];exact HM.pset);have M2:Hid (∀ p,p<8->mC ((L.set 0 (dZ (dZ set own) [])).getD p []) c.n):=Z (by rw[<-bC];exact HM.planes);have M3:Hid (dz ⟨t3.rd,gp (bV (iE (List.range c.n)) own) c.n t3.pool.next⟩ ⟨0,0⟩ (gV (L.set 0 (dZ (dZ set own) [])) c.n)=.ok (mapped,t5)):=Z (by rw[<-bC];exact HM.e7);have M4:Hid (own.length<=600):=Z (by rw[<-bC];refine av2 (qK _ _) ?_;have h1:=HS.pool.taken;have h2:=H0.pool.taken;omega);clear bC;go_wp2_with fail;refine PT.mono ?_;rintro e w8 ⟨rfl,rfl⟩;go_wp2_with fail;refine(MI.o _).mono ?_;rintro e w9 ⟨rfl,k9⟩;obtain⟨HS9,Cg⟩:=K2 (HS.keep k9) (HK.keep k9);clear k9 HS HK PT MI HT
   go_upto_region 9 with fail
   obtain⟨OR,PU⟩:=K2 (λW=>jX set own W (by have:=HM.slen;omega) (by have:=M4.o;omega)) (λ(W:World) (h:dp W c.pm c.n L)=>wT h 0 dc7 (dZ set own) (by have:=M1.len hn.2;omega) M1.zero (uq M1.o));have n10:w9.cell? ⟨c.nb,10,none⟩=some (au c.pm):=aa HS9.box 10;go_cut [] (λwx=>eO c t3.rd q b iv sv nv (L.set 0 (dZ (dZ set own) [])) F wx/\ga c F F w1 wx)
   case first=>
    go_region_with ((first
     |(go_at_call 27;refine(OR.o _).mono ?_;rintro e sH ⟨rfl,CD⟩;obtain⟨ab6,abv⟩:=K2 (HS9.keep (Bm CD)) (Cg.keep (Bm CD));have n10:sH.cell? ⟨c.nb,10,none⟩=some (au c.pm):=aa ab6.box 10;clear CD)
     |(go_at_call 135;refine(PU.o _ ab6.map).mono ?_;rintro e Zh ⟨rfl,aeX,m11⟩;have afK:=Z (ab6.mapped HC.o aeX m11);clear aeX m11)
     |(go_at_call 129;refine(MU.o _).mono ?_;rintro e ve ⟨rfl,rfl⟩)))
    all_goals (go_wp2_with fail;go_meet)
    all_goals (case rel=>exact⟨afK.1,abv.trans afK.2⟩)
   case rest=>
    obtain⟨Xt,aaV⟩:=hcut;obtain⟨HSA,HKA⟩:=K2 Xt aaV;have n10:wc.cell? ⟨c.nb,10,none⟩=some (au c.pm):=aa Xt.box 10;obtain⟨PB,NU⟩:=K2 (gX Xt.map) (EO c.n wc J);clear Xt aaV HS9 Cg OR PU;go_wp2_with fail;refine PB.mono ?_;rintro e ve ⟨rfl,rfl⟩;go_wp2_with fail;refine NU.mono ?_;rintro e w13 ⟨nvs,rfl,afs,k13⟩;obtain⟨OFC,HSB,HKB⟩:=K3 (Bf (List.range c.n) nvs w13 (V3 afs) (by simp;omega) (λx hx=>by rw[aw0]at hx;omega)) (HSA.keep k13) (HKA.keep k13);clear afs k13 NU PB n10;go_wp2_with fail;refine OFC.mono ?_;rintro e W8 ⟨rfl,OL⟩;obtain⟨HSC,nH⟩:=K2 (HSB.keep OL) (HKB.keep OL);clear OL OFC HSB HKB HSA HKA
    go_upto_region 11 with fail
    have n10:W8.cell? ⟨c.nb,10,none⟩=some (au c.pm):=aa HSC.box 10;have MI:=Z (λW=>mW (iE (List.range c.n)) own W (by have:=Ak c.n hn.2;omega) (by have:=M4.o;omega));have CM:(bV (iE (List.range c.n)) own).length<=600:=by
     refine av2 (qK _ _) ?_;have h1:=Ak c.n hn.2;have h2:=M4.o;omega
    have AN:=Z (λW=>DS (bV (iE (List.range c.n)) own) c.n t3.pool.next W CM ⟨by omega,hn.2⟩ ⟨HP3.lo,by rw[<-Cj.o];exact HP3.hi⟩);obtain⟨Q,hQ⟩:∃ Q,gp (bV (iE (List.range c.n)) own) c.n t3.pool.next=Q:=⟨_,rfl⟩
    have HQb:Hid (Q.blocks=c.n):=Z (by rw[<-hQ];rfl);rw[hQ]at AN M3;clear CM hQ;go_cut [9,17] (λv9 v17 wx=>∃ qb,v9=.int .i64 0/\v17=au qb/\w1.heap.size<=qb/\c.v<qb/\c.nb<qb/\c.pb<qb/\c.pm<qb/\(∀ g,F g->g<qb)/\jK wx qb Q/\eO c t3.rd q b iv sv nv (L.set 0 (dZ (dZ set own) [])) F wx/\ga c F F w1 wx)
    case first=>
     go_region_with ((first
      |(go_at_call 26;refine(MI.o _).mono ?_;rintro e wm ⟨rfl,km⟩;obtain⟨YL,HKD⟩:=K2 (HSC.keep (Bm km)) (nH.keep (Bm km));have n10:wm.cell? ⟨c.nb,10,none⟩=some (au c.pm):=aa YL.box 10;clear km)
      |(go_at_call 128;first|(refine(gX YL.map).mono ?_;rintro e wb ⟨rfl,rfl⟩)|(refine(gX (HSC.keep ((ai.refl _ W8).drew)).map).mono ?_;rintro e wb ⟨rfl,rfl⟩))
      |(go_at_call 126;refine(AN.o _).mono ?_;rintro e wa ⟨qb,rfl,hqa,OG,ka⟩;obtain⟨JL,od,HQA,HQS⟩:=K4 (YL.keep ka) (HKD.keep ka) hqa OG;clear hqa OG ka)))
     all_goals (go_wp2_with fail;go_meet)
     all_goals (case rel=>
      have hs:=HQS.o;refine⟨qb,rfl,rfl,av2 HKD.mod.size hs,awg (ak YL.own) hs,awg (ak YL.box) hs,awg (ak YL.pool.own) hs,awg (ak YL.map.own) hs,λg hg=>awg (YL.lt hg) hs,HQA.o,JL.o,od.o⟩)
    case rest=>
     obtain⟨qb,rfl,rfl,hq1,hqv,hqn,hqp,hqm,hqF,hqa,hsE,hkE⟩:=hcut;clear n10 HSC nH MI AN;obtain⟨JL,od,HQA,HQ⟩:=K4 hsE hkE hqa (And.intro hq1 (And.intro hqv (And.intro hqn (And.intro hqp (And.intro hqm hqF)))));clear hsE hkE hqa hq1 hqv hqn hqp hqm hqF;have hL8:∀ p x,aq ((L.set 0 (dZ (dZ set own) [])).getD p []) x=true->x<c.n:=λp x hx=>by
      by_cases hp:p<8
      ·exact((M2.o p hp).range x hx).2
      ·rw[axm,awY (by rw[JL.map.eight];omega)]at hx
       cases hx
     have hLs:∀ p,((L.set 0 (dZ (dZ set own) [])).getD p []).length<=100000:=λp=>by
      by_cases hp:p<8
      ·have:=(M2.o p hp).len hn.2;omega
      ·rw[axm,awY (by rw[JL.map.eight];omega)];simp
     have TX:=Z (L6 JL.map hL8 hLs);have n10:wc.cell? ⟨c.nb,10,none⟩=some (au c.pm):=aa JL.box 10;obtain⟨L3,hL3⟩:∃ L3,L.set 0 (dZ (dZ set own) [])=L3:=⟨_,rfl⟩
     rw[hL3]at JL TX M3;have T6:=Z hL3;clear hL8 hLs hL3;go_wp2_with fail;refine(MU.o _).mono ?_;rintro e w15 ⟨rfl,rfl⟩;go_wp2_with fail;refine TX.mono ?_;rintro e w16 ⟨rfl,k16⟩;obtain⟨HSF,HKF,HQF⟩:=K3 (JL.keep k16) (od.keep k16) (HQA.mod k16 id);have lG:w16.cell? ⟨c.v,0,none⟩=some (au c.pv):=by rw[aa HSF.own 0];exact HC.cv0
     have VS:=Z (nt (p:=Q) HSF.vol HQF.o (λh=>by have:=HQ.2.2.2.2.2 _ h;omega) (HQb.trans HC.size.symm) (by have:=HC.size;omega) c.v lG (iY t3.rd) (gV L3 c.n) (by rw[oR];omega) mapped t5 M3.o);clear k16 lG TX JL od HQA n10;unfold cR at VS;go_wp2_with fail;refine VS.mono ?_;rintro e Yn ⟨rfl,F',Gl⟩;have dh:=HSF.stored2 Gl (av9 qb) HQ.2.1 HQ.2.2.1 HQ.2.2.2.1 HQ.2.2.2.2.1;have HSG:=Z dh;have HKG:Hid (ga c F F' w1 Yn):=Z ⟨λg hg=>(Gl.foot g hg).elim .inl (λh=>.inr (av2 HKF.mod.size h)),HKF.mod.trans Gl.mod λg hl hg=>hg.elim .inl (λe=>by have:=HQ.1;omega)⟩;have hb:=dh.box;have n4:Yn.cell? ⟨c.nb,4,none⟩=some (.int .i64 b.mapped.root):=aa hb 4;have n5:Yn.cell? ⟨c.nb,5,none⟩=some (.int .i64 b.mapped.size):=aa hb 5;have n6:Yn.cell? ⟨c.nb,6,none⟩=some (.int .i64 (b.next:Int)):=aa hb 6;have f4:=ae hb ⟨c.nb,4,none⟩ rfl;have f5:=ae hb ⟨c.nb,5,none⟩ rfl;have m4:ai (λg=>g=c.nb) Yn ((Yn.setCell ⟨c.nb,4,none⟩ (.int .i64 mapped.root)).setCell ⟨c.nb,5,none⟩ (.int .i64 mapped.size)):=((ai.refl (λg=>g=c.nb) Yn).setCell (p:=⟨c.nb,4,none⟩) (.inl rfl) _).setCell (p:=⟨c.nb,5,none⟩) (.inl rfl) _;have hsH:=dh.boxed (b':={ b with mapped:=mapped }) HC.o (ah (ah hb 4 (.int .i64 mapped.root)) 5 (.int .i64 mapped.size)) m4;obtain⟨HSH,HKH⟩:=K2 hsH.1 (HKG.trans hsH.2);clear Gl dh hb VS m4 hsH HSF HKF HQF HSG HKG;go_wp2_with fail;generalize (Yn.setCell ⟨c.nb,4,none⟩ (.int .i64 mapped.root)).setCell ⟨c.nb,5,none⟩ (.int .i64 mapped.size)=w18 at*;have PN:=Z (Aj HSH.pool);have hb:=HSH.box;have n6:w18.cell? ⟨c.nb,6,none⟩=some (.int .i64 (b.next:Int)):=aa hb 6;have f6:=ae hb ⟨c.nb,6,none⟩ rfl;have hsI:=HSH.boxed (b':={ b with mapped:=mapped,next:=q.next }) HC.o (ah hb 6 (.int .i64 (q.next:Int))) ((ai.refl (λg=>g=c.nb) w18).setCell (p:=⟨c.nb,6,none⟩) (.inl rfl) (.int .i64 (q.next:Int)));obtain⟨HSI,HKI⟩:=K2 hsI.1 (HKH.trans hsI.2);clear hb hsI HSH HKH n4 n5 f4 f5;refine PN.mono ?_;rintro e w19 ⟨rfl,rfl⟩;go_wp2_with fail;go_end0;exact⟨rfl,F',by rw[Ty.o,T6.o];exact HSI.o,HKI.o⟩
end
section
open Go.RowKit Go.Maps
theorem Al {P:Program}{te:TypeId}{R:Value->Option (DataW Value×List MemPlace)}{β:Type}{mk:β->Value}{z:β}(hR:∀ x,R (mk x)=some (.held (mk x),[]))(agP:∀ v y,R v=some y->∃ x,v=mk x)(hz:∀ w,(zeroValue te).run P w=.ok (mk z) w)(hi:∀ a b,mk a=mk b->a=b):nM P te R (λx=>.held (mk x)) mk (λ_=>True) z where
 mkR x _:=hR x
 inv v ps x h:=by
  obtain⟨c,rfl⟩:=agP v _ h;rw[hR]at h;injection h with h;injection h with h _;injection h
 zero:=hz
 zok:=trivial
 any v y h:=by
  obtain⟨c,rfl⟩:=agP v y h;rw[hR]at h;injection h with h;exact⟨c,rfl,by rw[<-h]⟩
 inj a b h:=by injection h with h;exact hi a b h
 mkinj:=hi
def Rc (v:Value):Option (DataW Value×List MemPlace):=match v with
 | .agg c=>match c.toList with
  |[.int .i64 _,.int .i64 _]=>some (.held v,[])
  |_=>none
 |_=>none
theorem Re:nM prog 42 Rc (λx=>.held (cR x)) cR (λ_=>True) ⟨0,0⟩:=Al (λ_=>rfl) (λv y h=>by
  unfold Rc at h;split at h
  ·rename_i c
   split at h
   ·rename_i r s e
    exact⟨⟨r,s⟩,by unfold cR;congr 1;exact Array.ext' e⟩
   ·cases h
  ·cases h) (λ_=>kr7) (λa b h=>by
  obtain⟨r,s⟩:=a;obtain⟨r',s'⟩:=b;simpa[cR]using h)
abbrev xD (w:World)(b:Nat)(l:List (Int×fI)):Prop:=eY prog 3 Rc (λx=>.held (cR x)) w b l
def rX (l:List fD):List (Int×fI):=l.foldl (λm y=>ee jS y.num y.blob m) []
theorem tt (l:List fD)(y:fD):rX (l++[y])=ee jS y.num y.blob (rX l):=by unfold rX;rw[List.foldl_append];rfl
theorem Rf (l:List fD)(k:Int):(bM k (rX l)).getD ⟨0,0⟩=dR l k:=by
 have key:∀ l:List fD,bM k (rX l)=((l.filter λx=>x.num==k).getLast?).map (·.blob):=by
  refine pr ?_ ?_
  ·rfl
  ·intro l y ih;rw[tt,List.filter_append];by_cases h:y.num=k
   ·subst h;rw[j7,awd rfl];simp
   ·rw[j7,awf (Ne.symm h),ih];have:(y.num==k)=false:=by simpa using h
    simp[this]
 rw[key];unfold dR
 cases (l.filter λx=>x.num==k).getLast?<;>rfl
theorem Rg:∀ l:List fD,(rX l).length<=l.length:=by
 refine pr (av9 _) ?_;intro l y ih;rw[tt,awn,List.length_singleton];have:=py y.num y.blob (rX l);split at this<;>omega
end
end Go.Proofs.YtkghpdcloaiflaaGreatDoor
