import Derived.Test.YtkghpdcloaiflaaGreatDoorB31
set_option maxHeartbeats 8000000
set_option maxRecDepth 100000
namespace Go.Proofs.YtkghpdcloaiflaaGreatDoor
open _root_.Go.Proofs.Tryz
section
open Go.RowKit
attribute [local go_sem] auV
theorem Mv (x0 x1 x2 x3 x4 x5 x6 x7:Nat)(hx:∀ x∈[x0,x1,x2,x3,x4,x5,x6,x7],x<=1099511627777)(iv sv mv nv:Value)(nb:Nat)(w:World)
  (hn:World.blk w nb #[.int .i64 (x0:Int),.int .i64 (x1:Int),.int .i64 (x2:Int),.int .i64 (x3:Int),.int .i64 (x4:Int),.int .i64 (x5:Int),.int .i64 (x6:Int),.int .i64 (x7:Int),iv,sv,mv,nv] 99):
  Calls prog 141 #[aq nb] w fun e w'=>e=.returned (ax ([x0,x1,x2,x3,x4,x5,x6,x7].flatMap aG))/\af w w':=by
 obtain⟨xs,hxs⟩:∃ xs,[x0,x1,x2,x3,x4,x5,x6,x7]=xs:=⟨_,rfl⟩
 have bA:xs.length=8:=by rw[<-hxs];rfl
 rw[hxs]at hx ⊢;have HXS:=hd0 hxs;have HX:=hd0 hx;have SD:=hd0 bA;have dt:af w (w.alloc (.cells #[.pointer none,.slice none 0 0] 176)):=(ah.refl _ w).alloc _;have nT:=hd0 (nw w);have hnn:=ab dt hn id;obtain⟨B,hB⟩:∃ B,w.heap.size=B:=⟨_,rfl⟩
 have HBs:=hd0 hB;clear hx bA hxs hn;go_enter func141,ntmps141
 go_upto_region 2 with fail
 rw[hB]at nT
 try rw[hB]
 obtain⟨W,hW⟩:∃ W,w.alloc (.cells #[.pointer none,.slice none 0 0] 176)=W:=⟨_,rfl⟩
 rw[hW]at dt hnn nT ⊢;have dT:=hd0 dt;have HN:=hd0 hnn;have HsW:Hid (B<W.heap.size):=hd0 (by rw[<-hW,<-hB];simp);clear hW dt hnn hB;refine gE 100 [0,1,2,3,4,5,6,7,8,9,10,11,12,13,14,15,16,17,18,19,20,21,22,23,24,25,26,27,28,29,30,31,32,33,34,35,36,37,40] [38,39] (fun X=>World.blk X nb #[.int .i64 (x0:Int),.int .i64 (x1:Int),.int .i64 (x2:Int),.int .i64 (x3:Int),.int .i64 (x4:Int),.int .i64 (x5:Int),.int .i64 (x6:Int),.int .i64 (x7:Int),iv,sv,mv,nv] 99) (fun _=>True) (by kernel_rfl) (by kernel_rfl) (fun _ o _ _ _ h=>by cases o<;>exact h) ?_
 iterate 39 (refine fD rfl (fun L hL=>?_);go_simp;(first|refine hL _ ?_|refine⟨_,fun _ _=>rfl,hL _ ?_⟩|refine⟨_,fun X h=>by simp only[aa h];rfl,hL _ ?_⟩|refine⟨_,fun X h=>by simp only[aa h,Result.andThen];rfl,hL _ ?_⟩|(trace_state;fail));clear hL L)
 refine iX ?_;obtain⟨W0,ux⟩:∃ W0:World,({ W with drawn:=W.drawn+1 }:World)=W0:=⟨_,rfl⟩
 have kd:af W W0:=by rw[<-ux];exact(ah.refl _ W).drawn _
 have ad2:Hid (B<W0.heap.size):=hd0 (avb HsW.out kd.size);have HN0:=hd0 (ab kd HN.out id);have jk:=hd0 (cw nT.out kd);have bZ:=hd0 (dT.out.keep kd);rw[ux];clear ux kd HN nT dT;refine bS rfl ⟨HN0.out,.inr trivial⟩ ?_;go_wp2_with fail;refine bS rfl ⟨aF HN0.out _,.inr trivial⟩ ?_;go_wp2_with fail;refine pL ⟨aF HN0.out _,.inr trivial⟩ ?_;have cI:World.blk (W0.alloc (.cells #[.int .i64 (x0:Int),.int .i64 (x1:Int),.int .i64 (x2:Int),.int .i64 (x3:Int),.int .i64 (x4:Int),.int .i64 (x5:Int),.int .i64 (x6:Int),.int .i64 (x7:Int)] 3)) W0.heap.size (xs.map fun(n:Nat)=>Value.int .i64 (n:Int)).toArray 3:=by rw[<-HXS.out];exact av _ _ _
 have HR:=hd0 cI;have lW:=hd0 (cw jk.out ((ah.refl (fun _=>False) W0).alloc (.cells #[.int .i64 (x0:Int),.int .i64 (x1:Int),.int .i64 (x2:Int),.int .i64 (x3:Int),.int .i64 (x4:Int),.int .i64 (x5:Int),.int .i64 (x6:Int),.int .i64 (x7:Int)] 3)));have bw:=hd0 (bZ.out.alloc (.cells #[.int .i64 (x0:Int),.int .i64 (x1:Int),.int .i64 (x2:Int),.int .i64 (x3:Int),.int .i64 (x4:Int),.int .i64 (x5:Int),.int .i64 (x6:Int),.int .i64 (x7:Int)] 3));have hRB:W0.heap.size≠B:=fun e=>by have:=ad2.out;omega
 have HRB:=hd0 hRB;clear cI jk bZ HN0 hRB ad2;generalize W0.alloc (.cells #[.int .i64 (x0:Int),.int .i64 (x1:Int),.int .i64 (x2:Int),.int .i64 (x3:Int),.int .i64 (x4:Int),.int .i64 (x5:Int),.int .i64 (x6:Int),.int .i64 (x7:Int)] 3)=W2 at*;generalize W0.heap.size=rb at*;clear HXS;go_wp2_with fail
 go_loopw [48] (fun i wr=>∃ k:Nat,k<=8/\i=.int .i64 (k:Int)/\Hid (da B B ((xs.take k).flatMap aG) wr)/\Hid (af w wr)/\Hid (World.blk wr rb (xs.map fun(n:Nat)=>Value.int .i64 (n:Int)).toArray 3)) (fun i _=>8-(intOf i).toNat)
 case atStart=>exact⟨0,by omega,rfl,lW,bw,HR⟩
 case round=>
  clear lW bw HR;obtain⟨k,hk,rfl,HB,HK,HR⟩:=hrel;by_cases aL:k<8
  ·have dU:(k:Int)<8:=by omega
   obtain⟨x,hx⟩:∃ x,xs[k]?=some x:=⟨_,au1 (by have:=SD.out;omega)⟩
   have ck:wr.cell? ⟨rb,k,none⟩=some (.int .i64 (x:Int)):=by rw[aa HR.out];simp[hx]
   have XP:=HX.out x (au2 hx);have WN:=hd0 (lP x wr (by omega));have tF:((xs.take k).flatMap aG).length<=100:=by
    have:∀ l:List Nat,(∀ y∈l,y<=1099511627777)->(l.flatMap aG).length<=9*l.length:=by
     intro l
     induction l with
     |nil=>intro _;simp
     |cons y r ih=>
      intro h;have h1:=aV (n:=y) (by have:=h y (by simp);omega);have h2:=ih fun z hz=>h z (by simp[hz]);rw[avH,avi,au0];omega
    have h1:=this (xs.take k) fun y hy=>HX.out y (au6 hy);have h2:(xs.take k).length<=8:=by rw[au7];omega
    omega
   have hen:=aV (n:=x) (by omega);have Ci:Hid ((xs.take k).flatMap aG++aG x=(xs.take (k+1)).flatMap aG):=hd0 (by rw[au3,hx];simp);clear hx XP;go_wp2_with fail;refine WN.out.mono ?_;rintro e w2 ⟨rfl,k2⟩;have lW:=hd0 (cw HB.out k2);have bw:=hd0 (HK.out.keep k2);have qx:=hd0 (ab k2 HR.out id);have MU:=hd0 (mQ w2);clear k2 ck WN HB HK HR;go_wp2_with fail;refine MU.out.mono ?_;rintro e w3 ⟨rfl,rfl⟩;have BS:=hd0 (jn B B _ (aG x) w3 lW.out (by omega) (by have:=bw.out.size;have:=HBs.out;omega));go_wp2_with fail;refine BS.out.mono ?_;rintro e w4 ⟨rfl,Kt,RI,AG⟩;have FH:=hd0 Kt;have HR4:=hd0 (ab AG qx.out (cP HRB.out qx.out (by decide)));have od:=hd0 (cZ bw.out RI (by have:=HBs.out;omega));rw[Ci.out]at FH;clear Kt RI AG BS lW qx bw tF;go_wp2_with fail;exact⟨⟨k+1,by omega,by go_num,FH,od,HR4⟩,by simp[intOf];omega⟩
  ·obtain rfl:k=8:=by omega
   have BT:=hd0 (gH B B _ wr HB.out (by have:=HK.out.size;have:=HBs.out;omega));go_wp2_with fail;refine BT.out.mono ?_;rintro e w4 ⟨rfl,RI⟩;have od:=hd0 (cZ HK.out RI (by have:=HBs.out;omega));clear RI;go_wp2;go_ret;exact⟨by rw[avM (by have:=SD.out;omega)];rfl,od.out⟩
end
section
open Go.RowKit
attribute [local go_sem] auV
theorem tq (size:Nat)(w:World)(hs:size<=16384):
  Calls prog 213 #[.int .i64 (size:Int)] w fun e w'=>e=.returned (.tuple #[.int .i64 (aR size:Int),.int .i64 0])/\af w w':=by
 have LV:=hd0 (qR size w hs);have h0:¬(size:Int)<0:=by omega
 have h1:decide ((16384:Int)<(size:Int))=false:=by simp;omega
 have h0':decide ((size:Int)<0)=false:=by simp
 have HSh:Hid (aR size=(au size).sum):=hd0 rfl;have Kq:(au size).length<=3/\∀ x∈au size,x<=100:=by
  have hu:=(aI (n:=size) (each:=240) (k:=100) (by decide)).2 (by omega);have hv:=(aI (n:=bN size 240) (each:=60) (k:=100) (by decide)).2 (by omega);rcases aM size with⟨_,e⟩|⟨_,_,e⟩|⟨_,_,e⟩|⟨_,e⟩<;>rw[e]<;>simp<;>omega
 have R5:=hd0 Kq;generalize aR size=sh at*;generalize au size=L at*;clear Kq hs;go_enter func213,ntmps213;go_wp2_with fail;refine LV.out.mono ?_;rintro e w1 ⟨v,rfl,ho,k1⟩;obtain⟨a,cap,ev,hx⟩:=ba ho;have e2:v=.slice a L.length cap:=by rw[ev];simp[bi,gm]
 subst e2;have HX:=hd0 hx;have bZ:=hd0 k1;have hLi:(L.length:Int)<=3:=by have:=R5.out.1;omega
 clear LV ho k1 hx ev;go_wp2_with fail
 go_loopw [4,16] (fun s i wr=>∃ k:Nat,k<=L.length/\i=.int .i64 (k:Int)/\s=.int .i64 (((L.take k).sum:Nat):Int)/\wr=w1) (fun _ i _=>L.length-(intOf i).toNat)
 case atStart=>exact⟨0,by omega,rfl,rfl,rfl⟩
 case round=>
  obtain⟨k,hk,rfl,rfl,rfl⟩:=hrel;by_cases aL:k<L.length
  ·have dU:(k:Int)<(L.length:Int):=by omega
   obtain⟨x,hx⟩:∃ x,L[k]?=some x:=⟨_,au1 aL⟩
   have Cj:(bi (gm L))[k]?=some (.int .i64 (x:Int)):=by simp[bi,gm,hx]
   obtain⟨b,o,rfl,c0⟩:=HX.out k _ Cj;have XP:=R5.out.2 x (au2 hx);have Oc:(L.take k).sum<=100*k:=by
    have h2:∀ l:List Nat,(∀ y∈l,y<=100)->l.sum<=100*l.length:=by
     intro l
     induction l with
     |nil=>intro _;simp
     |cons y r ih=>
      intro h;have:=h y (by simp);have:=ih fun z hz=>h z (by simp[hz]);simp only[auZ,au0];omega
    have h3:=h2 (L.take k) fun y hy=>R5.out.2 y (au6 hy);rw[au7]at h3;omega
   have Yc:(L.take (k+1)).sum=(L.take k).sum+x:=by rw[au3,hx];simp
   have HT:=hd0 Yc;generalize (L.take k).sum=s at*;have Yk:(s:Int)<=400:=by have:=R5.out.1;omega
   have hxi:(x:Int)<=100:=by omega
   clear hx Cj Yc XP Oc;go_wp2_with fail;exact⟨⟨k+1,by omega,by go_num,by rw[HT.out];go_num,trivial⟩,by simp[intOf];omega⟩
  ·obtain rfl:k=L.length:=by omega
   rw[au5,<-HSh.out];go_wp2;go_ret2;exact⟨rfl,bZ.out⟩
theorem Al {w:World}{b:Nat}{p:Pl}(h:jP w b p):
  Calls prog 214 #[aq b] w fun e w'=>e=.returned (.int .i64 (p.next:Int))/\w'=w:=by
 have c3:=(iB h).2.2.2.1;clear h;go_enter func214,ntmps214
 go_wp2
 go_ret;exact⟨rfl,rfl⟩
theorem xB {w:World}{b:Nat}{p:Pl}(h:jP w b p):
  Calls prog 215 #[aq b] w fun e w'=>e=.returned (ax p.taken)/\w'=w:=by
 have c1:=(iB h).2.1;clear h;go_enter func215,ntmps215
 go_wp2
 go_ret;exact⟨rfl,rfl⟩
end
section
open Go.RowKit
def me (b:i7)(iv sv:Value)(pm:Nat)(nv:Value):Array Value:=
 #[.int .i64 b.table.root,.int .i64 b.table.size,.int .i64 b.snaps.root,.int .i64 b.snaps.size,.int .i64 b.mapped.root,.int .i64 b.mapped.size,.int .i64 (b.next:Int),.int .i64 (b.id:Int),iv,sv,aq pm,nv]
structure qn where
 pv:Nat
 size:Nat
 text:ay
 num:Nat
 v:Nat
 nb:Nat
 pb:Nat
 pm:Nat
 n:Nat
 cv:Array Value
structure qn.Ok (c:qn):Prop where
 cv0:c.cv[0]?=some (aq c.pv)
 vn:c.v≠c.nb
 vp:c.v≠c.pb
 vm:c.v≠c.pm
 np:c.nb≠c.pb
 nm:c.nb≠c.pm
 pm:c.pb≠c.pm
 size:c.size/4=c.n
 many:32<=c.n/\c.n<=4096
structure eO (c:qn)(rd:Rd)(pool:Pl)(b:i7)(iv sv nv:Value)(L:List ay)(F:Nat->Prop)(w:World):Prop where
 vol:lA c.pv c.size c.text c.num rd w F
 pool:jP w c.pb pool
 box:World.blk w c.nb (me b iv sv c.pm nv) 99
 map:dx w c.pm c.n L
 own:World.blk w c.v c.cv 102
 fv:¬ F c.v
 fn:¬ F c.nb
 fp:¬ F c.pb
 fm:¬ F c.pm
theorem eO.keep {c:qn}{rd:Rd}{pool:Pl}{b:i7}{iv sv nv:Value}{L:List ay}{F:Nat->Prop}{w w':World}(h:eO c rd pool b iv sv nv L F w)(k:af w w'):eO c rd pool b iv sv nv L F w':=
 ⟨h.vol.same (k.on fun _ _=>id) k.size,h.pool.mod k id,ab k h.box id,h.map.mod k id,ab k h.own id,h.fv,h.fn,h.fp,h.fm⟩
structure gh (c:qn)(F F':Nat->Prop)(w w':World):Prop where
 foot:∀ g,F' g->F g\/w.heap.size<=g
 mod:ah (fun g=>F g\/g=c.nb\/g=c.pb\/g=c.pm) w w'
theorem gh.refl (c:qn)(F:Nat->Prop)(w:World):gh c F F w w:=⟨fun _ h=>.inl h,ah.refl _ _⟩
theorem gh.trans {c:qn}{F F1 F2:Nat->Prop}{w w1 w2:World}(h:gh c F F1 w w1)(k:gh c F1 F2 w1 w2):gh c F F2 w w2:=
 ⟨fun g hg=>(k.foot g hg).elim (h.foot g) (fun hh=>.inr (auX h.mod.size hh)),h.mod.trans k.mod fun g hl hg=>hg.elim (fun hg=>(h.foot g hg).elim .inl (fun hh=>by omega)) .inr⟩
theorem gh.keep {c:qn}{F F1:Nat->Prop}{w w1 w2:World}(h:gh c F F1 w w1)(k:af w1 w2):gh c F F1 w w2:=⟨h.foot,h.mod.keep k⟩
section
variable {c:qn}{rd:Rd}{pool:Pl}{b:i7}{iv sv nv:Value}{L:List ay}{F:Nat->Prop}{w:World}
theorem eO.lt (h:eO c rd pool b iv sv nv L F w){g:Nat}(hg:F g):g<w.heap.size:=h.vol.lt g hg
theorem eO.pooled (h:eO c rd pool b iv sv nv L F w)(hc:c.Ok){w':World}{p':Pl}(hp:jP w' c.pb p')(m:ah (fun g=>g=c.pb) w w'):eO c rd p' b iv sv nv L F w'/\gh c F F w w':=
 ⟨⟨h.vol.same (m.on fun _g hg e=>h.fp (e▸hg)) m.size,hp,ab m h.box hc.np,h.map.mod m (fun e=>hc.pm e.symm),ab m h.own hc.vp,h.fv,h.fn,h.fp,h.fm⟩,⟨fun _ h=>.inl h,m.mono fun _ _ e=>.inr (.inr (.inl e))⟩⟩
theorem eO.mapped (h:eO c rd pool b iv sv nv L F w)(hc:c.Ok){w':World}{L':List ay}(hp:dx w' c.pm c.n L')(m:ah (fun g=>g=c.pm) w w'):eO c rd pool b iv sv nv L' F w'/\gh c F F w w':=
 ⟨⟨h.vol.same (m.on fun _g hg e=>h.fm (e▸hg)) m.size,h.pool.mod m hc.pm,ab m h.box hc.nm,hp,ab m h.own hc.vm,h.fv,h.fn,h.fp,h.fm⟩,⟨fun _ h=>.inl h,m.mono fun _ _ e=>.inr (.inr (.inr e))⟩⟩
theorem eO.boxed (h:eO c rd pool b iv sv nv L F w)(hc:c.Ok){w':World}{b':i7}{OO Kr ZW:Value}(hp:World.blk w' c.nb (me b' OO Kr c.pm ZW) 99)(m:ah (fun g=>g=c.nb) w w'):eO c rd pool b' OO Kr ZW L F w'/\gh c F F w w':=
 ⟨⟨h.vol.same (m.on fun _g hg e=>h.fn (e▸hg)) m.size,h.pool.mod m (fun e=>hc.np e.symm),hp,h.map.mod m (fun e=>hc.nm e.symm),ab m h.own hc.vn,h.fv,h.fn,h.fp,h.fm⟩,⟨fun _ h=>.inl h,m.mono fun _ _ e=>.inr (.inl e)⟩⟩
theorem eO.read (h:eO c rd pool b iv sv nv L F w){w':World}{F':Nat->Prop}(hv:lA c.pv c.size c.text c.num rd w' F')(k:dX F F' w w'):eO c rd pool b iv sv nv L F' w'/\gh c F F' w w':=by
 have hn:∀ {g},¬ F g->g<w.heap.size->¬ F' g:=fun hg hl h=>(k.foot _ h).elim hg (fun h2=>by omega);exact⟨⟨hv,h.pool.mod k.mod h.fp,ab k.mod h.box h.fn,h.map.mod k.mod h.fm,ab k.mod h.own h.fv,hn h.fv (ak h.own),hn h.fn (ak h.box),hn h.fp (ak h.pool.own),hn h.fm (ak h.map.own)⟩,⟨k.foot,k.mod.mono fun _ _ h=>.inl h⟩⟩
theorem eO.stored (h:eO c rd pool b iv sv nv L F w)(hc:c.Ok){w':World}{F':Nat->Prop}{t:gC}(s:xy c.pv c.size c.text c.num c.pb F t w w' F'):eO c t.rd t.pool b iv sv nv L F' w'/\gh c F F' w w':=by
 have hn:∀ {g},¬ F g->g<w.heap.size->¬ F' g:=fun hg hl h=>(s.foot _ h).elim hg (fun h2=>by omega);exact⟨⟨s.vol,s.pool,ab s.mod h.box (fun e=>e.elim h.fn hc.np),h.map.mod s.mod (fun e=>e.elim h.fm (fun e=>hc.pm e.symm)),ab s.mod h.own (fun e=>e.elim h.fv hc.vp),hn h.fv (ak h.own),hn h.fn (ak h.box),s.npb,hn h.fm (ak h.map.own)⟩,
  ⟨s.foot,s.mod.mono fun _ _ h=>h.elim .inl (fun e=>.inr (.inr (.inl e)))⟩⟩
theorem eO.stored2 (h:eO c rd pool b iv sv nv L F w){w':World}{F':Nat->Prop}{t:gC}{qb B:Nat}(s:xy c.pv c.size c.text c.num qb F t w w' F')(hB:B<=qb)(h1:c.v<B)(h2:c.nb<B)(h3:c.pb<B)(h4:c.pm<B):eO c t.rd pool b iv sv nv L F' w':=by
 have hn:∀ {g},¬ F g->g<w.heap.size->¬ F' g:=fun hg hl h=>(s.foot _ h).elim hg (fun h2=>by omega);exact⟨s.vol,h.pool.mod s.mod (fun e=>e.elim h.fp (fun e=>by omega)),ab s.mod h.box (fun e=>e.elim h.fn (fun e=>by omega)),h.map.mod s.mod (fun e=>e.elim h.fm (fun e=>by omega)),ab s.mod h.own (fun e=>e.elim h.fv (fun e=>by omega)),hn h.fv (ak h.own),hn h.fn (ak h.box),hn h.fp (ak h.pool.own),hn h.fm (ak h.map.own)⟩
end
theorem uk {s:ay}{n:Nat}(h:mP s n):mo s n=none:=by
 unfold mo;rw[av0];intro m hm hh;rw[avZ]at hm;have:=(h.range m hh).2;omega
theorem mP.zero {s:ay}{n:Nat}(h:mP s n):am s 0=false:=by
 cases e:am s 0 with
 |false=>rfl
 |true=>have:=(h.range 0 e).1;omega
theorem mP.len {s:ay}{n:Nat}(h:mP s n)(hn:n<=4096):s.length<=512:=pV h.least fun m hm=>by have:=(h.range m hm).2;omega
end
section
open Go.RowKit
attribute [local go_sem] auV
theorem Vc {w:World}{base:Nat}{v:Value}{l:List Nat}(h:aN w base v (gm l)):eF w v (qd l):=by
 have h1:=ba h;have e:bi (gm l)=qd l:=by unfold bi gm qd;rw[avr];rfl
 rw[e]at h1;exact h1
theorem Am (n:Nat)(h:n<=4096):(iK (List.range n)).length<=513:=by
 have:(iK (List.range n)).length<=4096/8+1:=A8 fun x hx=>by rw[avW]at hx;omega
 omega
structure Zc (n:Nat)(set:ay)(t3:gC)(p4:Pl)(L:List ay)(mapped:fU)(t5:gC):Prop where
 slen:set.length<=600
 house:aR n<=t3.pool.left
 e6:oX (aR n) t3.pool=.ok p4
 pset:mP (eC set (bV p4.taken t3.pool.taken)) n
 planes:∀ p,p<8->mP ((L.set 0 (eC (eC set (bV p4.taken t3.pool.taken)) [])).getD p []) n
 e7:dG ⟨t3.rd,gp (bV (iK (List.range n)) (bV p4.taken t3.pool.taken)) n t3.pool.next⟩ ⟨0,0⟩ (gY (L.set 0 (eC (eC set (bV p4.taken t3.pool.taken)) [])) n)=.ok (mapped,t5)
theorem Mw {c:qn}(hc:c.Ok){b:i7}{iv sv nv:Value}{L:List ay}{F:Nat->Prop}{w:World}{t3:gC}(h:eO c t3.rd t3.pool b iv sv nv L F w){set:ay}{p4:Pl}{mapped:fU}{t5:gC}(hm:Zc c.n set t3 p4 L mapped t5)(mV:t3.pool.blocks=c.n):
  Calls prog 138 #[aq c.v,aq c.nb,ax set,aq c.pb] w fun e w'=>e=.returned (.tuple #[])/\∃ F',eO c t5.rd p4 { b with mapped:=mapped,next:=p4.next } iv sv nv (L.set 0 (eC (eC set (bV p4.taken t3.pool.taken)) [])) F' w'/\gh c F F' w w':=by
 have hn:=hc.many;have HC:=hd0 hc;have HM:=hd0 hm;have H0:=hd0 h;have BM:=hd0 mV;have n10:w.cell? ⟨c.nb,10,none⟩=some (aq c.pm):=aa h.box 10;have PB:=hd0 (hZ h.map);have SH:=hd0 (tq c.n w (by omega));have MU:=hd0 mQ;have hP3:=h.pool.ok;have HP3:=hd0 hP3;clear h hm mV hP3;go_enter func138,ntmps138;go_wp2_with fail;refine PB.out.mono ?_;rintro e w1 ⟨rfl,rfl⟩;go_wp2_with fail;refine SH.out.mono ?_;rintro e w2 ⟨rfl,k2⟩;have H2:=hd0 (H0.out.keep k2);have bw:=hd0 k2;clear k2 SH PB n10;go_wp2_with fail;refine(MU.out _).mono ?_;rintro e w3 ⟨rfl,rfl⟩;have PN:=hd0 (Al H2.out.pool);have PT:=hd0 (xB H2.out.pool);go_wp2_with fail;refine PN.out.mono ?_;rintro e w4 ⟨rfl,rfl⟩;go_wp2_with fail;refine PT.out.mono ?_;rintro e w5 ⟨rfl,rfl⟩;have aeL:aR c.n<=100:=by
  unfold aR;have hu:=(aI (n:=c.n) (each:=240) (k:=30) (by decide)).2 (by omega);have hv:=(aI (n:=bN c.n 240) (each:=60) (k:=30) (by decide)).2 (by omega);rcases aM c.n with⟨_,e⟩|⟨_,_,e⟩|⟨_,_,e⟩|⟨_,e⟩<;>rw[e]<;>simp<;>omega
 obtain⟨m,To⟩:∃ m,aR c.n=m:=⟨_,rfl⟩
 have Hmm:=hd0 To;rw[To]at aeL ⊢;have hmi:(m:Int)<=100:=by omega
 clear To PN PT aeL;go_wp2_with fail;have jW:Hid (oX m t3.pool=.ok p4/\m<=t3.pool.left):=hd0 (by rw[<-Hmm.out];exact⟨HM.out.e6,HM.out.house⟩)
 go_loopw [34] (fun i wr=>∃(k:Nat) (q:Pl),k<=m/\i=.int .i64 (k:Int)/\Hid (eO c t3.rd q b iv sv nv L F wr)/\Hid (gh c F F w1 wr)/\Hid (oX (m-k) q=.ok p4/\m-k<=q.left)) (fun i _=>m-(intOf i).toNat)
 case atStart=>exact⟨0,_,by omega,rfl,H2,hd0 ((gh.refl c F w1).keep bw.out),jW⟩
 case round=>
  clear H2 bw jW;obtain⟨k,q,hk,rfl,HS,HK,HT⟩:=hrel;by_cases aL:k<m
  ·have dU:(k:Int)<(m:Int):=by omega
   have hl:0<q.left:=by have:=HT.out.2;omega
   have TK:=hd0 (zZ HS.out.pool hl);have mS:Hid (oX (m-(k+1)) q.took=.ok p4/\m-(k+1)<=q.took.left):=hd0 (by
    have h1:=HT.out.1;rw[show m-k=(m-(k+1))+1 by omega,oX,sZ hl]at h1;exact⟨h1,by have:=HT.out.2;show m-(k+1)<=q.left-1;omega⟩)
   clear hl;go_wp2_with fail;refine TK.out.mono ?_;rintro e w6 ⟨rfl,hp6,m6⟩;have Ji:=HS.out.pooled HC.out hp6 m6;have HS6:=hd0 Ji.1;have u9:=hd0 (HK.out.trans Ji.2);clear hp6 m6 Ji TK;go_wp2_with fail;refine(MU.out _).mono ?_;rintro e w7 ⟨rfl,rfl⟩;go_wp2_with fail;exact⟨⟨k+1,q.took,by omega,by go_num,HS6,u9,mS⟩,by simp[intOf];omega⟩
  ·obtain rfl:k=m:=by omega
   obtain rfl:q=p4:=by
    have h1:=HT.out.1;rw[Nat.sub_self]at h1;unfold oX at h1;injection h1
   have PT:=hd0 (xB HS.out.pool);have MI:=hd0 (fun W=>nB q.taken t3.pool.taken W (by have:=HS.out.pool.taken;omega) (by have:=H0.out.pool.taken;omega));obtain⟨own,bu⟩:∃ own,bV q.taken t3.pool.taken=own:=⟨_,rfl⟩
   have Tu:=hd0 bu;rw[bu]at MI;have M1:Hid (mP (eC set own) c.n):=hd0 (by rw[<-bu];exact HM.out.pset);have M2:Hid (∀ p,p<8->mP ((L.set 0 (eC (eC set own) [])).getD p []) c.n):=hd0 (by rw[<-bu];exact HM.out.planes);have M3:Hid (dG ⟨t3.rd,gp (bV (iK (List.range c.n)) own) c.n t3.pool.next⟩ ⟨0,0⟩ (gY (L.set 0 (eC (eC set own) [])) c.n)=.ok (mapped,t5)):=hd0 (by rw[<-bu];exact HM.out.e7);have M4:Hid (own.length<=600):=hd0 (by rw[<-bu];refine auX (qO _ _) ?_;have h1:=HS.out.pool.taken;have h2:=H0.out.pool.taken;omega);clear bu;go_wp2_with fail;refine PT.out.mono ?_;rintro e w8 ⟨rfl,rfl⟩;go_wp2_with fail;refine(MI.out _).mono ?_;rintro e w9 ⟨rfl,k9⟩;have HS9:=hd0 (HS.out.keep k9);have Cg:=hd0 (HK.out.keep k9);clear k9 HS HK PT MI HT
   go_upto_region 9 with fail
   have OR:=hd0 (fun W=>lO set own W (by have:=HM.out.slen;omega) (by have:=M4.out;omega));have PU:=hd0 (fun(W:World) (h:dx W c.pm c.n L)=>wO h 0 (by decide) (eC set own) (by have:=M1.out.len hn.2;omega) M1.out.zero (uk M1.out));have n10:w9.cell? ⟨c.nb,10,none⟩=some (aq c.pm):=aa HS9.out.box 10;go_cut [] (fun wx=>eO c t3.rd q b iv sv nv (L.set 0 (eC (eC set own) [])) F wx/\gh c F F w1 wx)
   case first=>
    go_region_with ((first
     |(go_at_call 27;refine(OR.out _).mono ?_;rintro e KJ ⟨rfl,Yb⟩;have aay:=hd0 (HS9.out.keep (Bh Yb));have aa7:=hd0 (Cg.out.keep (Bh Yb));have n10:KJ.cell? ⟨c.nb,10,none⟩=some (aq c.pm):=aa aay.out.box 10;clear Yb)
     |(go_at_call 135;refine(PU.out _ aay.out.map).mono ?_;rintro e w11 ⟨rfl,aeP,m11⟩;have adg:=hd0 (aay.out.mapped HC.out aeP m11);clear aeP m11)
     |(go_at_call 129;refine(MU.out _).mono ?_;rintro e Cv ⟨rfl,rfl⟩)))
    all_goals (go_wp2_with fail;go_meet)
    all_goals (case rel=>exact⟨adg.out.1,aa7.out.trans adg.out.2⟩)
   case rest=>
    obtain⟨Wv,aaK⟩:=hcut;have HSA:=hd0 Wv;have HKA:=hd0 aaK;have n10:wc.cell? ⟨c.nb,10,none⟩=some (aq c.pm):=aa Wv.box 10;have PB:=hd0 (hZ Wv.map);have NU:=hd0 (Ex c.n wc (by omega));clear Wv aaK HS9 Cg OR PU;go_wp2_with fail;refine PB.out.mono ?_;rintro e Cv ⟨rfl,rfl⟩;go_wp2_with fail;refine NU.out.mono ?_;rintro e w13 ⟨nvs,rfl,adr,k13⟩;have OFC:=hd0 (Ba (List.range c.n) nvs w13 (Vc adr) (by simp;omega) (fun x hx=>by rw[avW]at hx;omega));have HSB:=hd0 (HSA.out.keep k13);have HKB:=hd0 (HKA.out.keep k13);clear adr k13 NU PB n10;go_wp2_with fail;refine OFC.out.mono ?_;rintro e w14 ⟨rfl,k14⟩;have HSC:=hd0 (HSB.out.keep k14);have Jn:=hd0 (HKB.out.keep k14);clear k14 OFC HSB HKB HSA HKA
    go_upto_region 11 with fail
    have n10:w14.cell? ⟨c.nb,10,none⟩=some (aq c.pm):=aa HSC.out.box 10;have MI:=hd0 (fun W=>nB (iK (List.range c.n)) own W (by have:=Am c.n hn.2;omega) (by have:=M4.out;omega));have Cs:(bV (iK (List.range c.n)) own).length<=600:=by
     refine auX (qO _ _) ?_;have h1:=Am c.n hn.2;have h2:=M4.out;omega
    have AN:=hd0 (fun W=>Dx (bV (iK (List.range c.n)) own) c.n t3.pool.next W Cs ⟨by omega,hn.2⟩ ⟨HP3.out.lo,by rw[<-BM.out];exact HP3.out.hi⟩);obtain⟨Q,hQ⟩:∃ Q,gp (bV (iK (List.range c.n)) own) c.n t3.pool.next=Q:=⟨_,rfl⟩
    have HQb:Hid (Q.blocks=c.n):=hd0 (by rw[<-hQ];rfl);rw[hQ]at AN M3;clear Cs hQ;go_cut [9,17] (fun v9 v17 wx=>∃ qb,v9=.int .i64 0/\v17=aq qb/\w1.heap.size<=qb/\c.v<qb/\c.nb<qb/\c.pb<qb/\c.pm<qb/\(∀ g,F g->g<qb)/\jP wx qb Q/\eO c t3.rd q b iv sv nv (L.set 0 (eC (eC set own) [])) F wx/\gh c F F w1 wx)
    case first=>
     go_region_with ((first
      |(go_at_call 26;refine(MI.out _).mono ?_;rintro e wm ⟨rfl,km⟩;have Xu:=hd0 (HSC.out.keep (Bh km));have HKD:=hd0 (Jn.out.keep (Bh km));have n10:wm.cell? ⟨c.nb,10,none⟩=some (aq c.pm):=aa Xu.out.box 10;clear km)
      |(go_at_call 128;first|(refine(hZ Xu.out.map).mono ?_;rintro e wb ⟨rfl,rfl⟩)|(refine(hZ (HSC.out.keep ((ah.refl _ w14).drew)).map).mono ?_;rintro e wb ⟨rfl,rfl⟩))
      |(go_at_call 126;refine(AN.out _).mono ?_;rintro e wa ⟨qb,rfl,hqa,OJ,ka⟩;have I0:=hd0 (Xu.out.keep ka);have Cp:=hd0 (HKD.out.keep ka);have HQA:=hd0 hqa;have HQS:=hd0 OJ;clear hqa OJ ka)))
     all_goals (go_wp2_with fail;go_meet)
     all_goals (case rel=>
      have hs:=HQS.out;refine⟨qb,rfl,rfl,auX HKD.out.mod.size hs,avb (ak Xu.out.own) hs,avb (ak Xu.out.box) hs,avb (ak Xu.out.pool.own) hs,avb (ak Xu.out.map.own) hs,fun g hg=>avb (Xu.out.lt hg) hs,HQA.out,I0.out,Cp.out⟩)
    case rest=>
     obtain⟨qb,rfl,rfl,hq1,hqv,hqn,hqp,hqm,hqF,hqa,hsE,hkE⟩:=hcut;clear n10 HSC Jn MI AN;have I0:=hd0 hsE;have Cp:=hd0 hkE;have HQA:=hd0 hqa;have HQ:=hd0 (And.intro hq1 (And.intro hqv (And.intro hqn (And.intro hqp (And.intro hqm hqF)))));clear hsE hkE hqa hq1 hqv hqn hqp hqm hqF;have hL8:∀ p x,am ((L.set 0 (eC (eC set own) [])).getD p []) x=true->x<c.n:=fun p x hx=>by
      by_cases hp:p<8
      ·exact((M2.out p hp).range x hx).2
      ·rw[awi,avU (by rw[I0.out.map.eight];omega)]at hx
       cases hx
     have hLs:∀ p,((L.set 0 (eC (eC set own) [])).getD p []).length<=100000:=fun p=>by
      by_cases hp:p<8
      ·have:=(M2.out p hp).len hn.2;omega
      ·rw[awi,avU (by rw[I0.out.map.eight];omega)];simp
     have TX:=hd0 (LM I0.out.map hL8 hLs);have n10:wc.cell? ⟨c.nb,10,none⟩=some (aq c.pm):=aa I0.out.box 10;obtain⟨L3,hL3⟩:∃ L3,L.set 0 (eC (eC set own) [])=L3:=⟨_,rfl⟩
     rw[hL3]at I0 TX M3;have R5:=hd0 hL3;clear hL8 hLs hL3;go_wp2_with fail;refine(MU.out _).mono ?_;rintro e w15 ⟨rfl,rfl⟩;go_wp2_with fail;refine TX.out.mono ?_;rintro e w16 ⟨rfl,k16⟩;have HSF:=hd0 (I0.out.keep k16);have HKF:=hd0 (Cp.out.keep k16);have HQF:=hd0 (HQA.out.mod k16 id);have lV:w16.cell? ⟨c.v,0,none⟩=some (aq c.pv):=by rw[aa HSF.out.own 0];exact HC.out.cv0
     have VS:=hd0 (nL (p:=Q) HSF.out.vol HQF.out (fun h=>by have:=HQ.out.2.2.2.2.2 _ h;omega) (HQb.out.trans HC.out.size.symm) (by have:=HC.out.size;omega) c.v lV (ja t3.rd) (gY L3 c.n) (by rw[pa];omega) mapped t5 M3.out);clear k16 lV TX I0 Cp HQA n10;unfold dc at VS;go_wp2_with fail;refine VS.out.mono ?_;rintro e Xr ⟨rfl,F',FY⟩;have dr:=HSF.out.stored2 FY (au4 qb) HQ.out.2.1 HQ.out.2.2.1 HQ.out.2.2.2.1 HQ.out.2.2.2.2.1;have HSG:=hd0 dr;have HKG:Hid (gh c F F' w1 Xr):=hd0 ⟨fun g hg=>(FY.foot g hg).elim .inl (fun h=>.inr (auX HKF.out.mod.size h)),HKF.out.mod.trans FY.mod fun g hl hg=>hg.elim .inl (fun e=>by have:=HQ.out.1;omega)⟩;have hb:=dr.box;have n4:Xr.cell? ⟨c.nb,4,none⟩=some (.int .i64 b.mapped.root):=aa hb 4;have n5:Xr.cell? ⟨c.nb,5,none⟩=some (.int .i64 b.mapped.size):=aa hb 5;have n6:Xr.cell? ⟨c.nb,6,none⟩=some (.int .i64 (b.next:Int)):=aa hb 6;have f4:=ae hb ⟨c.nb,4,none⟩ rfl;have f5:=ae hb ⟨c.nb,5,none⟩ rfl;have m4:ah (fun g=>g=c.nb) Xr ((Xr.setCell ⟨c.nb,4,none⟩ (.int .i64 mapped.root)).setCell ⟨c.nb,5,none⟩ (.int .i64 mapped.size)):=((ah.refl (fun g=>g=c.nb) Xr).setCell (p:=⟨c.nb,4,none⟩) (.inl rfl) _).setCell (p:=⟨c.nb,5,none⟩) (.inl rfl) _;have hsH:=dr.boxed (b':={ b with mapped:=mapped }) HC.out (ag (ag hb 4 (.int .i64 mapped.root)) 5 (.int .i64 mapped.size)) m4;have HSH:=hd0 hsH.1;have HKH:=hd0 (HKG.out.trans hsH.2);clear FY dr hb VS m4 hsH HSF HKF HQF HSG HKG;go_wp2_with fail;generalize (Xr.setCell ⟨c.nb,4,none⟩ (.int .i64 mapped.root)).setCell ⟨c.nb,5,none⟩ (.int .i64 mapped.size)=w18 at*;have PN:=hd0 (Al HSH.out.pool);have hb:=HSH.out.box;have n6:w18.cell? ⟨c.nb,6,none⟩=some (.int .i64 (b.next:Int)):=aa hb 6;have f6:=ae hb ⟨c.nb,6,none⟩ rfl;have hsI:=HSH.out.boxed (b':={ b with mapped:=mapped,next:=q.next }) HC.out (ag hb 6 (.int .i64 (q.next:Int))) ((ah.refl (fun g=>g=c.nb) w18).setCell (p:=⟨c.nb,6,none⟩) (.inl rfl) (.int .i64 (q.next:Int)));have HSI:=hd0 hsI.1;have HKI:=hd0 (HKH.out.trans hsI.2);clear hb hsI HSH HKH n4 n5 f4 f5;refine PN.out.mono ?_;rintro e w19 ⟨rfl,rfl⟩;go_wp2_with fail;go_end0;exact⟨rfl,F',by rw[Tu.out,R5.out];exact HSI.out,HKI.out⟩
end
section
open Go.RowKit Go.Maps
theorem An {P:Program}{te:TypeId}{R:Value->Option (DataW Value×List MemPlace)}{β:Type}{mk:β->Value}{z:β}(hR:∀ x,R (mk x)=some (.held (mk x),[]))(afW:∀ v y,R v=some y->∃ x,v=mk x)(hz:∀ w,(zeroValue te).run P w=.ok (mk z) w)(hi:∀ a b,mk a=mk b->a=b):nX P te R (fun x=>.held (mk x)) mk (fun _=>True) z where
 mkR x _:=hR x
 inv v ps x h:=by
  obtain⟨c,rfl⟩:=afW v _ h;rw[hR]at h;injection h with h;injection h with h _;injection h
 zero:=hz
 zok:=trivial
 any v y h:=by
  obtain⟨c,rfl⟩:=afW v y h;rw[hR]at h;injection h with h;exact⟨c,rfl,by rw[<-h]⟩
 inj a b h:=by injection h with h;exact hi a b h
 mkinj:=hi
def QM (v:Value):Option (DataW Value×List MemPlace):=match v with
 | .agg c=>match c.toList with
  |[.int .i64 _,.int .i64 _]=>some (.held v,[])
  |_=>none
 |_=>none
theorem QN:nX prog 42 QM (fun x=>.held (dc x)) dc (fun _=>True) ⟨0,0⟩:=An (fun _=>rfl) (fun v y h=>by
  unfold QM at h;split at h
  ·rename_i c
   split at h
   ·rename_i r s e
    exact⟨⟨r,s⟩,by unfold dc;congr 1;exact Array.ext' e⟩
   ·cases h
  ·cases h) (fun _=>by kernel_rfl) (fun a b h=>by
  obtain⟨r,s⟩:=a;obtain⟨r',s'⟩:=b;simpa[dc]using h)
abbrev xC (w:World)(b:Nat)(l:List (Int×fU)):Prop:=fh prog 3 QM (fun x=>.held (dc x)) w b l
def rY (l:List fH):List (Int×fU):=l.foldl (fun m y=>ei j4 y.num y.blob m) []
theorem tr (l:List fH)(y:fH):rY (l++[y])=ei j4 y.num y.blob (rY l):=by unfold rY;rw[List.foldl_append];rfl
theorem QO (l:List fH)(k:Int):(bF k (rY l)).getD ⟨0,0⟩=dZ l k:=by
 have key:∀ l:List fH,bF k (rY l)=((l.filter fun x=>x.num==k).getLast?).map (·.blob):=by
  refine pE ?_ ?_
  ·rfl
  ·intro l y ih;rw[tr,List.filter_append];by_cases h:y.num=k
   ·subst h;rw[ko,au8 rfl];simp
   ·rw[ko,ava (Ne.symm h),ih];have:(y.num==k)=false:=by simpa using h
    simp[this]
 rw[key];unfold dZ
 cases (l.filter fun x=>x.num==k).getLast?<;>rfl
theorem QP:∀ l:List fH,(rY l).length<=l.length:=by
 refine pE (au4 _) ?_;intro l y ih;rw[tr,avi,List.length_singleton];have:=pJ y.num y.blob (rY l);split at this<;>omega
end
end Go.Proofs.YtkghpdcloaiflaaGreatDoor
