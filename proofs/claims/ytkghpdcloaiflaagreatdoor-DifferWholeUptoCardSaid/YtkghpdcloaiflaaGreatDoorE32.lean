import Derived.Test.YtkghpdcloaiflaaGreatDoorE31
set_option maxHeartbeats 8000000
set_option maxRecDepth 100000
namespace Go.Proofs.YtkghpdcloaiflaaGreatDoor
open _root_.Go.Proofs.Tryz
section
open Go.RowKit
attribute [local go_sem] auv
theorem MC (x0 x1 x2 x3 x4 x5 x6 x7:Nat)(hx:∀ x∈[x0,x1,x2,x3,x4,x5,x6,x7],x<=1099511627777)(iv sv mv nv:Value)(nb:Nat)(w:World)
  (hn:World.blk w nb #[.int .i64 (x0:Int),.int .i64 (x1:Int),.int .i64 (x2:Int),.int .i64 (x3:Int),.int .i64 (x4:Int),.int .i64 (x5:Int),.int .i64 (x6:Int),.int .i64 (x7:Int),iv,sv,mv,nv] 99):
  Calls prog 141 #[aq nb] w fun e w'=>e=.returned (aC ([x0,x1,x2,x3,x4,x5,x6,x7].flatMap aP))/\af w w':=by
 obtain⟨xs,hxs⟩:∃ xs,[x0,x1,x2,x3,x4,x5,x6,x7]=xs:=⟨_,rfl⟩
 have aV:xs.length=8:=by rw[<-hxs];rfl
 rw[hxs]at hx ⊢;have HXS:=hd0 hxs;have HX:=hd0 hx;have Tt:=hd0 aV;have dE:af w (w.alloc (.cells #[.pointer none,.slice none 0 0] 176)):=(ah.refl _ w).alloc _;have nU:=hd0 (nA w);have hnn:=ab dE hn id;obtain⟨B,hB⟩:∃ B,w.heap.size=B:=⟨_,rfl⟩
 have HBs:=hd0 hB;clear hx aV hxs hn;go_enter func141,ntmps141
 go_upto_region 2 with fail
 rw[hB]at nU
 try rw[hB]
 obtain⟨W,hW⟩:∃ W,w.alloc (.cells #[.pointer none,.slice none 0 0] 176)=W:=⟨_,rfl⟩
 rw[hW]at dE hnn nU ⊢;have dO:=hd0 dE;have HN:=hd0 hnn;have HsW:Hid (B<W.heap.size):=hd0 (by rw[<-hW,<-hB];simp);clear hW dE hnn hB;refine gM 100 [0,1,2,3,4,5,6,7,8,9,10,11,12,13,14,15,16,17,18,19,20,21,22,23,24,25,26,27,28,29,30,31,32,33,34,35,36,37,40] [38,39] (fun X=>World.blk X nb #[.int .i64 (x0:Int),.int .i64 (x1:Int),.int .i64 (x2:Int),.int .i64 (x3:Int),.int .i64 (x4:Int),.int .i64 (x5:Int),.int .i64 (x6:Int),.int .i64 (x7:Int),iv,sv,mv,nv] 99) (fun _=>True) (by kernel_rfl) (by kernel_rfl) (fun _ o _ _ _ h=>by cases o<;>exact h) ?_
 iterate 39 (refine fH rfl (fun L hL=>?_);go_simp;(first|refine hL _ ?_|refine⟨_,fun _ _=>rfl,hL _ ?_⟩|refine⟨_,fun X h=>by simp only[aa h];rfl,hL _ ?_⟩|refine⟨_,fun X h=>by simp only[aa h,Result.andThen];rfl,hL _ ?_⟩|(trace_state;fail));clear hL L)
 refine ja ?_;obtain⟨W0,rA⟩:∃ W0:World,({ W with drawn:=W.drawn+1 }:World)=W0:=⟨_,rfl⟩
 have kd:af W W0:=by rw[<-rA];exact(ah.refl _ W).drawn _
 have adh:Hid (B<W0.heap.size):=hd0 (auL HsW.out kd.size);have HN0:=hd0 (ab kd HN.out id);have jp:=hd0 (cA nU.out kd);have bU:=hd0 (dO.out.keep kd);rw[rA];clear rA kd HN nU dO;refine bS rfl ⟨HN0.out,.inr trivial⟩ ?_;go_wp2_with fail;refine bS rfl ⟨aH HN0.out _,.inr trivial⟩ ?_;go_wp2_with fail;refine pP ⟨aH HN0.out _,.inr trivial⟩ ?_;have cJ:World.blk (W0.alloc (.cells #[.int .i64 (x0:Int),.int .i64 (x1:Int),.int .i64 (x2:Int),.int .i64 (x3:Int),.int .i64 (x4:Int),.int .i64 (x5:Int),.int .i64 (x6:Int),.int .i64 (x7:Int)] 3)) W0.heap.size (xs.map fun(n:Nat)=>Value.int .i64 (n:Int)).toArray 3:=by rw[<-HXS.out];exact aw _ _ _
 have HR:=hd0 cJ;have jI:=hd0 (cA jp.out ((ah.refl (fun _=>False) W0).alloc (.cells #[.int .i64 (x0:Int),.int .i64 (x1:Int),.int .i64 (x2:Int),.int .i64 (x3:Int),.int .i64 (x4:Int),.int .i64 (x5:Int),.int .i64 (x6:Int),.int .i64 (x7:Int)] 3)));have bu:=hd0 (bU.out.alloc (.cells #[.int .i64 (x0:Int),.int .i64 (x1:Int),.int .i64 (x2:Int),.int .i64 (x3:Int),.int .i64 (x4:Int),.int .i64 (x5:Int),.int .i64 (x6:Int),.int .i64 (x7:Int)] 3));have hRB:W0.heap.size≠B:=fun e=>by have:=adh.out;omega
 have HRB:=hd0 hRB;clear cJ jp bU HN0 hRB adh;generalize W0.alloc (.cells #[.int .i64 (x0:Int),.int .i64 (x1:Int),.int .i64 (x2:Int),.int .i64 (x3:Int),.int .i64 (x4:Int),.int .i64 (x5:Int),.int .i64 (x6:Int),.int .i64 (x7:Int)] 3)=W2 at*;generalize W0.heap.size=rb at*;clear HXS;go_wp2_with fail
 go_loopw [48] (fun i wr=>∃ k:Nat,k<=8/\i=.int .i64 (k:Int)/\Hid (db B B ((xs.take k).flatMap aP) wr)/\Hid (af w wr)/\Hid (World.blk wr rb (xs.map fun(n:Nat)=>Value.int .i64 (n:Int)).toArray 3)) (fun i _=>8-(intOf i).toNat)
 case atStart=>exact⟨0,by omega,rfl,jI,bu,HR⟩
 case round=>
  clear jI bu HR;obtain⟨k,hk,rfl,HB,HK,HR⟩:=hrel;by_cases aL:k<8
  ·have dN:(k:Int)<8:=by omega
   obtain⟨x,hx⟩:∃ x,xs[k]?=some x:=⟨_,auB (by have:=Tt.out;omega)⟩
   have ck:wr.cell? ⟨rb,k,none⟩=some (.int .i64 (x:Int)):=by rw[aa HR.out];simp[hx]
   have Yk:=HX.out x (auC hx);have WN:=hd0 (lU x wr (by omega));have uT:((xs.take k).flatMap aP).length<=100:=by
    have:∀ l:List Nat,(∀ y∈l,y<=1099511627777)->(l.flatMap aP).length<=9*l.length:=by
     intro l
     induction l with
     |nil=>intro _;simp
     |cons y r ih=>
      intro h;have h1:=bI (n:=y) (by have:=h y (by simp);omega);have h2:=ih fun z hz=>h z (by simp[hz]);rw[avg,auS,auA];omega
    have h1:=this (xs.take k) fun y hy=>HX.out y (auG hy);have h2:(xs.take k).length<=8:=by rw[auH];omega
    omega
   have hen:=bI (n:=x) (by omega);have vt:Hid ((xs.take k).flatMap aP++aP x=(xs.take (k+1)).flatMap aP):=hd0 (by rw[auD,hx];simp);clear hx Yk;go_wp2_with fail;refine WN.out.mono ?_;rintro e w2 ⟨rfl,k2⟩;have jI:=hd0 (cA HB.out k2);have bu:=hd0 (HK.out.keep k2);have rE:=hd0 (ab k2 HR.out id);have MU:=hd0 (mQ w2);clear k2 ck WN HB HK HR;go_wp2_with fail;refine MU.out.mono ?_;rintro e w3 ⟨rfl,rfl⟩;have BS:=hd0 (jt B B _ (aP x) w3 jI.out (by omega) (by have:=bu.out.size;have:=HBs.out;omega));go_wp2_with fail;refine BS.out.mono ?_;rintro e w4 ⟨rfl,Kn,RW,AG⟩;have FG:=hd0 Kn;have HR4:=hd0 (ab AG rE.out (cO HRB.out rE.out (by decide)));have ou:=hd0 (cZ bu.out RW (by have:=HBs.out;omega));rw[vt.out]at FG;clear Kn RW AG BS jI rE bu uT;go_wp2_with fail;exact⟨⟨k+1,by omega,by go_num,FG,ou,HR4⟩,by simp[intOf];omega⟩
  ·obtain rfl:k=8:=by omega
   have BT:=hd0 (gO B B _ wr HB.out (by have:=HK.out.size;have:=HBs.out;omega));go_wp2_with fail;refine BT.out.mono ?_;rintro e w4 ⟨rfl,RW⟩;have ou:=hd0 (cZ HK.out RW (by have:=HBs.out;omega));clear RW;go_wp2;go_ret;exact⟨by rw[avl (by have:=Tt.out;omega)];rfl,ou.out⟩
end
section
open Go.RowKit
attribute [local go_sem] auv
theorem tJ (size:Nat)(w:World)(hs:size<=16384):
  Calls prog 213 #[.int .i64 (size:Int)] w fun e w'=>e=.returned (.tuple #[.int .i64 (aS size:Int),.int .i64 0])/\af w w':=by
 have LV:=hd0 (qU size w hs);have h0:¬(size:Int)<0:=by omega
 have h1:decide ((16384:Int)<(size:Int))=false:=by simp;omega
 have h0':decide ((size:Int)<0)=false:=by simp
 have HSh:Hid (aS size=(au size).sum):=hd0 rfl;have Kt:(au size).length<=3/\∀ x∈au size,x<=100:=by
  have hu:=(aJ (n:=size) (each:=240) (k:=100) (by decide)).2 (by omega);have hv:=(aJ (n:=bN size 240) (each:=60) (k:=100) (by decide)).2 (by omega);rcases aM size with⟨_,e⟩|⟨_,_,e⟩|⟨_,_,e⟩|⟨_,e⟩<;>rw[e]<;>simp<;>omega
 have R2:=hd0 Kt;generalize aS size=sh at*;generalize au size=L at*;clear Kt hs;go_enter func213,ntmps213;go_wp2_with fail;refine LV.out.mono ?_;rintro e w1 ⟨v,rfl,ho,k1⟩;obtain⟨a,cap,ev,hx⟩:=bd ho;have e2:v=.slice a L.length cap:=by rw[ev];simp[bo,gy]
 subst e2;have HX:=hd0 hx;have bU:=hd0 k1;have hLi:(L.length:Int)<=3:=by have:=R2.out.1;omega
 clear LV ho k1 hx ev;go_wp2_with fail
 go_loopw [4,16] (fun s i wr=>∃ k:Nat,k<=L.length/\i=.int .i64 (k:Int)/\s=.int .i64 (((L.take k).sum:Nat):Int)/\wr=w1) (fun _ i _=>L.length-(intOf i).toNat)
 case atStart=>exact⟨0,by omega,rfl,rfl,rfl⟩
 case round=>
  obtain⟨k,hk,rfl,rfl,rfl⟩:=hrel;by_cases aL:k<L.length
  ·have dN:(k:Int)<(L.length:Int):=by omega
   obtain⟨x,hx⟩:∃ x,L[k]?=some x:=⟨_,auB aL⟩
   have Cj:(bo (gy L))[k]?=some (.int .i64 (x:Int)):=by simp[bo,gy,hx]
   obtain⟨b,o,rfl,c0⟩:=HX.out k _ Cj;have Yk:=R2.out.2 x (auC hx);have Od:(L.take k).sum<=100*k:=by
    have h2:∀ l:List Nat,(∀ y∈l,y<=100)->l.sum<=100*l.length:=by
     intro l
     induction l with
     |nil=>intro _;simp
     |cons y r ih=>
      intro h;have:=h y (by simp);have:=ih fun z hz=>h z (by simp[hz]);simp only[auz,auA];omega
    have h3:=h2 (L.take k) fun y hy=>R2.out.2 y (auG hy);rw[auH]at h3;omega
   have Yu:(L.take (k+1)).sum=(L.take k).sum+x:=by rw[auD,hx];simp
   have HT:=hd0 Yu;generalize (L.take k).sum=s at*;have hsi:(s:Int)<=400:=by have:=R2.out.1;omega
   have hxi:(x:Int)<=100:=by omega
   clear hx Cj Yu Yk Od;go_wp2_with fail;exact⟨⟨k+1,by omega,by go_num,by rw[HT.out];go_num,trivial⟩,by simp[intOf];omega⟩
  ·obtain rfl:k=L.length:=by omega
   rw[auF,<-HSh.out];go_wp2;go_ret2;exact⟨rfl,bU.out⟩
theorem Ak {w:World}{b:Nat}{p:Pl}(h:jR w b p):
  Calls prog 214 #[aq b] w fun e w'=>e=.returned (.int .i64 (p.next:Int))/\w'=w:=by
 have c3:=(iF h).2.2.2.1;clear h;go_enter func214,ntmps214
 go_wp2
 go_ret;exact⟨rfl,rfl⟩
theorem xK {w:World}{b:Nat}{p:Pl}(h:jR w b p):
  Calls prog 215 #[aq b] w fun e w'=>e=.returned (aC p.taken)/\w'=w:=by
 have c1:=(iF h).2.1;clear h;go_enter func215,ntmps215
 go_wp2
 go_ret;exact⟨rfl,rfl⟩
end
section
open Go.RowKit
def mn (b:jg)(iv sv:Value)(pm:Nat)(nv:Value):Array Value:=
 #[.int .i64 b.table.root,.int .i64 b.table.size,.int .i64 b.snaps.root,.int .i64 b.snaps.size,.int .i64 b.mapped.root,.int .i64 b.mapped.size,.int .i64 (b.next:Int),.int .i64 (b.id:Int),iv,sv,aq pm,nv]
structure qu where
 pv:Nat
 size:Nat
 text:az
 num:Nat
 v:Nat
 nb:Nat
 pb:Nat
 pm:Nat
 n:Nat
 cv:Array Value
structure qu.Ok (c:qu):Prop where
 cv0:c.cv[0]?=some (aq c.pv)
 vn:c.v≠c.nb
 vp:c.v≠c.pb
 vm:c.v≠c.pm
 np:c.nb≠c.pb
 nm:c.nb≠c.pm
 pm:c.pb≠c.pm
 size:c.size/4=c.n
 many:32<=c.n/\c.n<=4096
structure eR (c:qu)(rd:Rd)(pool:Pl)(b:jg)(iv sv nv:Value)(L:List az)(F:Nat->Prop)(w:World):Prop where
 vol:lD c.pv c.size c.text c.num rd w F
 pool:jR w c.pb pool
 box:World.blk w c.nb (mn b iv sv c.pm nv) 99
 map:dy w c.pm c.n L
 own:World.blk w c.v c.cv 102
 fv:¬ F c.v
 fn:¬ F c.nb
 fp:¬ F c.pb
 fm:¬ F c.pm
theorem eR.keep {c:qu}{rd:Rd}{pool:Pl}{b:jg}{iv sv nv:Value}{L:List az}{F:Nat->Prop}{w w':World}(h:eR c rd pool b iv sv nv L F w)(k:af w w'):eR c rd pool b iv sv nv L F w':=
 ⟨h.vol.same (k.on fun _ _=>id) k.size,h.pool.mod k id,ab k h.box id,h.map.mod k id,ab k h.own id,h.fv,h.fn,h.fp,h.fm⟩
structure gx (c:qu)(F F':Nat->Prop)(w w':World):Prop where
 foot:∀ g,F' g->F g\/w.heap.size<=g
 mod:ah (fun g=>F g\/g=c.nb\/g=c.pb\/g=c.pm) w w'
theorem gx.refl (c:qu)(F:Nat->Prop)(w:World):gx c F F w w:=⟨fun _ h=>.inl h,ah.refl _ _⟩
theorem gx.trans {c:qu}{F F1 F2:Nat->Prop}{w w1 w2:World}(h:gx c F F1 w w1)(k:gx c F1 F2 w1 w2):gx c F F2 w w2:=
 ⟨fun g hg=>(k.foot g hg).elim (h.foot g) (fun hh=>.inr (aux h.mod.size hh)),h.mod.trans k.mod fun g hl hg=>hg.elim (fun hg=>(h.foot g hg).elim .inl (fun hh=>by omega)) .inr⟩
theorem gx.keep {c:qu}{F F1:Nat->Prop}{w w1 w2:World}(h:gx c F F1 w w1)(k:af w1 w2):gx c F F1 w w2:=⟨h.foot,h.mod.keep k⟩
section
variable {c:qu}{rd:Rd}{pool:Pl}{b:jg}{iv sv nv:Value}{L:List az}{F:Nat->Prop}{w:World}
theorem eR.lt (h:eR c rd pool b iv sv nv L F w){g:Nat}(hg:F g):g<w.heap.size:=h.vol.lt g hg
theorem eR.pooled (h:eR c rd pool b iv sv nv L F w)(hc:c.Ok){w':World}{p':Pl}(hp:jR w' c.pb p')(m:ah (fun g=>g=c.pb) w w'):eR c rd p' b iv sv nv L F w'/\gx c F F w w':=
 ⟨⟨h.vol.same (m.on fun _g hg e=>h.fp (e▸hg)) m.size,hp,ab m h.box hc.np,h.map.mod m (fun e=>hc.pm e.symm),ab m h.own hc.vp,h.fv,h.fn,h.fp,h.fm⟩,⟨fun _ h=>.inl h,m.mono fun _ _ e=>.inr (.inr (.inl e))⟩⟩
theorem eR.mapped (h:eR c rd pool b iv sv nv L F w)(hc:c.Ok){w':World}{L':List az}(hp:dy w' c.pm c.n L')(m:ah (fun g=>g=c.pm) w w'):eR c rd pool b iv sv nv L' F w'/\gx c F F w w':=
 ⟨⟨h.vol.same (m.on fun _g hg e=>h.fm (e▸hg)) m.size,h.pool.mod m hc.pm,ab m h.box hc.nm,hp,ab m h.own hc.vm,h.fv,h.fn,h.fp,h.fm⟩,⟨fun _ h=>.inl h,m.mono fun _ _ e=>.inr (.inr (.inr e))⟩⟩
theorem eR.boxed (h:eR c rd pool b iv sv nv L F w)(hc:c.Ok){w':World}{b':jg}{Ov KR nv':Value}(hp:World.blk w' c.nb (mn b' Ov KR c.pm nv') 99)(m:ah (fun g=>g=c.nb) w w'):eR c rd pool b' Ov KR nv' L F w'/\gx c F F w w':=
 ⟨⟨h.vol.same (m.on fun _g hg e=>h.fn (e▸hg)) m.size,h.pool.mod m (fun e=>hc.np e.symm),hp,h.map.mod m (fun e=>hc.nm e.symm),ab m h.own hc.vn,h.fv,h.fn,h.fp,h.fm⟩,⟨fun _ h=>.inl h,m.mono fun _ _ e=>.inr (.inl e)⟩⟩
theorem eR.read (h:eR c rd pool b iv sv nv L F w){w':World}{F':Nat->Prop}(hv:lD c.pv c.size c.text c.num rd w' F')(k:d6 F F' w w'):eR c rd pool b iv sv nv L F' w'/\gx c F F' w w':=by
 have hn:∀ {g},¬ F g->g<w.heap.size->¬ F' g:=fun hg hl h=>(k.foot _ h).elim hg (fun h2=>by omega);exact⟨⟨hv,h.pool.mod k.mod h.fp,ab k.mod h.box h.fn,h.map.mod k.mod h.fm,ab k.mod h.own h.fv,hn h.fv (ai h.own),hn h.fn (ai h.box),hn h.fp (ai h.pool.own),hn h.fm (ai h.map.own)⟩,⟨k.foot,k.mod.mono fun _ _ h=>.inl h⟩⟩
theorem eR.stored (h:eR c rd pool b iv sv nv L F w)(hc:c.Ok){w':World}{F':Nat->Prop}{t:gK}(s:xH c.pv c.size c.text c.num c.pb F t w w' F'):eR c t.rd t.pool b iv sv nv L F' w'/\gx c F F' w w':=by
 have hn:∀ {g},¬ F g->g<w.heap.size->¬ F' g:=fun hg hl h=>(s.foot _ h).elim hg (fun h2=>by omega);exact⟨⟨s.vol,s.pool,ab s.mod h.box (fun e=>e.elim h.fn hc.np),h.map.mod s.mod (fun e=>e.elim h.fm (fun e=>hc.pm e.symm)),ab s.mod h.own (fun e=>e.elim h.fv hc.vp),hn h.fv (ai h.own),hn h.fn (ai h.box),s.npb,hn h.fm (ai h.map.own)⟩,
  ⟨s.foot,s.mod.mono fun _ _ h=>h.elim .inl (fun e=>.inr (.inr (.inl e)))⟩⟩
theorem eR.stored2 (h:eR c rd pool b iv sv nv L F w){w':World}{F':Nat->Prop}{t:gK}{qb B:Nat}(s:xH c.pv c.size c.text c.num qb F t w w' F')(hB:B<=qb)(h1:c.v<B)(h2:c.nb<B)(h3:c.pb<B)(h4:c.pm<B):eR c t.rd pool b iv sv nv L F' w':=by
 have hn:∀ {g},¬ F g->g<w.heap.size->¬ F' g:=fun hg hl h=>(s.foot _ h).elim hg (fun h2=>by omega);exact⟨s.vol,h.pool.mod s.mod (fun e=>e.elim h.fp (fun e=>by omega)),ab s.mod h.box (fun e=>e.elim h.fn (fun e=>by omega)),h.map.mod s.mod (fun e=>e.elim h.fm (fun e=>by omega)),ab s.mod h.own (fun e=>e.elim h.fv (fun e=>by omega)),hn h.fv (ai h.own),hn h.fn (ai h.box),hn h.fp (ai h.pool.own),hn h.fm (ai h.map.own)⟩
end
theorem ux {s:az}{n:Nat}(h:mP s n):mu s n=none:=by
 unfold mu;rw[avA];intro m hm hh;rw[avz]at hm;have:=(h.range m hh).2;omega
theorem mP.zero {s:az}{n:Nat}(h:mP s n):am s 0=false:=by
 cases e:am s 0 with
 |false=>rfl
 |true=>have:=(h.range 0 e).1;omega
theorem mP.len {s:az}{n:Nat}(h:mP s n)(hn:n<=4096):s.length<=512:=pZ h.least fun m hm=>by have:=(h.range m hm).2;omega
end
section
open Go.RowKit
attribute [local go_sem] auv
theorem U8 {w:World}{base:Nat}{v:Value}{l:List Nat}(h:aN w base v (gy l)):eJ w v (qj l):=by
 have h1:=bd h;have e:bo (gy l)=qj l:=by unfold bo gy qj;rw[au0];rfl
 rw[e]at h1;exact h1
theorem Al (n:Nat)(h:n<=4096):(iO (List.range n)).length<=513:=by
 have:(iO (List.range n)).length<=4096/8+1:=Ba fun x hx=>by rw[avw]at hx;omega
 omega
structure YY (n:Nat)(set:az)(t3:gK)(p4:Pl)(L:List az)(mapped:fP)(t5:gK):Prop where
 slen:set.length<=600
 house:aS n<=t3.pool.left
 e6:pf (aS n) t3.pool=.ok p4
 pset:mP (eH set (bQ p4.taken t3.pool.taken)) n
 planes:∀ p,p<8->mP ((L.set 0 (eH (eH set (bQ p4.taken t3.pool.taken)) [])).getD p []) n
 e7:dI ⟨t3.rd,gB (bQ (iO (List.range n)) (bQ p4.taken t3.pool.taken)) n t3.pool.next⟩ ⟨0,0⟩ (ig (L.set 0 (eH (eH set (bQ p4.taken t3.pool.taken)) [])) n)=.ok (mapped,t5)
theorem MD {c:qu}(hc:c.Ok){b:jg}{iv sv nv:Value}{L:List az}{F:Nat->Prop}{w:World}{t3:gK}(h:eR c t3.rd t3.pool b iv sv nv L F w){set:az}{p4:Pl}{mapped:fP}{t5:gK}(hm:YY c.n set t3 p4 L mapped t5)(mW:t3.pool.blocks=c.n):
  Calls prog 138 #[aq c.v,aq c.nb,aC set,aq c.pb] w fun e w'=>e=.returned (.tuple #[])/\∃ F',eR c t5.rd p4 { b with mapped:=mapped,next:=p4.next } iv sv nv (L.set 0 (eH (eH set (bQ p4.taken t3.pool.taken)) [])) F' w'/\gx c F F' w w':=by
 have hn:=hc.many;have HC:=hd0 hc;have HM:=hd0 hm;have H0:=hd0 h;have Cf:=hd0 mW;have n10:w.cell? ⟨c.nb,10,none⟩=some (aq c.pm):=aa h.box 10;have PB:=hd0 (ik h.map);have SH:=hd0 (tJ c.n w (by omega));have MU:=hd0 mQ;have hP3:=h.pool.ok;have ZL:=hd0 hP3;clear h hm mW hP3;go_enter func138,ntmps138;go_wp2_with fail;refine PB.out.mono ?_;rintro e w1 ⟨rfl,rfl⟩;go_wp2_with fail;refine SH.out.mono ?_;rintro e w2 ⟨rfl,k2⟩;have H2:=hd0 (H0.out.keep k2);have bu:=hd0 k2;clear k2 SH PB n10;go_wp2_with fail;refine(MU.out _).mono ?_;rintro e w3 ⟨rfl,rfl⟩;have PN:=hd0 (Ak H2.out.pool);have PT:=hd0 (xK H2.out.pool);go_wp2_with fail;refine PN.out.mono ?_;rintro e w4 ⟨rfl,rfl⟩;go_wp2_with fail;refine PT.out.mono ?_;rintro e w5 ⟨rfl,rfl⟩;have afI:aS c.n<=100:=by
  unfold aS;have hu:=(aJ (n:=c.n) (each:=240) (k:=30) (by decide)).2 (by omega);have hv:=(aJ (n:=bN c.n 240) (each:=60) (k:=30) (by decide)).2 (by omega);rcases aM c.n with⟨_,e⟩|⟨_,_,e⟩|⟨_,_,e⟩|⟨_,e⟩<;>rw[e]<;>simp<;>omega
 obtain⟨m,Ju⟩:∃ m,aS c.n=m:=⟨_,rfl⟩
 have Hmm:=hd0 Ju;rw[Ju]at afI ⊢;have hmi:(m:Int)<=100:=by omega
 clear Ju PN PT afI;go_wp2_with fail;have lF:Hid (pf m t3.pool=.ok p4/\m<=t3.pool.left):=hd0 (by rw[<-Hmm.out];exact⟨HM.out.e6,HM.out.house⟩)
 go_loopw [34] (fun i wr=>∃(k:Nat) (q:Pl),k<=m/\i=.int .i64 (k:Int)/\Hid (eR c t3.rd q b iv sv nv L F wr)/\Hid (gx c F F w1 wr)/\Hid (pf (m-k) q=.ok p4/\m-k<=q.left)) (fun i _=>m-(intOf i).toNat)
 case atStart=>exact⟨0,_,by omega,rfl,H2,hd0 ((gx.refl c F w1).keep bu.out),lF⟩
 case round=>
  clear H2 bu lF;obtain⟨k,q,hk,rfl,HS,HK,HT⟩:=hrel;by_cases aL:k<m
  ·have dN:(k:Int)<(m:Int):=by omega
   have hl:0<q.left:=by have:=HT.out.2;omega
   have TK:=hd0 (zZ HS.out.pool hl);have mR:Hid (pf (m-(k+1)) q.took=.ok p4/\m-(k+1)<=q.took.left):=hd0 (by
    have h1:=HT.out.1;rw[show m-k=(m-(k+1))+1 by omega,pf,tB hl]at h1;exact⟨h1,by have:=HT.out.2;show m-(k+1)<=q.left-1;omega⟩)
   clear hl;go_wp2_with fail;refine TK.out.mono ?_;rintro e w6 ⟨rfl,hp6,m6⟩;have Jn:=HS.out.pooled HC.out hp6 m6;have HS6:=hd0 Jn.1;have rz:=hd0 (HK.out.trans Jn.2);clear hp6 m6 Jn TK;go_wp2_with fail;refine(MU.out _).mono ?_;rintro e w7 ⟨rfl,rfl⟩;go_wp2_with fail;exact⟨⟨k+1,q.took,by omega,by go_num,HS6,rz,mR⟩,by simp[intOf];omega⟩
  ·obtain rfl:k=m:=by omega
   obtain rfl:q=p4:=by
    have h1:=HT.out.1;rw[Nat.sub_self]at h1;unfold pf at h1;injection h1
   have PT:=hd0 (xK HS.out.pool);have MI:=hd0 (fun W=>nD q.taken t3.pool.taken W (by have:=HS.out.pool.taken;omega) (by have:=H0.out.pool.taken;omega));obtain⟨own,bw⟩:∃ own,bQ q.taken t3.pool.taken=own:=⟨_,rfl⟩
   have RX:=hd0 bw;rw[bw]at MI;have M1:Hid (mP (eH set own) c.n):=hd0 (by rw[<-bw];exact HM.out.pset);have M2:Hid (∀ p,p<8->mP ((L.set 0 (eH (eH set own) [])).getD p []) c.n):=hd0 (by rw[<-bw];exact HM.out.planes);have M3:Hid (dI ⟨t3.rd,gB (bQ (iO (List.range c.n)) own) c.n t3.pool.next⟩ ⟨0,0⟩ (ig (L.set 0 (eH (eH set own) [])) c.n)=.ok (mapped,t5)):=hd0 (by rw[<-bw];exact HM.out.e7);have M4:Hid (own.length<=600):=hd0 (by rw[<-bw];refine aux (ji _ _) ?_;have h1:=HS.out.pool.taken;have h2:=H0.out.pool.taken;omega);clear bw;go_wp2_with fail;refine PT.out.mono ?_;rintro e w8 ⟨rfl,rfl⟩;go_wp2_with fail;refine(MI.out _).mono ?_;rintro e w9 ⟨rfl,k9⟩;have Cv:=hd0 (HS.out.keep k9);have BR:=hd0 (HK.out.keep k9);clear k9 HS HK PT MI HT
   go_upto_region 9 with fail
   have OR:=hd0 (fun W=>lT set own W (by have:=HM.out.slen;omega) (by have:=M4.out;omega));have PU:=hd0 (fun(W:World) (h:dy W c.pm c.n L)=>xe h 0 (by decide) (eH set own) (by have:=M1.out.len hn.2;omega) M1.out.zero (ux M1.out));have n10:w9.cell? ⟨c.nb,10,none⟩=some (aq c.pm):=aa Cv.out.box 10;go_cut [] (fun wx=>eR c t3.rd q b iv sv nv (L.set 0 (eH (eH set own) [])) F wx/\gx c F F w1 wx)
   case first=>
    go_region_with ((first
     |(go_at_call 27;refine(OR.out _).mono ?_;rintro e mV ⟨rfl,Su⟩;have nS:=hd0 (Cv.out.keep (Bj Su));have aaA:=hd0 (BR.out.keep (Bj Su));have n10:mV.cell? ⟨c.nb,10,none⟩=some (aq c.pm):=aa nS.out.box 10;clear Su)
     |(go_at_call 135;refine(PU.out _ nS.out.map).mono ?_;rintro e w11 ⟨rfl,aes,m11⟩;have yS:=hd0 (nS.out.mapped HC.out aes m11);clear aes m11)
     |(go_at_call 129;refine(MU.out _).mono ?_;rintro e Cy ⟨rfl,rfl⟩)))
    all_goals (go_wp2_with fail;go_meet)
    all_goals (case rel=>exact⟨yS.out.1,aaA.out.trans yS.out.2⟩)
   case rest=>
    obtain⟨Vw,aeD⟩:=hcut;have HSA:=hd0 Vw;have HKA:=hd0 aeD;have n10:wc.cell? ⟨c.nb,10,none⟩=some (aq c.pm):=aa Vw.box 10;have PB:=hd0 (ik Vw.map);have NU:=hd0 (EE c.n wc (by omega));clear Vw aeD Cv BR OR PU;go_wp2_with fail;refine PB.out.mono ?_;rintro e Cy ⟨rfl,rfl⟩;go_wp2_with fail;refine NU.out.mono ?_;rintro e w13 ⟨nvs,rfl,ad7,k13⟩;have OFC:=hd0 (Bc (List.range c.n) nvs w13 (U8 ad7) (by simp;omega) (fun x hx=>by rw[avw]at hx;omega));have HSB:=hd0 (HSA.out.keep k13);have HKB:=hd0 (HKA.out.keep k13);clear ad7 k13 NU PB n10;go_wp2_with fail;refine OFC.out.mono ?_;rintro e w14 ⟨rfl,k14⟩;have HSC:=hd0 (HSB.out.keep k14);have Fg:=hd0 (HKB.out.keep k14);clear k14 OFC HSB HKB HSA HKA
    go_upto_region 11 with fail
    have n10:w14.cell? ⟨c.nb,10,none⟩=some (aq c.pm):=aa HSC.out.box 10;have MI:=hd0 (fun W=>nD (iO (List.range c.n)) own W (by have:=Al c.n hn.2;omega) (by have:=M4.out;omega));have Cw:(bQ (iO (List.range c.n)) own).length<=600:=by
     refine aux (ji _ _) ?_;have h1:=Al c.n hn.2;have h2:=M4.out;omega
    have AN:=hd0 (fun W=>DC (bQ (iO (List.range c.n)) own) c.n t3.pool.next W Cw ⟨by omega,hn.2⟩ ⟨ZL.out.lo,by rw[<-Cf.out];exact ZL.out.hi⟩);obtain⟨Q,hQ⟩:∃ Q,gB (bQ (iO (List.range c.n)) own) c.n t3.pool.next=Q:=⟨_,rfl⟩
    have HQb:Hid (Q.blocks=c.n):=hd0 (by rw[<-hQ];rfl);rw[hQ]at AN M3;clear Cw hQ;go_cut [9,17] (fun v9 v17 wx=>∃ qb,v9=.int .i64 0/\v17=aq qb/\w1.heap.size<=qb/\c.v<qb/\c.nb<qb/\c.pb<qb/\c.pm<qb/\(∀ g,F g->g<qb)/\jR wx qb Q/\eR c t3.rd q b iv sv nv (L.set 0 (eH (eH set own) [])) F wx/\gx c F F w1 wx)
    case first=>
     go_region_with ((first
      |(go_at_call 26;refine(MI.out _).mono ?_;rintro e wm ⟨rfl,km⟩;have XL:=hd0 (HSC.out.keep (Bj km));have HKD:=hd0 (Fg.out.keep (Bj km));have n10:wm.cell? ⟨c.nb,10,none⟩=some (aq c.pm):=aa XL.out.box 10;clear km)
      |(go_at_call 128;first|(refine(ik XL.out.map).mono ?_;rintro e wb ⟨rfl,rfl⟩)|(refine(ik (HSC.out.keep ((ah.refl _ w14).drew)).map).mono ?_;rintro e wb ⟨rfl,rfl⟩))
      |(go_at_call 126;refine(AN.out _).mono ?_;rintro e wa ⟨qb,rfl,hqa,Ow,ka⟩;have Jd:=hd0 (XL.out.keep ka);have CA:=hd0 (HKD.out.keep ka);have HQA:=hd0 hqa;have HQS:=hd0 Ow;clear hqa Ow ka)))
     all_goals (go_wp2_with fail;go_meet)
     all_goals (case rel=>
      have hs:=HQS.out;refine⟨qb,rfl,rfl,aux HKD.out.mod.size hs,auL (ai XL.out.own) hs,auL (ai XL.out.box) hs,auL (ai XL.out.pool.own) hs,auL (ai XL.out.map.own) hs,fun g hg=>auL (XL.out.lt hg) hs,HQA.out,Jd.out,CA.out⟩)
    case rest=>
     obtain⟨qb,rfl,rfl,hq1,hqv,hqn,hqp,hqm,hqF,hqa,hsE,hkE⟩:=hcut;clear n10 HSC Fg MI AN;have Jd:=hd0 hsE;have CA:=hd0 hkE;have HQA:=hd0 hqa;have HQ:=hd0 (And.intro hq1 (And.intro hqv (And.intro hqn (And.intro hqp (And.intro hqm hqF)))));clear hsE hkE hqa hq1 hqv hqn hqp hqm hqF;have hL8:∀ p x,am ((L.set 0 (eH (eH set own) [])).getD p []) x=true->x<c.n:=fun p x hx=>by
      by_cases hp:p<8
      ·exact((M2.out p hp).range x hx).2
      ·rw[avS,avu (by rw[Jd.out.map.eight];omega)]at hx
       cases hx
     have hLs:∀ p,((L.set 0 (eH (eH set own) [])).getD p []).length<=100000:=fun p=>by
      by_cases hp:p<8
      ·have:=(M2.out p hp).len hn.2;omega
      ·rw[avS,avu (by rw[Jd.out.map.eight];omega)];simp
     have TX:=hd0 (LU Jd.out.map hL8 hLs);have n10:wc.cell? ⟨c.nb,10,none⟩=some (aq c.pm):=aa Jd.out.box 10;obtain⟨L3,hL3⟩:∃ L3,L.set 0 (eH (eH set own) [])=L3:=⟨_,rfl⟩
     rw[hL3]at Jd TX M3;have R2:=hd0 hL3;clear hL8 hLs hL3;go_wp2_with fail;refine(MU.out _).mono ?_;rintro e w15 ⟨rfl,rfl⟩;go_wp2_with fail;refine TX.out.mono ?_;rintro e w16 ⟨rfl,k16⟩;have HSF:=hd0 (Jd.out.keep k16);have HKF:=hd0 (CA.out.keep k16);have HQF:=hd0 (HQA.out.mod k16 id);have gi:w16.cell? ⟨c.v,0,none⟩=some (aq c.pv):=by rw[aa HSF.out.own 0];exact HC.out.cv0
     have VS:=hd0 (nO (p:=Q) HSF.out.vol HQF.out (fun h=>by have:=HQ.out.2.2.2.2.2 _ h;omega) (HQb.out.trans HC.out.size.symm) (by have:=HC.out.size;omega) c.v gi (jh t3.rd) (ig L3 c.n) (by rw[po];omega) mapped t5 M3.out);clear k16 gi TX Jd CA HQA n10;unfold dd at VS;go_wp2_with fail;refine VS.out.mono ?_;rintro e Xo ⟨rfl,F',FN⟩;have dg:=HSF.out.stored2 FN (auE qb) HQ.out.2.1 HQ.out.2.2.1 HQ.out.2.2.2.1 HQ.out.2.2.2.2.1;have HSG:=hd0 dg;have HKG:Hid (gx c F F' w1 Xo):=hd0 ⟨fun g hg=>(FN.foot g hg).elim .inl (fun h=>.inr (aux HKF.out.mod.size h)),HKF.out.mod.trans FN.mod fun g hl hg=>hg.elim .inl (fun e=>by have:=HQ.out.1;omega)⟩;have hb:=dg.box;have n4:Xo.cell? ⟨c.nb,4,none⟩=some (.int .i64 b.mapped.root):=aa hb 4;have n5:Xo.cell? ⟨c.nb,5,none⟩=some (.int .i64 b.mapped.size):=aa hb 5;have n6:Xo.cell? ⟨c.nb,6,none⟩=some (.int .i64 (b.next:Int)):=aa hb 6;have f4:=ae hb ⟨c.nb,4,none⟩ rfl;have f5:=ae hb ⟨c.nb,5,none⟩ rfl;have m4:ah (fun g=>g=c.nb) Xo ((Xo.setCell ⟨c.nb,4,none⟩ (.int .i64 mapped.root)).setCell ⟨c.nb,5,none⟩ (.int .i64 mapped.size)):=((ah.refl (fun g=>g=c.nb) Xo).setCell (p:=⟨c.nb,4,none⟩) (.inl rfl) _).setCell (p:=⟨c.nb,5,none⟩) (.inl rfl) _;have hsH:=dg.boxed (b':={ b with mapped:=mapped }) HC.out (ag (ag hb 4 (.int .i64 mapped.root)) 5 (.int .i64 mapped.size)) m4;have HSH:=hd0 hsH.1;have HKH:=hd0 (HKG.out.trans hsH.2);clear FN dg hb VS m4 hsH HSF HKF HQF HSG HKG;go_wp2_with fail;generalize (Xo.setCell ⟨c.nb,4,none⟩ (.int .i64 mapped.root)).setCell ⟨c.nb,5,none⟩ (.int .i64 mapped.size)=w18 at*;have PN:=hd0 (Ak HSH.out.pool);have hb:=HSH.out.box;have n6:w18.cell? ⟨c.nb,6,none⟩=some (.int .i64 (b.next:Int)):=aa hb 6;have f6:=ae hb ⟨c.nb,6,none⟩ rfl;have hsI:=HSH.out.boxed (b':={ b with mapped:=mapped,next:=q.next }) HC.out (ag hb 6 (.int .i64 (q.next:Int))) ((ah.refl (fun g=>g=c.nb) w18).setCell (p:=⟨c.nb,6,none⟩) (.inl rfl) (.int .i64 (q.next:Int)));have HSI:=hd0 hsI.1;have HKI:=hd0 (HKH.out.trans hsI.2);clear hb hsI HSH HKH n4 n5 f4 f5;refine PN.out.mono ?_;rintro e w19 ⟨rfl,rfl⟩;go_wp2_with fail;go_end0;exact⟨rfl,F',by rw[RX.out,R2.out];exact HSI.out,HKI.out⟩
end
section
open Go.RowKit Go.Maps
theorem Am {P:Program}{te:TypeId}{R:Value->Option (DataW Value×List MemPlace)}{β:Type}{mk:β->Value}{z:β}(hR:∀ x,R (mk x)=some (.held (mk x),[]))(adX:∀ v y,R v=some y->∃ x,v=mk x)(hz:∀ w,(zeroValue te).run P w=.ok (mk z) w)(hi:∀ a b,mk a=mk b->a=b):oe P te R (fun x=>.held (mk x)) mk (fun _=>True) z where
 mkR x _:=hR x
 inv v ps x h:=by
  obtain⟨c,rfl⟩:=adX v _ h;rw[hR]at h;injection h with h;injection h with h _;injection h
 zero:=hz
 zok:=trivial
 any v y h:=by
  obtain⟨c,rfl⟩:=adX v y h;rw[hR]at h;injection h with h;exact⟨c,rfl,by rw[<-h]⟩
 inj a b h:=by injection h with h;exact hi a b h
 mkinj:=hi
def QP (v:Value):Option (DataW Value×List MemPlace):=match v with
 | .agg c=>match c.toList with
  |[.int .i64 _,.int .i64 _]=>some (.held v,[])
  |_=>none
 |_=>none
theorem QQ:oe prog 42 QP (fun x=>.held (dd x)) dd (fun _=>True) ⟨0,0⟩:=Am (fun _=>rfl) (fun v y h=>by
  unfold QP at h;split at h
  ·rename_i c
   split at h
   ·rename_i r s e
    exact⟨⟨r,s⟩,by unfold dd;congr 1;exact Array.ext' e⟩
   ·cases h
  ·cases h) (fun _=>by kernel_rfl) (fun a b h=>by
  obtain⟨r,s⟩:=a;obtain⟨r',s'⟩:=b;simpa[dd]using h)
abbrev xL (w:World)(b:Nat)(l:List (Int×fP)):Prop:=fy prog 3 QP (fun x=>.held (dd x)) w b l
def sC (l:List fC):List (Int×fP):=l.foldl (fun m y=>em j6 y.num y.blob m) []
theorem tK (l:List fC)(y:fC):sC (l++[y])=em j6 y.num y.blob (sC l):=by unfold sC;rw[List.foldl_append];rfl
theorem QR (l:List fC)(k:Int):(bF k (sC l)).getD ⟨0,0⟩=ec l k:=by
 have key:∀ l:List fC,bF k (sC l)=((l.filter fun x=>x.num==k).getLast?).map (·.blob):=by
  refine pJ ?_ ?_
  ·rfl
  ·intro l y ih;rw[tK,List.filter_append];by_cases h:y.num=k
   ·subst h;rw[kw,auI rfl];simp
   ·rw[kw,auK (Ne.symm h),ih];have:(y.num==k)=false:=by simpa using h
    simp[this]
 rw[key];unfold ec
 cases (l.filter fun x=>x.num==k).getLast?<;>rfl
theorem QS:∀ l:List fC,(sC l).length<=l.length:=by
 refine pJ (auE _) ?_;intro l y ih;rw[tK,auS,List.length_singleton];have:=pN y.num y.blob (sC l);split at this<;>omega
end
end Go.Proofs.YtkghpdcloaiflaaGreatDoor
