import Derived.Test.YtkghpdcloaiflaaGreatDoorC31
set_option maxHeartbeats 8000000
set_option maxRecDepth 100000
namespace Go.Proofs.YtkghpdcloaiflaaGreatDoor
open _root_.Go.Proofs.Tryz
section
open Go.RowKit
attribute [local go_sem] atC
theorem Ma (x0 x1 x2 x3 x4 x5 x6 x7:Nat)(hx:∀ x∈[x0,x1,x2,x3,x4,x5,x6,x7],x<=1099511627777)(iv sv mv nv:Value)(nb:Nat)(w:World)
  (hn:World.blk w nb #[.int .i64 (x0:Int),.int .i64 (x1:Int),.int .i64 (x2:Int),.int .i64 (x3:Int),.int .i64 (x4:Int),.int .i64 (x5:Int),.int .i64 (x6:Int),.int .i64 (x7:Int),iv,sv,mv,nv] 99):
  Calls prog 141 #[aq nb] w fun e w'=>e=.returned (aB ([x0,x1,x2,x3,x4,x5,x6,x7].flatMap aO))/\af w w':=by
 obtain⟨xs,hxs⟩:∃ xs,[x0,x1,x2,x3,x4,x5,x6,x7]=xs:=⟨_,rfl⟩
 have aU:xs.length=8:=by rw[<-hxs];rfl
 rw[hxs]at hx ⊢;have HXS:=hd0 hxs;have HX:=hd0 hx;have RA:=hd0 aU;have dA:af w (w.alloc (.cells #[.pointer none,.slice none 0 0] 176)):=(ah.refl _ w).alloc _;have nG:=hd0 (mX w);have hnn:=ab dA hn id;obtain⟨B,hB⟩:∃ B,w.heap.size=B:=⟨_,rfl⟩
 have HBs:=hd0 hB;clear hx aU hxs hn;go_enter func141,ntmps141
 go_upto_region 2 with fail
 rw[hB]at nG
 try rw[hB]
 obtain⟨W,hW⟩:∃ W,w.alloc (.cells #[.pointer none,.slice none 0 0] 176)=W:=⟨_,rfl⟩
 rw[hW]at dA hnn nG ⊢;have dN:=hd0 dA;have HN:=hd0 hnn;have HsW:Hid (B<W.heap.size):=hd0 (by rw[<-hW,<-hB];simp);clear hW dA hnn hB;refine gC 100 [0,1,2,3,4,5,6,7,8,9,10,11,12,13,14,15,16,17,18,19,20,21,22,23,24,25,26,27,28,29,30,31,32,33,34,35,36,37,40] [38,39] (fun X=>World.blk X nb #[.int .i64 (x0:Int),.int .i64 (x1:Int),.int .i64 (x2:Int),.int .i64 (x3:Int),.int .i64 (x4:Int),.int .i64 (x5:Int),.int .i64 (x6:Int),.int .i64 (x7:Int),iv,sv,mv,nv] 99) (fun _=>True) (by kernel_rfl) (by kernel_rfl) (fun _ o _ _ _ h=>by cases o<;>exact h) ?_
 iterate 39 (refine fA rfl (fun L hL=>?_);go_simp;(first|refine hL _ ?_|refine⟨_,fun _ _=>rfl,hL _ ?_⟩|refine⟨_,fun X h=>by simp only[aa h];rfl,hL _ ?_⟩|refine⟨_,fun X h=>by simp only[aa h,Result.andThen];rfl,hL _ ?_⟩|(trace_state;fail));clear hL L)
 refine iS ?_;obtain⟨W0,ui⟩:∃ W0:World,({ W with drawn:=W.drawn+1 }:World)=W0:=⟨_,rfl⟩
 have kd:af W W0:=by rw[<-ui];exact(ah.refl _ W).drawn _
 have aem:Hid (B<W0.heap.size):=hd0 (atS HsW.out kd.size);have HN0:=hd0 (ab kd HN.out id);have jd:=hd0 (co nG.out kd);have bU:=hd0 (dN.out.keep kd);rw[ui];clear ui kd HN nG dN;refine bQ rfl ⟨HN0.out,.inr trivial⟩ ?_;go_wp2_with fail;refine bQ rfl ⟨aG HN0.out _,.inr trivial⟩ ?_;go_wp2_with fail;refine pB ⟨aG HN0.out _,.inr trivial⟩ ?_;have cH:World.blk (W0.alloc (.cells #[.int .i64 (x0:Int),.int .i64 (x1:Int),.int .i64 (x2:Int),.int .i64 (x3:Int),.int .i64 (x4:Int),.int .i64 (x5:Int),.int .i64 (x6:Int),.int .i64 (x7:Int)] 3)) W0.heap.size (xs.map fun(n:Nat)=>Value.int .i64 (n:Int)).toArray 3:=by rw[<-HXS.out];exact aw _ _ _
 have HR:=hd0 cH;have lU:=hd0 (co jd.out ((ah.refl (fun _=>False) W0).alloc (.cells #[.int .i64 (x0:Int),.int .i64 (x1:Int),.int .i64 (x2:Int),.int .i64 (x3:Int),.int .i64 (x4:Int),.int .i64 (x5:Int),.int .i64 (x6:Int),.int .i64 (x7:Int)] 3)));have bu:=hd0 (bU.out.alloc (.cells #[.int .i64 (x0:Int),.int .i64 (x1:Int),.int .i64 (x2:Int),.int .i64 (x3:Int),.int .i64 (x4:Int),.int .i64 (x5:Int),.int .i64 (x6:Int),.int .i64 (x7:Int)] 3));have hRB:W0.heap.size≠B:=fun e=>by have:=aem.out;omega
 have HRB:=hd0 hRB;clear cH jd bU HN0 hRB aem;generalize W0.alloc (.cells #[.int .i64 (x0:Int),.int .i64 (x1:Int),.int .i64 (x2:Int),.int .i64 (x3:Int),.int .i64 (x4:Int),.int .i64 (x5:Int),.int .i64 (x6:Int),.int .i64 (x7:Int)] 3)=W2 at*;generalize W0.heap.size=rb at*;clear HXS;go_wp2_with fail
 go_loopw [48] (fun i wr=>∃ k:Nat,k<=8/\i=.int .i64 (k:Int)/\Hid (cZ B B ((xs.take k).flatMap aO) wr)/\Hid (af w wr)/\Hid (World.blk wr rb (xs.map fun(n:Nat)=>Value.int .i64 (n:Int)).toArray 3)) (fun i _=>8-(intOf i).toNat)
 case atStart=>exact⟨0,by omega,rfl,lU,bu,HR⟩
 case round=>
  clear lU bu HR;obtain⟨k,hk,rfl,HB,HK,HR⟩:=hrel;by_cases aM:k<8
  ·have dS:(k:Int)<8:=by omega
   obtain⟨x,hx⟩:∃ x,xs[k]?=some x:=⟨_,atI (by have:=RA.out;omega)⟩
   have ck:wr.cell? ⟨rb,k,none⟩=some (.int .i64 (x:Int)):=by rw[aa HR.out];simp[hx]
   have Xa:=HX.out x (atJ hx);have WN:=hd0 (lN x wr (by omega));have ut:((xs.take k).flatMap aO).length<=100:=by
    have:∀ l:List Nat,(∀ y∈l,y<=1099511627777)->(l.flatMap aO).length<=9*l.length:=by
     intro l
     induction l with
     |nil=>intro _;simp
     |cons y r ih=>
      intro h;have h1:=bG (n:=y) (by have:=h y (by simp);omega);have h2:=ih fun z hz=>h z (by simp[hz]);rw[aus,at0,atH];omega
    have h1:=this (xs.take k) fun y hy=>HX.out y (atN hy);have h2:(xs.take k).length<=8:=by rw[atO];omega
    omega
   have hen:=bG (n:=x) (by omega);have uS:Hid ((xs.take k).flatMap aO++aO x=(xs.take (k+1)).flatMap aO):=hd0 (by rw[atK,hx];simp);clear hx Xa;go_wp2_with fail;refine WN.out.mono ?_;rintro e w2 ⟨rfl,k2⟩;have lU:=hd0 (co HB.out k2);have bu:=hd0 (HK.out.keep k2);have rj:=hd0 (ab k2 HR.out id);have MU:=hd0 (mJ w2);clear k2 ck WN HB HK HR;go_wp2_with fail;refine MU.out.mono ?_;rintro e w3 ⟨rfl,rfl⟩;have BS:=hd0 (jh B B _ (aO x) w3 lU.out (by omega) (by have:=bu.out.size;have:=HBs.out;omega));go_wp2_with fail;refine BS.out.mono ?_;rintro e w4 ⟨rfl,J9,RK,Ao⟩;have Fu:=hd0 J9;have HR4:=hd0 (ab Ao rj.out (cO HRB.out rj.out (by decide)));have lw:=hd0 (cY bu.out RK (by have:=HBs.out;omega));rw[uS.out]at Fu;clear J9 RK Ao BS lU rj bu ut;go_wp2_with fail;exact⟨⟨k+1,by omega,by go_num,Fu,lw,HR4⟩,by simp[intOf];omega⟩
  ·obtain rfl:k=8:=by omega
   have BT:=hd0 (gG B B _ wr HB.out (by have:=HK.out.size;have:=HBs.out;omega));go_wp2_with fail;refine BT.out.mono ?_;rintro e w4 ⟨rfl,RK⟩;have lw:=hd0 (cY HK.out RK (by have:=HBs.out;omega));clear RK;go_wp2;go_ret;exact⟨by rw[aux (by have:=RA.out;omega)];rfl,lw.out⟩
end
section
open Go.RowKit
attribute [local go_sem] atC
theorem sY (size:Nat)(w:World)(hs:size<=16384):
  Calls prog 213 #[.int .i64 (size:Int)] w fun e w'=>e=.returned (.tuple #[.int .i64 (aQ size:Int),.int .i64 0])/\af w w':=by
 have LV:=hd0 (qE size w hs);have h0:¬(size:Int)<0:=by omega
 have h1:decide ((16384:Int)<(size:Int))=false:=by simp;omega
 have h0':decide ((size:Int)<0)=false:=by simp
 have HSh:Hid (aQ size=(au size).sum):=hd0 rfl;have J4:(au size).length<=3/\∀ x∈au size,x<=100:=by
  have hu:=(aJ (n:=size) (each:=240) (k:=100) (by decide)).2 (by omega);have hv:=(aJ (n:=bN size 240) (each:=60) (k:=100) (by decide)).2 (by omega);rcases aK size with⟨_,e⟩|⟨_,_,e⟩|⟨_,_,e⟩|⟨_,e⟩<;>rw[e]<;>simp<;>omega
 have Rh:=hd0 J4;generalize aQ size=sh at*;generalize au size=L at*;clear J4 hs;go_enter func213,ntmps213;go_wp2_with fail;refine LV.out.mono ?_;rintro e w1 ⟨v,rfl,ho,k1⟩;obtain⟨a,cap,ev,hx⟩:=aZ ho;have e2:v=.slice a L.length cap:=by rw[ev];simp[bi,gh]
 subst e2;have HX:=hd0 hx;have bU:=hd0 k1;have hLi:(L.length:Int)<=3:=by have:=Rh.out.1;omega
 clear LV ho k1 hx ev;go_wp2_with fail
 go_loopw [4,16] (fun s i wr=>∃ k:Nat,k<=L.length/\i=.int .i64 (k:Int)/\s=.int .i64 (((L.take k).sum:Nat):Int)/\wr=w1) (fun _ i _=>L.length-(intOf i).toNat)
 case atStart=>exact⟨0,by omega,rfl,rfl,rfl⟩
 case round=>
  obtain⟨k,hk,rfl,rfl,rfl⟩:=hrel;by_cases aM:k<L.length
  ·have dS:(k:Int)<(L.length:Int):=by omega
   obtain⟨x,hx⟩:∃ x,L[k]?=some x:=⟨_,atI aM⟩
   have BD:(bi (gh L))[k]?=some (.int .i64 (x:Int)):=by simp[bi,gh,hx]
   obtain⟨b,o,rfl,c0⟩:=HX.out k _ BD;have Xa:=Rh.out.2 x (atJ hx);have Nf:(L.take k).sum<=100*k:=by
    have h2:∀ l:List Nat,(∀ y∈l,y<=100)->l.sum<=100*l.length:=by
     intro l
     induction l with
     |nil=>intro _;simp
     |cons y r ih=>
      intro h;have:=h y (by simp);have:=ih fun z hz=>h z (by simp[hz]);simp only[atG,atH];omega
    have h3:=h2 (L.take k) fun y hy=>Rh.out.2 y (atN hy);rw[atO]at h3;omega
   have XM:(L.take (k+1)).sum=(L.take k).sum+x:=by rw[atK,hx];simp
   have HT:=hd0 XM;generalize (L.take k).sum=s at*;have ZJ:(s:Int)<=400:=by have:=Rh.out.1;omega
   have hxi:(x:Int)<=100:=by omega
   clear hx BD XM Xa Nf;go_wp2_with fail;exact⟨⟨k+1,by omega,by go_num,by rw[HT.out];go_num,trivial⟩,by simp[intOf];omega⟩
  ·obtain rfl:k=L.length:=by omega
   rw[atM,<-HSh.out];go_wp2;go_ret2;exact⟨rfl,bU.out⟩
theorem zV {w:World}{b:Nat}{p:Pl}(h:jF w b p):
  Calls prog 214 #[aq b] w fun e w'=>e=.returned (.int .i64 (p.next:Int))/\w'=w:=by
 have c3:=(iu h).2.2.2.1;clear h;go_enter func214,ntmps214
 go_wp2
 go_ret;exact⟨rfl,rfl⟩
theorem xp {w:World}{b:Nat}{p:Pl}(h:jF w b p):
  Calls prog 215 #[aq b] w fun e w'=>e=.returned (aB p.taken)/\w'=w:=by
 have c1:=(iu h).2.1;clear h;go_enter func215,ntmps215
 go_wp2
 go_ret;exact⟨rfl,rfl⟩
end
section
open Go.RowKit
def mc (b:iX)(iv sv:Value)(pm:Nat)(nv:Value):Array Value:=
 #[.int .i64 b.table.root,.int .i64 b.table.size,.int .i64 b.snaps.root,.int .i64 b.snaps.size,.int .i64 b.mapped.root,.int .i64 b.mapped.size,.int .i64 (b.next:Int),.int .i64 (b.id:Int),iv,sv,aq pm,nv]
structure qd where
 pv:Nat
 size:Nat
 text:ay
 num:Nat
 v:Nat
 nb:Nat
 pb:Nat
 pm:Nat
 n:Nat
 cv:Array Value
structure qd.Ok (c:qd):Prop where
 cv0:c.cv[0]?=some (aq c.pv)
 vn:c.v≠c.nb
 vp:c.v≠c.pb
 vm:c.v≠c.pm
 np:c.nb≠c.pb
 nm:c.nb≠c.pm
 pm:c.pb≠c.pm
 size:c.size/4=c.n
 many:32<=c.n/\c.n<=4096
structure eI (c:qd)(rd:Rd)(pool:Pl)(b:iX)(iv sv nv:Value)(L:List ay)(F:Nat->Prop)(w:World):Prop where
 vol:lu c.pv c.size c.text c.num rd w F
 pool:jF w c.pb pool
 box:World.blk w c.nb (mc b iv sv c.pm nv) 99
 map:dt w c.pm c.n L
 own:World.blk w c.v c.cv 102
 fv:¬ F c.v
 fn:¬ F c.nb
 fp:¬ F c.pb
 fm:¬ F c.pm
theorem eI.keep {c:qd}{rd:Rd}{pool:Pl}{b:iX}{iv sv nv:Value}{L:List ay}{F:Nat->Prop}{w w':World}(h:eI c rd pool b iv sv nv L F w)(k:af w w'):eI c rd pool b iv sv nv L F w':=
 ⟨h.vol.same (k.on fun _ _=>id) k.size,h.pool.mod k id,ab k h.box id,h.map.mod k id,ab k h.own id,h.fv,h.fn,h.fp,h.fm⟩
structure ge (c:qd)(F F':Nat->Prop)(w w':World):Prop where
 foot:∀ g,F' g->F g\/w.heap.size<=g
 mod:ah (fun g=>F g\/g=c.nb\/g=c.pb\/g=c.pm) w w'
theorem ge.refl (c:qd)(F:Nat->Prop)(w:World):ge c F F w w:=⟨fun _ h=>.inl h,ah.refl _ _⟩
theorem ge.trans {c:qd}{F F1 F2:Nat->Prop}{w w1 w2:World}(h:ge c F F1 w w1)(k:ge c F1 F2 w1 w2):ge c F F2 w w2:=
 ⟨fun g hg=>(k.foot g hg).elim (h.foot g) (fun hh=>.inr (atE h.mod.size hh)),h.mod.trans k.mod fun g hl hg=>hg.elim (fun hg=>(h.foot g hg).elim .inl (fun hh=>by omega)) .inr⟩
theorem ge.keep {c:qd}{F F1:Nat->Prop}{w w1 w2:World}(h:ge c F F1 w w1)(k:af w1 w2):ge c F F1 w w2:=⟨h.foot,h.mod.keep k⟩
section
variable {c:qd}{rd:Rd}{pool:Pl}{b:iX}{iv sv nv:Value}{L:List ay}{F:Nat->Prop}{w:World}
theorem eI.lt (h:eI c rd pool b iv sv nv L F w){g:Nat}(hg:F g):g<w.heap.size:=h.vol.lt g hg
theorem eI.pooled (h:eI c rd pool b iv sv nv L F w)(hc:c.Ok){w':World}{p':Pl}(hp:jF w' c.pb p')(m:ah (fun g=>g=c.pb) w w'):eI c rd p' b iv sv nv L F w'/\ge c F F w w':=
 ⟨⟨h.vol.same (m.on fun _g hg e=>h.fp (e▸hg)) m.size,hp,ab m h.box hc.np,h.map.mod m (fun e=>hc.pm e.symm),ab m h.own hc.vp,h.fv,h.fn,h.fp,h.fm⟩,⟨fun _ h=>.inl h,m.mono fun _ _ e=>.inr (.inr (.inl e))⟩⟩
theorem eI.mapped (h:eI c rd pool b iv sv nv L F w)(hc:c.Ok){w':World}{L':List ay}(hp:dt w' c.pm c.n L')(m:ah (fun g=>g=c.pm) w w'):eI c rd pool b iv sv nv L' F w'/\ge c F F w w':=
 ⟨⟨h.vol.same (m.on fun _g hg e=>h.fm (e▸hg)) m.size,h.pool.mod m hc.pm,ab m h.box hc.nm,hp,ab m h.own hc.vm,h.fv,h.fn,h.fp,h.fm⟩,⟨fun _ h=>.inl h,m.mono fun _ _ e=>.inr (.inr (.inr e))⟩⟩
theorem eI.boxed (h:eI c rd pool b iv sv nv L F w)(hc:c.Ok){w':World}{b':iX}{Oh Km ZC:Value}(hp:World.blk w' c.nb (mc b' Oh Km c.pm ZC) 99)(m:ah (fun g=>g=c.nb) w w'):eI c rd pool b' Oh Km ZC L F w'/\ge c F F w w':=
 ⟨⟨h.vol.same (m.on fun _g hg e=>h.fn (e▸hg)) m.size,h.pool.mod m (fun e=>hc.np e.symm),hp,h.map.mod m (fun e=>hc.nm e.symm),ab m h.own hc.vn,h.fv,h.fn,h.fp,h.fm⟩,⟨fun _ h=>.inl h,m.mono fun _ _ e=>.inr (.inl e)⟩⟩
theorem eI.read (h:eI c rd pool b iv sv nv L F w){w':World}{F':Nat->Prop}(hv:lu c.pv c.size c.text c.num rd w' F')(k:dV F F' w w'):eI c rd pool b iv sv nv L F' w'/\ge c F F' w w':=by
 have hn:∀ {g},¬ F g->g<w.heap.size->¬ F' g:=fun hg hl h=>(k.foot _ h).elim hg (fun h2=>by omega);exact⟨⟨hv,h.pool.mod k.mod h.fp,ab k.mod h.box h.fn,h.map.mod k.mod h.fm,ab k.mod h.own h.fv,hn h.fv (ai h.own),hn h.fn (ai h.box),hn h.fp (ai h.pool.own),hn h.fm (ai h.map.own)⟩,⟨k.foot,k.mod.mono fun _ _ h=>.inl h⟩⟩
theorem eI.stored (h:eI c rd pool b iv sv nv L F w)(hc:c.Ok){w':World}{F':Nat->Prop}{t:gA}(s:xm c.pv c.size c.text c.num c.pb F t w w' F'):eI c t.rd t.pool b iv sv nv L F' w'/\ge c F F' w w':=by
 have hn:∀ {g},¬ F g->g<w.heap.size->¬ F' g:=fun hg hl h=>(s.foot _ h).elim hg (fun h2=>by omega);exact⟨⟨s.vol,s.pool,ab s.mod h.box (fun e=>e.elim h.fn hc.np),h.map.mod s.mod (fun e=>e.elim h.fm (fun e=>hc.pm e.symm)),ab s.mod h.own (fun e=>e.elim h.fv hc.vp),hn h.fv (ai h.own),hn h.fn (ai h.box),s.npb,hn h.fm (ai h.map.own)⟩,
  ⟨s.foot,s.mod.mono fun _ _ h=>h.elim .inl (fun e=>.inr (.inr (.inl e)))⟩⟩
theorem eI.stored2 (h:eI c rd pool b iv sv nv L F w){w':World}{F':Nat->Prop}{t:gA}{qb B:Nat}(s:xm c.pv c.size c.text c.num qb F t w w' F')(hB:B<=qb)(h1:c.v<B)(h2:c.nb<B)(h3:c.pb<B)(h4:c.pm<B):eI c t.rd pool b iv sv nv L F' w':=by
 have hn:∀ {g},¬ F g->g<w.heap.size->¬ F' g:=fun hg hl h=>(s.foot _ h).elim hg (fun h2=>by omega);exact⟨s.vol,h.pool.mod s.mod (fun e=>e.elim h.fp (fun e=>by omega)),ab s.mod h.box (fun e=>e.elim h.fn (fun e=>by omega)),h.map.mod s.mod (fun e=>e.elim h.fm (fun e=>by omega)),ab s.mod h.own (fun e=>e.elim h.fv (fun e=>by omega)),hn h.fv (ai h.own),hn h.fn (ai h.box),hn h.fp (ai h.pool.own),hn h.fm (ai h.map.own)⟩
end
theorem ua {s:ay}{n:Nat}(h:mI s n):mj s n=none:=by
 unfold mj;rw[auL];intro m hm hh;rw[auK]at hm;have:=(h.range m hh).2;omega
theorem mI.zero {s:ay}{n:Nat}(h:mI s n):ak s 0=false:=by
 cases e:ak s 0 with
 |false=>rfl
 |true=>have:=(h.range 0 e).1;omega
theorem mI.len {s:ay}{n:Nat}(h:mI s n)(hn:n<=4096):s.length<=512:=pL h.least fun m hm=>by have:=(h.range m hm).2;omega
end
section
open Go.RowKit
attribute [local go_sem] atC
theorem Uy {w:World}{base:Nat}{v:Value}{l:List Nat}(h:aL w base v (gh l)):ez w v (pS l):=by
 have h1:=aZ h;have e:bi (gh l)=pS l:=by unfold bi gh pS;rw[auc];rfl
 rw[e]at h1;exact h1
theorem zW (n:Nat)(h:n<=4096):(iE (List.range n)).length<=513:=by
 have:(iE (List.range n)).length<=4096/8+1:=AP fun x hx=>by rw[auH]at hx;omega
 omega
structure Yt (n:Nat)(set:ay)(t3:gA)(p4:Pl)(L:List ay)(mapped:fR)(t5:gA):Prop where
 slen:set.length<=600
 house:aQ n<=t3.pool.left
 e6:oP (aQ n) t3.pool=.ok p4
 pset:mI (d6 set (bK p4.taken t3.pool.taken)) n
 planes:∀ p,p<8->mI ((L.set 0 (d6 (d6 set (bK p4.taken t3.pool.taken)) [])).getD p []) n
 e7:dE ⟨t3.rd,gm (bK (iE (List.range n)) (bK p4.taken t3.pool.taken)) n t3.pool.next⟩ ⟨0,0⟩ (gW (L.set 0 (d6 (d6 set (bK p4.taken t3.pool.taken)) [])) n)=.ok (mapped,t5)
theorem Mb {c:qd}(hc:c.Ok){b:iX}{iv sv nv:Value}{L:List ay}{F:Nat->Prop}{w:World}{t3:gA}(h:eI c t3.rd t3.pool b iv sv nv L F w){set:ay}{p4:Pl}{mapped:fR}{t5:gA}(hm:Yt c.n set t3 p4 L mapped t5)(mL:t3.pool.blocks=c.n):
  Calls prog 138 #[aq c.v,aq c.nb,aB set,aq c.pb] w fun e w'=>e=.returned (.tuple #[])/\∃ F',eI c t5.rd p4 { b with mapped:=mapped,next:=p4.next } iv sv nv (L.set 0 (d6 (d6 set (bK p4.taken t3.pool.taken)) [])) F' w'/\ge c F F' w w':=by
 have hn:=hc.many;have HC:=hd0 hc;have HM:=hd0 hm;have H0:=hd0 h;have Bj:=hd0 mL;have n10:w.cell? ⟨c.nb,10,none⟩=some (aq c.pm):=aa h.box 10;have PB:=hd0 (gY h.map);have SH:=hd0 (sY c.n w (by omega));have MU:=hd0 mJ;have hP3:=h.pool.ok;have ZA:=hd0 hP3;clear h hm mL hP3;go_enter func138,ntmps138;go_wp2_with fail;refine PB.out.mono ?_;rintro e w1 ⟨rfl,rfl⟩;go_wp2_with fail;refine SH.out.mono ?_;rintro e w2 ⟨rfl,k2⟩;have H2:=hd0 (H0.out.keep k2);have bu:=hd0 k2;clear k2 SH PB n10;go_wp2_with fail;refine(MU.out _).mono ?_;rintro e w3 ⟨rfl,rfl⟩;have PN:=hd0 (zV H2.out.pool);have PT:=hd0 (xp H2.out.pool);go_wp2_with fail;refine PN.out.mono ?_;rintro e w4 ⟨rfl,rfl⟩;go_wp2_with fail;refine PT.out.mono ?_;rintro e w5 ⟨rfl,rfl⟩;have acC:aQ c.n<=100:=by
  unfold aQ;have hu:=(aJ (n:=c.n) (each:=240) (k:=30) (by decide)).2 (by omega);have hv:=(aJ (n:=bN c.n 240) (each:=60) (k:=30) (by decide)).2 (by omega);rcases aK c.n with⟨_,e⟩|⟨_,_,e⟩|⟨_,_,e⟩|⟨_,e⟩<;>rw[e]<;>simp<;>omega
 obtain⟨m,It⟩:∃ m,aQ c.n=m:=⟨_,rfl⟩
 have Hmm:=hd0 It;rw[It]at acC ⊢;have hmi:(m:Int)<=100:=by omega
 clear It PN PT acC;go_wp2_with fail;have lC:Hid (oP m t3.pool=.ok p4/\m<=t3.pool.left):=hd0 (by rw[<-Hmm.out];exact⟨HM.out.e6,HM.out.house⟩)
 go_loopw [34] (fun i wr=>∃(k:Nat) (q:Pl),k<=m/\i=.int .i64 (k:Int)/\Hid (eI c t3.rd q b iv sv nv L F wr)/\Hid (ge c F F w1 wr)/\Hid (oP (m-k) q=.ok p4/\m-k<=q.left)) (fun i _=>m-(intOf i).toNat)
 case atStart=>exact⟨0,_,by omega,rfl,H2,hd0 ((ge.refl c F w1).keep bu.out),lC⟩
 case round=>
  clear H2 bu lC;obtain⟨k,q,hk,rfl,HS,HK,HT⟩:=hrel;by_cases aM:k<m
  ·have dS:(k:Int)<(m:Int):=by omega
   have hl:0<q.left:=by have:=HT.out.2;omega
   have TK:=hd0 (zI HS.out.pool hl);have mQ:Hid (oP (m-(k+1)) q.took=.ok p4/\m-(k+1)<=q.took.left):=hd0 (by
    have h1:=HT.out.1;rw[show m-k=(m-(k+1))+1 by omega,oP,sQ hl]at h1;exact⟨h1,by have:=HT.out.2;show m-(k+1)<=q.left-1;omega⟩)
   clear hl;go_wp2_with fail;refine TK.out.mono ?_;rintro e w6 ⟨rfl,hp6,m6⟩;have IT:=HS.out.pooled HC.out hp6 m6;have HS6:=hd0 IT.1;have tD:=hd0 (HK.out.trans IT.2);clear hp6 m6 IT TK;go_wp2_with fail;refine(MU.out _).mono ?_;rintro e w7 ⟨rfl,rfl⟩;go_wp2_with fail;exact⟨⟨k+1,q.took,by omega,by go_num,HS6,tD,mQ⟩,by simp[intOf];omega⟩
  ·obtain rfl:k=m:=by omega
   obtain rfl:q=p4:=by
    have h1:=HT.out.1;rw[Nat.sub_self]at h1;unfold oP at h1;injection h1
   have PT:=hd0 (xp HS.out.pool);have MI:=hd0 (fun W=>kP q.taken t3.pool.taken W (by have:=HS.out.pool.taken;omega) (by have:=H0.out.pool.taken;omega));obtain⟨own,bt⟩:∃ own,bK q.taken t3.pool.taken=own:=⟨_,rfl⟩
   have Ri:=hd0 bt;rw[bt]at MI;have M1:Hid (mI (d6 set own) c.n):=hd0 (by rw[<-bt];exact HM.out.pset);have M2:Hid (∀ p,p<8->mI ((L.set 0 (d6 (d6 set own) [])).getD p []) c.n):=hd0 (by rw[<-bt];exact HM.out.planes);have M3:Hid (dE ⟨t3.rd,gm (bK (iE (List.range c.n)) own) c.n t3.pool.next⟩ ⟨0,0⟩ (gW (L.set 0 (d6 (d6 set own) [])) c.n)=.ok (mapped,t5)):=hd0 (by rw[<-bt];exact HM.out.e7);have M4:Hid (own.length<=600):=hd0 (by rw[<-bt];refine atE (kO _ _) ?_;have h1:=HS.out.pool.taken;have h2:=H0.out.pool.taken;omega);clear bt;go_wp2_with fail;refine PT.out.mono ?_;rintro e w8 ⟨rfl,rfl⟩;go_wp2_with fail;refine(MI.out _).mono ?_;rintro e w9 ⟨rfl,k9⟩;have HS9:=hd0 (HS.out.keep k9);have Bu:=hd0 (HK.out.keep k9);clear k9 HS HK PT MI HT
   go_upto_region 9 with fail
   have OR:=hd0 (fun W=>jW set own W (by have:=HM.out.slen;omega) (by have:=M4.out;omega));have PU:=hd0 (fun(W:World) (h:dt W c.pm c.n L)=>wt h 0 (by decide) (d6 set own) (by have:=M1.out.len hn.2;omega) M1.out.zero (ua M1.out));have n10:w9.cell? ⟨c.nb,10,none⟩=some (aq c.pm):=aa HS9.out.box 10;go_cut [] (fun wx=>eI c t3.rd q b iv sv nv (L.set 0 (d6 (d6 set own) [])) F wx/\ge c F F w1 wx)
   case first=>
    go_region_with ((first
     |(go_at_call 27;refine(OR.out _).mono ?_;rintro e Kc ⟨rfl,XK⟩;have ZO:=hd0 (HS9.out.keep (AY XK));have Zb:=hd0 (Bu.out.keep (AY XK));have n10:Kc.cell? ⟨c.nb,10,none⟩=some (aq c.pm):=aa ZO.out.box 10;clear XK)
     |(go_at_call 135;refine(PU.out _ ZO.out.map).mono ?_;rintro e w11 ⟨rfl,acj,m11⟩;have adK:=hd0 (ZO.out.mapped HC.out acj m11);clear acj m11)
     |(go_at_call 129;refine(MU.out _).mono ?_;rintro e B3 ⟨rfl,rfl⟩)))
    all_goals (go_wp2_with fail;go_meet)
    all_goals (case rel=>exact⟨adK.out.1,Zb.out.trans adK.out.2⟩)
   case rest=>
    obtain⟨VZ,aec⟩:=hcut;have HSA:=hd0 VZ;have HKA:=hd0 aec;have n10:wc.cell? ⟨c.nb,10,none⟩=some (aq c.pm):=aa VZ.box 10;have PB:=hd0 (gY VZ.map);have NU:=hd0 (Ed c.n wc (by omega));clear VZ aec HS9 Bu OR PU;go_wp2_with fail;refine PB.out.mono ?_;rintro e B3 ⟨rfl,rfl⟩;go_wp2_with fail;refine NU.out.mono ?_;rintro e w13 ⟨nvs,rfl,acF,k13⟩;have OFC:=hd0 (AR (List.range c.n) nvs w13 (Uy acF) (by simp;omega) (fun x hx=>by rw[auH]at hx;omega));have HSB:=hd0 (HSA.out.keep k13);have HKB:=hd0 (HKA.out.keep k13);clear acF k13 NU PB n10;go_wp2_with fail;refine OFC.out.mono ?_;rintro e w14 ⟨rfl,k14⟩;have HSC:=hd0 (HSB.out.keep k14);have IO:=hd0 (HKB.out.keep k14);clear k14 OFC HSB HKB HSA HKA
    go_upto_region 11 with fail
    have n10:w14.cell? ⟨c.nb,10,none⟩=some (aq c.pm):=aa HSC.out.box 10;have MI:=hd0 (fun W=>kP (iE (List.range c.n)) own W (by have:=zW c.n hn.2;omega) (by have:=M4.out;omega));have BQ:(bK (iE (List.range c.n)) own).length<=600:=by
     refine atE (kO _ _) ?_;have h1:=zW c.n hn.2;have h2:=M4.out;omega
    have AN:=hd0 (fun W=>Dd (bK (iE (List.range c.n)) own) c.n t3.pool.next W BQ ⟨by omega,hn.2⟩ ⟨ZA.out.lo,by rw[<-Bj.out];exact ZA.out.hi⟩);obtain⟨Q,hQ⟩:∃ Q,gm (bK (iE (List.range c.n)) own) c.n t3.pool.next=Q:=⟨_,rfl⟩
    have HQb:Hid (Q.blocks=c.n):=hd0 (by rw[<-hQ];rfl);rw[hQ]at AN M3;clear BQ hQ;go_cut [9,17] (fun v9 v17 wx=>∃ qb,v9=.int .i64 0/\v17=aq qb/\w1.heap.size<=qb/\c.v<qb/\c.nb<qb/\c.pb<qb/\c.pm<qb/\(∀ g,F g->g<qb)/\jF wx qb Q/\eI c t3.rd q b iv sv nv (L.set 0 (d6 (d6 set own) [])) F wx/\ge c F F w1 wx)
    case first=>
     go_region_with ((first
      |(go_at_call 26;refine(MI.out _).mono ?_;rintro e wm ⟨rfl,km⟩;have W8:=hd0 (HSC.out.keep (AY km));have HKD:=hd0 (IO.out.keep (AY km));have n10:wm.cell? ⟨c.nb,10,none⟩=some (aq c.pm):=aa W8.out.box 10;clear km)
      |(go_at_call 128;first|(refine(gY W8.out.map).mono ?_;rintro e wb ⟨rfl,rfl⟩)|(refine(gY (HSC.out.keep ((ah.refl _ w14).drew)).map).mono ?_;rintro e wb ⟨rfl,rfl⟩))
      |(go_at_call 126;refine(AN.out _).mono ?_;rintro e wa ⟨qb,rfl,hqa,Oq,ka⟩;have IB:=hd0 (W8.out.keep ka);have BR:=hd0 (HKD.out.keep ka);have HQA:=hd0 hqa;have HQS:=hd0 Oq;clear hqa Oq ka)))
     all_goals (go_wp2_with fail;go_meet)
     all_goals (case rel=>
      have hs:=HQS.out;refine⟨qb,rfl,rfl,atE HKD.out.mod.size hs,atS (ai W8.out.own) hs,atS (ai W8.out.box) hs,atS (ai W8.out.pool.own) hs,atS (ai W8.out.map.own) hs,fun g hg=>atS (W8.out.lt hg) hs,HQA.out,IB.out,BR.out⟩)
    case rest=>
     obtain⟨qb,rfl,rfl,hq1,hqv,hqn,hqp,hqm,hqF,hqa,hsE,hkE⟩:=hcut;clear n10 HSC IO MI AN;have IB:=hd0 hsE;have BR:=hd0 hkE;have HQA:=hd0 hqa;have HQ:=hd0 (And.intro hq1 (And.intro hqv (And.intro hqn (And.intro hqp (And.intro hqm hqF)))));clear hsE hkE hqa hq1 hqv hqn hqp hqm hqF;have hL8:∀ p x,ak ((L.set 0 (d6 (d6 set own) [])).getD p []) x=true->x<c.n:=fun p x hx=>by
      by_cases hp:p<8
      ·exact((M2.out p hp).range x hx).2
      ·rw[au3,auF (by rw[IB.out.map.eight];omega)]at hx
       cases hx
     have hLs:∀ p,((L.set 0 (d6 (d6 set own) [])).getD p []).length<=100000:=fun p=>by
      by_cases hp:p<8
      ·have:=(M2.out p hp).len hn.2;omega
      ·rw[au3,auF (by rw[IB.out.map.eight];omega)];simp
     have TX:=hd0 (Lm IB.out.map hL8 hLs);have n10:wc.cell? ⟨c.nb,10,none⟩=some (aq c.pm):=aa IB.out.box 10;obtain⟨L3,hL3⟩:∃ L3,L.set 0 (d6 (d6 set own) [])=L3:=⟨_,rfl⟩
     rw[hL3]at IB TX M3;have Rh:=hd0 hL3;clear hL8 hLs hL3;go_wp2_with fail;refine(MU.out _).mono ?_;rintro e w15 ⟨rfl,rfl⟩;go_wp2_with fail;refine TX.out.mono ?_;rintro e w16 ⟨rfl,k16⟩;have HSF:=hd0 (IB.out.keep k16);have HKF:=hd0 (BR.out.keep k16);have HQF:=hd0 (HQA.out.mod k16 id);have fX:w16.cell? ⟨c.v,0,none⟩=some (aq c.pv):=by rw[aa HSF.out.own 0];exact HC.out.cv0
     have VS:=hd0 (nA (p:=Q) HSF.out.vol HQF.out (fun h=>by have:=HQ.out.2.2.2.2.2 _ h;omega) (HQb.out.trans HC.out.size.symm) (by have:=HC.out.size;omega) c.v fX (iY t3.rd) (gW L3 c.n) (by rw[oW];omega) mapped t5 M3.out);clear k16 fX TX IB BR HQA n10;unfold db at VS;go_wp2_with fail;refine VS.out.mono ?_;rintro e WU ⟨rfl,F',Fx⟩;have dr:=HSF.out.stored2 Fx (atL qb) HQ.out.2.1 HQ.out.2.2.1 HQ.out.2.2.2.1 HQ.out.2.2.2.2.1;have HSG:=hd0 dr;have HKG:Hid (ge c F F' w1 WU):=hd0 ⟨fun g hg=>(Fx.foot g hg).elim .inl (fun h=>.inr (atE HKF.out.mod.size h)),HKF.out.mod.trans Fx.mod fun g hl hg=>hg.elim .inl (fun e=>by have:=HQ.out.1;omega)⟩;have hb:=dr.box;have n4:WU.cell? ⟨c.nb,4,none⟩=some (.int .i64 b.mapped.root):=aa hb 4;have n5:WU.cell? ⟨c.nb,5,none⟩=some (.int .i64 b.mapped.size):=aa hb 5;have n6:WU.cell? ⟨c.nb,6,none⟩=some (.int .i64 (b.next:Int)):=aa hb 6;have f4:=ae hb ⟨c.nb,4,none⟩ rfl;have f5:=ae hb ⟨c.nb,5,none⟩ rfl;have m4:ah (fun g=>g=c.nb) WU ((WU.setCell ⟨c.nb,4,none⟩ (.int .i64 mapped.root)).setCell ⟨c.nb,5,none⟩ (.int .i64 mapped.size)):=((ah.refl (fun g=>g=c.nb) WU).setCell (p:=⟨c.nb,4,none⟩) (.inl rfl) _).setCell (p:=⟨c.nb,5,none⟩) (.inl rfl) _;have ZW:=dr.boxed (b':={ b with mapped:=mapped }) HC.out (ag (ag hb 4 (.int .i64 mapped.root)) 5 (.int .i64 mapped.size)) m4;have HSH:=hd0 ZW.1;have HKH:=hd0 (HKG.out.trans ZW.2);clear Fx dr hb VS m4 ZW HSF HKF HQF HSG HKG;go_wp2_with fail;generalize (WU.setCell ⟨c.nb,4,none⟩ (.int .i64 mapped.root)).setCell ⟨c.nb,5,none⟩ (.int .i64 mapped.size)=w18 at*;have PN:=hd0 (zV HSH.out.pool);have hb:=HSH.out.box;have n6:w18.cell? ⟨c.nb,6,none⟩=some (.int .i64 (b.next:Int)):=aa hb 6;have f6:=ae hb ⟨c.nb,6,none⟩ rfl;have hsI:=HSH.out.boxed (b':={ b with mapped:=mapped,next:=q.next }) HC.out (ag hb 6 (.int .i64 (q.next:Int))) ((ah.refl (fun g=>g=c.nb) w18).setCell (p:=⟨c.nb,6,none⟩) (.inl rfl) (.int .i64 (q.next:Int)));have HSI:=hd0 hsI.1;have HKI:=hd0 (HKH.out.trans hsI.2);clear hb hsI HSH HKH n4 n5 f4 f5;refine PN.out.mono ?_;rintro e w19 ⟨rfl,rfl⟩;go_wp2_with fail;go_end0;exact⟨rfl,F',by rw[Ri.out,Rh.out];exact HSI.out,HKI.out⟩
end
section
open Go.RowKit Go.Maps
theorem zX {P:Program}{te:TypeId}{R:Value->Option (DataW Value×List MemPlace)}{β:Type}{mk:β->Value}{z:β}(hR:∀ x,R (mk x)=some (.held (mk x),[]))(ae7:∀ v y,R v=some y->∃ x,v=mk x)(hz:∀ w,(zeroValue te).run P w=.ok (mk z) w)(hi:∀ a b,mk a=mk b->a=b):nQ P te R (fun x=>.held (mk x)) mk (fun _=>True) z where
 mkR x _:=hR x
 inv v ps x h:=by
  obtain⟨c,rfl⟩:=ae7 v _ h;rw[hR]at h;injection h with h;injection h with h _;injection h
 zero:=hz
 zok:=trivial
 any v y h:=by
  obtain⟨c,rfl⟩:=ae7 v y h;rw[hR]at h;injection h with h;exact⟨c,rfl,by rw[<-h]⟩
 inj a b h:=by injection h with h;exact hi a b h
 mkinj:=hi
def Qs (v:Value):Option (DataW Value×List MemPlace):=match v with
 | .agg c=>match c.toList with
  |[.int .i64 _,.int .i64 _]=>some (.held v,[])
  |_=>none
 |_=>none
theorem Qt:nQ prog 42 Qs (fun x=>.held (db x)) db (fun _=>True) ⟨0,0⟩:=zX (fun _=>rfl) (fun v y h=>by
  unfold Qs at h;split at h
  ·rename_i c
   split at h
   ·rename_i r s e
    exact⟨⟨r,s⟩,by unfold db;congr 1;exact Array.ext' e⟩
   ·cases h
  ·cases h) (fun _=>by kernel_rfl) (fun a b h=>by
  obtain⟨r,s⟩:=a;obtain⟨r',s'⟩:=b;simpa[db]using h)
abbrev xr (w:World)(b:Nat)(l:List (Int×fR)):Prop:=fg prog 3 Qs (fun x=>.held (db x)) w b l
def rO (l:List fF):List (Int×fR):=l.foldl (fun m y=>ee jQ y.num y.blob m) []
theorem sZ (l:List fF)(y:fF):rO (l++[y])=ee jQ y.num y.blob (rO l):=by unfold rO;rw[List.foldl_append];rfl
theorem Qu (l:List fF)(k:Int):(bD k (rO l)).getD ⟨0,0⟩=dX l k:=by
 have key:∀ l:List fF,bD k (rO l)=((l.filter fun x=>x.num==k).getLast?).map (·.blob):=by
  refine pu ?_ ?_
  ·rfl
  ·intro l y ih;rw[sZ,List.filter_append];by_cases h:y.num=k
   ·subst h;rw[j9,atP rfl];simp
   ·rw[j9,atR (Ne.symm h),ih];have:(y.num==k)=false:=by simpa using h
    simp[this]
 rw[key];unfold dX
 cases (l.filter fun x=>x.num==k).getLast?<;>rfl
theorem Qv:∀ l:List fF,(rO l).length<=l.length:=by
 refine pu (atL _) ?_;intro l y ih;rw[sZ,at0,List.length_singleton];have:=pz y.num y.blob (rO l);split at this<;>omega
end
end Go.Proofs.YtkghpdcloaiflaaGreatDoor
