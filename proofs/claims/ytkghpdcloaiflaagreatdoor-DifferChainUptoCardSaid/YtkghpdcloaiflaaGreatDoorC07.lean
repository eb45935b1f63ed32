import Derived.Test.YtkghpdcloaiflaaGreatDoorC06
import Derived.Lib.AtoiAllCases
import Derived.Lib.ItoaMem
set_option maxHeartbeats 4000000
set_option maxRecDepth 100000
namespace Go.Proofs.YtkghpdcloaiflaaGreatDoor
open _root_.Go.Proofs.Tryz
section
open Go.RowKit
theorem jC.firstNew {w:World}{S:Nat->Prop}{K:Nat->Int}{V:Nat->List UInt8}(h:jC w S K V){c r x:Nat}{k:Int}{v:List UInt8}(hc:w.cell? ⟨c,2,none⟩=some (aq r))(hr:S r)(hx:World.blk w x (qu k v (.pointer none) (.pointer none)) 265)(hn:¬ S x)(hk:0<=k/\k<4096):
  Calls prog 185 #[aq c,aq x] w fun e w'=>e=.returned (.tuple #[])/\jC w' (fun b=>S b\/b=x) (upd K x k) (upd V x v)/\ah (fun b=>S b\/b=x) w w'/\w'.heap.size=w.heap.size:=by
 obtain⟨pv,nx,h⟩:=h;obtain⟨r1,r2,r3,_⟩:=h r hr;obtain⟨n1,_⟩:=h (nx r) r3;refine(ze w c x r (nx r) _ _ _ hc (aa r1 3) (ae r1 _ rfl) (aa hx 2) (ae hx _ rfl) (aa hx 3) (ae hx _ rfl) (aa n1 2) (ae n1 _ rfl)).mono ?_;rintro e w' ⟨rfl,m,rfl⟩;refine⟨rfl,?_,(((((ah.refl (fun b=>S b\/b=x) w).setCell (p:=⟨x,2,none⟩) (.inl (.inr rfl)) _).setCell (p:=⟨x,3,none⟩) (.inl (.inr rfl)) _).setCell (p:=⟨r,3,none⟩) (.inl (.inl hr)) _).setCell (p:=⟨nx r,2,none⟩) (.inl (.inl r3)) _).drewN m,by simp[go_sem]⟩;have R1:jC ((w.setCell ⟨x,2,none⟩ (aq r)).setCell ⟨x,3,none⟩ (aq (nx r))) (fun b=>S b\/b=x) (upd K x k) (upd V x v):=by
  refine⟨upd pv x r,upd nx x (nx r),fun b hb=>?_⟩;by_cases e:b=x
  ·subst e;simp only[kF];exact⟨ag (ag hx 2 _) 3 _,.inl hr,.inl r3,hk⟩
  ·have Te:=hb.resolve_right e;simp only[iP _ _ e];obtain⟨b1,b2,b3,b4⟩:=h b Te;exact⟨bC (bC b1 ⟨x,2,none⟩ e _) ⟨x,3,none⟩ e _,.inl b2,.inl b3,b4⟩
 exact((R1.next (.inr rfl)).prev (.inr rfl)).same fun b hb=>rfl
theorem CD {w:World}{c:Nat}{M:Int->Option (List UInt8)}{F:Nat->Prop}(h:gB w c M F)(k:Int)(hk:0<=k/\k<4096)(v:List UInt8):
  Calls prog 113 #[aq c,.int .i64 k,.string ⟨v.toArray⟩] w fun e w'=>(∃ u,e=.returned u)/\∃ M' F',gB w' c M' F'/\dV F F' w w'/\∀ j s,M' j=some s->(j=k/\s=v)\/(j≠k/\M j=some s):=by
 obtain⟨r,mb,S,K,V,l,h,hM⟩:=h;have H:=hd0 h;have HM:=hd0 hM;have c1:w.cell? ⟨c,1,none⟩=some (.map (some mb)):=aa h.own 1;have lk:=dC.look (tm:=260) h.of underlying260 underlying3 (qv w) k ⟨by omega,by omega⟩;obtain⟨q,hq⟩:∃ q,bD k l=q:=⟨_,rfl⟩
 have Hq:=hd0 hq;rw[hq]at lk
 cases q with
 |some b=>
  have hb:=h.keys _ (oC hq);have Hb:=hd0 hb;have UY:=h.ring.thing b v;have SK:ah S w (w.setCell ⟨b,1,none⟩ (.string ⟨v.toArray⟩)):=(ah.refl S w).setCell (p:=⟨b,1,none⟩) (.inl hb.1) _;have H0:=hd0 (h.turn SK UY);have HM0:=hd0 SK;have O:=hd0 (UY.out (aq c) hb.1);have e1:w.cell? ⟨b,1,none⟩=some (.string ⟨(V b).toArray⟩):=by
   obtain⟨pv,nx,hr⟩:=h.ring;exact aa (hr b hb.1).1 1
  have f1:w.frozen? ⟨b,1,none⟩=false:=by
   obtain⟨pv,nx,hr⟩:=h.ring;exact ae (hr b hb.1).1 _ rfl
  clear h hM hq hb UY SK;go_enter func113,ntmps113;go_wp2_with fail;refine O.out.mono ?_;rintro e w1 ⟨rfl,Xq,mM,_⟩;have H1:=hd0 (H0.out.turn mM Xq);have yl:=hd0 (HM0.out.trans mM fun _ _ h=>h);clear Xq mM;go_wp2_with fail;refine(H1.out.ring.first (aa H1.out.own 2) H.out.root Hb.out.1).mono ?_;rintro e w2 ⟨rfl,SA,gO,_⟩;have H2:=hd0 (H1.out.turn gO SA);have oh:=hd0 (yl.out.trans gO fun _ _ h=>h);clear SA gO
  go_wp2
  go_ret2;refine⟨⟨_,rfl⟩,fun j=>(bD j l).map (upd V b v),F,⟨r,mb,S,K,_,l,H2.out,fun _=>rfl⟩,⟨oh.out.mono (fun i _ h=>H.out.fs i h),fun _ h=>.inl h⟩,fun j s hj=>?_⟩;have hj:(bD j l).map (upd V b v)=some s:=hj;by_cases yc:j=k
  ·subst yc;rw[Hq.out]at hj;simp only[auO,kF,Option.some.injEq]at hj;exact .inl ⟨rfl,hj.symm⟩
  ·refine .inr ⟨yc,?_⟩;rw[HM.out]
   cases hg:bD j l with
   |none=>rw[hg]at hj;cases hj
   |some b'=>
    rw[hg]at hj;have dZ:b'≠b:=fun e=>yc (by
     have h1:=(H.out.keys _ (oC hg)).2;have h2:=Hb.out.2;simp only at h1 h2;rw[<-h1,<-h2,e])
    simpa[iP _ _ dZ]using hj
 |none=>
  have pn:=KM h.one h.range;have sr:=h.lt c h.fc;have BQ:=h.lt mb h.fm;obtain⟨W0,ui⟩:∃ W0,W0=w.alloc (.cells (qu k v (.pointer none) (.pointer none)) 265):=⟨_,rfl⟩
  have m0:af w W0:=by rw[ui];exact(ah.refl _ w).alloc _
  have x0:World.blk W0 w.heap.size (qu k v (.pointer none) (.pointer none)) 265:=by rw[ui];exact aw _ _ _
  have z0:W0.heap.size=w.heap.size+1:=by rw[ui];simp
  obtain⟨w2,tC,aeS,jO⟩:=dC.store (tm:=260) (dC.mod h.of m0 id) underlying260 underlying3 k ⟨by omega,by omega⟩ w.heap.size (by omega);have Ng:=ab jO (ab m0 h.own id) h.apart.1;have x2:=ab jO x0 (show w.heap.size≠mb by omega);have Xf:jC w2 S K V:=h.ring.same fun b hb=>(jO.block b (by have:=h.lt b (h.fs b hb);omega) (fun e=>h.apart.2.2 (e▸hb))).trans (m0.block b (h.lt b (h.fs b hb)) id);have pq:¬ S w.heap.size:=fun hs=>by have:=h.lt _ (h.fs _ hs);omega
  have O:=hd0 (Xf.firstNew (c:=c) (aa Ng 2) h.root x2 pq hk);have acq:=hd0 Ng;have ag0:=hd0 aeS;have Hm2:Hid (ah F w w2):=hd0 ((m0.mono (T:=F) (fun _ _ h=>h.elim)).trans (jO.mono (T:=F) (fun i _ e=>by subst e;exact h.fm)) (fun _ _ h=>h));have Hz2:Hid (w.heap.size<w2.heap.size):=hd0 (by have:=jO.size;omega);have d1:W0.cell? ⟨c,1,none⟩=some (.map (some mb)):=aa (ab m0 h.own id) 1;rw[ui]at tC d1;unfold qu at tC d1;have B9:=hd0 pq;clear h hM hq Ng x2 Xf aeS jO x0 m0 ui z0 pq;go_enter func113,ntmps113;go_wp2_with fail;refine O.out.mono ?_;rintro e w3 ⟨rfl,hR3,ln,hz3⟩;have X3:iQ w3 c r mb (fun b=>S b\/b=w.heap.size) (upd K w.heap.size k) (upd V w.heap.size v) (ee jQ k w.heap.size l) (fun b=>F b\/b=w.heap.size):=
   { own:=ab ln acq.out (fun e=>e.elim H.out.apart.2.1 (fun e=>by omega)),of:=dC.mod ag0.out ln (fun e=>e.elim H.out.apart.2.2 (fun e=>by omega)),ring:=hR3,root:=.inl H.out.root,
     keys:=fun x hx=>by
      rcases Tx hx with rfl|⟨hx,_⟩
      ·exact⟨.inr rfl,kF _ _ _⟩
      ·obtain⟨h1,h2⟩:=H.out.keys x hx;exact⟨.inl h1,by rw[iP _ _ (fun e=>B9.out (by rw[<-e];exact h1))];exact h2⟩,
     one:=OO H.out.one,fc:=.inl H.out.fc,fm:=.inl H.out.fm,fs:=fun b hb=>hb.elim (fun h=>.inl (H.out.fs b h)) .inr,apart:=⟨H.out.apart.1,fun e=>e.elim H.out.apart.2.1 (fun e=>by omega),fun e=>e.elim H.out.apart.2.2 (fun e=>by omega)⟩,
     lt:=fun b hb=>by
      rw[hz3];have:=Hz2.out;rcases hb with hb|rfl
      ·exact atS (H.out.lt b hb) Hm2.out.size
      ·exact this }
  have H3:=hd0 X3;have nL:Hid (ah F w w3):=hd0 (Hm2.out.trans ln (fun i hi h=>h.elim (H.out.fs i) (fun e=>by omega)));have Hk3:Hid (∀ j s,(bD j (ee jQ k w.heap.size l)).map (upd V w.heap.size v)=some s->(j=k/\s=v)\/(j≠k/\M j=some s)):=hd0 (fun j s hj=>by
   rw[j9]at hj;split at hj
   ·rename_i e
    simp only[auO,kF,Option.some.injEq]at hj;exact .inl ⟨e,hj.symm⟩
   ·rename_i e
    refine .inr ⟨e,?_⟩;rw[HM.out]
    cases hg:bD j l with
    |none=>rw[hg]at hj;cases hj
    |some b'=>
     rw[hg]at hj;have dZ:b'≠w.heap.size:=fun e=>B9.out (by rw[<-e];exact(H.out.keys _ (oC hg)).1);simpa[iP _ _ dZ]using hj)
  have d0:w3.cell? ⟨c,0,none⟩=some (.int .i64 32):=aa X3.own 0;have d1:w3.cell? ⟨c,1,none⟩=some (.map (some mb)):=aa X3.own 1;have d2:w3.cell? ⟨c,2,none⟩=some (aq r):=aa X3.own 2;have aU:=dC.len (tm:=260) (show dC prog 3 w3.drew mb _ from X3.of) underlying260 3;obtain⟨len,hl⟩:∃ len,(ee jQ k w.heap.size l).length=len:=⟨_,rfl⟩
  rw[hl]at aU;have lj:len<=4097:=by
   have:=pz k w.heap.size l;rw[hl,Hq.out]at this;simp at this;omega
  clear hR3 ln hz3 X3 hl;go_wp2_with fail
  go_region
  have H4:Hid (iQ w3.drew c r mb (fun b=>S b\/b=w.heap.size) (upd K w.heap.size k) (upd V w.heap.size v) (ee jQ k w.heap.size l) (fun b=>F b\/b=w.heap.size)):=hd0 (H3.out.same (fun _ _ _=>rfl) (atL _));have rf:Hid (ah F w w3.drew):=hd0 nL.out.drew;obtain⟨w4,WW⟩:∃ w4,w3.drew=w4:=⟨_,rfl⟩
  rw[WW]at H4 rf;have d0:w4.cell? ⟨c,0,none⟩=some (.int .i64 32):=by rw[<-WW];exact d0
  have d1:w4.cell? ⟨c,1,none⟩=some (.map (some mb)):=by rw[<-WW];exact d1
  have d2:w4.cell? ⟨c,2,none⟩=some (aq r):=by rw[<-WW];exact d2
  have hz4:w.heap.size<=w4.heap.size:=rf.out.size;rw[WW];clear aU WW H3 nL;by_cases ajT:len<=32
  ·have hf:(len:Int)<=32:=by omega
   go_wp2
   go_ret2;exact⟨⟨_,rfl⟩,_,_,⟨r,mb,_,_,_,_,H4.out,fun _=>rfl⟩,⟨rf.out,fun b hb=>hb.elim .inl (fun e=>.inr (by omega))⟩,Hk3.out⟩
  ·have hf:¬(len:Int)<=32:=by omega
   obtain⟨pv,nx,hr⟩:=H4.out.ring;obtain⟨r1,r2,_,_⟩:=hr r (.inl H.out.root);obtain⟨p1,_,_,hk1⟩:=hr _ r2;have g2:w4.cell? ⟨r,2,none⟩=some (aq (pv r)):=aa r1 2;have g0:w4.cell? ⟨pv r,0,none⟩=some (.int .i64 (upd K w.heap.size k (pv r))):=aa p1 0;obtain⟨kk,rZ⟩:∃ kk,upd K w.heap.size k (pv r)=kk:=⟨_,rfl⟩
   rw[rZ]at g0 hk1;have D:=hd0 (X0 H4.out kk hk1);have XE:=hd0 rZ;obtain⟨pb,mL⟩:∃ pb,pv r=pb:=⟨_,rfl⟩
   rw[mL]at g2 g0 rZ r2;have Hr2:=hd0 r2;clear hr r1 p1 hk1 mL rZ XE r2;go_wp2_with fail;refine D.out.mono ?_;rintro e w5 ⟨⟨u,rfl⟩,⟨l',hX,SQ⟩,yM,hz5⟩;obtain⟨k5,g5⟩:∃ k5,w5.cell? ⟨pb,0,none⟩=some (.int .i64 k5):=by
    obtain⟨pv5,nx5,hr5⟩:=hX.ring;exact⟨_,aa (hr5 pb Hr2.out).1 0⟩
   have HX:=hd0 hX;have Hl':=hd0 SQ;have BY:Hid (ah F w w5):=hd0 (rf.out.trans yM (fun i hi h=>h.elim id (fun e=>by omega)));clear hX SQ yM hz5
   go_wp2
   go_ret2;refine⟨⟨_,rfl⟩,_,_,⟨r,mb,_,_,_,_,HX.out,fun _=>rfl⟩,⟨BY.out,fun b hb=>hb.elim .inl (fun e=>.inr (by omega))⟩,fun j s hj=>Hk3.out j s ?_⟩;have hj:(bD j l').map (upd V w.heap.size v)=some s:=hj;rw[Hl'.out]at hj;split at hj
   ·cases hj
   ·exact hj
end
section
open Go.RowKit
theorem OP (w:World):
  Calls prog 235 #[.int .i64 32] w fun e w'=>∃ c,e=.returned (.tuple #[aq c,.int .i64 0])/\w.heap.size<=c/\af w w'/\∃ F,gB w' c (fun _=>none) F/\∀ b,F b->w.heap.size<=b:=by
 obtain⟨W,hW⟩:∃ W,W=((w.alloc (.map #[] 0)).alloc (.cells (qu 0 [] (.pointer none) (.pointer none)) 265)).alloc (.cells #[.int .i64 32,.map (some w.heap.size),aq (w.heap.size+1)] 262):=⟨_,rfl⟩
 have m0:af w W:=by rw[hW];exact(((ah.refl _ w).alloc _).alloc _).alloc _
 have s0:W.heap.size=w.heap.size+3:=by rw[hW];simp
 have bm:dC prog 3 W w.heap.size []:=by
  have h1:dC prog 3 (w.alloc (.map #[] 0)) w.heap.size []:=dC.made w;rw[hW];exact dC.mod h1 (((ah.refl _ _).alloc _).alloc _:af _ _) id
 have be:World.blk W (w.heap.size+1) (qu 0 [] (.pointer none) (.pointer none)) 265:=by
  rw[hW];refine aG ?_ _;exact aY (by simp) _ _
 have bc:World.blk W (w.heap.size+2) #[.int .i64 32,.map (some w.heap.size),aq (w.heap.size+1)] 262:=by
  rw[hW];exact aY (by simp) _ _
 have e2:=aa be 2;have e3:W.cell? ⟨w.heap.size+1,3,none⟩=some (.pointer none):=aa be 3;have f2:=ae be ⟨w.heap.size+1,2,none⟩ rfl;have f3:=ae be ⟨w.heap.size+1,3,none⟩ rfl;have c2:W.cell? ⟨w.heap.size+2,2,none⟩=some (aq (w.heap.size+1)):=aa bc 2;have e2':W.cell? ⟨w.heap.size+1,2,none⟩=some (.pointer none):=e2;have Hbe:=hd0 be;have Hbc:=hd0 bc;have Hbm:=hd0 bm;have HW:=hd0 hW;clear hW be bc bm e2;have It:=@run_makeMap prog;go_enter func235,ntmps235;go_wp2_with fail
 go_simp
 have eW:W=((w.alloc (.map #[] 0)).alloc (.cells #[.int .i64 0,.string ⟨#[]⟩,.pointer none,.pointer none] 265)).alloc (.cells #[.int .i64 32,.map (some w.heap.size),aq (w.heap.size+1)] 262):=HW.out;rw[<-eW];have EW:=hd0 eW;clear eW It;refine dz 18 (by kernel_rfl) (by kernel_rfl) ?_;simp only[auz,auA,auB,auC]
 repeat (quiet_step (fail))
 refine auE ?_;intro _ cJ;obtain⟨nq,rfl⟩:=cJ
 go_wp2
 go_ret2;have mk:ah (fun b=>b=w.heap.size+1) W (((W.setCell ⟨w.heap.size+1,2,none⟩ (aq (w.heap.size+1))).setCell ⟨w.heap.size+1,3,none⟩ (aq (w.heap.size+1))).drewN nq):=
  (((ah.refl (fun b=>b=w.heap.size+1) W).setCell (p:=⟨w.heap.size+1,2,none⟩) (.inl rfl) _).setCell (p:=⟨w.heap.size+1,3,none⟩) (.inl rfl) _).drewN nq
 refine⟨w.heap.size+1+1,rfl,by omega,m0.trans mk (fun i hi e=>by omega),fun b=>b=w.heap.size\/b=w.heap.size+1\/b=w.heap.size+2,⟨w.heap.size+1,w.heap.size,fun b=>b=w.heap.size+1,fun _=>0,fun _=>[],[],?_,fun _=>rfl⟩,fun b hb=>by rcases hb with rfl|rfl|rfl<;>omega⟩
 exact { own:=ab mk Hbc.out (by omega),of:=dC.mod Hbm.out mk (by omega),
         ring:=⟨fun _=>w.heap.size+1,fun _=>w.heap.size+1,fun b hb=>by
          subst hb;exact⟨fJ (ag (ag Hbe.out 2 _) 3 _) nq,rfl,rfl,by show(0:Int)<=0;omega,by show(0:Int)<4096;omega⟩⟩,
         root:=rfl,keys:=by simp,one:=List.nodup_nil,fc:=.inr (.inr rfl),fm:=.inl rfl,fs:=fun b hb=>.inr (.inl hb),apart:=⟨by omega,by omega,by omega⟩,
         lt:=fun b hb=>atS (by rcases hb with rfl|rfl|rfl<;>omega:b<W.heap.size) mk.size }
end
section
open Go.RowKit Go.Shelf
attribute [local go_sem] atC
theorem OQ (s:List UInt8)(w:World)(hs:s.length<=1000000):
  Calls prog 288 #[.string ⟨s.toArray⟩] w fun e w'=>e=.returned (.string ⟨(NL Ky s).toArray⟩)/\af w w':=by
 have H:=hd0 (Oy Ky s w rfl (by omega));go_enter func288,ntmps288;go_wp2_with fail;refine H.out.mono ?_;rintro e w1 ⟨rfl,hk⟩;have HK:=hd0 hk;clear hk;go_wp2;go_ret;exact⟨rfl,HK.out⟩
theorem Jl (k:Nat):Lib.repeatL [(0:UInt8)] k=List.replicate k 0:=by
 induction k with
 |zero=>rfl
 |succ k ih=>simp[Lib.repeatL,List.replicate_succ]at ih ⊢;first|exact ih|skip
theorem vG (s:List UInt8)(n:Nat)(w:World)(hs:s.length<=n)(hn:n<=100000):
  Calls prog 242 #[.string ⟨s.toArray⟩,.int .i64 (n:Int)] w fun e w'=>e=.returned (.string ⟨(mW s n).toArray⟩)/\af w w':=by
 have R:=hd0 (Tryz.strings_Repeat ⟨[(0:UInt8)].toArray⟩ (n-s.length) w (by omega) (by show 1*(n-s.length)<=_;omega));have uB:((n-s.length:Nat):Int)=(n:Int)-(s.length:Int):=by omega
 have B:=fun W=>OQ (s++List.replicate (n-s.length) 0) W (by simp;omega);have HB:=hd0 B;clear B;go_enter func242,ntmps242;go_wp2_with fail;rw[<-uB];refine R.out.mono ?_;rintro e w1 ⟨rfl,hb⟩;have bU:=hd0 (ah.ofBelow hb);clear hb;have er:Lib.repeatL (ByteArray.mk [(0:UInt8)].toArray).data.toList (n-s.length)=List.replicate (n-s.length) 0:=Jl _;rw[er];have EO:mW s n=(s++List.replicate (n-s.length) 0)++NL Ky (s++List.replicate (n-s.length) 0):=rfl;have hzl:(List.replicate (n-s.length) (0:UInt8)).length=n-s.length:=by simp
 have hql:(NL Ky (s++List.replicate (n-s.length) 0)).length=8:=Jf _ _;have B:=HB.out;generalize List.replicate (n-s.length) (0:UInt8)=z at EO hzl hql B ⊢;generalize NL Ky (s++z)=q at EO hql B;have lU:=hd0 B;have Hfl:=hd0 EO;clear B HB EO er;go_wp2_with fail;refine(lU.out _).mono ?_;rintro e w2 ⟨rfl,hk⟩;have bu:=hd0 (bU.out.trans hk (fun _ _ h=>h));clear hk;go_wp2;go_ret;exact⟨by rw[Hfl.out,auu];rfl,bu.out⟩
theorem zf (p:List UInt8)(w:World)(hp:p.length<=240):
  Calls prog 188 #[.string ⟨p.toArray⟩] w fun e w'=>e=.returned (.tuple #[.string ⟨(dU p).toArray⟩,.int .i64 0])/\af w w':=by
 have F:=fun W=>vG ([UInt8.ofNat (p.length%256),UInt8.ofNat (p.length/256%256)]++p) 248 W (by simp;omega) (by omega);have HF:=hd0 F;clear F;have h1:¬(240:Int)<(p.length:Int):=by omega
 have ya:(convert 131 9 (.slice (some ⟨w.heap.size,0,none⟩) 2 2)).run prog (w.alloc (.cells #[.int .u8 (p.length:Int),.int .u8 ((p.length:Int)/256)] 5))=.ok (.string ⟨[UInt8.ofNat (p.length%256),UInt8.ofNat (p.length/256%256)].toArray⟩) (w.alloc (.cells #[.int .u8 (p.length:Int),.int .u8 ((p.length:Int)/256)] 5)):=by
  have h:=Ci (P:=prog) (ts:=131) (td:=9) (te:=5) underlying131 underlying5 underlying9 w w.heap.size 0 [UInt8.ofNat (p.length%256),UInt8.ofNat (p.length/256%256)] rfl;have e:aP [UInt8.ofNat (p.length%256),UInt8.ofNat (p.length/256%256)]=#[.int .u8 (p.length:Int),.int .u8 ((p.length:Int)/256)]:=by
   have e1:((UInt8.ofNat (p.length%256)).toNat:Int)=(p.length:Int):=by simp;omega
   have e2:((UInt8.ofNat (p.length/256%256)).toNat:Int)=(p.length:Int)/256:=by simp;omega
   simp only[aP,gi,atF,List.map_nil,e1,e2]
  rw[e]at h;exact h
 go_enter func188,ntmps188;go_wp2_with fail;refine(HF.out _).mono ?_;rintro e w1 ⟨rfl,hk⟩;have HK:=hd0 (((ah.refl (fun _=>False) w).alloc _).keep hk);clear hk;go_wp2;go_ret2;exact⟨rfl,HK.out⟩
end
section
open Go.RowKit
theorem zg (d:Nat)(h:d<10):(UInt8.ofNat (48+d)).toNat=48+d:=by simp;omega
theorem FV (u:Nat):∀ c∈Lib.decDigits u,48<=c.toNat/\c.toNat<=57:=by
 induction u using Nat.strongRecOn with
 |_ u ih=>
  intro c hc;rw[Lib.decDigits]at hc;split at hc
  ·rename_i h
   simp only[avf]at hc;rw[hc,zg u h];omega
  ·rename_i h
   rcases auP.1 hc with hc|hc
   ·exact ih (u/10) (by omega) c hc
   ·simp only[avf]at hc;rw[hc,zg (u%10) (by omega)];omega
theorem FW (n:Int)(h0:0<=n):∀ c∈Lib.itoa n,48<=c.toNat/\c.toNat<=57:=by
 obtain⟨u,rfl⟩:∃ u:Nat,n=u:=⟨n.toNat,by omega⟩
 rw[Lib.itoa_nonneg];exact FV u
end
end Go.Proofs.YtkghpdcloaiflaaGreatDoor
section
namespace Go.Proofs.YtkghpdcloaiflaaGreatDoor
open _root_.Go.Proofs.Tryz
open Go.RowKit
theorem Jm (x:Int)(h:0<=x/\x<256):IntKind.u8.wrap x=x:=by
 unfold IntKind.wrap;simp[IntKind.bits,IntKind.signed];omega
end Go.Proofs.YtkghpdcloaiflaaGreatDoor
namespace Go.Proofs.YtkghpdcloaiflaaGreatDoor
open _root_.Go.Proofs.Tryz
open Go.RowKit
theorem ba {P:Program}{t:TypeId}(h:P.underlying t=some .string)(l:List UInt8)(k:IntKind)(i:Int)(c:UInt8)(h0:0<=i)(hc:l[i.toNat]?=some c)(w:World):
  (Instr.index t (.string ⟨l.toArray⟩) (.int k i)).run P w=.ok (.int .u8 (c.toNat:Int)) w:=by
 have aM:=(atX.1 hc).1;have qV:=(atX.1 hc).2;rw[run_index_string w t _ k i h];have cA:({ data:=l.toArray }:ByteArray).size=l.length:=by simp[ByteArray.size]
 rw[dif_pos (by rw[cA];omega)];rw[<-qV];rfl
end Go.Proofs.YtkghpdcloaiflaaGreatDoor
end
namespace Go.Proofs.YtkghpdcloaiflaaGreatDoor
open _root_.Go.Proofs.Tryz
section
open Go.RowKit Go.Shelf
attribute [local go_sem] atC
theorem FY {s p:List UInt8}(h:kv s=.ok p):s.length=256/\∃ b0 b1,s[0]?=some b0/\s[1]?=some b1/\b0.toNat+256*b1.toNat<=240/\p=(s.drop 2).take (b0.toNat+256*b1.toNat)/\dU p=s:=by
 unfold kv at h;split at h
 ·cases h
 ·rename_i hl
  have hl:s.length=256:=by omega
  simp only at h;split at h
  ·cases h
  ·rename_i hn
   split at h
   ·rename_i hf
    injection h with h;have e0:s[0]?=some (s.getD 0 0):=by simp[List.getD,hl]
    have e1:s[1]?=some (s.getD 1 0):=by simp[List.getD,hl]
    exact⟨hl,_,_,e0,e1,by omega,h.symm,by rw[<-h];exact hf⟩
   ·cases h
theorem Ty (b:UInt8):bits .or .i64 (b.toNat:Int) 0=(b.toNat:Int):=by
 have key:∀ n:Fin 256,bits .or .i64 (n.1:Int) 0=(n.1:Int):=by decide +kernel
 exact key ⟨b.toNat,b.toNat_lt⟩
theorem CE (s p:List UInt8)(w:World)(h:kv s=.ok p):
  Calls prog 111 #[.string ⟨s.toArray⟩] w fun e w'=>e=.returned (.tuple #[.string ⟨p.toArray⟩,.int .i64 0])/\af w w':=by
 obtain⟨hl,b0,b1,h0,h1,hn,hp,hf⟩:=FY h;have sD:=ba (P:=prog) underlying9 s .i64 0 b0 (by omega) (by simpa using h0);have BD:=ba (P:=prog) underlying9 s .i64 1 b1 (by omega) (by simpa using h1);have F:=zf p;rw[hf]at F;have HF:=hd0 F;have nI:p.length<=240:=by rw[hp];simp;omega
 have lj:(s.length:Int)=256:=by omega
 have hb1:b1.toNat=0:=by omega
 rw[hb1]at hp hn BD;have hor:=Ty b0;have Hp:Hid (p=(s.drop 2).take b0.toNat):=hd0 (by simpa using hp);have iC:b0.toNat<=240:=by omega
 clear h h0 h1 hp hf F;go_enter func111,ntmps111;go_wp2_with fail
 go_region
 have HPl:=hd0 nI;go_wp2_with fail;have ep:(List.drop 2 s).take b0.toNat=p:=Hp.out.symm;have e2:2+b0.toNat-2=b0.toNat:=by omega
 rw[e2,ep];refine(HF.out _ HPl.out).mono ?_;rintro e w1 ⟨rfl,hk⟩;have HK:=hd0 (((ah.refl (fun _=>False) w).drew).keep hk);clear hk;go_wp2;go_ret2;exact⟨rfl,HK.out⟩
end
section
open Go.RowKit
def lX (pd pc:Nat)(text:List UInt8)(num:Nat):Array Value:=#[aq pd,.string ⟨text.toArray⟩,.int .i64 (num:Int),aq pc,.bool false]
structure pR (w:World)(v pd pc:Nat)(d:Dk)(text:List UInt8)(num:Nat)(M:Int->Option (List UInt8))(Fd Fc F:Nat->Prop):Prop where
 own:World.blk w v (lX pd pc text num) 171
 disk:bA w pd d Fd
 cache:gB w pc M Fc
 good:∀ k s,M k=some s->ik d k=.ok s
 fv:F v
 fd:∀ b,Fd b->F b
 fc:∀ b,Fc b->F b
 apart:∀ b,Fd b->¬ Fc b
 nd:¬ Fd v
 nc:¬ Fc v
 many:32<=d.size/\d.size<=16384
 num:num<=1099511627776
 lt:∀ b,F b->b<w.heap.size
def gU (w:World)(v:Nat)(d:Dk)(text:List UInt8)(num:Nat)(F:Nat->Prop):Prop:=∃ pd pc M Fd Fc,pR w v pd pc d text num M Fd Fc F
theorem pR.same {w w':World}{v pd pc:Nat}{d:Dk}{text:List UInt8}{num:Nat}{M:Int->Option (List UInt8)}{Fd Fc F:Nat->Prop}(h:pR w v pd pc d text num M Fd Fc F)(m:fy F w w')(hs:w.heap.size<=w'.heap.size):pR w' v pd pc d text num M Fd Fc F where
 own:=(m v h.fv (h.lt v h.fv)).trans h.own
 disk:=h.disk.same (fun b hb=>m b (h.fd b hb)) hs
 cache:=h.cache.same (fun b hb=>m b (h.fc b hb)) hs
 good:=h.good
 fv:=h.fv
 fd:=h.fd
 fc:=h.fc
 apart:=h.apart
 nd:=h.nd
 nc:=h.nc
 many:=h.many
 num:=h.num
 lt b hb:=atS (h.lt b hb) hs
theorem gU.same {w w':World}{v:Nat}{d:Dk}{text:List UInt8}{num:Nat}{F:Nat->Prop}(h:gU w v d text num F)(m:fy F w w')(hs:w.heap.size<=w'.heap.size):gU w' v d text num F:=by
 obtain⟨pd,pc,M,Fd,Fc,h⟩:=h;exact⟨pd,pc,M,Fd,Fc,h.same m hs⟩
theorem oD {w:World}{v:Nat}{d:Dk}{text:List UInt8}{num:Nat}{F:Nat->Prop}(h:gU w v d text num F):
  Calls prog 99 #[aq v] w fun e w'=>e=.returned (.int .i64 ((d.size/4:Nat):Int))/\w'=w:=by
 obtain⟨pd,pc,M,Fd,Fc,h⟩:=h;have c0:w.cell? ⟨v,0,none⟩=some (aq pd):=aa h.own 0;have S:=hd0 (jp h.disk);have e4:((d.size/4:Nat):Int)=(d.size:Int)/4:=by omega
 have hm:(d.size:Int)<=16384:=by have:=h.many;omega
 clear h;go_enter func99,ntmps99;go_wp2_with fail;refine S.out.mono ?_;rintro e w1 ⟨rfl,rfl⟩
 go_wp2
 go_ret;exact⟨by rw[e4];rfl,rfl⟩
theorem CG {w:World}{v:Nat}{d:Dk}{text:List UInt8}{num:Nat}{F:Nat->Prop}(h:gU w v d text num F)(n:Nat)(h1:1<=n)(h2:n<d.size/4):
  Calls prog 106 #[aq v,.int .i64 (n:Int)] w fun e w'=>e=.returned (.bool true)/\w'=w:=by
 have B:=hd0 (oD h);have By:(1:Int)<=(n:Int):=by omega
 have Aq:(n:Int)<((d.size/4:Nat):Int):=by omega
 generalize d.size/4=q at*;clear h h1 h2;go_enter func106,ntmps106;go_wp2_with fail;refine B.out.mono ?_;rintro e w1 ⟨rfl,rfl⟩
 go_wp2
 go_ret;exact⟨rfl,rfl⟩
theorem KN {w:World}{v:Nat}{d:Dk}{text:List UInt8}{num:Nat}{F:Nat->Prop}(h:gU w v d text num F):
  Calls prog 142 #[aq v] w fun e w'=>e=.returned (.tuple #[.string ⟨text.toArray⟩,.int .i64 (num:Int)])/\∃ m,w'=w.drewN m:=by
 obtain⟨pd,pc,M,Fd,Fc,h⟩:=h;have c1:w.cell? ⟨v,1,none⟩=some (.string ⟨text.toArray⟩):=aa h.own 1;have c2:w.cell? ⟨v,2,none⟩=some (.int .i64 (num:Int)):=aa h.own 2;clear h;go_enter func142,ntmps142;go_wp2_with fail
 go_region
 go_wp2;go_ret2;exact⟨rfl,1,rfl⟩
theorem OS {w:World}{v pd pc:Nat}{d:Dk}{text:List UInt8}{num:Nat}{M:Int->Option (List UInt8)}{Fd Fc F:Nat->Prop}(h:pR w v pd pc d text num M Fd Fc F):
  Calls prog 109 #[aq v,.int .i64 0] w fun e w'=>e=.returned (.int .i64 0)/\pR w' v pd pc d text num M Fd Fc F/\ah (fun b=>b=v) w w':=by
 have c4:w.cell? ⟨v,4,none⟩=some (.bool false):=aa h.own 4;have f4:=ae h.own ⟨v,4,none⟩ rfl;have m:ah (fun b=>b=v) w (w.setCell ⟨v,4,none⟩ (.bool false)):=(ah.refl (fun b=>b=v) w).setCell (p:=⟨v,4,none⟩) (.inl rfl) _;have H:Hid (pR (w.setCell ⟨v,4,none⟩ (.bool false)) v pd pc d text num M Fd Fc F):=hd0
  { own:=ag h.own 4 _,disk:=h.disk.mod m (fun b hb e=>h.nd (e▸hb)),cache:=h.cache.same (m.on (fun b hb e=>h.nc (e▸hb))) m.size,good:=h.good,fv:=h.fv,fd:=h.fd,fc:=h.fc,apart:=h.apart,nd:=h.nd,nc:=h.nc,many:=h.many,num:=h.num,
    lt:=fun b hb=>atS (h.lt b hb) m.size }
 have HM:=hd0 m;clear h m;go_enter func109,ntmps109
 go_wp2
 go_ret;exact⟨rfl,H.out,HM.out⟩
end
section
open Go.RowKit
theorem co {B b:Nat}{l:List UInt8}{w w':World}(h:cZ B b l w)(k:af w w'):cZ B b l w':=by
 rcases h with⟨hB,v,hb,ho,hn⟩|⟨hB,v,hb,ho,hn⟩
 ·exact .inl ⟨hB,v,k.obj hb id,io ho k,hn⟩
 ·exact .inr ⟨hB,v,k.obj hb id,io ho k,hn⟩
theorem uF {B b:Nat}{l:List UInt8}{w w':World}{S:Nat->Prop}(h:cZ B b l w)(m:ah S w w')(hb:¬ S b)(hr:∀ k c fr,w.heap[k]?=some (.cells c 5 fr)->¬ S k):cZ B b l w':=by
 have own:∀ {v:Value} {n:Nat} {xs:List Value},w.ownsRow B 5 1 v n xs->w'.ownsRow B 5 1 v n xs:=by
  rintro v n xs ⟨h1,h2|⟨g,cap,du,a,b,c,d⟩⟩
  ·exact⟨h1,.inl h2⟩
  ·exact⟨h1,.inr ⟨g,cap,du,a,b,m.obj c (hr g _ _ c),d⟩⟩
 rcases h with⟨hB,v,Ar,ho,hn⟩|⟨hB,v,Ar,ho,hn⟩
 ·exact .inl ⟨hB,v,m.obj Ar hb,own ho,hn⟩
 ·exact .inr ⟨hB,v,m.obj Ar hb,own ho,hn⟩
theorem cY {w w2 w3:World}{B:Nat}(h:af w w2)(hb:Below B w2 w3)(hB:w.heap.size<=B):af w w3:=
 ⟨hb.os.trans h.os,hb.tape.trans h.tape,hb.output.trans h.output,atE h.size hb.size,fun k hk _=>(hb.block k (atS hk hB)).trans (h.block k hk id)⟩
def Tz (w:World)(b:Nat)(k:Nat):Prop:=k=b\/∃ c fr,w.heap[k]?=some (.cells c 5 fr)
theorem OT {w:World}{b k:Nat}{o:Obj}(hk:k≠b)(ho:w.heap[k]?=some o)(ht:∀ c fr,o≠.cells c 5 fr):¬ Tz w b k:=by
 rintro(h|⟨c,fr,h⟩)
 ·exact hk h
 ·rw[ho]at h;exact ht c fr (auR h)
theorem cO {w:World}{b k:Nat}{c:Array Value}{t:TypeId}(hk:k≠b)(ho:World.blk w k c t)(ht:t≠5):¬ Tz w b k:=
 OT hk ho (fun c' fr e=>ht (by cases e;rfl))
theorem FZ (B b:Nat)(bs:List Value)(w:World)(h:Lib.IsBuilder 176 5 B b bs w):
  Calls prog 187 #[.pointer (some ⟨b,0,none⟩)] w fun e w'=>e=.returned (.tuple #[])/\(Lib.BuilderAt 176 5 B b (.pointer (some ⟨b,0,none⟩)) bs w'/\Below B w w'/\ah (·=b) w w'):=by
 rcases h with h|h
 ·refine(nR b w h.cell0 h.shape h.frozen0).mono ?_;rintro e w' ⟨rfl,rfl⟩;exact⟨rfl,h.used _,(Below.refl B w).setCell (p:=⟨b,0,none⟩) h.1 _,(ah.refl (fun x=>x=b) w).setCell (p:=⟨b,0,none⟩) (.inl rfl) _⟩
 ·refine(oA b w h.cell0).mono ?_;rintro e w' ⟨rfl,rfl⟩;exact⟨rfl,h,Below.refl B _,ah.refl _ _⟩
theorem jh (B b:Nat)(l s:List UInt8)(w:World)(h:cZ B b l w)(aU:l.length+s.length<=140737488355328)(hBw:B<=w.heap.size):
  Calls prog 110 #[.pointer (some ⟨b,0,none⟩),.string ⟨s.toArray⟩] w fun e w'=>e=.returned (.tuple #[.int .i64 (s.length:Int),.nilIface])/\cZ B b (l++s) w'/\Below B w w'/\ah (Tz w b) w w':=by
 unfold cZ at*;rw[Lib.byteCells_append];have qZ:(Lib.byteCells l).length=l.length:=Lib.byteCells_length l;have uw:({ data:=s.toArray }:ByteArray).size=s.length:=by simp[ByteArray.size]
 have hsc:Lib.byteCells s=Lib.strCells ⟨s.toArray⟩:=rfl;rw[hsc];generalize Lib.byteCells l=bs at*;rw[<-qZ]at aU;clear qZ hsc;obtain⟨i0,hi,nD,mK,ol⟩:=atW jR;have ajO:(s.length:Int)<=9223372036854775807:=by omega
 go_enter func110,ntmps110;go_wp2_with fail;refine(FZ B b bs _ h).mono ?_;rintro e w1 ⟨rfl,h1,hb1,mM⟩;obtain⟨hB,v,Ar,bt,dZ⟩:=h1;have c0:w1.cell? ⟨b,0,none⟩=some (.pointer (some ⟨b,0,none⟩)):=by rw[Lib.cell_of_heap Ar];rfl
 have c1:w1.cell? ⟨b,1,none⟩=some v:=by rw[Lib.cell_of_heap Ar];rfl
 go_wp2_with (at_builtin;refine Lib.wpList_append_own_string _ rfl _ _ 131 9 rfl B 5 i0 underlying131 underlying9 hi nD mK ol _ _ _ rfl bt ⟨s.toArray⟩ rfl ?c3 ?c4 ?c5 ?_)
 case c3=>rw[uw];unfold maxLen;omega
 case c4=>rw[uw];omega
 case c5=>have:=hb1.size;omega
 intro v' w2 nX qj _;have aM:b<w1.heap.size:=by
  rcases Nat.lt_or_ge b w1.heap.size with h'|h'
  ·exact h'
  ·simp[Array.getElem?_eq_none h']at Ar
 have eS:w2.heap[b]?=some (.cells #[.pointer (some ⟨b,0,none⟩),v] 176 (0,0)):=by
  rw[qj.block b aM (fun e=>dZ e.symm)];exact Ar
 have d0:w2.cell? ⟨b,0,none⟩=some (.pointer (some ⟨b,0,none⟩)):=by rw[Lib.cell_of_heap eS];rfl
 have d1:w2.cell? ⟨b,1,none⟩=some v:=by rw[Lib.cell_of_heap eS];rfl
 have f1:w2.frozen? ⟨b,1,none⟩=false:=Lib.frozen_of_heap eS 1;obtain⟨ao,n',cap,rfl⟩:∃ ao n' cap,v'=.slice ao n' cap:=by
  rcases nX.2 with⟨hv,_⟩|⟨g,cap,du,hv,_⟩
  ·exact⟨_,_,_,hv⟩
  ·exact⟨_,_,_,hv⟩
 have BM:Hid (ah (Tz w b) w w2):=hd0 ((mM.mono (fun i _ e=>.inl e)).grown qj (fun k hk=>by
  by_cases e:k=b
  ·exact .inl (.inl e)
  ·rcases Nat.lt_or_ge k w.heap.size with aM|hge
   ·refine .inl (.inr ?_);rcases bt.2 with⟨hv,_⟩|⟨g,cap,du,hv,_,hg,_⟩
    ·rw[hv]at hk;cases hk
    ·rw[hv]at hk;have:g=k:=by simpa[Value.ownBlock]using hk
     subst this;exact⟨_,_,(mM.block g aM e).symm.trans hg⟩
   ·exact .inr hge))
 have Ri:=hd0 nX;have Hgr:=hd0 qj;have Hb1:=hd0 hb1;have Hb2:=hd0 eS;have Sh:=hd0 bt;have Hsl:=hd0 uw;clear nX qj hb1 eS bt Ar h c0 c1 hi nD mK ol uw mM;go_wp2;go_ret2;refine⟨rfl,.inr ?_,?_,?_⟩
 ·exact Lib.BuilderAt.put (T:=176) (e:=5) hB Hb2.out (bs':=bs++Lib.strCells ⟨s.toArray⟩) (by rw[at0,Lib.strCells_length];exact Ri.out) OJ
 ·exact(Hb1.out.grown Hgr.out (by have:=Hb1.out.size;omega) (fun k hk=>(Sh.out.lt k hk).1)).setCell (p:=⟨b,1,none⟩) hB _
 ·exact BM.out.setCell (p:=⟨b,1,none⟩) (.inl (.inl rfl)) _
end
section
open Go.RowKit Go.Shelf
attribute [local go_sem] atC
theorem TA {d:Dk}{n:Nat}{p:List UInt8}(h1:1<=n)(h2:n<d.size/4)(h:ik d n=.ok p):kv (eF d n)=.ok p:=by
 unfold ik at h;rw[atP ⟨by omega,by omega⟩]at h;simpa using h
theorem gB.lt {w:World}{c:Nat}{M:Int->Option (List UInt8)}{F:Nat->Prop}(h:gB w c M F)(b:Nat)(hb:F b):b<w.heap.size:=by
 obtain⟨r,mb,S,K,V,l,h,_⟩:=h;exact h.lt b hb
def upto (d:Dk)(n k:Nat):List UInt8:=(List.range k).flatMap fun i=>d.get (4*n+i)
theorem zh (d:Dk)(n k:Nat):upto d n (k+1)=upto d n k++d.get (4*n+k):=by
 unfold upto;rw[List.range_succ,atZ];simp
theorem KO (d:Dk)(n:Nat):upto d n 4=eF d n:=by
 unfold upto eF;simp[List.range_succ]
theorem CI {d:Dk}(h:yn d){n:Nat}(hn:4*n+4<=d.size):∀ k,k<=4->(upto d n k).length=64*k
 |0,_=>rfl
 |k+1,hk=>by rw[zh,at0,CI h hn k (by omega),At h (by omega)];omega
theorem zi {w:World}{v:Nat}{d:Dk}{text:List UInt8}{num:Nat}{F:Nat->Prop}(h:gU w v d text num F)(n:Nat)(h1:1<=n)(h2:n<d.size/4)(p:List UInt8)(hp:ik d n=.ok p):
  Calls prog 57 #[aq v,.int .i64 (n:Int)] w fun e w'=>e=.returned (.tuple #[.string ⟨p.toArray⟩,.int .i64 0])/\∃ F',gU w' v d text num F'/\dV F F' w w':=by
 have MY:=hd0 (CG h n h1 h2);have Hu:=hd0 (TA h1 h2 hp);have Hp:=hd0 hp;obtain⟨pd,pc,M,Fd,Fc,h⟩:=h;have cA:=h.many;have H:=hd0 h;have c4:w.cell? ⟨v,4,none⟩=some (.bool false):=aa h.own 4;have c3:w.cell? ⟨v,3,none⟩=some (aq pc):=aa h.own 3;have G:=hd0 (ON h.cache (n:Int) ⟨by omega,by omega⟩);have Hgd:Hid (∀ s,M n=some s->s=p):=hd0 (fun s hs=>by have:=h.good _ _ hs;rw[hp]at this;injection this with e;exact e.symm);clear h hp;go_enter func57,ntmps57;go_wp2_with fail;refine MY.out.mono ?_;rintro e w0 ⟨rfl,rfl⟩;go_wp2_with fail;refine G.out.mono ?_;rintro e w1 ⟨rfl,Ak,hk1⟩;have X1:pR w1 v pd pc d text num M Fd Fc F:={ own:=ab hk1.mod H.out.own H.out.nc,disk:=H.out.disk.mod hk1.mod H.out.apart,cache:=Ak,good:=H.out.good,fv:=H.out.fv,fd:=H.out.fd,fc:=H.out.fc,apart:=H.out.apart,nd:=H.out.nd,nc:=H.out.nc,many:=H.out.many,num:=H.out.num,lt:=fun b hb=>atS (H.out.lt b hb) hk1.mod.size }
 have H1:=hd0 X1;have yl:Hid (ah F w0 w1):=hd0 (hk1.mod.mono fun i _ hi=>H.out.fc i hi);clear X1 Ak hk1 c3 c4;obtain⟨q,hq⟩:∃ q,M (n:Int)=q:=⟨_,rfl⟩
 have Hq:=hd0 hq;rw[hq]
 cases q with
 |some s=>
  have es:=Hgd.out s hq;clear hq;go_wp2;go_ret2;exact⟨by rw[<-es];rfl,F,⟨pd,pc,M,Fd,Fc,H1.out⟩,yl.out,fun _ hb=>.inl hb⟩
 |none=>
  clear hq;go_wp2_with fail;have nG:=hd0 (mX w1);have Vv:Hid (pR (w1.alloc (.cells #[.pointer none,.slice none 0 0] 176)) v pd pc d text num M Fd Fc F):=hd0 (H1.out.same (fun b hb hl=>((ah.refl (fun _=>False) w1).alloc (.cells #[.pointer none,.slice none 0 0] 176)).block b hl id) (by simp));have h4:4*n+4<=d.size:=by omega
  go_loopw [35] (fun i wr=>∃ k:Nat,k<=4/\i=.int .i64 (k:Int)/\cZ w1.heap.size w1.heap.size (upto d n k) wr/\pR wr v pd pc d text num M Fd Fc F/\ah F w1 wr)
   (fun i _=>4-(intOf i).toNat)
  case atStart=>exact⟨0,by omega,rfl,nG.out,Vv.out,(ah.refl F w1).alloc _⟩
  case round=>
   clear nG Vv;obtain⟨k,hk,rfl,hb,hx,hm⟩:=hrel;have HB:=hd0 hb;have HX:=hd0 hx;have HM:=hd0 hm;have e0:wr.cell? ⟨v,0,none⟩=some (aq pd):=aa hx.own 0;clear hb hx hm;by_cases aM:k<4
   ·have dS:(k:Int)<4:=by omega
    have R:=KG HX.out.disk (4*n+k) (by omega);have ek:((4*n+k:Nat):Int)=4*(n:Int)+(k:Int):=by omega
    rw[ek]at R;have HR:=hd0 R;clear R;go_wp2_with fail;refine HR.out.mono ?_;rintro e w2 ⟨rfl,rfl⟩;go_wp2_with fail;refine(OS HX.out).mono ?_;rintro e w3 ⟨rfl,WD,ln⟩;have ql:=hd0 WD;have nL:=hd0 ln;clear WD ln;go_wp2_with fail;have arj:=H1.out.lt v H1.out.fv;have qV:=At HX.out.disk.ok (n:=4*n+k) (by omega);have yh:=CI HX.out.disk.ok h4 k hk;have nW:=uF HB.out nL.out (by show ¬ w1.heap.size=v;omega) (fun j c fr hj e=>by
     subst e;have:=HX.out.own;rw[World.blk,hj]at this;simp at this)
    have rh:w1.heap.size<=w3.heap.size:=atE HM.out.size nL.out.size;refine(jh w1.heap.size w1.heap.size (upto d n k) (d.get (4*n+k)) w3 nW (by omega) rh).mono ?_;rintro e w4 ⟨rfl,J9,tu,_⟩;rw[<-zh]at J9;have m4:ah (fun i=>w1.heap.size<=i) w3 w4:=⟨tu.os,tu.tape,tu.output,tu.size,fun j hj hS=>tu.block j (by omega)⟩
    have Fu:=hd0 J9;have Bp:=hd0 (ql.out.same (m4.on (fun b hb hge=>by have:=H1.out.lt b hb;omega)) m4.size);have rf:Hid (ah F w1 w4):=hd0 ((HM.out.trans (nL.out.mono (T:=F) (fun i _ e=>by subst e;exact H1.out.fv)) (fun _ _ h=>h)).trans m4 (fun i hi hge=>by omega));clear J9 tu m4 nW;go_wp2_with fail;exact⟨⟨k+1,by omega,by go_num,Fu.out,Bp.out,rf.out⟩,by simp[intOf];omega⟩
   ·obtain rfl:k=4:=by omega
    have rh:w1.heap.size<=wr.heap.size:=HM.out.size;have S:=hd0 (gG w1.heap.size w1.heap.size (upto d n 4) wr HB.out rh);rw[KO]at S;go_wp2_with fail;refine S.out.mono ?_;rintro e w2 ⟨rfl,tu⟩;have m2:ah (fun i=>w1.heap.size<=i) wr w2:=⟨tu.os,tu.tape,tu.output,tu.size,fun j hj hS=>tu.block j (by omega)⟩
    have ly:=hd0 (HX.out.same (m2.on (fun b hb hge=>by have:=H1.out.lt b hb;omega)) m2.size);have oh:Hid (ah F w1 w2):=hd0 (HM.out.trans m2 (fun i hi hge=>by omega));clear tu m2;go_wp2_with fail;refine(CE _ p w2 Hu.out).mono ?_;rintro e w3 ⟨rfl,dq⟩;have ql:=hd0 (ly.out.same (dq.on (fun _ _=>id)) dq.size);have nL:Hid (ah F w1 w3):=hd0 (oh.out.keep dq);have g3:w3.cell? ⟨v,3,none⟩=some (aq pc):=aa ql.out.own 3;clear dq;go_wp2_with fail;refine(CD ql.out.cache (n:Int) ⟨by omega,by omega⟩ p).mono ?_;rintro e w4 ⟨⟨u,rfl⟩,M',Vw,hc4,je,hM'⟩;have BH:w0.heap.size<=w3.heap.size:=atE yl.out.size nL.out.size;have X4:pR w4 v pd pc d text num M' Fd Vw (fun b=>F b\/Vw b):=
     { own:=ab je.mod ql.out.own ql.out.nc,disk:=ql.out.disk.mod je.mod ql.out.apart,cache:=hc4,
       good:=fun j s hj=>by
        rcases hM' j s hj with⟨rfl,rfl⟩|⟨_,h⟩
        ·exact Hp.out
        ·exact ql.out.good j s h
       fv:=.inl ql.out.fv,fd:=fun b hb=>.inl (ql.out.fd b hb),fc:=fun b hb=>.inr hb,
       apart:=fun b hb hc=>(je.foot b hc).elim (ql.out.apart b hb) (fun hge=>by have:=ql.out.lt b (ql.out.fd b hb);omega),
       nd:=ql.out.nd,nc:=fun hc=>(je.foot v hc).elim ql.out.nc (fun hge=>by have:=ql.out.lt v ql.out.fv;omega),many:=ql.out.many,num:=ql.out.num,
       lt:=fun b hb=>hb.elim (fun hb=>atS (ql.out.lt b hb) je.mod.size) (fun hb=>hc4.lt b hb) }
    have Bp:=hd0 X4;have HK:Hid (dV F (fun b=>F b\/Vw b) w0 w4):=hd0 ⟨(yl.out.trans nL.out (fun _ _ h=>h)).trans (je.mod.mono (T:=F) (fun i _ hi=>ql.out.fc i hi)) (fun _ _ h=>h),
     fun b hb=>hb.elim .inl (fun hc=>(je.foot b hc).elim (fun h=>.inl (ql.out.fc b h)) (fun h=>.inr (by omega)))⟩
    clear X4 hc4 je hM';go_wp2;go_ret2;exact⟨rfl,_,⟨pd,pc,M',Fd,Vw,Bp.out⟩,HK.out⟩
end
end Go.Proofs.YtkghpdcloaiflaaGreatDoor
