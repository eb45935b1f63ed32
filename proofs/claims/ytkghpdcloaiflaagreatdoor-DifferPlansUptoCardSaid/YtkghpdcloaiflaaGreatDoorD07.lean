import Derived.Test.YtkghpdcloaiflaaGreatDoorD06
import Derived.Lib.AtoiAllCases
import Derived.Lib.ItoaMem
set_option maxHeartbeats 4000000
set_option maxRecDepth 100000
namespace Go.Proofs.YtkghpdcloaiflaaGreatDoor
open _root_.Go.Proofs.Tryz
section
open Go.RowKit
theorem jQ.firstNew {w:World}{S:Nat->Prop}{K:Nat->Int}{V:Nat->List UInt8}(h:jQ w S K V){c r x:Nat}{k:Int}{v:List UInt8}(hc:w.cell? ⟨c,2,none⟩=some (aq r))(hr:S r)(hx:World.blk w x (qI k v (.pointer none) (.pointer none)) 265)(hn:¬ S x)(hk:0<=k/\k<4096):
  Calls prog 185 #[aq c,aq x] w fun e w'=>e=.returned (.tuple #[])/\jQ w' (fun b=>S b\/b=x) (upd K x k) (upd V x v)/\ah (fun b=>S b\/b=x) w w'/\w'.heap.size=w.heap.size:=by
 obtain⟨pv,nx,h⟩:=h;obtain⟨r1,r2,r3,_⟩:=h r hr;obtain⟨n1,_⟩:=h (nx r) r3;refine(zy w c x r (nx r) _ _ _ hc (aa r1 3) (ae r1 _ rfl) (aa hx 2) (ae hx _ rfl) (aa hx 3) (ae hx _ rfl) (aa n1 2) (ae n1 _ rfl)).mono ?_;rintro e w' ⟨rfl,m,rfl⟩;refine⟨rfl,?_,(((((ah.refl (fun b=>S b\/b=x) w).setCell (p:=⟨x,2,none⟩) (.inl (.inr rfl)) _).setCell (p:=⟨x,3,none⟩) (.inl (.inr rfl)) _).setCell (p:=⟨r,3,none⟩) (.inl (.inl hr)) _).setCell (p:=⟨nx r,2,none⟩) (.inl (.inl r3)) _).drewN m,by simp[go_sem]⟩;have R1:jQ ((w.setCell ⟨x,2,none⟩ (aq r)).setCell ⟨x,3,none⟩ (aq (nx r))) (fun b=>S b\/b=x) (upd K x k) (upd V x v):=by
  refine⟨upd pv x r,upd nx x (nx r),fun b hb=>?_⟩;by_cases e:b=x
  ·subst e;simp only[kP];exact⟨ag (ag hx 2 _) 3 _,.inl hr,.inl r3,hk⟩
  ·have TW:=hb.resolve_right e;simp only[iY _ _ e];obtain⟨b1,b2,b3,b4⟩:=h b TW;exact⟨bD (bD b1 ⟨x,2,none⟩ e _) ⟨x,3,none⟩ e _,.inl b2,.inl b3,b4⟩
 exact((R1.next (.inr rfl)).prev (.inr rfl)).same fun b hb=>rfl
theorem C9 {w:World}{c:Nat}{M:Int->Option (List UInt8)}{F:Nat->Prop}(h:gK w c M F)(k:Int)(hk:0<=k/\k<4096)(v:List UInt8):
  Calls prog 113 #[aq c,.int .i64 k,.string ⟨v.toArray⟩] w fun e w'=>(∃ u,e=.returned u)/\∃ M' F',gK w' c M' F'/\ec F F' w w'/\∀ j s,M' j=some s->(j=k/\s=v)\/(j≠k/\M j=some s):=by
 obtain⟨r,mb,S,K,V,l,h,hM⟩:=h;have H:=hd0 h;have HM:=hd0 hM;have c1:w.cell? ⟨c,1,none⟩=some (.map (some mb)):=aa h.own 1;have lk:=dH.look (tm:=260) h.of underlying260 underlying3 (qJ w) k ⟨by omega,by omega⟩;obtain⟨q,hq⟩:∃ q,bE k l=q:=⟨_,rfl⟩
 have Hq:=hd0 hq;rw[hq]at lk
 cases q with
 |some b=>
  have hb:=h.keys _ (oP hq);have Hb:=hd0 hb;have VL:=h.ring.thing b v;have T8:ah S w (w.setCell ⟨b,1,none⟩ (.string ⟨v.toArray⟩)):=(ah.refl S w).setCell (p:=⟨b,1,none⟩) (.inl hb.1) _;have H0:=hd0 (h.turn T8 VL);have HM0:=hd0 T8;have O:=hd0 (VL.out (aq c) hb.1);have e1:w.cell? ⟨b,1,none⟩=some (.string ⟨(V b).toArray⟩):=by
   obtain⟨pv,nx,hr⟩:=h.ring;exact aa (hr b hb.1).1 1
  have f1:w.frozen? ⟨b,1,none⟩=false:=by
   obtain⟨pv,nx,hr⟩:=h.ring;exact ae (hr b hb.1).1 _ rfl
  clear h hM hq hb VL T8;go_enter func113,ntmps113;go_wp2_with fail;refine O.out.mono ?_;rintro e w1 ⟨rfl,XQ,mW,_⟩;have H1:=hd0 (H0.out.turn mW XQ);have yD:=hd0 (HM0.out.trans mW fun _ _ h=>h);clear XQ mW;go_wp2_with fail;refine(H1.out.ring.first (aa H1.out.own 2) H.out.root Hb.out.1).mono ?_;rintro e w2 ⟨rfl,RQ,gX,_⟩;have H2:=hd0 (H1.out.turn gX RQ);have oD:=hd0 (yD.out.trans gX fun _ _ h=>h);clear RQ gX
  go_wp2
  go_ret2;refine⟨⟨_,rfl⟩,fun j=>(bE j l).map (upd V b v),F,⟨r,mb,S,K,_,l,H2.out,fun _=>rfl⟩,⟨oD.out.mono (fun i _ h=>H.out.fs i h),fun _ h=>.inl h⟩,fun j s hj=>?_⟩;have hj:(bE j l).map (upd V b v)=some s:=hj;by_cases yg:j=k
  ·subst yg;rw[Hq.out]at hj;simp only[avO,kP,Option.some.injEq]at hj;exact .inl ⟨rfl,hj.symm⟩
  ·refine .inr ⟨yg,?_⟩;rw[HM.out]
   cases hg:bE j l with
   |none=>rw[hg]at hj;cases hj
   |some b'=>
    rw[hg]at hj;have dZ:b'≠b:=fun e=>yg (by
     have h1:=(H.out.keys _ (oP hg)).2;have h2:=Hb.out.2;simp only at h1 h2;rw[<-h1,<-h2,e])
    simpa[iY _ _ dZ]using hj
 |none=>
  have pC:=Li h.one h.range;have rp:=h.lt c h.fc;have CC:=h.lt mb h.fm;obtain⟨W0,uC⟩:∃ W0,W0=w.alloc (.cells (qI k v (.pointer none) (.pointer none)) 265):=⟨_,rfl⟩
  have m0:af w W0:=by rw[uC];exact(ah.refl _ w).alloc _
  have x0:World.blk W0 w.heap.size (qI k v (.pointer none) (.pointer none)) 265:=by rw[uC];exact aw _ _ _
  have z0:W0.heap.size=w.heap.size+1:=by rw[uC];simp
  obtain⟨w2,tT,aez,j7⟩:=dH.store (tm:=260) (dH.mod h.of m0 id) underlying260 underlying3 k ⟨by omega,by omega⟩ w.heap.size (by omega);have NN:=ab j7 (ab m0 h.own id) h.apart.1;have x2:=ab j7 x0 (show w.heap.size≠mb by omega);have YF:jQ w2 S K V:=h.ring.same fun b hb=>(j7.block b (by have:=h.lt b (h.fs b hb);omega) (fun e=>h.apart.2.2 (e▸hb))).trans (m0.block b (h.lt b (h.fs b hb)) id);have pD:¬ S w.heap.size:=fun hs=>by have:=h.lt _ (h.fs _ hs);omega
  have O:=hd0 (YF.firstNew (c:=c) (aa NN 2) h.root x2 pD hk);have ae3:=hd0 NN;have ai8:=hd0 aez;have Hm2:Hid (ah F w w2):=hd0 ((m0.mono (T:=F) (fun _ _ h=>h.elim)).trans (j7.mono (T:=F) (fun i _ e=>by subst e;exact h.fm)) (fun _ _ h=>h));have Hz2:Hid (w.heap.size<w2.heap.size):=hd0 (by have:=j7.size;omega);have d1:W0.cell? ⟨c,1,none⟩=some (.map (some mb)):=aa (ab m0 h.own id) 1;rw[uC]at tT d1;unfold qI at tT d1;have Cy:=hd0 pD;clear h hM hq NN x2 YF aez j7 x0 m0 uC z0 pD;go_enter func113,ntmps113;go_wp2_with fail;refine O.out.mono ?_;rintro e w3 ⟨rfl,hR3,ly,hz3⟩;have X3:iZ w3 c r mb (fun b=>S b\/b=w.heap.size) (upd K w.heap.size k) (upd V w.heap.size v) (eA kc k w.heap.size l) (fun b=>F b\/b=w.heap.size):=
   { own:=ab ly ae3.out (fun e=>e.elim H.out.apart.2.1 (fun e=>by omega)),of:=dH.mod ai8.out ly (fun e=>e.elim H.out.apart.2.2 (fun e=>by omega)),ring:=hR3,root:=.inl H.out.root,
     keys:=fun x hx=>by
      rcases Uo hx with rfl|⟨hx,_⟩
      ·exact⟨.inr rfl,kP _ _ _⟩
      ·obtain⟨h1,h2⟩:=H.out.keys x hx;exact⟨.inl h1,by rw[iY _ _ (fun e=>Cy.out (by rw[<-e];exact h1))];exact h2⟩,
     one:=Pk H.out.one,fc:=.inl H.out.fc,fm:=.inl H.out.fm,fs:=fun b hb=>hb.elim (fun h=>.inl (H.out.fs b h)) .inr,apart:=⟨H.out.apart.1,fun e=>e.elim H.out.apart.2.1 (fun e=>by omega),fun e=>e.elim H.out.apart.2.2 (fun e=>by omega)⟩,
     lt:=fun b hb=>by
      rw[hz3];have:=Hz2.out;rcases hb with hb|rfl
      ·exact auW (H.out.lt b hb) Hm2.out.size
      ·exact this }
  have H3:=hd0 X3;have nT:Hid (ah F w w3):=hd0 (Hm2.out.trans ly (fun i hi h=>h.elim (H.out.fs i) (fun e=>by omega)));have Hk3:Hid (∀ j s,(bE j (eA kc k w.heap.size l)).map (upd V w.heap.size v)=some s->(j=k/\s=v)\/(j≠k/\M j=some s)):=hd0 (fun j s hj=>by
   rw[kx]at hj;split at hj
   ·rename_i e
    simp only[avO,kP,Option.some.injEq]at hj;exact .inl ⟨e,hj.symm⟩
   ·rename_i e
    refine .inr ⟨e,?_⟩;rw[HM.out]
    cases hg:bE j l with
    |none=>rw[hg]at hj;cases hj
    |some b'=>
     rw[hg]at hj;have dZ:b'≠w.heap.size:=fun e=>Cy.out (by rw[<-e];exact(H.out.keys _ (oP hg)).1);simpa[iY _ _ dZ]using hj)
  have d0:w3.cell? ⟨c,0,none⟩=some (.int .i64 32):=aa X3.own 0;have d1:w3.cell? ⟨c,1,none⟩=some (.map (some mb)):=aa X3.own 1;have d2:w3.cell? ⟨c,2,none⟩=some (aq r):=aa X3.own 2;have aW:=dH.len (tm:=260) (show dH prog 3 w3.drew mb _ from X3.of) underlying260 3;obtain⟨len,hl⟩:∃ len,(eA kc k w.heap.size l).length=len:=⟨_,rfl⟩
  rw[hl]at aW;have lw:len<=4097:=by
   have:=pM k w.heap.size l;rw[hl,Hq.out]at this;simp at this;omega
  clear hR3 ly hz3 X3 hl;go_wp2_with fail
  go_region
  have H4:Hid (iZ w3.drew c r mb (fun b=>S b\/b=w.heap.size) (upd K w.heap.size k) (upd V w.heap.size v) (eA kc k w.heap.size l) (fun b=>F b\/b=w.heap.size)):=hd0 (H3.out.same (fun _ _ _=>rfl) (auP _));have ry:Hid (ah F w w3.drew):=hd0 nT.out.drew;obtain⟨w4,Xn⟩:∃ w4,w3.drew=w4:=⟨_,rfl⟩
  rw[Xn]at H4 ry;have d0:w4.cell? ⟨c,0,none⟩=some (.int .i64 32):=by rw[<-Xn];exact d0
  have d1:w4.cell? ⟨c,1,none⟩=some (.map (some mb)):=by rw[<-Xn];exact d1
  have d2:w4.cell? ⟨c,2,none⟩=some (aq r):=by rw[<-Xn];exact d2
  have hz4:w.heap.size<=w4.heap.size:=ry.out.size;rw[Xn];clear aW Xn H3 nT;by_cases akt:len<=32
  ·have hf:(len:Int)<=32:=by omega
   go_wp2
   go_ret2;exact⟨⟨_,rfl⟩,_,_,⟨r,mb,_,_,_,_,H4.out,fun _=>rfl⟩,⟨ry.out,fun b hb=>hb.elim .inl (fun e=>.inr (by omega))⟩,Hk3.out⟩
  ·have hf:¬(len:Int)<=32:=by omega
   obtain⟨pv,nx,hr⟩:=H4.out.ring;obtain⟨r1,r2,_,_⟩:=hr r (.inl H.out.root);obtain⟨p1,_,_,hk1⟩:=hr _ r2;have g2:w4.cell? ⟨r,2,none⟩=some (aq (pv r)):=aa r1 2;have g0:w4.cell? ⟨pv r,0,none⟩=some (.int .i64 (upd K w.heap.size k (pv r))):=aa p1 0;obtain⟨kk,sK⟩:∃ kk,upd K w.heap.size k (pv r)=kk:=⟨_,rfl⟩
   rw[sK]at g0 hk1;have D:=hd0 (YS H4.out kk hk1);have Yq:=hd0 sK;obtain⟨pb,mY⟩:∃ pb,pv r=pb:=⟨_,rfl⟩
   rw[mY]at g2 g0 sK r2;have Hr2:=hd0 r2;clear hr r1 p1 hk1 mY sK Yq r2;go_wp2_with fail;refine D.out.mono ?_;rintro e w5 ⟨⟨u,rfl⟩,⟨l',hX,Ua⟩,yV,hz5⟩;obtain⟨k5,g5⟩:∃ k5,w5.cell? ⟨pb,0,none⟩=some (.int .i64 k5):=by
    obtain⟨pv5,nx5,hr5⟩:=hX.ring;exact⟨_,aa (hr5 pb Hr2.out).1 0⟩
   have HX:=hd0 hX;have Hl':=hd0 Ua;have Cs:Hid (ah F w w5):=hd0 (ry.out.trans yV (fun i hi h=>h.elim id (fun e=>by omega)));clear hX Ua yV hz5
   go_wp2
   go_ret2;refine⟨⟨_,rfl⟩,_,_,⟨r,mb,_,_,_,_,HX.out,fun _=>rfl⟩,⟨Cs.out,fun b hb=>hb.elim .inl (fun e=>.inr (by omega))⟩,fun j s hj=>Hk3.out j s ?_⟩;have hj:(bE j l').map (upd V w.heap.size v)=some s:=hj;rw[Hl'.out]at hj;split at hj
   ·cases hj
   ·exact hj
end
section
open Go.RowKit
theorem Pm (w:World):
  Calls prog 235 #[.int .i64 32] w fun e w'=>∃ c,e=.returned (.tuple #[aq c,.int .i64 0])/\w.heap.size<=c/\af w w'/\∃ F,gK w' c (fun _=>none) F/\∀ b,F b->w.heap.size<=b:=by
 obtain⟨W,hW⟩:∃ W,W=((w.alloc (.map #[] 0)).alloc (.cells (qI 0 [] (.pointer none) (.pointer none)) 265)).alloc (.cells #[.int .i64 32,.map (some w.heap.size),aq (w.heap.size+1)] 262):=⟨_,rfl⟩
 have m0:af w W:=by rw[hW];exact(((ah.refl _ w).alloc _).alloc _).alloc _
 have s0:W.heap.size=w.heap.size+3:=by rw[hW];simp
 have bm:dH prog 3 W w.heap.size []:=by
  have h1:dH prog 3 (w.alloc (.map #[] 0)) w.heap.size []:=dH.made w;rw[hW];exact dH.mod h1 (((ah.refl _ _).alloc _).alloc _:af _ _) id
 have be:World.blk W (w.heap.size+1) (qI 0 [] (.pointer none) (.pointer none)) 265:=by
  rw[hW];refine aH ?_ _;exact bi (by simp) _ _
 have bc:World.blk W (w.heap.size+2) #[.int .i64 32,.map (some w.heap.size),aq (w.heap.size+1)] 262:=by
  rw[hW];exact bi (by simp) _ _
 have e2:=aa be 2;have e3:W.cell? ⟨w.heap.size+1,3,none⟩=some (.pointer none):=aa be 3;have f2:=ae be ⟨w.heap.size+1,2,none⟩ rfl;have f3:=ae be ⟨w.heap.size+1,3,none⟩ rfl;have c2:W.cell? ⟨w.heap.size+2,2,none⟩=some (aq (w.heap.size+1)):=aa bc 2;have e2':W.cell? ⟨w.heap.size+1,2,none⟩=some (.pointer none):=e2;have Hbe:=hd0 be;have Hbc:=hd0 bc;have Hbm:=hd0 bm;have HW:=hd0 hW;clear hW be bc bm e2;have I7:=@run_makeMap prog;go_enter func235,ntmps235;go_wp2_with fail
 go_simp
 have eW:W=((w.alloc (.map #[] 0)).alloc (.cells #[.int .i64 0,.string ⟨#[]⟩,.pointer none,.pointer none] 265)).alloc (.cells #[.int .i64 32,.map (some w.heap.size),aq (w.heap.size+1)] 262):=HW.out;rw[<-eW];have EW:=hd0 eW;clear eW I7;refine dD 18 (by kernel_rfl) (by kernel_rfl) ?_;simp only[avz,avA,avB,avC]
 repeat (quiet_step (fail))
 refine avE ?_;intro _ cL;obtain⟨nq,rfl⟩:=cL
 go_wp2
 go_ret2;have mk:ah (fun b=>b=w.heap.size+1) W (((W.setCell ⟨w.heap.size+1,2,none⟩ (aq (w.heap.size+1))).setCell ⟨w.heap.size+1,3,none⟩ (aq (w.heap.size+1))).drewN nq):=
  (((ah.refl (fun b=>b=w.heap.size+1) W).setCell (p:=⟨w.heap.size+1,2,none⟩) (.inl rfl) _).setCell (p:=⟨w.heap.size+1,3,none⟩) (.inl rfl) _).drewN nq
 refine⟨w.heap.size+1+1,rfl,by omega,m0.trans mk (fun i hi e=>by omega),fun b=>b=w.heap.size\/b=w.heap.size+1\/b=w.heap.size+2,⟨w.heap.size+1,w.heap.size,fun b=>b=w.heap.size+1,fun _=>0,fun _=>[],[],?_,fun _=>rfl⟩,fun b hb=>by rcases hb with rfl|rfl|rfl<;>omega⟩
 exact { own:=ab mk Hbc.out (by omega),of:=dH.mod Hbm.out mk (by omega),
         ring:=⟨fun _=>w.heap.size+1,fun _=>w.heap.size+1,fun b hb=>by
          subst hb;exact⟨fR (ag (ag Hbe.out 2 _) 3 _) nq,rfl,rfl,by show(0:Int)<=0;omega,by show(0:Int)<4096;omega⟩⟩,
         root:=rfl,keys:=by simp,one:=List.nodup_nil,fc:=.inr (.inr rfl),fm:=.inl rfl,fs:=fun b hb=>.inr (.inl hb),apart:=⟨by omega,by omega,by omega⟩,
         lt:=fun b hb=>auW (by rcases hb with rfl|rfl|rfl<;>omega:b<W.heap.size) mk.size }
end
section
open Go.RowKit Go.Shelf
attribute [local go_sem] auG
theorem Pn (s:List UInt8)(w:World)(hs:s.length<=1000000):
  Calls prog 288 #[.string ⟨s.toArray⟩] w fun e w'=>e=.returned (.string ⟨(KV KX s).toArray⟩)/\af w w':=by
 have H:=hd0 (CP KX s w rfl (by omega));go_enter func288,ntmps288;go_wp2_with fail;refine H.out.mono ?_;rintro e w1 ⟨rfl,hk⟩;have HK:=hd0 hk;clear hk;go_wp2;go_ret;exact⟨rfl,HK.out⟩
theorem JI (k:Nat):Lib.repeatL [(0:UInt8)] k=List.replicate k 0:=by
 induction k with
 |zero=>rfl
 |succ k ih=>simp[Lib.repeatL,List.replicate_succ]at ih ⊢;first|exact ih|skip
theorem vW (s:List UInt8)(n:Nat)(w:World)(hs:s.length<=n)(hn:n<=100000):
  Calls prog 242 #[.string ⟨s.toArray⟩,.int .i64 (n:Int)] w fun e w'=>e=.returned (.string ⟨(nA s n).toArray⟩)/\af w w':=by
 have R:=hd0 (Tryz.strings_Repeat ⟨[(0:UInt8)].toArray⟩ (n-s.length) w (by omega) (by show 1*(n-s.length)<=_;omega));have uT:((n-s.length:Nat):Int)=(n:Int)-(s.length:Int):=by omega
 have B:=fun W=>Pn (s++List.replicate (n-s.length) 0) W (by simp;omega);have HB:=hd0 B;clear B;go_enter func242,ntmps242;go_wp2_with fail;rw[<-uT];refine R.out.mono ?_;rintro e w1 ⟨rfl,hb⟩;have bS:=hd0 (ah.ofBelow hb);clear hb;have er:Lib.repeatL (ByteArray.mk [(0:UInt8)].toArray).data.toList (n-s.length)=List.replicate (n-s.length) 0:=JI _;rw[er];have Fr:nA s n=(s++List.replicate (n-s.length) 0)++KV KX (s++List.replicate (n-s.length) 0):=rfl;have hzl:(List.replicate (n-s.length) (0:UInt8)).length=n-s.length:=by simp
 have hql:(KV KX (s++List.replicate (n-s.length) 0)).length=8:=JC _ _;have B:=HB.out;generalize List.replicate (n-s.length) (0:UInt8)=z at Fr hzl hql B ⊢;generalize KV KX (s++z)=q at Fr hql B;have jL:=hd0 B;have Hfl:=hd0 Fr;clear B HB Fr er;go_wp2_with fail;refine(jL.out _).mono ?_;rintro e w2 ⟨rfl,hk⟩;have bw:=hd0 (bS.out.trans hk (fun _ _ h=>h));clear hk;go_wp2;go_ret;exact⟨by rw[Hfl.out,avu];rfl,bw.out⟩
theorem zz (p:List UInt8)(w:World)(hp:p.length<=240):
  Calls prog 188 #[.string ⟨p.toArray⟩] w fun e w'=>e=.returned (.tuple #[.string ⟨(d7 p).toArray⟩,.int .i64 0])/\af w w':=by
 have F:=fun W=>vW ([UInt8.ofNat (p.length%256),UInt8.ofNat (p.length/256%256)]++p) 248 W (by simp;omega) (by omega);have HF:=hd0 F;clear F;have h1:¬(240:Int)<(p.length:Int):=by omega
 have yv:(convert 131 9 (.slice (some ⟨w.heap.size,0,none⟩) 2 2)).run prog (w.alloc (.cells #[.int .u8 (p.length:Int),.int .u8 ((p.length:Int)/256)] 5))=.ok (.string ⟨[UInt8.ofNat (p.length%256),UInt8.ofNat (p.length/256%256)].toArray⟩) (w.alloc (.cells #[.int .u8 (p.length:Int),.int .u8 ((p.length:Int)/256)] 5)):=by
  have h:=CK (P:=prog) (ts:=131) (td:=9) (te:=5) underlying131 underlying5 underlying9 w w.heap.size 0 [UInt8.ofNat (p.length%256),UInt8.ofNat (p.length/256%256)] rfl;have e:aQ [UInt8.ofNat (p.length%256),UInt8.ofNat (p.length/256%256)]=#[.int .u8 (p.length:Int),.int .u8 ((p.length:Int)/256)]:=by
   have e1:((UInt8.ofNat (p.length%256)).toNat:Int)=(p.length:Int):=by simp;omega
   have e2:((UInt8.ofNat (p.length/256%256)).toNat:Int)=(p.length:Int)/256:=by simp;omega
   simp only[aQ,gx,auJ,List.map_nil,e1,e2]
  rw[e]at h;exact h
 go_enter func188,ntmps188;go_wp2_with fail;refine(HF.out _).mono ?_;rintro e w1 ⟨rfl,hk⟩;have HK:=hd0 (((ah.refl (fun _=>False) w).alloc _).keep hk);clear hk;go_wp2;go_ret2;exact⟨rfl,HK.out⟩
end
section
open Go.RowKit
theorem zA (d:Nat)(h:d<10):(UInt8.ofNat (48+d)).toNat=48+d:=by simp;omega
theorem Gv (u:Nat):∀ c∈Lib.decDigits u,48<=c.toNat/\c.toNat<=57:=by
 induction u using Nat.strongRecOn with
 |_ u ih=>
  intro c hc;rw[Lib.decDigits]at hc;split at hc
  ·rename_i h
   simp only[awg]at hc;rw[hc,zA u h];omega
  ·rename_i h
   rcases avP.1 hc with hc|hc
   ·exact ih (u/10) (by omega) c hc
   ·simp only[awg]at hc;rw[hc,zA (u%10) (by omega)];omega
theorem Gw (n:Int)(h0:0<=n):∀ c∈Lib.itoa n,48<=c.toNat/\c.toNat<=57:=by
 obtain⟨u,rfl⟩:∃ u:Nat,n=u:=⟨n.toNat,by omega⟩
 rw[Lib.itoa_nonneg];exact Gv u
end
end Go.Proofs.YtkghpdcloaiflaaGreatDoor
section
namespace Go.Proofs.YtkghpdcloaiflaaGreatDoor
open _root_.Go.Proofs.Tryz
open Go.RowKit
theorem Db {P:Program}{ts td te:TypeId}(hs:P.underlying ts=some (.slice te))(he:P.underlying te=some (.int .u8))(hd:P.underlying td=some .string)(x:Int)(hx:0<=x/\x<256)(W:World)(b:Nat)(h:W.cell? ⟨b,0,none⟩=some (.int .u8 x)):
  (convert ts td (.slice (some ⟨b,0,none⟩) 1 1)).run P W=.ok (.string ⟨[UInt8.ofNat x.toNat].toArray⟩) W:=
 pG W ts td te b 0 1 1 [UInt8.ofNat x.toNat] hs he hd rfl (fun j hj=>by
  obtain rfl:j=0:=by omega
  rw[avy,h];simp only[gx,auJ,List.map_nil,List.getElem?_cons_zero]
  congr 2
  have e:(UInt8.ofNat x.toNat).toNat=x.toNat:=by simp;omega
  rw[e];omega)
theorem zB (x:Int)(h:0<=x/\x<256):IntKind.u8.wrap x=x:=by
 unfold IntKind.wrap;simp[IntKind.bits,IntKind.signed];omega
end Go.Proofs.YtkghpdcloaiflaaGreatDoor
namespace Go.Proofs.YtkghpdcloaiflaaGreatDoor
open _root_.Go.Proofs.Tryz
open Go.RowKit
theorem aS {P:Program}{t:TypeId}(h:P.underlying t=some .string)(l:List UInt8)(k:IntKind)(i:Int)(c:UInt8)(h0:0<=i)(hc:l[i.toNat]?=some c)(w:World):
  (Instr.index t (.string ⟨l.toArray⟩) (.int k i)).run P w=.ok (.int .u8 (c.toNat:Int)) w:=by
 have aK:=(au0.1 hc).1;have rl:=(au0.1 hc).2;rw[run_index_string w t _ k i h];have cJ:({ data:=l.toArray }:ByteArray).size=l.length:=by simp[ByteArray.size]
 rw[dif_pos (by rw[cJ];omega)];rw[<-rl];rfl
end Go.Proofs.YtkghpdcloaiflaaGreatDoor
end
namespace Go.Proofs.YtkghpdcloaiflaaGreatDoor
open _root_.Go.Proofs.Tryz
section
open Go.RowKit Go.Shelf
attribute [local go_sem] auG
theorem Gx {s p:List UInt8}(h:kJ s=.ok p):s.length=256/\∃ b0 b1,s[0]?=some b0/\s[1]?=some b1/\b0.toNat+256*b1.toNat<=240/\p=(s.drop 2).take (b0.toNat+256*b1.toNat)/\d7 p=s:=by
 unfold kJ at h;split at h
 ·cases h
 ·rename_i hl
  have hl:s.length=256:=by omega
  simp only at h;split at h
  ·cases h
  ·rename_i hn
   split at h
   ·rename_i hf
    injection h with h;have e0:s[0]?=some (s.getD 0 0):=by simp[List.getD,hl]
    have e1:s[1]?=some (s.getD 1 0):=by simp[List.getD,hl]
    exact⟨hl,_,_,e0,e1,by omega,h.symm,by rw[<-h];exact hf⟩
   ·cases h
theorem Up (b:UInt8):bits .or .i64 (b.toNat:Int) 0=(b.toNat:Int):=by
 have key:∀ n:Fin 256,bits .or .i64 (n.1:Int) 0=(n.1:Int):=by decide +kernel
 exact key ⟨b.toNat,b.toNat_lt⟩
theorem Dc (s p:List UInt8)(w:World)(h:kJ s=.ok p):
  Calls prog 111 #[.string ⟨s.toArray⟩] w fun e w'=>e=.returned (.tuple #[.string ⟨p.toArray⟩,.int .i64 0])/\af w w':=by
 obtain⟨hl,b0,b1,h0,h1,hn,hp,hf⟩:=Gx h;have sP:=aS (P:=prog) underlying9 s .i64 0 b0 (by omega) (by simpa using h0);have B3:=aS (P:=prog) underlying9 s .i64 1 b1 (by omega) (by simpa using h1);have F:=zz p;rw[hf]at F;have HF:=hd0 F;have j8:p.length<=240:=by rw[hp];simp;omega
 have lw:(s.length:Int)=256:=by omega
 have hb1:b1.toNat=0:=by omega
 rw[hb1]at hp hn B3;have hor:=Up b0;have Hp:Hid (p=(s.drop 2).take b0.toNat):=hd0 (by simpa using hp);have iJ:b0.toNat<=240:=by omega
 clear h h0 h1 hp hf F;go_enter func111,ntmps111;go_wp2_with fail
 go_region
 have HPl:=hd0 j8;go_wp2_with fail;have ep:(List.drop 2 s).take b0.toNat=p:=Hp.out.symm;have e2:2+b0.toNat-2=b0.toNat:=by omega
 rw[e2,ep];refine(HF.out _ HPl.out).mono ?_;rintro e w1 ⟨rfl,hk⟩;have HK:=hd0 (((ah.refl (fun _=>False) w).drew).keep hk);clear hk;go_wp2;go_ret2;exact⟨rfl,HK.out⟩
end
section
open Go.RowKit
def l9 (pd pc:Nat)(text:List UInt8)(num:Nat):Array Value:=#[aq pd,.string ⟨text.toArray⟩,.int .i64 (num:Int),aq pc,.bool false]
structure qi (w:World)(v pd pc:Nat)(d:Dk)(text:List UInt8)(num:Nat)(M:Int->Option (List UInt8))(Fd Fc F:Nat->Prop):Prop where
 own:World.blk w v (l9 pd pc text num) 171
 disk:bB w pd d Fd
 cache:gK w pc M Fc
 good:∀ k s,M k=some s->iy d k=.ok s
 fv:F v
 fd:∀ b,Fd b->F b
 fc:∀ b,Fc b->F b
 apart:∀ b,Fd b->¬ Fc b
 nd:¬ Fd v
 nc:¬ Fc v
 many:32<=d.size/\d.size<=16384
 num:num<=1099511627776
 lt:∀ b,F b->b<w.heap.size
def ig (w:World)(v:Nat)(d:Dk)(text:List UInt8)(num:Nat)(F:Nat->Prop):Prop:=∃ pd pc M Fd Fc,qi w v pd pc d text num M Fd Fc F
theorem qi.same {w w':World}{v pd pc:Nat}{d:Dk}{text:List UInt8}{num:Nat}{M:Int->Option (List UInt8)}{Fd Fc F:Nat->Prop}(h:qi w v pd pc d text num M Fd Fc F)(m:fG F w w')(hs:w.heap.size<=w'.heap.size):qi w' v pd pc d text num M Fd Fc F where
 own:=(m v h.fv (h.lt v h.fv)).trans h.own
 disk:=h.disk.same (fun b hb=>m b (h.fd b hb)) hs
 cache:=h.cache.same (fun b hb=>m b (h.fc b hb)) hs
 good:=h.good
 fv:=h.fv
 fd:=h.fd
 fc:=h.fc
 apart:=h.apart
 nd:=h.nd
 nc:=h.nc
 many:=h.many
 num:=h.num
 lt b hb:=auW (h.lt b hb) hs
theorem ig.same {w w':World}{v:Nat}{d:Dk}{text:List UInt8}{num:Nat}{F:Nat->Prop}(h:ig w v d text num F)(m:fG F w w')(hs:w.heap.size<=w'.heap.size):ig w' v d text num F:=by
 obtain⟨pd,pc,M,Fd,Fc,h⟩:=h;exact⟨pd,pc,M,Fd,Fc,h.same m hs⟩
theorem oQ {w:World}{v:Nat}{d:Dk}{text:List UInt8}{num:Nat}{F:Nat->Prop}(h:ig w v d text num F):
  Calls prog 99 #[aq v] w fun e w'=>e=.returned (.int .i64 ((d.size/4:Nat):Int))/\w'=w:=by
 obtain⟨pd,pc,M,Fd,Fc,h⟩:=h;have c0:w.cell? ⟨v,0,none⟩=some (aq pd):=aa h.own 0;have S:=hd0 (jB h.disk);have e4:((d.size/4:Nat):Int)=(d.size:Int)/4:=by omega
 have hm:(d.size:Int)<=16384:=by have:=h.many;omega
 clear h;go_enter func99,ntmps99;go_wp2_with fail;refine S.out.mono ?_;rintro e w1 ⟨rfl,rfl⟩
 go_wp2
 go_ret;exact⟨by rw[e4];rfl,rfl⟩
theorem Dd {w:World}{v:Nat}{d:Dk}{text:List UInt8}{num:Nat}{F:Nat->Prop}(h:ig w v d text num F)(n:Nat)(h1:1<=n)(h2:n<d.size/4):
  Calls prog 106 #[aq v,.int .i64 (n:Int)] w fun e w'=>e=.returned (.bool true)/\w'=w:=by
 have B:=hd0 (oQ h);have Cg:(1:Int)<=(n:Int):=by omega
 have AB:(n:Int)<((d.size/4:Nat):Int):=by omega
 generalize d.size/4=q at*;clear h h1 h2;go_enter func106,ntmps106;go_wp2_with fail;refine B.out.mono ?_;rintro e w1 ⟨rfl,rfl⟩
 go_wp2
 go_ret;exact⟨rfl,rfl⟩
theorem Lj {w:World}{v:Nat}{d:Dk}{text:List UInt8}{num:Nat}{F:Nat->Prop}(h:ig w v d text num F):
  Calls prog 142 #[aq v] w fun e w'=>e=.returned (.tuple #[.string ⟨text.toArray⟩,.int .i64 (num:Int)])/\∃ m,w'=w.drewN m:=by
 obtain⟨pd,pc,M,Fd,Fc,h⟩:=h;have c1:w.cell? ⟨v,1,none⟩=some (.string ⟨text.toArray⟩):=aa h.own 1;have c2:w.cell? ⟨v,2,none⟩=some (.int .i64 (num:Int)):=aa h.own 2;clear h;go_enter func142,ntmps142;go_wp2_with fail
 go_region
 go_wp2;go_ret2;exact⟨rfl,1,rfl⟩
theorem Po {w:World}{v pd pc:Nat}{d:Dk}{text:List UInt8}{num:Nat}{M:Int->Option (List UInt8)}{Fd Fc F:Nat->Prop}(h:qi w v pd pc d text num M Fd Fc F):
  Calls prog 109 #[aq v,.int .i64 0] w fun e w'=>e=.returned (.int .i64 0)/\qi w' v pd pc d text num M Fd Fc F/\ah (fun b=>b=v) w w':=by
 have c4:w.cell? ⟨v,4,none⟩=some (.bool false):=aa h.own 4;have f4:=ae h.own ⟨v,4,none⟩ rfl;have m:ah (fun b=>b=v) w (w.setCell ⟨v,4,none⟩ (.bool false)):=(ah.refl (fun b=>b=v) w).setCell (p:=⟨v,4,none⟩) (.inl rfl) _;have H:Hid (qi (w.setCell ⟨v,4,none⟩ (.bool false)) v pd pc d text num M Fd Fc F):=hd0
  { own:=ag h.own 4 _,disk:=h.disk.mod m (fun b hb e=>h.nd (e▸hb)),cache:=h.cache.same (m.on (fun b hb e=>h.nc (e▸hb))) m.size,good:=h.good,fv:=h.fv,fd:=h.fd,fc:=h.fc,apart:=h.apart,nd:=h.nd,nc:=h.nc,many:=h.many,num:=h.num,
    lt:=fun b hb=>auW (h.lt b hb) m.size }
 have HM:=hd0 m;clear h m;go_enter func109,ntmps109
 go_wp2
 go_ret;exact⟨rfl,H.out,HM.out⟩
end
section
open Go.RowKit
theorem cy {B b:Nat}{l:List UInt8}{w w':World}(h:dc B b l w)(k:af w w'):dc B b l w':=by
 rcases h with⟨hB,v,hb,ho,hn⟩|⟨hB,v,hb,ho,hn⟩
 ·exact .inl ⟨hB,v,k.obj hb id,iB ho k,hn⟩
 ·exact .inr ⟨hB,v,k.obj hb id,iB ho k,hn⟩
theorem uW {B b:Nat}{l:List UInt8}{w w':World}{S:Nat->Prop}(h:dc B b l w)(m:ah S w w')(hb:¬ S b)(hr:∀ k c fr,w.heap[k]?=some (.cells c 5 fr)->¬ S k):dc B b l w':=by
 have own:∀ {v:Value} {n:Nat} {xs:List Value},w.ownsRow B 5 1 v n xs->w'.ownsRow B 5 1 v n xs:=by
  rintro v n xs ⟨h1,h2|⟨g,cap,dz,a,b,c,d⟩⟩
  ·exact⟨h1,.inl h2⟩
  ·exact⟨h1,.inr ⟨g,cap,dz,a,b,m.obj c (hr g _ _ c),d⟩⟩
 rcases h with⟨hB,v,AP,ho,hn⟩|⟨hB,v,AP,ho,hn⟩
 ·exact .inl ⟨hB,v,m.obj AP hb,own ho,hn⟩
 ·exact .inr ⟨hB,v,m.obj AP hb,own ho,hn⟩
theorem db {w w2 w3:World}{B:Nat}(h:af w w2)(hb:Below B w2 w3)(hB:w.heap.size<=B):af w w3:=
 ⟨hb.os.trans h.os,hb.tape.trans h.tape,hb.output.trans h.output,auI h.size hb.size,fun k hk _=>(hb.block k (auW hk hB)).trans (h.block k hk id)⟩
def Uq (w:World)(b:Nat)(k:Nat):Prop:=k=b\/∃ c fr,w.heap[k]?=some (.cells c 5 fr)
theorem Pp {w:World}{b k:Nat}{o:Obj}(hk:k≠b)(ho:w.heap[k]?=some o)(ht:∀ c fr,o≠.cells c 5 fr):¬ Uq w b k:=by
 rintro(h|⟨c,fr,h⟩)
 ·exact hk h
 ·rw[ho]at h;exact ht c fr (avR h)
theorem cP {w:World}{b k:Nat}{c:Array Value}{t:TypeId}(hk:k≠b)(ho:World.blk w k c t)(ht:t≠5):¬ Uq w b k:=
 Pp hk ho (fun c' fr e=>ht (by cases e;rfl))
theorem Gy (B b:Nat)(bs:List Value)(w:World)(h:Lib.IsBuilder 176 5 B b bs w):
  Calls prog 187 #[.pointer (some ⟨b,0,none⟩)] w fun e w'=>e=.returned (.tuple #[])/\(Lib.BuilderAt 176 5 B b (.pointer (some ⟨b,0,none⟩)) bs w'/\Below B w w'/\ah (·=b) w w'):=by
 rcases h with h|h
 ·refine(oe b w h.cell0 h.shape h.frozen0).mono ?_;rintro e w' ⟨rfl,rfl⟩;exact⟨rfl,h.used _,(Below.refl B w).setCell (p:=⟨b,0,none⟩) h.1 _,(ah.refl (fun x=>x=b) w).setCell (p:=⟨b,0,none⟩) (.inl rfl) _⟩
 ·refine(oN b w h.cell0).mono ?_;rintro e w' ⟨rfl,rfl⟩;exact⟨rfl,h,Below.refl B _,ah.refl _ _⟩
theorem jt (B b:Nat)(l s:List UInt8)(w:World)(h:dc B b l w)(aW:l.length+s.length<=140737488355328)(hBw:B<=w.heap.size):
  Calls prog 110 #[.pointer (some ⟨b,0,none⟩),.string ⟨s.toArray⟩] w fun e w'=>e=.returned (.tuple #[.int .i64 (s.length:Int),.nilIface])/\dc B b (l++s) w'/\Below B w w'/\ah (Uq w b) w w':=by
 unfold dc at*;rw[Lib.byteCells_append];have ru:(Lib.byteCells l).length=l.length:=Lib.byteCells_length l;have rC:({ data:=s.toArray }:ByteArray).size=s.length:=by simp[ByteArray.size]
 have hsc:Lib.byteCells s=Lib.strCells ⟨s.toArray⟩:=rfl;rw[hsc];generalize Lib.byteCells l=bs at*;rw[<-ru]at aW;clear ru hsc;obtain⟨i0,hi,nY,mU,oE⟩:=auZ ke;have ajk:(s.length:Int)<=9223372036854775807:=by omega
 go_enter func110,ntmps110;go_wp2_with fail;refine(Gy B b bs _ h).mono ?_;rintro e w1 ⟨rfl,h1,hb1,mW⟩;obtain⟨hB,v,AP,aZ,dZ⟩:=h1;have c0:w1.cell? ⟨b,0,none⟩=some (.pointer (some ⟨b,0,none⟩)):=by rw[Lib.cell_of_heap AP];rfl
 have c1:w1.cell? ⟨b,1,none⟩=some v:=by rw[Lib.cell_of_heap AP];rfl
 go_wp2_with (at_builtin;refine Lib.wpList_append_own_string _ rfl _ _ 131 9 rfl B 5 i0 underlying131 underlying9 hi nY mU oE _ _ _ rfl aZ ⟨s.toArray⟩ rfl ?c3 ?c4 ?c5 ?_)
 case c3=>rw[rC];unfold maxLen;omega
 case c4=>rw[rC];omega
 case c5=>have:=hb1.size;omega
 intro v' w2 ow qv _;have aK:b<w1.heap.size:=by
  rcases Nat.lt_or_ge b w1.heap.size with h'|h'
  ·exact h'
  ·simp[Array.getElem?_eq_none h']at AP
 have eL:w2.heap[b]?=some (.cells #[.pointer (some ⟨b,0,none⟩),v] 176 (0,0)):=by
  rw[qv.block b aK (fun e=>dZ e.symm)];exact AP
 have d0:w2.cell? ⟨b,0,none⟩=some (.pointer (some ⟨b,0,none⟩)):=by rw[Lib.cell_of_heap eL];rfl
 have d1:w2.cell? ⟨b,1,none⟩=some v:=by rw[Lib.cell_of_heap eL];rfl
 have f1:w2.frozen? ⟨b,1,none⟩=false:=Lib.frozen_of_heap eL 1;obtain⟨ao,n',cap,rfl⟩:∃ ao n' cap,v'=.slice ao n' cap:=by
  rcases ow.2 with⟨hv,_⟩|⟨g,cap,dz,hv,_⟩
  ·exact⟨_,_,_,hv⟩
  ·exact⟨_,_,_,hv⟩
 have BM:Hid (ah (Uq w b) w w2):=hd0 ((mW.mono (fun i _ e=>.inl e)).grown qv (fun k hk=>by
  by_cases e:k=b
  ·exact .inl (.inl e)
  ·rcases Nat.lt_or_ge k w.heap.size with aK|hge
   ·refine .inl (.inr ?_);rcases aZ.2 with⟨hv,_⟩|⟨g,cap,dz,hv,_,hg,_⟩
    ·rw[hv]at hk;cases hk
    ·rw[hv]at hk;have:g=k:=by simpa[Value.ownBlock]using hk
     subst this;exact⟨_,_,(mW.block g aK e).symm.trans hg⟩
   ·exact .inr hge))
 have SS:=hd0 ow;have Hgr:=hd0 qv;have Hb1:=hd0 hb1;have Hb2:=hd0 eL;have SI:=hd0 aZ;have Hsl:=hd0 rC;clear ow qv hb1 eL aZ AP h c0 c1 hi nY mU oE rC mW;go_wp2;go_ret2;refine⟨rfl,.inr ?_,?_,?_⟩
 ·exact Lib.BuilderAt.put (T:=176) (e:=5) hB Hb2.out (bs':=bs++Lib.strCells ⟨s.toArray⟩) (by rw[au3,Lib.strCells_length];exact SS.out) Pf
 ·exact(Hb1.out.grown Hgr.out (by have:=Hb1.out.size;omega) (fun k hk=>(SI.out.lt k hk).1)).setCell (p:=⟨b,1,none⟩) hB _
 ·exact BM.out.setCell (p:=⟨b,1,none⟩) (.inl (.inl rfl)) _
end
section
open Go.RowKit Go.Shelf
attribute [local go_sem] auG
theorem Ur {d:Dk}{n:Nat}{p:List UInt8}(h1:1<=n)(h2:n<d.size/4)(h:iy d n=.ok p):kJ (eO d n)=.ok p:=by
 unfold iy at h;rw[auT ⟨by omega,by omega⟩]at h;simpa using h
theorem gK.lt {w:World}{c:Nat}{M:Int->Option (List UInt8)}{F:Nat->Prop}(h:gK w c M F)(b:Nat)(hb:F b):b<w.heap.size:=by
 obtain⟨r,mb,S,K,V,l,h,_⟩:=h;exact h.lt b hb
def upto (d:Dk)(n k:Nat):List UInt8:=(List.range k).flatMap fun i=>d.get (4*n+i)
theorem zC (d:Dk)(n k:Nat):upto d n (k+1)=upto d n k++d.get (4*n+k):=by
 unfold upto;rw[List.range_succ,au2];simp
theorem Lk (d:Dk)(n:Nat):upto d n 4=eO d n:=by
 unfold upto eO;simp[List.range_succ]
theorem De {d:Dk}(h:yF d){n:Nat}(hn:4*n+4<=d.size):∀ k,k<=4->(upto d n k).length=64*k
 |0,_=>rfl
 |k+1,hk=>by rw[zC,au3,De h hn k (by omega),AR h (by omega)];omega
theorem zD {w:World}{v:Nat}{d:Dk}{text:List UInt8}{num:Nat}{F:Nat->Prop}(h:ig w v d text num F)(n:Nat)(h1:1<=n)(h2:n<d.size/4)(p:List UInt8)(hp:iy d n=.ok p):
  Calls prog 57 #[aq v,.int .i64 (n:Int)] w fun e w'=>e=.returned (.tuple #[.string ⟨p.toArray⟩,.int .i64 0])/\∃ F',ig w' v d text num F'/\ec F F' w w':=by
 have MY:=hd0 (Dd h n h1 h2);have Hu:=hd0 (Ur h1 h2 hp);have Hp:=hd0 hp;obtain⟨pd,pc,M,Fd,Fc,h⟩:=h;have cJ:=h.many;have H:=hd0 h;have c4:w.cell? ⟨v,4,none⟩=some (.bool false):=aa h.own 4;have c3:w.cell? ⟨v,3,none⟩=some (aq pc):=aa h.own 3;have G:=hd0 (Pj h.cache (n:Int) ⟨by omega,by omega⟩);have Hgd:Hid (∀ s,M n=some s->s=p):=hd0 (fun s hs=>by have:=h.good _ _ hs;rw[hp]at this;injection this with e;exact e.symm);clear h hp;go_enter func57,ntmps57;go_wp2_with fail;refine MY.out.mono ?_;rintro e w0 ⟨rfl,rfl⟩;go_wp2_with fail;refine G.out.mono ?_;rintro e w1 ⟨rfl,AI,hk1⟩;have X1:qi w1 v pd pc d text num M Fd Fc F:={ own:=ab hk1.mod H.out.own H.out.nc,disk:=H.out.disk.mod hk1.mod H.out.apart,cache:=AI,good:=H.out.good,fv:=H.out.fv,fd:=H.out.fd,fc:=H.out.fc,apart:=H.out.apart,nd:=H.out.nd,nc:=H.out.nc,many:=H.out.many,num:=H.out.num,lt:=fun b hb=>auW (H.out.lt b hb) hk1.mod.size }
 have H1:=hd0 X1;have yD:Hid (ah F w0 w1):=hd0 (hk1.mod.mono fun i _ hi=>H.out.fc i hi);clear X1 AI hk1 c3 c4;obtain⟨q,hq⟩:∃ q,M (n:Int)=q:=⟨_,rfl⟩
 have Hq:=hd0 hq;rw[hq]
 cases q with
 |some s=>
  have es:=Hgd.out s hq;clear hq;go_wp2;go_ret2;exact⟨by rw[<-es];rfl,F,⟨pd,pc,M,Fd,Fc,H1.out⟩,yD.out,fun _ hb=>.inl hb⟩
 |none=>
  clear hq;go_wp2_with fail;have nS:=hd0 (nB w1);have Wi:Hid (qi (w1.alloc (.cells #[.pointer none,.slice none 0 0] 176)) v pd pc d text num M Fd Fc F):=hd0 (H1.out.same (fun b hb hl=>((ah.refl (fun _=>False) w1).alloc (.cells #[.pointer none,.slice none 0 0] 176)).block b hl id) (by simp));have h4:4*n+4<=d.size:=by omega
  go_loopw [35] (fun i wr=>∃ k:Nat,k<=4/\i=.int .i64 (k:Int)/\dc w1.heap.size w1.heap.size (upto d n k) wr/\qi wr v pd pc d text num M Fd Fc F/\ah F w1 wr)
   (fun i _=>4-(intOf i).toNat)
  case atStart=>exact⟨0,by omega,rfl,nS.out,Wi.out,(ah.refl F w1).alloc _⟩
  case round=>
   clear nS Wi;obtain⟨k,hk,rfl,hb,hx,hm⟩:=hrel;have HB:=hd0 hb;have HX:=hd0 hx;have HM:=hd0 hm;have e0:wr.cell? ⟨v,0,none⟩=some (aq pd):=aa hx.own 0;clear hb hx hm;by_cases aK:k<4
   ·have dR:(k:Int)<4:=by omega
    have R:=Lc HX.out.disk (4*n+k) (by omega);have ek:((4*n+k:Nat):Int)=4*(n:Int)+(k:Int):=by omega
    rw[ek]at R;have HR:=hd0 R;clear R;go_wp2_with fail;refine HR.out.mono ?_;rintro e w2 ⟨rfl,rfl⟩;go_wp2_with fail;refine(Po HX.out).mono ?_;rintro e w3 ⟨rfl,XG,ly⟩;have qx:=hd0 XG;have nT:=hd0 ly;clear XG ly;go_wp2_with fail;have ar9:=H1.out.lt v H1.out.fv;have rl:=AR HX.out.disk.ok (n:=4*n+k) (by omega);have yy:=De HX.out.disk.ok h4 k hk;have oo:=uW HB.out nT.out (by show ¬ w1.heap.size=v;omega) (fun j c fr hj e=>by
     subst e;have:=HX.out.own;rw[World.blk,hj]at this;simp at this)
    have qe:w1.heap.size<=w3.heap.size:=auI HM.out.size nT.out.size;refine(jt w1.heap.size w1.heap.size (upto d n k) (d.get (4*n+k)) w3 oo (by omega) qe).mono ?_;rintro e w4 ⟨rfl,Kx,tU,_⟩;rw[<-zC]at Kx;have m4:ah (fun i=>w1.heap.size<=i) w3 w4:=⟨tU.os,tU.tape,tU.output,tU.size,fun j hj hS=>tU.block j (by omega)⟩
    have FK:=hd0 Kx;have BQ:=hd0 (qx.out.same (m4.on (fun b hb hge=>by have:=H1.out.lt b hb;omega)) m4.size);have ry:Hid (ah F w1 w4):=hd0 ((HM.out.trans (nT.out.mono (T:=F) (fun i _ e=>by subst e;exact H1.out.fv)) (fun _ _ h=>h)).trans m4 (fun i hi hge=>by omega));clear Kx tU m4 oo;go_wp2_with fail;exact⟨⟨k+1,by omega,by go_num,FK.out,BQ.out,ry.out⟩,by simp[intOf];omega⟩
   ·obtain rfl:k=4:=by omega
    have qe:w1.heap.size<=wr.heap.size:=HM.out.size;have S:=hd0 (gN w1.heap.size w1.heap.size (upto d n 4) wr HB.out qe);rw[Lk]at S;go_wp2_with fail;refine S.out.mono ?_;rintro e w2 ⟨rfl,tU⟩;have m2:ah (fun i=>w1.heap.size<=i) wr w2:=⟨tU.os,tU.tape,tU.output,tU.size,fun j hj hS=>tU.block j (by omega)⟩
    have lH:=hd0 (HX.out.same (m2.on (fun b hb hge=>by have:=H1.out.lt b hb;omega)) m2.size);have oD:Hid (ah F w1 w2):=hd0 (HM.out.trans m2 (fun i hi hge=>by omega));clear tU m2;go_wp2_with fail;refine(Dc _ p w2 Hu.out).mono ?_;rintro e w3 ⟨rfl,dm⟩;have qx:=hd0 (lH.out.same (dm.on (fun _ _=>id)) dm.size);have nT:Hid (ah F w1 w3):=hd0 (oD.out.keep dm);have g3:w3.cell? ⟨v,3,none⟩=some (aq pc):=aa qx.out.own 3;clear dm;go_wp2_with fail;refine(C9 qx.out.cache (n:Int) ⟨by omega,by omega⟩ p).mono ?_;rintro e w4 ⟨⟨u,rfl⟩,M',WM,hc4,jo,hM'⟩;have Cc:w0.heap.size<=w3.heap.size:=auI yD.out.size nT.out.size;have X4:qi w4 v pd pc d text num M' Fd WM (fun b=>F b\/WM b):=
     { own:=ab jo.mod qx.out.own qx.out.nc,disk:=qx.out.disk.mod jo.mod qx.out.apart,cache:=hc4,
       good:=fun j s hj=>by
        rcases hM' j s hj with⟨rfl,rfl⟩|⟨_,h⟩
        ·exact Hp.out
        ·exact qx.out.good j s h
       fv:=.inl qx.out.fv,fd:=fun b hb=>.inl (qx.out.fd b hb),fc:=fun b hb=>.inr hb,
       apart:=fun b hb hc=>(jo.foot b hc).elim (qx.out.apart b hb) (fun hge=>by have:=qx.out.lt b (qx.out.fd b hb);omega),
       nd:=qx.out.nd,nc:=fun hc=>(jo.foot v hc).elim qx.out.nc (fun hge=>by have:=qx.out.lt v qx.out.fv;omega),many:=qx.out.many,num:=qx.out.num,
       lt:=fun b hb=>hb.elim (fun hb=>auW (qx.out.lt b hb) jo.mod.size) (fun hb=>hc4.lt b hb) }
    have BQ:=hd0 X4;have HK:Hid (ec F (fun b=>F b\/WM b) w0 w4):=hd0 ⟨(yD.out.trans nT.out (fun _ _ h=>h)).trans (jo.mod.mono (T:=F) (fun i _ hi=>qx.out.fc i hi)) (fun _ _ h=>h),
     fun b hb=>hb.elim .inl (fun hc=>(jo.foot b hc).elim (fun h=>.inl (qx.out.fc b h)) (fun h=>.inr (by omega)))⟩
    clear X4 hc4 jo hM';go_wp2;go_ret2;exact⟨rfl,_,⟨pd,pc,M',Fd,WM,BQ.out⟩,HK.out⟩
end
end Go.Proofs.YtkghpdcloaiflaaGreatDoor
