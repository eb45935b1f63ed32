import Derived.Test.YtkghpdcloaiflaaGreatDoorH06
import Derived.Lib.AtoiAllCases
import Derived.Lib.ItoaMem
set_option maxHeartbeats 4000000
set_option maxRecDepth 100000
namespace Go.Proofs.YtkghpdcloaiflaaGreatDoor
open _root_.Go.Proofs.Tryz
variable {c:Nat}{w:World}
section
open Go.RowKit
theorem jI.firstNew {S:Nat->Prop}{K:Nat->Int}{V:Nat->List UInt8}(h:jI w S K V){r x:Nat}{k:Int}{v:List UInt8}(hc:w.cell? ⟨c,2,none⟩=some (au r))(hr:S r)(hx:World.blk w x (qC k v (.pointer none) (.pointer none)) 265)(hn:¬ S x)(hk:0<=k/\k<4096):
  Calls prog 185 #[au c,au x] w λe w'=>e=.returned (.tuple #[])/\jI w' (λb=>S b\/b=x) (upd K x k) (upd V x v)/\ai (λb=>S b\/b=x) w w'/\w'.heap.size=w.heap.size:=by
 obtain⟨pv,nx,h⟩:=h;obtain⟨r1,r2,r3,_⟩:=h r hr;obtain⟨n1,_⟩:=h (nx r) r3;refine(zw w c x r (nx r) _ _ _ hc (aa r1 3) (ae r1 _ rfl) (aa hx 2) (ae hx _ rfl) (aa hx 3) (ae hx _ rfl) (aa n1 2) (ae n1 _ rfl)).mono ?_;rintro e w' ⟨rfl,m,rfl⟩;refine⟨rfl,?_,(((((ai.refl (λb=>S b\/b=x) w).setCell (p:=⟨x,2,none⟩) (.inl (.inr rfl)) _).setCell (p:=⟨x,3,none⟩) (.inl (.inr rfl)) _).setCell (p:=⟨r,3,none⟩) (.inl (.inl hr)) _).setCell (p:=⟨nx r,2,none⟩) (.inl (.inl r3)) _).drewN m,by simp[go_sem]⟩;have R1:jI ((w.setCell ⟨x,2,none⟩ (au r)).setCell ⟨x,3,none⟩ (au (nx r))) (λb=>S b\/b=x) (upd K x k) (upd V x v):=by
  refine⟨upd pv x r,upd nx x (nx r),λb hb=>?_⟩;by_cases e:b=x
  ·subst e;simp only[kx];exact⟨ah (ah hx 2 _) 3 _,.inl hr,.inl r3,hk⟩
  ·have Uo:=hb.resolve_right e;simp only[iS _ _ e];obtain⟨b1,b2,b3,b4⟩:=h b Uo;exact⟨aZ (aZ b1 ⟨x,2,none⟩ e _) ⟨x,3,none⟩ e _,.inl b2,.inl b3,b4⟩
 exact((R1.next (.inr rfl)).prev (.inr rfl)).same λb hb=>rfl
theorem Dg {M:Int->Option (List UInt8)}{F:Nat->Prop}(h:gz w c M F)(k:Int)(hk:0<=k/\k<4096)(v:List UInt8):
  Calls prog 113 #[au c,.int .i64 k,.string ⟨v.toArray⟩] w λe w'=>(∃ u,e=.returned u)/\∃ M' F',gz w' c M' F'/\dO F F' w w'/\∀ j s,M' j=some s->(j=k/\s=v)\/(j≠k/\M j=some s):=by
 obtain⟨r,mb,S,K,V,l,h,hM⟩:=h;obtain⟨H,HM⟩:=K2 h hM;have c1:w.cell? ⟨c,1,none⟩=some (.map (some mb)):=aa h.own 1;have lk:=dJ.look (tm:=260) h.of underlying260 underlying3 (qD w) k ⟨by omega,J⟩;obtain⟨q,hq⟩:∃ q,bM k l=q:=⟨_,rfl⟩
 have Hq:=Z hq;rw[hq]at lk
 cases q with
 |some b=>
  have hb:=h.keys _ (ox hq);have Hb:=Z hb;have hR0:=h.ring.thing b v;have Sk:ai S w (w.setCell ⟨b,1,none⟩ (.string ⟨v.toArray⟩)):=(ai.refl S w).setCell (p:=⟨b,1,none⟩) (.inl hb.1) _;obtain⟨H0,HM0,O⟩:=K3 (h.turn Sk hR0) Sk (hR0.o (au c) hb.1);have e1:w.cell? ⟨b,1,none⟩=some (.string ⟨(V b).toArray⟩):=by
   obtain⟨pv,nx,hr⟩:=h.ring;exact aa (hr b hb.1).1 1
  have f1:w.frozen? ⟨b,1,none⟩=false:=by
   obtain⟨pv,nx,hr⟩:=h.ring;exact ae (hr b hb.1).1 _ rfl
  clear h hM hq hb hR0 Sk;go_enter func113,ntmps113;go_wp2_with fail;refine O.mono ?_;rintro e w1 ⟨rfl,Zf,iB,_⟩;obtain⟨H1,rl⟩:=K2 (H0.turn iB Zf) (HM0.trans iB λ_ _ h=>h);clear Zf iB;go_wp2_with fail;refine(H1.ring.first (aa H1.own 2) H.root Hb.1).mono ?_;rintro e w2 ⟨rfl,SF,db,_⟩;obtain⟨H2,gi⟩:=K2 (H1.turn db SF) (rl.trans db λ_ _ h=>h);clear SF db
  go_wp2
  go_ret2;refine⟨⟨_,rfl⟩,λj=>(bM j l).map (upd V b v),F,⟨r,mb,S,K,_,l,H2.o,λ_=>rfl⟩,⟨gi.mono (λi _ h=>H.fs i h),λ_ h=>.inl h⟩,λj s hj=>?_⟩;have hj:(bM j l).map (upd V b v)=some s:=hj;by_cases AF:j=k
  ·subst AF;rw[Hq.o]at hj;simp only[aw7,kx,Option.some.injEq]at hj;exact .inl ⟨rfl,hj.symm⟩
  ·refine .inr ⟨AF,?_⟩;rw[HM.o]
   cases hg:bM j l with
   |none=>rw[hg]at hj;cases hj
   |some b'=>
    rw[hg]at hj;have eG:b'≠b:=λe=>AF (by
     have h1:=(H.keys _ (ox hg)).2;have h2:=Hb.2;simp only at h1 h2;rw[<-h1,<-h2,e])
    simpa[iS _ _ eG]using hj
 |none=>
  have ph:=Lr h.one h.range;have vh:=h.lt c h.fc;have CM:=h.lt mb h.fm;obtain⟨W0,pQ⟩:∃ W0,W0=w.alloc (.cells (qC k v (.pointer none) (.pointer none)) 265):=⟨_,rfl⟩
  have m0:af w W0:=by rw[pQ];exact(ai.refl _ w).alloc _
  have x0:World.blk W0 w.heap.size (qC k v (.pointer none) (.pointer none)) 265:=by rw[pQ];exact av _ _ _
  have z0:W0.heap.size=w.heap.size+1:=by rw[pQ];simp
  obtain⟨w2,nU,afA,jR⟩:=dJ.store (tm:=260) (dJ.mod h.of m0 id) underlying260 underlying3 k ⟨by omega,J⟩ w.heap.size J;have NP:=ab jR (ab m0 h.own id) h.apart.1;have x2:=ab jR x0 (show w.heap.size≠mb by omega);have Y1:jI w2 S K V:=h.ring.same λb hb=>(jR.block b (by have:=h.lt b (h.fs b hb);omega) (λe=>h.apart.2.2 (e▸hb))).trans (m0.block b (h.lt b (h.fs b hb)) id);have pn:¬ S w.heap.size:=λhs=>by have:=h.lt _ (h.fs _ hs);omega
  obtain⟨O,adP,akZ⟩:=K3 (Y1.firstNew (c:=c) (aa NP 2) h.root x2 pn hk) NP afA;have Hm2:Hid (ai F w w2):=Z ((m0.mono (T:=F) (λ_ _ h=>h.elim)).trans (jR.mono (T:=F) (λi _ e=>by subst e;exact h.fm)) (λ_ _ h=>h));have Hz2:Hid (w.heap.size<w2.heap.size):=Z (by have:=jR.size;omega);have d1:W0.cell? ⟨c,1,none⟩=some (.map (some mb)):=aa (ab m0 h.own id) 1;rw[pQ]at nU d1;unfold qC at nU d1;have yk:=Z pn;clear h hM hq NP x2 Y1 afA jR x0 m0 pQ z0 pn;go_enter func113,ntmps113;go_wp2_with fail;refine O.mono ?_;rintro e w3 ⟨rfl,hR3,nS,hz3⟩;have X3:iT w3 c r mb (λb=>S b\/b=w.heap.size) (upd K w.heap.size k) (upd V w.heap.size v) (ee jS k w.heap.size l) (λb=>F b\/b=w.heap.size):=
   { own:=ab nS adP.o (λe=>e.elim H.apart.2.1 (λe=>J)),of:=dJ.mod akZ.o nS (λe=>e.elim H.apart.2.2 (λe=>J)),ring:=hR3,root:=.inl H.root,
     keys:=λx hx=>by
      rcases UZ hx with rfl|⟨hx,_⟩
      ·exact⟨.inr rfl,kx _ _ _⟩
      ·obtain⟨h1,h2⟩:=H.keys x hx;exact⟨.inl h1,by rw[iS _ _ (λe=>yk.o (by rw[<-e];exact h1))];exact h2⟩,
     one:=Pu H.one,fc:=.inl H.fc,fm:=.inl H.fm,fs:=λb hb=>hb.elim (λh=>.inl (H.fs b h)) .inr,apart:=⟨H.apart.1,λe=>e.elim H.apart.2.1 (λe=>J),λe=>e.elim H.apart.2.2 (λe=>J)⟩,
     lt:=λb hb=>by
      rw[hz3];have:=Hz2.o;rcases hb with hb|rfl
      ·exact awg (H.lt b hb) Hm2.size
      ·exact this }
  have H3:=Z X3;have pU:Hid (ai F w w3):=Z (Hm2.trans nS (λi hi h=>h.elim (H.fs i) (λe=>J)));have Hk3:Hid (∀ j s,(bM j (ee jS k w.heap.size l)).map (upd V w.heap.size v)=some s->(j=k/\s=v)\/(j≠k/\M j=some s)):=Z (λj s hj=>by
   rw[j7]at hj;split at hj
   ·rename_i e
    simp only[aw7,kx,Option.some.injEq]at hj;exact .inl ⟨e,hj.symm⟩
   ·rename_i e
    refine .inr ⟨e,?_⟩;rw[HM.o]
    cases hg:bM j l with
    |none=>rw[hg]at hj;cases hj
    |some b'=>
     rw[hg]at hj;have eG:b'≠w.heap.size:=λe=>yk.o (by rw[<-e];exact(H.keys _ (ox hg)).1);simpa[iS _ _ eG]using hj)
  have d0:w3.cell? ⟨c,0,none⟩=some (.int .i64 32):=aa X3.own 0;have d1:w3.cell? ⟨c,1,none⟩=some (.map (some mb)):=aa X3.own 1;have d2:w3.cell? ⟨c,2,none⟩=some (au r):=aa X3.own 2;have bt:=dJ.len (tm:=260) (show dJ prog 3 w3.drew mb _ from X3.of) underlying260 3;obtain⟨len,hl⟩:∃ len,(ee jS k w.heap.size l).length=len:=⟨_,rfl⟩
  rw[hl]at bt;have kX:len<=4097:=by
   have:=py k w.heap.size l;rw[hl,Hq.o]at this;simp at this;omega
  clear hR3 nS hz3 X3 hl;go_wp2_with fail
  go_region
  have H4:Hid (iT w3.drew c r mb (λb=>S b\/b=w.heap.size) (upd K w.heap.size k) (upd V w.heap.size v) (ee jS k w.heap.size l) (λb=>F b\/b=w.heap.size)):=Z (H3.same (λ_ _ _=>rfl) (av9 _));have sG:Hid (ai F w w3.drew):=Z pU.drew;obtain⟨w4,Zn⟩:∃ w4,w3.drew=w4:=⟨_,rfl⟩
  rw[Zn]at H4 sG;have d0:w4.cell? ⟨c,0,none⟩=some (.int .i64 32):=by rw[<-Zn];exact d0
  have d1:w4.cell? ⟨c,1,none⟩=some (.map (some mb)):=by rw[<-Zn];exact d1
  have d2:w4.cell? ⟨c,2,none⟩=some (au r):=by rw[<-Zn];exact d2
  have hz4:w.heap.size<=w4.heap.size:=sG.size;rw[Zn];clear bt Zn H3 pU;by_cases aj4:len<=32
  ·have hf:(len:Int)<=32:=J
   go_wp2
   go_ret2;exact⟨⟨_,rfl⟩,_,_,⟨r,mb,_,_,_,_,H4.o,λ_=>rfl⟩,⟨sG.o,λb hb=>hb.elim .inl (λe=>.inr J)⟩,Hk3.o⟩
  ·have hf:¬(len:Int)<=32:=J
   obtain⟨pv,nx,hr⟩:=H4.ring;obtain⟨r1,r2,_,_⟩:=hr r (.inl H.root);obtain⟨p1,_,_,hk1⟩:=hr _ r2;have g2:w4.cell? ⟨r,2,none⟩=some (au (pv r)):=aa r1 2;have g0:w4.cell? ⟨pv r,0,none⟩=some (.int .i64 (upd K w.heap.size k (pv r))):=aa p1 0;obtain⟨kk,tP⟩:∃ kk,upd K w.heap.size k (pv r)=kk:=⟨_,rfl⟩
   rw[tP]at g0 hk1;obtain⟨D,YN⟩:=K2 (ZB H4.o kk hk1) tP;obtain⟨pb,nX⟩:∃ pb,pv r=pb:=⟨_,rfl⟩
   rw[nX]at g2 g0 tP r2;have Hr2:=Z r2;clear hr r1 p1 hk1 nX tP YN r2;go_wp2_with fail;refine D.mono ?_;rintro e w5 ⟨⟨u,rfl⟩,⟨l',hX,UB⟩,CC,hz5⟩;obtain⟨k5,g5⟩:∃ k5,w5.cell? ⟨pb,0,none⟩=some (.int .i64 k5):=by
    obtain⟨pv5,nx5,Ce⟩:=hX.ring;exact⟨_,aa (Ce pb Hr2.o).1 0⟩
   obtain⟨HX,Hl'⟩:=K2 hX UB;have Gk:Hid (ai F w w5):=Z (sG.trans CC (λi hi h=>h.elim id (λe=>J)));clear hX UB CC hz5
   go_wp2
   go_ret2;refine⟨⟨_,rfl⟩,_,_,⟨r,mb,_,_,_,_,HX.o,λ_=>rfl⟩,⟨Gk.o,λb hb=>hb.elim .inl (λe=>.inr J)⟩,λj s hj=>Hk3.o j s ?_⟩;have hj:(bM j l').map (upd V w.heap.size v)=some s:=hj;rw[Hl'.o]at hj;split at hj
   ·cases hj
   ·exact hj
theorem Pv (w:World):
  Calls prog 235 #[.int .i64 32] w λe w'=>∃ c,e=.returned (.tuple #[au c,.int .i64 0])/\w.heap.size<=c/\af w w'/\∃ F,gz w' c (λ_=>none) F/\∀ b,F b->w.heap.size<=b:=by
 obtain⟨W,hW⟩:∃ W,W=((w.alloc (.map #[] 0)).alloc (.cells (qC 0 [] (.pointer none) (.pointer none)) 265)).alloc (.cells #[.int .i64 32,.map (some w.heap.size),au (w.heap.size+1)] 262):=⟨_,rfl⟩
 have m0:af w W:=by rw[hW];exact(((ai.refl _ w).alloc _).alloc _).alloc _
 have s0:W.heap.size=w.heap.size+3:=by rw[hW];simp
 have bm:dJ prog 3 W w.heap.size []:=by
  have h1:dJ prog 3 (w.alloc (.map #[] 0)) w.heap.size []:=dJ.made w;rw[hW];exact dJ.mod h1 (((ai.refl _ _).alloc _).alloc _:af _ _) id
 have be:World.blk W (w.heap.size+1) (qC 0 [] (.pointer none) (.pointer none)) 265:=by
  rw[hW];refine aE ?_ _;exact aV sp7 _ _
 have bc:World.blk W (w.heap.size+2) #[.int .i64 32,.map (some w.heap.size),au (w.heap.size+1)] 262:=by
  rw[hW];exact aV sp7 _ _
 have e2:=aa be 2;have e3:W.cell? ⟨w.heap.size+1,3,none⟩=some (.pointer none):=aa be 3;have f2:=ae be ⟨w.heap.size+1,2,none⟩ rfl;have f3:=ae be ⟨w.heap.size+1,3,none⟩ rfl;have c2:W.cell? ⟨w.heap.size+2,2,none⟩=some (au (w.heap.size+1)):=aa bc 2;have e2':W.cell? ⟨w.heap.size+1,2,none⟩=some (.pointer none):=e2;obtain⟨Hbe,Hbc,Hbm,HW⟩:=K4 be bc bm hW;clear hW be bc bm e2;have Ug:=@run_makeMap prog;go_enter func235,ntmps235;go_wp2_with fail
 go_simp
 have eW:W=((w.alloc (.map #[] 0)).alloc (.cells #[.int .i64 0,.string ⟨#[]⟩,.pointer none,.pointer none] 265)).alloc (.cells #[.int .i64 32,.map (some w.heap.size),au (w.heap.size+1)] 262):=HW.o;rw[<-eW];have EW:=Z eW;clear eW Ug;refine gl 18 kr7 kr7 ?_;simp only[awS,awT,awU,awV]
 repeat (quiet_step (fail))
 refine awX ?_;intro _ bD;obtain⟨nq,rfl⟩:=bD
 go_wp2
 go_ret2;have mk:ai (λb=>b=w.heap.size+1) W (((W.setCell ⟨w.heap.size+1,2,none⟩ (au (w.heap.size+1))).setCell ⟨w.heap.size+1,3,none⟩ (au (w.heap.size+1))).drewN nq):=
  (((ai.refl (λb=>b=w.heap.size+1) W).setCell (p:=⟨w.heap.size+1,2,none⟩) (.inl rfl) _).setCell (p:=⟨w.heap.size+1,3,none⟩) (.inl rfl) _).drewN nq
 refine⟨w.heap.size+1+1,rfl,J,m0.trans mk (λi hi e=>J),λb=>b=w.heap.size\/b=w.heap.size+1\/b=w.heap.size+2,⟨w.heap.size+1,w.heap.size,λb=>b=w.heap.size+1,λ_=>0,λ_=>[],[],?_,λ_=>rfl⟩,λb hb=>by rcases hb with rfl|rfl|rfl<;>omega⟩
 exact { own:=ab mk Hbc.o J,of:=dJ.mod Hbm.o mk J,
         ring:=⟨λ_=>w.heap.size+1,λ_=>w.heap.size+1,λb hb=>by
          subst hb;exact⟨cf (ah (ah Hbe.o 2 _) 3 _) nq,rfl,rfl,by show(0:Int)<=0;omega,by show(0:Int)<4096;omega⟩⟩,
         root:=rfl,keys:=by simp,one:=List.nodup_nil,fc:=.inr (.inr rfl),fm:=.inl rfl,fs:=λb hb=>.inr (.inl hb),apart:=⟨by omega,J,J⟩,
         lt:=λb hb=>awg (by rcases hb with rfl|rfl|rfl<;>omega:b<W.heap.size) mk.size }
end
section
open Go.RowKit Go.Shelf
attribute [local go_sem] av0
theorem Pw (s:List UInt8)(w:World)(hs:s.length<=1000000):
  Calls prog 288 #[.string ⟨s.toArray⟩] w λe w'=>e=.returned (.string ⟨(Oz Le s).toArray⟩)/\af w w':=by
 have H:=Z (Pe Le s w rfl J);go_enter func288,ntmps288;go_wp2_with fail;refine H.mono ?_;rintro e w1 ⟨rfl,hk⟩;have HK:=Z hk;clear hk;go_wp2;go_ret;exact⟨rfl,HK.o⟩
theorem JZ (k:Nat):Lib.repeatL [(0:UInt8)] k=List.replicate k 0:=by
 induction k with
 |zero=>rfl
 |succ k ih=>simp[Lib.repeatL,List.replicate_succ]at ih ⊢;first|exact ih|skip
theorem vS (s:List UInt8)(n:Nat)(w:World)(hs:s.length<=n)(hn:n<=100000):
  Calls prog 242 #[.string ⟨s.toArray⟩,.int .i64 (n:Int)] w λe w'=>e=.returned (.string ⟨(mQ s n).toArray⟩)/\af w w':=by
 have R:=Z (Tryz.strings_Repeat ⟨[(0:UInt8)].toArray⟩ (n-s.length) w J (by show 1*(n-s.length)<=_;omega));have uJ:((n-s.length:Nat):Int)=(n:Int)-(s.length:Int):=J
 have B:=λW=>Pw (s++List.replicate (n-s.length) 0) W (by simp;omega);have HB:=Z B;clear B;go_enter func242,ntmps242;go_wp2_with fail;rw[<-uJ];refine R.mono ?_;rintro e w1 ⟨rfl,hb⟩;have cC:=Z (ai.ofBelow hb);clear hb;have er:Lib.repeatL (ByteArray.mk [(0:UInt8)].toArray).data.toList (n-s.length)=List.replicate (n-s.length) 0:=JZ _;rw[er];have FJ:mQ s n=(s++List.replicate (n-s.length) 0)++Oz Le (s++List.replicate (n-s.length) 0):=rfl;have hzl:(List.replicate (n-s.length) (0:UInt8)).length=n-s.length:=by simp
 have hql:(Oz Le (s++List.replicate (n-s.length) 0)).length=8:=JS _ _;have B:=HB.o;generalize List.replicate (n-s.length) (0:UInt8)=z at FJ hzl hql B ⊢;generalize Oz Le (s++z)=q at FJ hql B;obtain⟨lJ,Hfl⟩:=K2 B FJ;clear B HB FJ er;go_wp2_with fail;refine(lJ.o _).mono ?_;rintro e w2 ⟨rfl,hk⟩;have bJ:=Z (cC.trans hk (λ_ _ h=>h));clear hk;go_wp2;go_ret;exact⟨by rw[Hfl.o,awN];rfl,bJ.o⟩
theorem zy (p:List UInt8)(w:World)(hp:p.length<=240):
  Calls prog 188 #[.string ⟨p.toArray⟩] w λe w'=>e=.returned (.tuple #[.string ⟨(dN p).toArray⟩,.int .i64 0])/\af w w':=by
 have F:=λW=>vS ([UInt8.ofNat (p.length%256),UInt8.ofNat (p.length/256%256)]++p) 248 W (by simp;omega) J;have HF:=Z F;clear F;have h1:¬(240:Int)<(p.length:Int):=J
 have ym:(convert 131 9 (.slice (some ⟨w.heap.size,0,none⟩) 2 2)).run prog (w.alloc (.cells #[.int .u8 (p.length:Int),.int .u8 ((p.length:Int)/256)] 5))=.ok (.string ⟨[UInt8.ofNat (p.length%256),UInt8.ofNat (p.length/256%256)].toArray⟩) (w.alloc (.cells #[.int .u8 (p.length:Int),.int .u8 ((p.length:Int)/256)] 5)):=by
  have h:=CU (P:=prog) (ts:=131) (td:=9) (te:=5) underlying131 underlying5 underlying9 w w.heap.size 0 [UInt8.ofNat (p.length%256),UInt8.ofNat (p.length/256%256)] rfl;have e:aR [UInt8.ofNat (p.length%256),UInt8.ofNat (p.length/256%256)]=#[.int .u8 (p.length:Int),.int .u8 ((p.length:Int)/256)]:=by
   have e1:((UInt8.ofNat (p.length%256)).toNat:Int)=(p.length:Int):=by simp;omega
   have e2:((UInt8.ofNat (p.length/256%256)).toNat:Int)=(p.length:Int)/256:=by simp;omega
   simp only[aR,gg,av3,List.map_nil,e1,e2]
  rw[e]at h;exact h
 go_enter func188,ntmps188;go_wp2_with fail;refine(HF.o _).mono ?_;rintro e w1 ⟨rfl,hk⟩;have HK:=Z (((ai.refl (λ_=>False) w).alloc _).keep hk);clear hk;go_wp2;go_ret2;exact⟨rfl,HK.o⟩
end
section
open Go.RowKit
theorem zz (d:Nat)(h:d<10):(UInt8.ofNat (48+d)).toNat=48+d:=by simp;omega
theorem GF (u:Nat):∀ c∈Lib.decDigits u,48<=c.toNat/\c.toNat<=57:=by
 induction u using Nat.strongRecOn with
 |_ u ih=>
  intro c hc;rw[Lib.decDigits]at hc;split at hc
  ·rename_i h
   simp only[axy]at hc;rw[hc,zz u h];omega
  ·rename_i h
   rcases aw8.1 hc with hc|hc
   ·exact ih (u/10) J c hc
   ·simp only[axy]at hc;rw[hc,zz (u%10) J];omega
theorem GG (n:Int)(h0:0<=n):∀ c∈Lib.itoa n,48<=c.toNat/\c.toNat<=57:=by
 obtain⟨u,rfl⟩:∃ u:Nat,n=u:=⟨n.toNat,J⟩
 rw[Lib.itoa_nonneg];exact GF u
end
end Go.Proofs.YtkghpdcloaiflaaGreatDoor
section
namespace Go.Proofs.YtkghpdcloaiflaaGreatDoor
open _root_.Go.Proofs.Tryz
open Go.RowKit
theorem Dh {P:Program}{ts td te:TypeId}(hs:P.underlying ts=some (.slice te))(he:P.underlying te=some (.int .u8))(hd:P.underlying td=some .string)(x:Int)(hx:0<=x/\x<256)(W:World)(b:Nat)(h:W.cell? ⟨b,0,none⟩=some (.int .u8 x)):
  (convert ts td (.slice (some ⟨b,0,none⟩) 1 1)).run P W=.ok (.string ⟨[UInt8.ofNat x.toNat].toArray⟩) W:=
 pq W ts td te b 0 1 1 [UInt8.ofNat x.toNat] hs he hd rfl (λj hj=>by
  obtain rfl:j=0:=J
  rw[awR,h];simp only[gg,av3,List.map_nil,List.getElem?_cons_zero]
  congr 2
  have e:(UInt8.ofNat x.toNat).toNat=x.toNat:=by simp;omega
  rw[e];omega)
theorem zA (x:Int)(h:0<=x/\x<256):IntKind.u8.wrap x=x:=by
 unfold IntKind.wrap;simp[IntKind.bits,IntKind.signed];omega
end Go.Proofs.YtkghpdcloaiflaaGreatDoor
namespace Go.Proofs.YtkghpdcloaiflaaGreatDoor
open _root_.Go.Proofs.Tryz
open Go.RowKit
theorem aM {P:Program}{t:TypeId}(h:P.underlying t=some .string)(l:List UInt8)(k:IntKind)(i:Int)(c:UInt8)(h0:0<=i)(hc:l[i.toNat]?=some c)(w:World):
  (Instr.index t (.string ⟨l.toArray⟩) (.int k i)).run P w=.ok (.int .u8 (c.toNat:Int)) w:=by
 have aP:=(awk.1 hc).1;have tJ:=(awk.1 hc).2;rw[run_index_string w t _ k i h];have cJ:({ data:=l.toArray }:ByteArray).size=l.length:=by simp[ByteArray.size]
 rw[dif_pos (by rw[cJ];omega)];rw[<-tJ];rfl
end Go.Proofs.YtkghpdcloaiflaaGreatDoor
end
namespace Go.Proofs.YtkghpdcloaiflaaGreatDoor
open _root_.Go.Proofs.Tryz
variable {B b k num pc pd v:Nat}{F Fc Fd:Nat->Prop}{M:Int->Option (List UInt8)}{l p text:List UInt8}{w w':World}
section
open Go.RowKit Go.Shelf
attribute [local go_sem] av0
theorem GH {s:List UInt8}(h:kq s=.ok p):s.length=256/\∃ b0 b1,s[0]?=some b0/\s[1]?=some b1/\b0.toNat+256*b1.toNat<=240/\p=(s.drop 2).take (b0.toNat+256*b1.toNat)/\dN p=s:=by
 unfold kq at h;split at h
 ·cases h
 ·rename_i hl
  have hl:s.length=256:=J
  simp only at h;split at h
  ·cases h
  ·rename_i hn
   split at h
   ·rename_i hf
    injection h with h;have e0:s[0]?=some (s.getD 0 0):=by simp[List.getD,hl]
    have e1:s[1]?=some (s.getD 1 0):=by simp[List.getD,hl]
    exact⟨hl,_,_,e0,e1,J,h.symm,by rw[<-h];exact hf⟩
   ·cases h
theorem U0 (b:UInt8):bits .or .i64 (b.toNat:Int) 0=(b.toNat:Int):=by
 have key:∀ n:Fin 256,bits .or .i64 (n.1:Int) 0=(n.1:Int):=by decide +kernel
 exact key ⟨b.toNat,b.toNat_lt⟩
theorem Di (s p:List UInt8)(w:World)(h:kq s=.ok p):
  Calls prog 111 #[.string ⟨s.toArray⟩] w λe w'=>e=.returned (.tuple #[.string ⟨p.toArray⟩,.int .i64 0])/\af w w':=by
 obtain⟨hl,b0,b1,h0,h1,hn,hp,hf⟩:=GH h;have rf:=aM (P:=prog) underlying9 s .i64 0 b0 J (by simpa using h0);have Cs:=aM (P:=prog) underlying9 s .i64 1 b1 J (by simpa using h1);have F:=zy p;rw[hf]at F;have HF:=Z F;have nR:p.length<=240:=by rw[hp];simp;omega
 have kX:(s.length:Int)=256:=J
 have hb1:b1.toNat=0:=J
 rw[hb1]at hp hn Cs;have hor:=U0 b0;have Hp:Hid (p=(s.drop 2).take b0.toNat):=Z (by simpa using hp);have ic:b0.toNat<=240:=J
 clear h h0 h1 hp hf F;go_enter func111,ntmps111;go_wp2_with fail
 go_region
 have HPl:=Z nR;go_wp2_with fail;have ep:(List.drop 2 s).take b0.toNat=p:=Hp.symm;have e2:2+b0.toNat-2=b0.toNat:=J
 rw[e2,ep];refine(HF.o _ HPl.o).mono ?_;rintro e w1 ⟨rfl,hk⟩;have HK:=Z (((ai.refl (λ_=>False) w).drew).keep hk);clear hk;go_wp2;go_ret2;exact⟨rfl,HK.o⟩
end
section
open Go.RowKit
def lN (pd pc:Nat)(text:List UInt8)(num:Nat):Array Value:=#[au pd,.string ⟨text.toArray⟩,.int .i64 (num:Int),au pc,.bool false]
structure pS (w:World)(v pd pc:Nat)(d:Dk)(text:List UInt8)(num:Nat)(M:Int->Option (List UInt8))(Fd Fc F:Nat->Prop):Prop where
 own:World.blk w v (lN pd pc text num) 171
 disk:bE w pd d Fd
 cache:gz w pc M Fc
 good:∀ k s,M k=some s->il d k=.ok s
 fv:F v
 fd:∀ b,Fd b->F b
 fc:∀ b,Fc b->F b
 apart:∀ b,Fd b->¬ Fc b
 nd:¬ Fd v
 nc:¬ Fc v
 many:32<=d.size/\d.size<=16384
 num:num<=1099511627776
 lt:∀ b,F b->b<w.heap.size
def gS (w:World)(v:Nat)(d:Dk)(text:List UInt8)(num:Nat)(F:Nat->Prop):Prop:=∃ pd pc M Fd Fc,pS w v pd pc d text num M Fd Fc F
theorem pS.same {d:Dk}(h:pS w v pd pc d text num M Fd Fc F)(m:fy F w w')(hs:w.heap.size<=w'.heap.size):pS w' v pd pc d text num M Fd Fc F where
 own:=(m v h.fv (h.lt v h.fv)).trans h.own
 disk:=h.disk.same (λb hb=>m b (h.fd b hb)) hs
 cache:=h.cache.same (λb hb=>m b (h.fc b hb)) hs
 good:=h.good
 fv:=h.fv
 fd:=h.fd
 fc:=h.fc
 apart:=h.apart
 nd:=h.nd
 nc:=h.nc
 many:=h.many
 num:=h.num
 lt b hb:=awg (h.lt b hb) hs
theorem gS.same {d:Dk}(h:gS w v d text num F)(m:fy F w w')(hs:w.heap.size<=w'.heap.size):gS w' v d text num F:=by
 obtain⟨pd,pc,M,Fd,Fc,h⟩:=h;exact⟨pd,pc,M,Fd,Fc,h.same m hs⟩
theorem oy {d:Dk}(h:gS w v d text num F):
  Calls prog 99 #[au v] w λe w'=>e=.returned (.int .i64 ((d.size/4:Nat):Int))/\w'=w:=by
 obtain⟨pd,pc,M,Fd,Fc,h⟩:=h;have c0:w.cell? ⟨v,0,none⟩=some (au pd):=aa h.own 0;have S:=Z (jt h.disk);have e4:((d.size/4:Nat):Int)=(d.size:Int)/4:=J
 have hm:(d.size:Int)<=16384:=by have:=h.many;omega
 clear h;go_enter func99,ntmps99;go_wp2_with fail;refine S.mono ?_;rintro e w1 ⟨rfl,rfl⟩
 go_wp2
 go_ret;exact⟨by rw[e4];rfl,rfl⟩
theorem Dj {d:Dk}(h:gS w v d text num F)(n:Nat)(h1:1<=n)(h2:n<d.size/4):
  Calls prog 106 #[au v,.int .i64 (n:Int)] w λe w'=>e=.returned (.bool true)/\w'=w:=by
 have B:=Z (oy h);have FS:(1:Int)<=(n:Int):=J
 have Fy:(n:Int)<((d.size/4:Nat):Int):=J
 generalize d.size/4=q at*;clear h h1 h2;go_enter func106,ntmps106;go_wp2_with fail;refine B.mono ?_;rintro e w1 ⟨rfl,rfl⟩
 go_wp2
 go_ret;exact⟨rfl,rfl⟩
theorem Ls {d:Dk}(h:gS w v d text num F):
  Calls prog 142 #[au v] w λe w'=>e=.returned (.tuple #[.string ⟨text.toArray⟩,.int .i64 (num:Int)])/\∃ m,w'=w.drewN m:=by
 obtain⟨pd,pc,M,Fd,Fc,h⟩:=h;have c1:w.cell? ⟨v,1,none⟩=some (.string ⟨text.toArray⟩):=aa h.own 1;have c2:w.cell? ⟨v,2,none⟩=some (.int .i64 (num:Int)):=aa h.own 2;clear h;go_enter func142,ntmps142;go_wp2_with fail
 go_region
 go_wp2;go_ret2;exact⟨rfl,1,rfl⟩
theorem Px {d:Dk}(h:pS w v pd pc d text num M Fd Fc F):
  Calls prog 109 #[au v,.int .i64 0] w λe w'=>e=.returned (.int .i64 0)/\pS w' v pd pc d text num M Fd Fc F/\ai (λb=>b=v) w w':=by
 have c4:w.cell? ⟨v,4,none⟩=some (.bool false):=aa h.own 4;have f4:=ae h.own ⟨v,4,none⟩ rfl;have m:ai (λb=>b=v) w (w.setCell ⟨v,4,none⟩ (.bool false)):=(ai.refl (λb=>b=v) w).setCell (p:=⟨v,4,none⟩) (.inl rfl) _;have H:Hid (pS (w.setCell ⟨v,4,none⟩ (.bool false)) v pd pc d text num M Fd Fc F):=Z
  { own:=ah h.own 4 _,disk:=h.disk.mod m (λb hb e=>h.nd (e▸hb)),cache:=h.cache.same (m.on (λb hb e=>h.nc (e▸hb))) m.size,good:=h.good,fv:=h.fv,fd:=h.fd,fc:=h.fc,apart:=h.apart,nd:=h.nd,nc:=h.nc,many:=h.many,num:=h.num,
    lt:=λb hb=>awg (h.lt b hb) m.size }
 have HM:=Z m;clear h m;go_enter func109,ntmps109
 go_wp2
 go_ret;exact⟨rfl,H.o,HM.o⟩
theorem cr (h:cX B b l w)(k:af w w'):cX B b l w':=by
 rcases h with⟨hB,v,hb,ho,hn⟩|⟨hB,v,hb,ho,hn⟩
 ·exact .inl ⟨hB,v,k.obj hb id,ip ho k,hn⟩
 ·exact .inr ⟨hB,v,k.obj hb id,ip ho k,hn⟩
theorem uP {S:Nat->Prop}(h:cX B b l w)(m:ai S w w')(hb:¬ S b)(hr:∀ k c fr,w.heap[k]?=some (.cells c 5 fr)->¬ S k):cX B b l w':=by
 have own:∀ {v:Value} {n:Nat} {xs:List Value},w.ownsRow B 5 1 v n xs->w'.ownsRow B 5 1 v n xs:=by
  rintro v n xs ⟨h1,h2|⟨g,cap,dW,a,b,c,d⟩⟩
  ·exact⟨h1,.inl h2⟩
  ·exact⟨h1,.inr ⟨g,cap,dW,a,b,m.obj c (hr g _ _ c),d⟩⟩
 rcases h with⟨hB,v,lY,ho,hn⟩|⟨hB,v,lY,ho,hn⟩
 ·exact .inl ⟨hB,v,m.obj lY hb,own ho,hn⟩
 ·exact .inr ⟨hB,v,m.obj lY hb,own ho,hn⟩
theorem cW {w2 w3:World}(h:af w w2)(hb:Below B w2 w3)(hB:w.heap.size<=B):af w w3:=
 ⟨hb.os.trans h.os,hb.tape.trans h.tape,hb.output.trans h.output,av2 h.size hb.size,λk hk _=>(hb.block k (awg hk hB)).trans (h.block k hk id)⟩
def U2 (w:World)(b:Nat)(k:Nat):Prop:=k=b\/∃ c fr,w.heap[k]?=some (.cells c 5 fr)
theorem Py {o:Obj}(hk:k≠b)(ho:w.heap[k]?=some o)(ht:∀ c fr,o≠.cells c 5 fr):¬ U2 w b k:=by
 rintro(h|⟨c,fr,h⟩)
 ·exact hk h
 ·rw[ho]at h;exact ht c fr (axa h)
theorem cO {c:Array Value}{t:TypeId}(hk:k≠b)(ho:World.blk w k c t)(ht:t≠5):¬ U2 w b k:=
 Py hk ho (λc' fr e=>ht (by cases e;rfl))
theorem GI (B b:Nat)(bs:List Value)(w:World)(h:Lib.IsBuilder 176 5 B b bs w):
  Calls prog 187 #[.pointer (some ⟨b,0,none⟩)] w λe w'=>e=.returned (.tuple #[])/\(Lib.BuilderAt 176 5 B b (.pointer (some ⟨b,0,none⟩)) bs w'/\Below B w w'/\ai (·=b) w w'):=by
 rcases h with h|h
 ·refine(nN b w h.cell0 h.shape h.frozen0).mono ?_;rintro e w' ⟨rfl,rfl⟩;exact⟨rfl,h.used _,(Below.refl B w).setCell (p:=⟨b,0,none⟩) h.1 _,(ai.refl (λx=>x=b) w).setCell (p:=⟨b,0,none⟩) (.inl rfl) _⟩
 ·refine(ou b w h.cell0).mono ?_;rintro e w' ⟨rfl,rfl⟩;exact⟨rfl,h,Below.refl B _,ai.refl _ _⟩
theorem jj (B b:Nat)(l s:List UInt8)(w:World)(h:cX B b l w)(bt:l.length+s.length<=140737488355328)(hBw:B<=w.heap.size):
  Calls prog 110 #[.pointer (some ⟨b,0,none⟩),.string ⟨s.toArray⟩] w λe w'=>e=.returned (.tuple #[.int .i64 (s.length:Int),.nilIface])/\cX B b (l++s) w'/\Below B w w'/\ai (U2 w b) w w':=by
 unfold cX at*;rw[Lib.byteCells_append];have mL:(Lib.byteCells l).length=l.length:=Lib.byteCells_length l;have CG:({ data:=s.toArray }:ByteArray).size=s.length:=by simp[ByteArray.size]
 have hsc:Lib.byteCells s=Lib.strCells ⟨s.toArray⟩:=rfl;rw[hsc];generalize Lib.byteCells l=bs at*;rw[<-mL]at bt;clear mL hsc;obtain⟨i0,hi,iK,lX,mJ⟩:=awj jT;have aiX:(s.length:Int)<=9223372036854775807:=J
 go_enter func110,ntmps110;go_wp2_with fail;refine(GI B b bs _ h).mono ?_;rintro e w1 ⟨rfl,h1,hb1,iB⟩;obtain⟨hB,v,lY,bC,eG⟩:=h1;have c0:w1.cell? ⟨b,0,none⟩=some (.pointer (some ⟨b,0,none⟩)):=by rw[Lib.cell_of_heap lY];rfl
 have c1:w1.cell? ⟨b,1,none⟩=some v:=by rw[Lib.cell_of_heap lY];rfl
 go_wp2_with (at_builtin;refine Lib.wpList_append_own_string _ rfl _ _ 131 9 rfl B 5 i0 underlying131 underlying9 hi iK lX mJ _ _ _ rfl bC ⟨s.toArray⟩ rfl ?c3 ?c4 ?c5 ?_)
 case c3=>rw[CG];unfold maxLen;omega
 case c4=>rw[CG];omega
 case c5=>have:=hb1.size;omega
 intro v' w2 nV qq _;have aP:b<w1.heap.size:=by
  rcases Nat.lt_or_ge b w1.heap.size with h'|h'
  ·exact h'
  ·simp[Array.getElem?_eq_none h']at lY
 have fh:w2.heap[b]?=some (.cells #[.pointer (some ⟨b,0,none⟩),v] 176 (0,0)):=by
  rw[qq.block b aP (λe=>eG e.symm)];exact lY
 have d0:w2.cell? ⟨b,0,none⟩=some (.pointer (some ⟨b,0,none⟩)):=by rw[Lib.cell_of_heap fh];rfl
 have d1:w2.cell? ⟨b,1,none⟩=some v:=by rw[Lib.cell_of_heap fh];rfl
 have f1:w2.frozen? ⟨b,1,none⟩=false:=Lib.frozen_of_heap fh 1;obtain⟨ao,n',cap,rfl⟩:∃ ao n' cap,v'=.slice ao n' cap:=by
  rcases nV.2 with⟨hv,_⟩|⟨g,cap,dW,hv,_⟩
  ·exact⟨_,_,_,hv⟩
  ·exact⟨_,_,_,hv⟩
 have BV:Hid (ai (U2 w b) w w2):=Z ((iB.mono (λi _ e=>.inl e)).grown qq (λk hk=>by
  by_cases e:k=b
  ·exact .inl (.inl e)
  ·rcases Nat.lt_or_ge k w.heap.size with aP|hge
   ·refine .inl (.inr ?_);rcases bC.2 with⟨hv,_⟩|⟨g,cap,dW,hv,_,hg,_⟩
    ·rw[hv]at hk;cases hk
    ·rw[hv]at hk;have:g=k:=by simpa[Value.ownBlock]using hk
     subst this;exact⟨_,_,(iB.block g aP e).symm.trans hg⟩
   ·exact .inr hge))
 obtain⟨Ty,Hgr,Hb1,Hb2,TE,Hsl⟩:=K6 nV qq hb1 fh bC CG;clear nV qq hb1 fh bC lY h c0 c1 hi iK lX mJ CG iB;go_wp2;go_ret2;refine⟨rfl,.inr ?_,?_,?_⟩
 ·exact Lib.BuilderAt.put (T:=176) (e:=5) hB Hb2.o (bs':=bs++Lib.strCells ⟨s.toArray⟩) (by rw[awn,Lib.strCells_length];exact Ty.o) Pp
 ·exact(Hb1.grown Hgr.o (by have:=Hb1.size;omega) (λk hk=>(TE.lt k hk).1)).setCell (p:=⟨b,1,none⟩) hB _
 ·exact BV.setCell (p:=⟨b,1,none⟩) (.inl (.inl rfl)) _
end
section
open Go.RowKit Go.Shelf
attribute [local go_sem] av0
theorem U3 {d:Dk}{n:Nat}(h1:1<=n)(h2:n<d.size/4)(h:il d n=.ok p):kq (eI d n)=.ok p:=by
 unfold il at h;rw[awd ⟨by omega,J⟩]at h;simpa using h
theorem gz.lt {c:Nat}(h:gz w c M F)(b:Nat)(hb:F b):b<w.heap.size:=by
 obtain⟨r,mb,S,K,V,l,h,_⟩:=h;exact h.lt b hb
def AW (d:Dk)(n k:Nat):List UInt8:=(List.range k).flatMap λi=>d.get (4*n+i)
theorem zB (d:Dk)(n k:Nat):AW d n (k+1)=AW d n k++d.get (4*n+k):=by
 unfold AW;rw[List.range_succ,awm];simp
theorem Lt (d:Dk)(n:Nat):AW d n 4=eI d n:=by
 unfold AW eI;simp[List.range_succ]
theorem Dl {d:Dk}(h:yH d){n:Nat}(hn:4*n+4<=d.size):∀ k,k<=4->(AW d n k).length=64*k
 |0,_=>rfl
 |k+1,hk=>by rw[zB,awn,Dl h hn k J,AP h J];omega
theorem zC {d:Dk}(h:gS w v d text num F)(n:Nat)(h1:1<=n)(h2:n<d.size/4)(p:List UInt8)(hp:il d n=.ok p):
  Calls prog 57 #[au v,.int .i64 (n:Int)] w λe w'=>e=.returned (.tuple #[.string ⟨p.toArray⟩,.int .i64 0])/\∃ F',gS w' v d text num F'/\dO F F' w w':=by
 obtain⟨MY,Hu,Hp⟩:=K3 (Dj h n h1 h2) (U3 h1 h2 hp) hp;obtain⟨pd,pc,M,Fd,Fc,h⟩:=h;have cJ:=h.many;have H:=Z h;have c4:w.cell? ⟨v,4,none⟩=some (.bool false):=aa h.own 4;have c3:w.cell? ⟨v,3,none⟩=some (au pc):=aa h.own 3;have G:=Z (Pt h.cache (n:Int) ⟨by omega,J⟩);have Hgd:Hid (∀ s,M n=some s->s=p):=Z (λs hs=>by have:=h.good _ _ hs;rw[hp]at this;injection this with e;exact e.symm);clear h hp;go_enter func57,ntmps57;go_wp2_with fail;refine MY.mono ?_;rintro e w0 ⟨rfl,rfl⟩;go_wp2_with fail;refine G.mono ?_;rintro e w1 ⟨rfl,AH,hk1⟩;have X1:pS w1 v pd pc d text num M Fd Fc F:={ own:=ab hk1.mod H.own H.nc,disk:=H.disk.mod hk1.mod H.apart,cache:=AH,good:=H.good,fv:=H.fv,fd:=H.fd,fc:=H.fc,apart:=H.apart,nd:=H.nd,nc:=H.nc,many:=H.many,num:=H.num,lt:=λb hb=>awg (H.lt b hb) hk1.mod.size }
 have H1:=Z X1;have rl:Hid (ai F w0 w1):=Z (hk1.mod.mono λi _ hi=>H.fc i hi);clear X1 AH hk1 c3 c4;obtain⟨q,hq⟩:∃ q,M (n:Int)=q:=⟨_,rfl⟩
 have Hq:=Z hq;rw[hq]
 cases q with
 |some s=>
  have es:=Hgd.o s hq;clear hq;go_wp2;go_ret2;exact⟨by rw[<-es];rfl,F,⟨pd,pc,M,Fd,Fc,H1.o⟩,rl.o,λ_ hb=>.inl hb⟩
 |none=>
  clear hq;go_wp2_with fail;have nE:=Z (mS w1);have Xe:Hid (pS (w1.alloc (.cells #[.pointer none,.slice none 0 0] 176)) v pd pc d text num M Fd Fc F):=Z (H1.same (λb hb hl=>((ai.refl (λ_=>False) w1).alloc (.cells #[.pointer none,.slice none 0 0] 176)).block b hl id) sp7);have h4:4*n+4<=d.size:=J
  go_loopw [35] (λi wr=>∃ k:Nat,k<=4/\i=.int .i64 (k:Int)/\cX w1.heap.size w1.heap.size (AW d n k) wr/\pS wr v pd pc d text num M Fd Fc F/\ai F w1 wr)
   (λi _=>4-(intOf i).toNat)
  case atStart=>exact⟨0,J,rfl,nE.o,Xe.o,(ai.refl F w1).alloc _⟩
  case round=>
   clear nE Xe;obtain⟨k,hk,rfl,hb,hx,hm⟩:=hrel;obtain⟨HB,HX,HM⟩:=K3 hb hx hm;have e0:wr.cell? ⟨v,0,none⟩=some (au pd):=aa hx.own 0;clear hb hx hm;by_cases aP:k<4
   ·have dL:(k:Int)<4:=J
    have R:=Ll HX.disk (4*n+k) J;have ek:((4*n+k:Nat):Int)=4*(n:Int)+(k:Int):=J
    rw[ek]at R;have HR:=Z R;clear R;go_wp2_with fail;refine HR.mono ?_;rintro e w2 ⟨rfl,rfl⟩;go_wp2_with fail;refine(Px HX.o).mono ?_;rintro e w3 ⟨rfl,YV,nS⟩;obtain⟨qt,pU⟩:=K2 YV nS;clear YV nS;go_wp2_with fail;have asR:=H1.lt v H1.fv;have tJ:=AP HX.disk.ok (n:=4*n+k) J;have yo:=Dl HX.disk.ok h4 k hk;have qv:=uP HB.o pU.o (by show ¬ w1.heap.size=v;omega) (λj c fr hj e=>by
     subst e;have:=HX.own;rw[World.blk,hj]at this;simp at this)
    have Cx:w1.heap.size<=w3.heap.size:=av2 HM.size pU.size;refine(jj w1.heap.size w1.heap.size (AW d n k) (d.get (4*n+k)) w3 qv J Cx).mono ?_;rintro e w4 ⟨rfl,FA,tR,_⟩;rw[<-zB]at FA;have m4:ai (λi=>w1.heap.size<=i) w3 w4:=⟨tR.os,tR.tape,tR.output,tR.size,λj hj hS=>tR.block j J⟩
    obtain⟨Gd,Cp⟩:=K2 FA (qt.same (m4.on (λb hb hge=>by have:=H1.lt b hb;omega)) m4.size);have sG:Hid (ai F w1 w4):=Z ((HM.trans (pU.mono (T:=F) (λi _ e=>by subst e;exact H1.fv)) (λ_ _ h=>h)).trans m4 (λi hi hge=>J));clear FA tR m4 qv;go_wp2_with fail;exact⟨⟨k+1,J,by go_num,Gd.o,Cp.o,sG.o⟩,by simp[intOf];omega⟩
   ·obtain rfl:k=4:=J
    have Cx:w1.heap.size<=wr.heap.size:=HM.size;have S:=Z (gF w1.heap.size w1.heap.size (AW d n 4) wr HB.o Cx);rw[Lt]at S;go_wp2_with fail;refine S.mono ?_;rintro e w2 ⟨rfl,tR⟩;have m2:ai (λi=>w1.heap.size<=i) wr w2:=⟨tR.os,tR.tape,tR.output,tR.size,λj hj hS=>tR.block j J⟩
    have lg:=Z (HX.same (m2.on (λb hb hge=>by have:=H1.lt b hb;omega)) m2.size);have gi:Hid (ai F w1 w2):=Z (HM.trans m2 (λi hi hge=>J));clear tR m2;go_wp2_with fail;refine(Di _ p w2 Hu.o).mono ?_;rintro e w3 ⟨rfl,dr⟩;have qt:=Z (lg.same (dr.on (λ_ _=>id)) dr.size);have pU:Hid (ai F w1 w3):=Z (gi.keep dr);have g3:w3.cell? ⟨v,3,none⟩=some (au pc):=aa qt.own 3;clear dr;go_wp2_with fail;refine(Dg qt.cache (n:Int) ⟨by omega,J⟩ p).mono ?_;rintro e w4 ⟨⟨u,rfl⟩,M',Wv,hc4,jE,hM'⟩;have Cr:w0.heap.size<=w3.heap.size:=av2 rl.size pU.size;have X4:pS w4 v pd pc d text num M' Fd Wv (λb=>F b\/Wv b):=
     { own:=ab jE.mod qt.own qt.nc,disk:=qt.disk.mod jE.mod qt.apart,cache:=hc4,
       good:=λj s hj=>by
        rcases hM' j s hj with⟨rfl,rfl⟩|⟨_,h⟩
        ·exact Hp.o
        ·exact qt.good j s h
       fv:=.inl qt.fv,fd:=λb hb=>.inl (qt.fd b hb),fc:=λb hb=>.inr hb,
       apart:=λb hb hc=>(jE.foot b hc).elim (qt.apart b hb) (λhge=>by have:=qt.lt b (qt.fd b hb);omega),
       nd:=qt.nd,nc:=λhc=>(jE.foot v hc).elim qt.nc (λhge=>by have:=qt.lt v qt.fv;omega),many:=qt.many,num:=qt.num,
       lt:=λb hb=>hb.elim (λhb=>awg (qt.lt b hb) jE.mod.size) (λhb=>hc4.lt b hb) }
    have Cp:=Z X4;have HK:Hid (dO F (λb=>F b\/Wv b) w0 w4):=Z ⟨(rl.trans pU.o (λ_ _ h=>h)).trans (jE.mod.mono (T:=F) (λi _ hi=>qt.fc i hi)) (λ_ _ h=>h),
     λb hb=>hb.elim .inl (λhc=>(jE.foot b hc).elim (λh=>.inl (qt.fc b h)) (λh=>.inr J))⟩
    clear X4 hc4 jE hM';go_wp2;go_ret2;exact⟨rfl,_,⟨pd,pc,M',Fd,Wv,Cp.o⟩,HK.o⟩
end
end Go.Proofs.YtkghpdcloaiflaaGreatDoor
