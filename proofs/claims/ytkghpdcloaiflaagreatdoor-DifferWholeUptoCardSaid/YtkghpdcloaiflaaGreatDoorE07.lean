import Derived.Test.YtkghpdcloaiflaaGreatDoorE06
import Derived.Lib.AtoiAllCases
import Derived.Lib.ItoaMem
set_option maxHeartbeats 4000000
set_option maxRecDepth 100000
namespace Go.Proofs.YtkghpdcloaiflaaGreatDoor
open _root_.Go.Proofs.Tryz
section
open Go.RowKit
theorem jO.firstNew {w:World}{S:Nat->Prop}{K:Nat->Int}{V:Nat->List UInt8}(h:jO w S K V){c r x:Nat}{k:Int}{v:List UInt8}(hc:w.cell? ⟨c,2,none⟩=some (aq r))(hr:S r)(hx:World.blk w x (qJ k v (.pointer none) (.pointer none)) 265)(hn:¬ S x)(hk:0<=k/\k<4096):
  Calls prog 185 #[aq c,aq x] w fun e w'=>e=.returned (.tuple #[])/\jO w' (fun b=>S b\/b=x) (upd K x k) (upd V x v)/\ah (fun b=>S b\/b=x) w w'/\w'.heap.size=w.heap.size:=by
 obtain⟨pv,nx,h⟩:=h;obtain⟨r1,r2,r3,_⟩:=h r hr;obtain⟨n1,_⟩:=h (nx r) r3;refine(zy w c x r (nx r) _ _ _ hc (aa r1 3) (ae r1 _ rfl) (aa hx 2) (ae hx _ rfl) (aa hx 3) (ae hx _ rfl) (aa n1 2) (ae n1 _ rfl)).mono ?_;rintro e w' ⟨rfl,m,rfl⟩;refine⟨rfl,?_,(((((ah.refl (fun b=>S b\/b=x) w).setCell (p:=⟨x,2,none⟩) (.inl (.inr rfl)) _).setCell (p:=⟨x,3,none⟩) (.inl (.inr rfl)) _).setCell (p:=⟨r,3,none⟩) (.inl (.inl hr)) _).setCell (p:=⟨nx r,2,none⟩) (.inl (.inl r3)) _).drewN m,by simp[go_sem]⟩;have R1:jO ((w.setCell ⟨x,2,none⟩ (aq r)).setCell ⟨x,3,none⟩ (aq (nx r))) (fun b=>S b\/b=x) (upd K x k) (upd V x v):=by
  refine⟨upd pv x r,upd nx x (nx r),fun b hb=>?_⟩;by_cases e:b=x
  ·subst e;simp only[kQ];exact⟨ag (ag hx 2 _) 3 _,.inl hr,.inl r3,hk⟩
  ·have N7:=hb.resolve_right e;simp only[iZ _ _ e];obtain⟨b1,b2,b3,b4⟩:=h b N7;exact⟨bE (bE b1 ⟨x,2,none⟩ e _) ⟨x,3,none⟩ e _,.inl b2,.inl b3,b4⟩
 exact((R1.next (.inr rfl)).prev (.inr rfl)).same fun b hb=>rfl
theorem Db {w:World}{c:Nat}{M:Int->Option (List UInt8)}{F:Nat->Prop}(h:gL w c M F)(k:Int)(hk:0<=k/\k<4096)(v:List UInt8):
  Calls prog 113 #[aq c,.int .i64 k,.string ⟨v.toArray⟩] w fun e w'=>(∃ u,e=.returned u)/\∃ M' F',gL w' c M' F'/\d6 F F' w w'/\∀ j s,M' j=some s->(j=k/\s=v)\/(j≠k/\M j=some s):=by
 obtain⟨r,mb,S,K,V,l,h,hM⟩:=h;have H:=hd0 h;have HM:=hd0 hM;have c1:w.cell? ⟨c,1,none⟩=some (.map (some mb)):=aa h.own 1;have lk:=dG.look (tm:=260) h.of underlying260 underlying3 (qK w) k ⟨by omega,by omega⟩;obtain⟨q,hq⟩:∃ q,bF k l=q:=⟨_,rfl⟩
 have Hq:=hd0 hq;rw[hq]at lk
 cases q with
 |some b=>
  have hb:=h.keys _ (oR hq);have Hb:=hd0 hb;have Ww:=h.ring.thing b v;have R9:ah S w (w.setCell ⟨b,1,none⟩ (.string ⟨v.toArray⟩)):=(ah.refl S w).setCell (p:=⟨b,1,none⟩) (.inl hb.1) _;have H0:=hd0 (h.turn R9 Ww);have HM0:=hd0 R9;have O:=hd0 (Ww.out (aq c) hb.1);have e1:w.cell? ⟨b,1,none⟩=some (.string ⟨(V b).toArray⟩):=by
   obtain⟨pv,nx,hr⟩:=h.ring;exact aa (hr b hb.1).1 1
  have f1:w.frozen? ⟨b,1,none⟩=false:=by
   obtain⟨pv,nx,hr⟩:=h.ring;exact ae (hr b hb.1).1 _ rfl
  clear h hM hq hb Ww R9;go_enter func113,ntmps113;go_wp2_with fail;refine O.out.mono ?_;rintro e w1 ⟨rfl,Yj,mT,_⟩;have H1:=hd0 (H0.out.turn mT Yj);have yB:=hd0 (HM0.out.trans mT fun _ _ h=>h);clear Yj mT;go_wp2_with fail;refine(H1.out.ring.first (aa H1.out.own 2) H.out.root Hb.out.1).mono ?_;rintro e w2 ⟨rfl,RI,gV,_⟩;have H2:=hd0 (H1.out.turn gV RI);have oF:=hd0 (yB.out.trans gV fun _ _ h=>h);clear RI gV
  go_wp2
  go_ret2;refine⟨⟨_,rfl⟩,fun j=>(bF j l).map (upd V b v),F,⟨r,mb,S,K,_,l,H2.out,fun _=>rfl⟩,⟨oF.out.mono (fun i _ h=>H.out.fs i h),fun _ h=>.inl h⟩,fun j s hj=>?_⟩;have hj:(bF j l).map (upd V b v)=some s:=hj;by_cases yo:j=k
  ·subst yo;rw[Hq.out]at hj;simp only[avD,kQ,Option.some.injEq]at hj;exact .inl ⟨rfl,hj.symm⟩
  ·refine .inr ⟨yo,?_⟩;rw[HM.out]
   cases hg:bF j l with
   |none=>rw[hg]at hj;cases hj
   |some b'=>
    rw[hg]at hj;have dW:b'≠b:=fun e=>yo (by
     have h1:=(H.out.keys _ (oR hg)).2;have h2:=Hb.out.2;simp only at h1 h2;rw[<-h1,<-h2,e])
    simpa[iZ _ _ dW]using hj
 |none=>
  have pE:=Lk h.one h.range;have sH:=h.lt c h.fc;have Cw:=h.lt mb h.fm;obtain⟨W0,rA⟩:∃ W0,W0=w.alloc (.cells (qJ k v (.pointer none) (.pointer none)) 265):=⟨_,rfl⟩
  have m0:af w W0:=by rw[rA];exact(ah.refl _ w).alloc _
  have x0:World.blk W0 w.heap.size (qJ k v (.pointer none) (.pointer none)) 265:=by rw[rA];exact aw _ _ _
  have z0:W0.heap.size=w.heap.size+1:=by rw[rA];simp
  obtain⟨w2,tT,ad6,j5⟩:=dG.store (tm:=260) (dG.mod h.of m0 id) underlying260 underlying3 k ⟨by omega,by omega⟩ w.heap.size (by omega);have N6:=ab j5 (ab m0 h.own id) h.apart.1;have x2:=ab j5 x0 (show w.heap.size≠mb by omega);have Yn:jO w2 S K V:=h.ring.same fun b hb=>(j5.block b (by have:=h.lt b (h.fs b hb);omega) (fun e=>h.apart.2.2 (e▸hb))).trans (m0.block b (h.lt b (h.fs b hb)) id);have pH:¬ S w.heap.size:=fun hs=>by have:=h.lt _ (h.fs _ hs);omega
  have O:=hd0 (Yn.firstNew (c:=c) (aa N6 2) h.root x2 pH hk);have acY:=hd0 N6;have aiB:=hd0 ad6;have Hm2:Hid (ah F w w2):=hd0 ((m0.mono (T:=F) (fun _ _ h=>h.elim)).trans (j5.mono (T:=F) (fun i _ e=>by subst e;exact h.fm)) (fun _ _ h=>h));have Hz2:Hid (w.heap.size<w2.heap.size):=hd0 (by have:=j5.size;omega);have d1:W0.cell? ⟨c,1,none⟩=some (.map (some mb)):=aa (ab m0 h.own id) 1;rw[rA]at tT d1;unfold qJ at tT d1;have CG:=hd0 pH;clear h hM hq N6 x2 Yn ad6 j5 x0 m0 rA z0 pH;go_enter func113,ntmps113;go_wp2_with fail;refine O.out.mono ?_;rintro e w3 ⟨rfl,hR3,lz,hz3⟩;have X3:i6 w3 c r mb (fun b=>S b\/b=w.heap.size) (upd K w.heap.size k) (upd V w.heap.size v) (em j6 k w.heap.size l) (fun b=>F b\/b=w.heap.size):=
   { own:=ab lz acY.out (fun e=>e.elim H.out.apart.2.1 (fun e=>by omega)),of:=dG.mod aiB.out lz (fun e=>e.elim H.out.apart.2.2 (fun e=>by omega)),ring:=hR3,root:=.inl H.out.root,
     keys:=fun x hx=>by
      rcases Ub hx with rfl|⟨hx,_⟩
      ·exact⟨.inr rfl,kQ _ _ _⟩
      ·obtain⟨h1,h2⟩:=H.out.keys x hx;exact⟨.inl h1,by rw[iZ _ _ (fun e=>CG.out (by rw[<-e];exact h1))];exact h2⟩,
     one:=Pe H.out.one,fc:=.inl H.out.fc,fm:=.inl H.out.fm,fs:=fun b hb=>hb.elim (fun h=>.inl (H.out.fs b h)) .inr,apart:=⟨H.out.apart.1,fun e=>e.elim H.out.apart.2.1 (fun e=>by omega),fun e=>e.elim H.out.apart.2.2 (fun e=>by omega)⟩,
     lt:=fun b hb=>by
      rw[hz3];have:=Hz2.out;rcases hb with hb|rfl
      ·exact auL (H.out.lt b hb) Hm2.out.size
      ·exact this }
  have H3:=hd0 X3;have nW:Hid (ah F w w3):=hd0 (Hm2.out.trans lz (fun i hi h=>h.elim (H.out.fs i) (fun e=>by omega)));have Hk3:Hid (∀ j s,(bF j (em j6 k w.heap.size l)).map (upd V w.heap.size v)=some s->(j=k/\s=v)\/(j≠k/\M j=some s)):=hd0 (fun j s hj=>by
   rw[kw]at hj;split at hj
   ·rename_i e
    simp only[avD,kQ,Option.some.injEq]at hj;exact .inl ⟨e,hj.symm⟩
   ·rename_i e
    refine .inr ⟨e,?_⟩;rw[HM.out]
    cases hg:bF j l with
    |none=>rw[hg]at hj;cases hj
    |some b'=>
     rw[hg]at hj;have dW:b'≠w.heap.size:=fun e=>CG.out (by rw[<-e];exact(H.out.keys _ (oR hg)).1);simpa[iZ _ _ dW]using hj)
  have d0:w3.cell? ⟨c,0,none⟩=some (.int .i64 32):=aa X3.own 0;have d1:w3.cell? ⟨c,1,none⟩=some (.map (some mb)):=aa X3.own 1;have d2:w3.cell? ⟨c,2,none⟩=some (aq r):=aa X3.own 2;have aV:=dG.len (tm:=260) (show dG prog 3 w3.drew mb _ from X3.of) underlying260 3;obtain⟨len,hl⟩:∃ len,(em j6 k w.heap.size l).length=len:=⟨_,rfl⟩
  rw[hl]at aV;have lA:len<=4097:=by
   have:=pN k w.heap.size l;rw[hl,Hq.out]at this;simp at this;omega
  clear hR3 lz hz3 X3 hl;go_wp2_with fail
  go_region
  have H4:Hid (i6 w3.drew c r mb (fun b=>S b\/b=w.heap.size) (upd K w.heap.size k) (upd V w.heap.size v) (em j6 k w.heap.size l) (fun b=>F b\/b=w.heap.size)):=hd0 (H3.out.same (fun _ _ _=>rfl) (auE _));have rH:Hid (ah F w w3.drew):=hd0 nW.out.drew;obtain⟨w4,Yv⟩:∃ w4,w3.drew=w4:=⟨_,rfl⟩
  rw[Yv]at H4 rH;have d0:w4.cell? ⟨c,0,none⟩=some (.int .i64 32):=by rw[<-Yv];exact d0
  have d1:w4.cell? ⟨c,1,none⟩=some (.map (some mb)):=by rw[<-Yv];exact d1
  have d2:w4.cell? ⟨c,2,none⟩=some (aq r):=by rw[<-Yv];exact d2
  have hz4:w.heap.size<=w4.heap.size:=rH.out.size;rw[Yv];clear aV Yv H3 nW;by_cases ajR:len<=32
  ·have hf:(len:Int)<=32:=by omega
   go_wp2
   go_ret2;exact⟨⟨_,rfl⟩,_,_,⟨r,mb,_,_,_,_,H4.out,fun _=>rfl⟩,⟨rH.out,fun b hb=>hb.elim .inl (fun e=>.inr (by omega))⟩,Hk3.out⟩
  ·have hf:¬(len:Int)<=32:=by omega
   obtain⟨pv,nx,hr⟩:=H4.out.ring;obtain⟨r1,r2,_,_⟩:=hr r (.inl H.out.root);obtain⟨p1,_,_,hk1⟩:=hr _ r2;have g2:w4.cell? ⟨r,2,none⟩=some (aq (pv r)):=aa r1 2;have g0:w4.cell? ⟨pv r,0,none⟩=some (.int .i64 (upd K w.heap.size k (pv r))):=aa p1 0;obtain⟨kk,sR⟩:∃ kk,upd K w.heap.size k (pv r)=kk:=⟨_,rfl⟩
   rw[sR]at g0 hk1;have D:=hd0 (YF H4.out kk hk1);have XY:=hd0 sR;obtain⟨pb,mW⟩:∃ pb,pv r=pb:=⟨_,rfl⟩
   rw[mW]at g2 g0 sR r2;have Hr2:=hd0 r2;clear hr r1 p1 hk1 mW sR XY r2;go_wp2_with fail;refine D.out.mono ?_;rintro e w5 ⟨⟨u,rfl⟩,⟨l',hX,TT⟩,zc,hz5⟩;obtain⟨k5,g5⟩:∃ k5,w5.cell? ⟨pb,0,none⟩=some (.int .i64 k5):=by
    obtain⟨pv5,nx5,ZY⟩:=hX.ring;exact⟨_,aa (ZY pb Hr2.out).1 0⟩
   have HX:=hd0 hX;have Hl':=hd0 TT;have Cr:Hid (ah F w w5):=hd0 (rH.out.trans zc (fun i hi h=>h.elim id (fun e=>by omega)));clear hX TT zc hz5
   go_wp2
   go_ret2;refine⟨⟨_,rfl⟩,_,_,⟨r,mb,_,_,_,_,HX.out,fun _=>rfl⟩,⟨Cr.out,fun b hb=>hb.elim .inl (fun e=>.inr (by omega))⟩,fun j s hj=>Hk3.out j s ?_⟩;have hj:(bF j l').map (upd V w.heap.size v)=some s:=hj;rw[Hl'.out]at hj;split at hj
   ·cases hj
   ·exact hj
end
section
open Go.RowKit
theorem Pf (w:World):
  Calls prog 235 #[.int .i64 32] w fun e w'=>∃ c,e=.returned (.tuple #[aq c,.int .i64 0])/\w.heap.size<=c/\af w w'/\∃ F,gL w' c (fun _=>none) F/\∀ b,F b->w.heap.size<=b:=by
 obtain⟨W,hW⟩:∃ W,W=((w.alloc (.map #[] 0)).alloc (.cells (qJ 0 [] (.pointer none) (.pointer none)) 265)).alloc (.cells #[.int .i64 32,.map (some w.heap.size),aq (w.heap.size+1)] 262):=⟨_,rfl⟩
 have m0:af w W:=by rw[hW];exact(((ah.refl _ w).alloc _).alloc _).alloc _
 have s0:W.heap.size=w.heap.size+3:=by rw[hW];simp
 have bm:dG prog 3 W w.heap.size []:=by
  have h1:dG prog 3 (w.alloc (.map #[] 0)) w.heap.size []:=dG.made w;rw[hW];exact dG.mod h1 (((ah.refl _ _).alloc _).alloc _:af _ _) id
 have be:World.blk W (w.heap.size+1) (qJ 0 [] (.pointer none) (.pointer none)) 265:=by
  rw[hW];refine aH ?_ _;exact ba (by simp) _ _
 have bc:World.blk W (w.heap.size+2) #[.int .i64 32,.map (some w.heap.size),aq (w.heap.size+1)] 262:=by
  rw[hW];exact ba (by simp) _ _
 have e2:=aa be 2;have e3:W.cell? ⟨w.heap.size+1,3,none⟩=some (.pointer none):=aa be 3;have f2:=ae be ⟨w.heap.size+1,2,none⟩ rfl;have f3:=ae be ⟨w.heap.size+1,3,none⟩ rfl;have c2:W.cell? ⟨w.heap.size+2,2,none⟩=some (aq (w.heap.size+1)):=aa bc 2;have e2':W.cell? ⟨w.heap.size+1,2,none⟩=some (.pointer none):=e2;have Hbe:=hd0 be;have Hbc:=hd0 bc;have Hbm:=hd0 bm;have HW:=hd0 hW;clear hW be bc bm e2;have Ju:=@run_makeMap prog;go_enter func235,ntmps235;go_wp2_with fail
 go_simp
 have eW:W=((w.alloc (.map #[] 0)).alloc (.cells #[.int .i64 0,.string ⟨#[]⟩,.pointer none,.pointer none] 265)).alloc (.cells #[.int .i64 32,.map (some w.heap.size),aq (w.heap.size+1)] 262):=HW.out;rw[<-eW];have EW:=hd0 eW;clear eW Ju;refine dD 18 (by kernel_rfl) (by kernel_rfl) ?_;simp only[avn,avo,avq,avr]
 repeat (quiet_step (fail))
 refine avt ?_;intro _ cf;obtain⟨nq,rfl⟩:=cf
 go_wp2
 go_ret2;have mk:ah (fun b=>b=w.heap.size+1) W (((W.setCell ⟨w.heap.size+1,2,none⟩ (aq (w.heap.size+1))).setCell ⟨w.heap.size+1,3,none⟩ (aq (w.heap.size+1))).drewN nq):=
  (((ah.refl (fun b=>b=w.heap.size+1) W).setCell (p:=⟨w.heap.size+1,2,none⟩) (.inl rfl) _).setCell (p:=⟨w.heap.size+1,3,none⟩) (.inl rfl) _).drewN nq
 refine⟨w.heap.size+1+1,rfl,by omega,m0.trans mk (fun i hi e=>by omega),fun b=>b=w.heap.size\/b=w.heap.size+1\/b=w.heap.size+2,⟨w.heap.size+1,w.heap.size,fun b=>b=w.heap.size+1,fun _=>0,fun _=>[],[],?_,fun _=>rfl⟩,fun b hb=>by rcases hb with rfl|rfl|rfl<;>omega⟩
 exact { own:=ab mk Hbc.out (by omega),of:=dG.mod Hbm.out mk (by omega),
         ring:=⟨fun _=>w.heap.size+1,fun _=>w.heap.size+1,fun b hb=>by
          subst hb;exact⟨fQ (ag (ag Hbe.out 2 _) 3 _) nq,rfl,rfl,by show(0:Int)<=0;omega,by show(0:Int)<4096;omega⟩⟩,
         root:=rfl,keys:=by simp,one:=List.nodup_nil,fc:=.inr (.inr rfl),fm:=.inl rfl,fs:=fun b hb=>.inr (.inl hb),apart:=⟨by omega,by omega,by omega⟩,
         lt:=fun b hb=>auL (by rcases hb with rfl|rfl|rfl<;>omega:b<W.heap.size) mk.size }
end
section
open Go.RowKit Go.Shelf
attribute [local go_sem] auv
theorem Pg (s:List UInt8)(w:World)(hs:s.length<=1000000):
  Calls prog 288 #[.string ⟨s.toArray⟩] w fun e w'=>e=.returned (.string ⟨(KX KZ s).toArray⟩)/\af w w':=by
 have H:=hd0 (OV KZ s w rfl (by omega));go_enter func288,ntmps288;go_wp2_with fail;refine H.out.mono ?_;rintro e w1 ⟨rfl,hk⟩;have HK:=hd0 hk;clear hk;go_wp2;go_ret;exact⟨rfl,HK.out⟩
theorem JJ (k:Nat):Lib.repeatL [(0:UInt8)] k=List.replicate k 0:=by
 induction k with
 |zero=>rfl
 |succ k ih=>simp[Lib.repeatL,List.replicate_succ]at ih ⊢;first|exact ih|skip
theorem we (s:List UInt8)(n:Nat)(w:World)(hs:s.length<=n)(hn:n<=100000):
  Calls prog 242 #[.string ⟨s.toArray⟩,.int .i64 (n:Int)] w fun e w'=>e=.returned (.string ⟨(nw s n).toArray⟩)/\af w w':=by
 have R:=hd0 (Tryz.strings_Repeat ⟨[(0:UInt8)].toArray⟩ (n-s.length) w (by omega) (by show 1*(n-s.length)<=_;omega));have uN:((n-s.length:Nat):Int)=(n:Int)-(s.length:Int):=by omega
 have B:=fun W=>Pg (s++List.replicate (n-s.length) 0) W (by simp;omega);have HB:=hd0 B;clear B;go_enter func242,ntmps242;go_wp2_with fail;rw[<-uN];refine R.out.mono ?_;rintro e w1 ⟨rfl,hb⟩;have bU:=hd0 (ah.ofBelow hb);clear hb;have er:Lib.repeatL (ByteArray.mk [(0:UInt8)].toArray).data.toList (n-s.length)=List.replicate (n-s.length) 0:=JJ _;rw[er];have Fy:nw s n=(s++List.replicate (n-s.length) 0)++KX KZ (s++List.replicate (n-s.length) 0):=rfl;have hzl:(List.replicate (n-s.length) (0:UInt8)).length=n-s.length:=by simp
 have hql:(KX KZ (s++List.replicate (n-s.length) 0)).length=8:=JD _ _;have B:=HB.out;generalize List.replicate (n-s.length) (0:UInt8)=z at Fy hzl hql B ⊢;generalize KX KZ (s++z)=q at Fy hql B;have jI:=hd0 B;have Hfl:=hd0 Fy;clear B HB Fy er;go_wp2_with fail;refine(jI.out _).mono ?_;rintro e w2 ⟨rfl,hk⟩;have bu:=hd0 (bU.out.trans hk (fun _ _ h=>h));clear hk;go_wp2;go_ret;exact⟨by rw[Hfl.out,avi];rfl,bu.out⟩
theorem zz (p:List UInt8)(w:World)(hp:p.length<=240):
  Calls prog 188 #[.string ⟨p.toArray⟩] w fun e w'=>e=.returned (.tuple #[.string ⟨(d5 p).toArray⟩,.int .i64 0])/\af w w':=by
 have F:=fun W=>we ([UInt8.ofNat (p.length%256),UInt8.ofNat (p.length/256%256)]++p) 248 W (by simp;omega) (by omega);have HF:=hd0 F;clear F;have h1:¬(240:Int)<(p.length:Int):=by omega
 have yt:(convert 131 9 (.slice (some ⟨w.heap.size,0,none⟩) 2 2)).run prog (w.alloc (.cells #[.int .u8 (p.length:Int),.int .u8 ((p.length:Int)/256)] 5))=.ok (.string ⟨[UInt8.ofNat (p.length%256),UInt8.ofNat (p.length/256%256)].toArray⟩) (w.alloc (.cells #[.int .u8 (p.length:Int),.int .u8 ((p.length:Int)/256)] 5)):=by
  have h:=CP (P:=prog) (ts:=131) (td:=9) (te:=5) underlying131 underlying5 underlying9 w w.heap.size 0 [UInt8.ofNat (p.length%256),UInt8.ofNat (p.length/256%256)] rfl;have e:aQ [UInt8.ofNat (p.length%256),UInt8.ofNat (p.length/256%256)]=#[.int .u8 (p.length:Int),.int .u8 ((p.length:Int)/256)]:=by
   have e1:((UInt8.ofNat (p.length%256)).toNat:Int)=(p.length:Int):=by simp;omega
   have e2:((UInt8.ofNat (p.length/256%256)).toNat:Int)=(p.length:Int)/256:=by simp;omega
   simp only[aQ,gz,auy,List.map_nil,e1,e2]
  rw[e]at h;exact h
 go_enter func188,ntmps188;go_wp2_with fail;refine(HF.out _).mono ?_;rintro e w1 ⟨rfl,hk⟩;have HK:=hd0 (((ah.refl (fun _=>False) w).alloc _).keep hk);clear hk;go_wp2;go_ret2;exact⟨rfl,HK.out⟩
end
section
open Go.RowKit
theorem zA (d:Nat)(h:d<10):(UInt8.ofNat (48+d)).toNat=48+d:=by simp;omega
theorem Gs (u:Nat):∀ c∈Lib.decDigits u,48<=c.toNat/\c.toNat<=57:=by
 induction u using Nat.strongRecOn with
 |_ u ih=>
  intro c hc;rw[Lib.decDigits]at hc;split at hc
  ·rename_i h
   simp only[av5]at hc;rw[hc,zA u h];omega
  ·rename_i h
   rcases avE.1 hc with hc|hc
   ·exact ih (u/10) (by omega) c hc
   ·simp only[av5]at hc;rw[hc,zA (u%10) (by omega)];omega
theorem Gt (n:Int)(h0:0<=n):∀ c∈Lib.itoa n,48<=c.toNat/\c.toNat<=57:=by
 obtain⟨u,rfl⟩:∃ u:Nat,n=u:=⟨n.toNat,by omega⟩
 rw[Lib.itoa_nonneg];exact Gs u
end
end Go.Proofs.YtkghpdcloaiflaaGreatDoor
section
namespace Go.Proofs.YtkghpdcloaiflaaGreatDoor
open _root_.Go.Proofs.Tryz
open Go.RowKit
theorem JK (x:Int)(h:0<=x/\x<256):IntKind.u8.wrap x=x:=by
 unfold IntKind.wrap;simp[IntKind.bits,IntKind.signed];omega
end Go.Proofs.YtkghpdcloaiflaaGreatDoor
namespace Go.Proofs.YtkghpdcloaiflaaGreatDoor
open _root_.Go.Proofs.Tryz
open Go.RowKit
theorem bf {P:Program}{t:TypeId}(h:P.underlying t=some .string)(l:List UInt8)(k:IntKind)(i:Int)(c:UInt8)(h0:0<=i)(hc:l[i.toNat]?=some c)(w:World):
  (Instr.index t (.string ⟨l.toArray⟩) (.int k i)).run P w=.ok (.int .u8 (c.toNat:Int)) w:=by
 have aL:=(auP.1 hc).1;have ru:=(auP.1 hc).2;rw[run_index_string w t _ k i h];have cK:({ data:=l.toArray }:ByteArray).size=l.length:=by simp[ByteArray.size]
 rw[dif_pos (by rw[cK];omega)];rw[<-ru];rfl
end Go.Proofs.YtkghpdcloaiflaaGreatDoor
end
namespace Go.Proofs.YtkghpdcloaiflaaGreatDoor
open _root_.Go.Proofs.Tryz
section
open Go.RowKit Go.Shelf
attribute [local go_sem] auv
theorem Gu {s p:List UInt8}(h:kJ s=.ok p):s.length=256/\∃ b0 b1,s[0]?=some b0/\s[1]?=some b1/\b0.toNat+256*b1.toNat<=240/\p=(s.drop 2).take (b0.toNat+256*b1.toNat)/\d5 p=s:=by
 unfold kJ at h;split at h
 ·cases h
 ·rename_i hl
  have hl:s.length=256:=by omega
  simp only at h;split at h
  ·cases h
  ·rename_i hn
   split at h
   ·rename_i hf
    injection h with h;have e0:s[0]?=some (s.getD 0 0):=by simp[List.getD,hl]
    have e1:s[1]?=some (s.getD 1 0):=by simp[List.getD,hl]
    exact⟨hl,_,_,e0,e1,by omega,h.symm,by rw[<-h];exact hf⟩
   ·cases h
theorem Uc (b:UInt8):bits .or .i64 (b.toNat:Int) 0=(b.toNat:Int):=by
 have key:∀ n:Fin 256,bits .or .i64 (n.1:Int) 0=(n.1:Int):=by decide +kernel
 exact key ⟨b.toNat,b.toNat_lt⟩
theorem Dc (s p:List UInt8)(w:World)(h:kJ s=.ok p):
  Calls prog 111 #[.string ⟨s.toArray⟩] w fun e w'=>e=.returned (.tuple #[.string ⟨p.toArray⟩,.int .i64 0])/\af w w':=by
 obtain⟨hl,b0,b1,h0,h1,hn,hp,hf⟩:=Gu h;have sX:=bf (P:=prog) underlying9 s .i64 0 b0 (by omega) (by simpa using h0);have Cj:=bf (P:=prog) underlying9 s .i64 1 b1 (by omega) (by simpa using h1);have F:=zz p;rw[hf]at F;have HF:=hd0 F;have jJ:p.length<=240:=by rw[hp];simp;omega
 have lA:(s.length:Int)=256:=by omega
 have hb1:b1.toNat=0:=by omega
 rw[hb1]at hp hn Cj;have hor:=Uc b0;have Hp:Hid (p=(s.drop 2).take b0.toNat):=hd0 (by simpa using hp);have iM:b0.toNat<=240:=by omega
 clear h h0 h1 hp hf F;go_enter func111,ntmps111;go_wp2_with fail
 go_region
 have HPl:=hd0 jJ;go_wp2_with fail;have ep:(List.drop 2 s).take b0.toNat=p:=Hp.out.symm;have e2:2+b0.toNat-2=b0.toNat:=by omega
 rw[e2,ep];refine(HF.out _ HPl.out).mono ?_;rintro e w1 ⟨rfl,hk⟩;have HK:=hd0 (((ah.refl (fun _=>False) w).drew).keep hk);clear hk;go_wp2;go_ret2;exact⟨rfl,HK.out⟩
end
section
open Go.RowKit
def l9 (pd pc:Nat)(text:List UInt8)(num:Nat):Array Value:=#[aq pd,.string ⟨text.toArray⟩,.int .i64 (num:Int),aq pc,.bool false]
structure qi (w:World)(v pd pc:Nat)(d:Dk)(text:List UInt8)(num:Nat)(M:Int->Option (List UInt8))(Fd Fc F:Nat->Prop):Prop where
 own:World.blk w v (l9 pd pc text num) 171
 disk:bC w pd d Fd
 cache:gL w pc M Fc
 good:∀ k s,M k=some s->iw d k=.ok s
 fv:F v
 fd:∀ b,Fd b->F b
 fc:∀ b,Fc b->F b
 apart:∀ b,Fd b->¬ Fc b
 nd:¬ Fd v
 nc:¬ Fc v
 many:32<=d.size/\d.size<=16384
 num:num<=1099511627776
 lt:∀ b,F b->b<w.heap.size
def ic (w:World)(v:Nat)(d:Dk)(text:List UInt8)(num:Nat)(F:Nat->Prop):Prop:=∃ pd pc M Fd Fc,qi w v pd pc d text num M Fd Fc F
theorem qi.same {w w':World}{v pd pc:Nat}{d:Dk}{text:List UInt8}{num:Nat}{M:Int->Option (List UInt8)}{Fd Fc F:Nat->Prop}(h:qi w v pd pc d text num M Fd Fc F)(m:fG F w w')(hs:w.heap.size<=w'.heap.size):qi w' v pd pc d text num M Fd Fc F where
 own:=(m v h.fv (h.lt v h.fv)).trans h.own
 disk:=h.disk.same (fun b hb=>m b (h.fd b hb)) hs
 cache:=h.cache.same (fun b hb=>m b (h.fc b hb)) hs
 good:=h.good
 fv:=h.fv
 fd:=h.fd
 fc:=h.fc
 apart:=h.apart
 nd:=h.nd
 nc:=h.nc
 many:=h.many
 num:=h.num
 lt b hb:=auL (h.lt b hb) hs
theorem ic.same {w w':World}{v:Nat}{d:Dk}{text:List UInt8}{num:Nat}{F:Nat->Prop}(h:ic w v d text num F)(m:fG F w w')(hs:w.heap.size<=w'.heap.size):ic w' v d text num F:=by
 obtain⟨pd,pc,M,Fd,Fc,h⟩:=h;exact⟨pd,pc,M,Fd,Fc,h.same m hs⟩
theorem oS {w:World}{v:Nat}{d:Dk}{text:List UInt8}{num:Nat}{F:Nat->Prop}(h:ic w v d text num F):
  Calls prog 99 #[aq v] w fun e w'=>e=.returned (.int .i64 ((d.size/4:Nat):Int))/\w'=w:=by
 obtain⟨pd,pc,M,Fd,Fc,h⟩:=h;have c0:w.cell? ⟨v,0,none⟩=some (aq pd):=aa h.own 0;have S:=hd0 (jA h.disk);have e4:((d.size/4:Nat):Int)=(d.size:Int)/4:=by omega
 have hm:(d.size:Int)<=16384:=by have:=h.many;omega
 clear h;go_enter func99,ntmps99;go_wp2_with fail;refine S.out.mono ?_;rintro e w1 ⟨rfl,rfl⟩
 go_wp2
 go_ret;exact⟨by rw[e4];rfl,rfl⟩
theorem Dd {w:World}{v:Nat}{d:Dk}{text:List UInt8}{num:Nat}{F:Nat->Prop}(h:ic w v d text num F)(n:Nat)(h1:1<=n)(h2:n<d.size/4):
  Calls prog 106 #[aq v,.int .i64 (n:Int)] w fun e w'=>e=.returned (.bool true)/\w'=w:=by
 have B:=hd0 (oS h);have Cl:(1:Int)<=(n:Int):=by omega
 have AK:(n:Int)<((d.size/4:Nat):Int):=by omega
 generalize d.size/4=q at*;clear h h1 h2;go_enter func106,ntmps106;go_wp2_with fail;refine B.out.mono ?_;rintro e w1 ⟨rfl,rfl⟩
 go_wp2
 go_ret;exact⟨rfl,rfl⟩
theorem Ll {w:World}{v:Nat}{d:Dk}{text:List UInt8}{num:Nat}{F:Nat->Prop}(h:ic w v d text num F):
  Calls prog 142 #[aq v] w fun e w'=>e=.returned (.tuple #[.string ⟨text.toArray⟩,.int .i64 (num:Int)])/\∃ m,w'=w.drewN m:=by
 obtain⟨pd,pc,M,Fd,Fc,h⟩:=h;have c1:w.cell? ⟨v,1,none⟩=some (.string ⟨text.toArray⟩):=aa h.own 1;have c2:w.cell? ⟨v,2,none⟩=some (.int .i64 (num:Int)):=aa h.own 2;clear h;go_enter func142,ntmps142;go_wp2_with fail
 go_region
 go_wp2;go_ret2;exact⟨rfl,1,rfl⟩
theorem Ph {w:World}{v pd pc:Nat}{d:Dk}{text:List UInt8}{num:Nat}{M:Int->Option (List UInt8)}{Fd Fc F:Nat->Prop}(h:qi w v pd pc d text num M Fd Fc F):
  Calls prog 109 #[aq v,.int .i64 0] w fun e w'=>e=.returned (.int .i64 0)/\qi w' v pd pc d text num M Fd Fc F/\ah (fun b=>b=v) w w':=by
 have c4:w.cell? ⟨v,4,none⟩=some (.bool false):=aa h.own 4;have f4:=ae h.own ⟨v,4,none⟩ rfl;have m:ah (fun b=>b=v) w (w.setCell ⟨v,4,none⟩ (.bool false)):=(ah.refl (fun b=>b=v) w).setCell (p:=⟨v,4,none⟩) (.inl rfl) _;have H:Hid (qi (w.setCell ⟨v,4,none⟩ (.bool false)) v pd pc d text num M Fd Fc F):=hd0
  { own:=ag h.own 4 _,disk:=h.disk.mod m (fun b hb e=>h.nd (e▸hb)),cache:=h.cache.same (m.on (fun b hb e=>h.nc (e▸hb))) m.size,good:=h.good,fv:=h.fv,fd:=h.fd,fc:=h.fc,apart:=h.apart,nd:=h.nd,nc:=h.nc,many:=h.many,num:=h.num,
    lt:=fun b hb=>auL (h.lt b hb) m.size }
 have HM:=hd0 m;clear h m;go_enter func109,ntmps109
 go_wp2
 go_ret;exact⟨rfl,H.out,HM.out⟩
end
section
open Go.RowKit
theorem cA {B b:Nat}{l:List UInt8}{w w':World}(h:db B b l w)(k:af w w'):db B b l w':=by
 rcases h with⟨hB,v,hb,ho,hn⟩|⟨hB,v,hb,ho,hn⟩
 ·exact .inl ⟨hB,v,k.obj hb id,iA ho k,hn⟩
 ·exact .inr ⟨hB,v,k.obj hb id,iA ho k,hn⟩
theorem uX9 {B b:Nat}{l:List UInt8}{w w':World}{S:Nat->Prop}(h:db B b l w)(m:ah S w w')(hb:¬ S b)(hr:∀ k c fr,w.heap[k]?=some (.cells c 5 fr)->¬ S k):db B b l w':=by
 have own:∀ {v:Value} {n:Nat} {xs:List Value},w.ownsRow B 5 1 v n xs->w'.ownsRow B 5 1 v n xs:=by
  rintro v n xs ⟨h1,h2|⟨g,cap,dz,a,b,c,d⟩⟩
  ·exact⟨h1,.inl h2⟩
  ·exact⟨h1,.inr ⟨g,cap,dz,a,b,m.obj c (hr g _ _ c),d⟩⟩
 rcases h with⟨hB,v,AC,ho,hn⟩|⟨hB,v,AC,ho,hn⟩
 ·exact .inl ⟨hB,v,m.obj AC hb,own ho,hn⟩
 ·exact .inr ⟨hB,v,m.obj AC hb,own ho,hn⟩
theorem cZ {w w2 w3:World}{B:Nat}(h:af w w2)(hb:Below B w2 w3)(hB:w.heap.size<=B):af w w3:=
 ⟨hb.os.trans h.os,hb.tape.trans h.tape,hb.output.trans h.output,aux h.size hb.size,fun k hk _=>(hb.block k (auL hk hB)).trans (h.block k hk id)⟩
def Ud (w:World)(b:Nat)(k:Nat):Prop:=k=b\/∃ c fr,w.heap[k]?=some (.cells c 5 fr)
theorem Pi {w:World}{b k:Nat}{o:Obj}(hk:k≠b)(ho:w.heap[k]?=some o)(ht:∀ c fr,o≠.cells c 5 fr):¬ Ud w b k:=by
 rintro(h|⟨c,fr,h⟩)
 ·exact hk h
 ·rw[ho]at h;exact ht c fr (avG h)
theorem cO {w:World}{b k:Nat}{c:Array Value}{t:TypeId}(hk:k≠b)(ho:World.blk w k c t)(ht:t≠5):¬ Ud w b k:=
 Pi hk ho (fun c' fr e=>ht (by cases e;rfl))
theorem Gv (B b:Nat)(bs:List Value)(w:World)(h:Lib.IsBuilder 176 5 B b bs w):
  Calls prog 187 #[.pointer (some ⟨b,0,none⟩)] w fun e w'=>e=.returned (.tuple #[])/\(Lib.BuilderAt 176 5 B b (.pointer (some ⟨b,0,none⟩)) bs w'/\Below B w w'/\ah (·=b) w w'):=by
 rcases h with h|h
 ·refine(og b w h.cell0 h.shape h.frozen0).mono ?_;rintro e w' ⟨rfl,rfl⟩;exact⟨rfl,h.used _,(Below.refl B w).setCell (p:=⟨b,0,none⟩) h.1 _,(ah.refl (fun x=>x=b) w).setCell (p:=⟨b,0,none⟩) (.inl rfl) _⟩
 ·refine(oP b w h.cell0).mono ?_;rintro e w' ⟨rfl,rfl⟩;exact⟨rfl,h,Below.refl B _,ah.refl _ _⟩
theorem jt (B b:Nat)(l s:List UInt8)(w:World)(h:db B b l w)(aV:l.length+s.length<=140737488355328)(hBw:B<=w.heap.size):
  Calls prog 110 #[.pointer (some ⟨b,0,none⟩),.string ⟨s.toArray⟩] w fun e w'=>e=.returned (.tuple #[.int .i64 (s.length:Int),.nilIface])/\db B b (l++s) w'/\Below B w w'/\ah (Ud w b) w w':=by
 unfold db at*;rw[Lib.byteCells_append];have oG:(Lib.byteCells l).length=l.length:=Lib.byteCells_length l;have uW:({ data:=s.toArray }:ByteArray).size=s.length:=by simp[ByteArray.size]
 have hsc:Lib.byteCells s=Lib.strCells ⟨s.toArray⟩:=rfl;rw[hsc];generalize Lib.byteCells l=bs at*;rw[<-oG]at aV;clear oG hsc;obtain⟨i0,hi,nX,mZ,oH⟩:=auO j7;have akw:(s.length:Int)<=9223372036854775807:=by omega
 go_enter func110,ntmps110;go_wp2_with fail;refine(Gv B b bs _ h).mono ?_;rintro e w1 ⟨rfl,h1,hb1,mT⟩;obtain⟨hB,v,AC,bw,dW⟩:=h1;have c0:w1.cell? ⟨b,0,none⟩=some (.pointer (some ⟨b,0,none⟩)):=by rw[Lib.cell_of_heap AC];rfl
 have c1:w1.cell? ⟨b,1,none⟩=some v:=by rw[Lib.cell_of_heap AC];rfl
 go_wp2_with (at_builtin;refine Lib.wpList_append_own_string _ rfl _ _ 131 9 rfl B 5 i0 underlying131 underlying9 hi nX mZ oH _ _ _ rfl bw ⟨s.toArray⟩ rfl ?c3 ?c4 ?c5 ?_)
 case c3=>rw[uW];unfold maxLen;omega
 case c4=>rw[uW];omega
 case c5=>have:=hb1.size;omega
 intro v' w2 oq qy _;have aL:b<w1.heap.size:=by
  rcases Nat.lt_or_ge b w1.heap.size with h'|h'
  ·exact h'
  ·simp[Array.getElem?_eq_none h']at AC
 have fi:w2.heap[b]?=some (.cells #[.pointer (some ⟨b,0,none⟩),v] 176 (0,0)):=by
  rw[qy.block b aL (fun e=>dW e.symm)];exact AC
 have d0:w2.cell? ⟨b,0,none⟩=some (.pointer (some ⟨b,0,none⟩)):=by rw[Lib.cell_of_heap fi];rfl
 have d1:w2.cell? ⟨b,1,none⟩=some v:=by rw[Lib.cell_of_heap fi];rfl
 have f1:w2.frozen? ⟨b,1,none⟩=false:=Lib.frozen_of_heap fi 1;obtain⟨ao,n',cap,rfl⟩:∃ ao n' cap,v'=.slice ao n' cap:=by
  rcases oq.2 with⟨hv,_⟩|⟨g,cap,dz,hv,_⟩
  ·exact⟨_,_,_,hv⟩
  ·exact⟨_,_,_,hv⟩
 have BK:Hid (ah (Ud w b) w w2):=hd0 ((mT.mono (fun i _ e=>.inl e)).grown qy (fun k hk=>by
  by_cases e:k=b
  ·exact .inl (.inl e)
  ·rcases Nat.lt_or_ge k w.heap.size with aL|hge
   ·refine .inl (.inr ?_);rcases bw.2 with⟨hv,_⟩|⟨g,cap,dz,hv,_,hg,_⟩
    ·rw[hv]at hk;cases hk
    ·rw[hv]at hk;have:g=k:=by simpa[Value.ownBlock]using hk
     subst this;exact⟨_,_,(mT.block g aL e).symm.trans hg⟩
   ·exact .inr hge))
 have RX:=hd0 oq;have Hgr:=hd0 qy;have Hb1:=hd0 hb1;have Hb2:=hd0 fi;have RS:=hd0 bw;have Hsl:=hd0 uW;clear oq qy hb1 fi bw AC h c0 c1 hi nX mZ oH uW mT;go_wp2;go_ret2;refine⟨rfl,.inr ?_,?_,?_⟩
 ·exact Lib.BuilderAt.put (T:=176) (e:=5) hB Hb2.out (bs':=bs++Lib.strCells ⟨s.toArray⟩) (by rw[auS,Lib.strCells_length];exact RX.out) O7
 ·exact(Hb1.out.grown Hgr.out (by have:=Hb1.out.size;omega) (fun k hk=>(RS.out.lt k hk).1)).setCell (p:=⟨b,1,none⟩) hB _
 ·exact BK.out.setCell (p:=⟨b,1,none⟩) (.inl (.inl rfl)) _
end
section
open Go.RowKit Go.Shelf
attribute [local go_sem] auv
theorem Ue {d:Dk}{n:Nat}{p:List UInt8}(h1:1<=n)(h2:n<d.size/4)(h:iw d n=.ok p):kJ (eO d n)=.ok p:=by
 unfold iw at h;rw[auI ⟨by omega,by omega⟩]at h;simpa using h
theorem gL.lt {w:World}{c:Nat}{M:Int->Option (List UInt8)}{F:Nat->Prop}(h:gL w c M F)(b:Nat)(hb:F b):b<w.heap.size:=by
 obtain⟨r,mb,S,K,V,l,h,_⟩:=h;exact h.lt b hb
def upto (d:Dk)(n k:Nat):List UInt8:=(List.range k).flatMap fun i=>d.get (4*n+i)
theorem zB (d:Dk)(n k:Nat):upto d n (k+1)=upto d n k++d.get (4*n+k):=by
 unfold upto;rw[List.range_succ,auR];simp
theorem Lm (d:Dk)(n:Nat):upto d n 4=eO d n:=by
 unfold upto eO;simp[List.range_succ]
theorem De {d:Dk}(h:yD d){n:Nat}(hn:4*n+4<=d.size):∀ k,k<=4->(upto d n k).length=64*k
 |0,_=>rfl
 |k+1,hk=>by rw[zB,auS,De h hn k (by omega),AP h (by omega)];omega
theorem zC {w:World}{v:Nat}{d:Dk}{text:List UInt8}{num:Nat}{F:Nat->Prop}(h:ic w v d text num F)(n:Nat)(h1:1<=n)(h2:n<d.size/4)(p:List UInt8)(hp:iw d n=.ok p):
  Calls prog 57 #[aq v,.int .i64 (n:Int)] w fun e w'=>e=.returned (.tuple #[.string ⟨p.toArray⟩,.int .i64 0])/\∃ F',ic w' v d text num F'/\d6 F F' w w':=by
 have MY:=hd0 (Dd h n h1 h2);have Hu:=hd0 (Ue h1 h2 hp);have Hp:=hd0 hp;obtain⟨pd,pc,M,Fd,Fc,h⟩:=h;have cK:=h.many;have H:=hd0 h;have c4:w.cell? ⟨v,4,none⟩=some (.bool false):=aa h.own 4;have c3:w.cell? ⟨v,3,none⟩=some (aq pc):=aa h.own 3;have G:=hd0 (Pd h.cache (n:Int) ⟨by omega,by omega⟩);have Hgd:Hid (∀ s,M n=some s->s=p):=hd0 (fun s hs=>by have:=h.good _ _ hs;rw[hp]at this;injection this with e;exact e.symm);clear h hp;go_enter func57,ntmps57;go_wp2_with fail;refine MY.out.mono ?_;rintro e w0 ⟨rfl,rfl⟩;go_wp2_with fail;refine G.out.mono ?_;rintro e w1 ⟨rfl,AB,hk1⟩;have X1:qi w1 v pd pc d text num M Fd Fc F:={ own:=ab hk1.mod H.out.own H.out.nc,disk:=H.out.disk.mod hk1.mod H.out.apart,cache:=AB,good:=H.out.good,fv:=H.out.fv,fd:=H.out.fd,fc:=H.out.fc,apart:=H.out.apart,nd:=H.out.nd,nc:=H.out.nc,many:=H.out.many,num:=H.out.num,lt:=fun b hb=>auL (H.out.lt b hb) hk1.mod.size }
 have H1:=hd0 X1;have yB:Hid (ah F w0 w1):=hd0 (hk1.mod.mono fun i _ hi=>H.out.fc i hi);clear X1 AB hk1 c3 c4;obtain⟨q,hq⟩:∃ q,M (n:Int)=q:=⟨_,rfl⟩
 have Hq:=hd0 hq;rw[hq]
 cases q with
 |some s=>
  have es:=Hgd.out s hq;clear hq;go_wp2;go_ret2;exact⟨by rw[<-es];rfl,F,⟨pd,pc,M,Fd,Fc,H1.out⟩,yB.out,fun _ hb=>.inl hb⟩
 |none=>
  clear hq;go_wp2_with fail;have nU:=hd0 (nA w1);have Wk:Hid (qi (w1.alloc (.cells #[.pointer none,.slice none 0 0] 176)) v pd pc d text num M Fd Fc F):=hd0 (H1.out.same (fun b hb hl=>((ah.refl (fun _=>False) w1).alloc (.cells #[.pointer none,.slice none 0 0] 176)).block b hl id) (by simp));have h4:4*n+4<=d.size:=by omega
  go_loopw [35] (fun i wr=>∃ k:Nat,k<=4/\i=.int .i64 (k:Int)/\db w1.heap.size w1.heap.size (upto d n k) wr/\qi wr v pd pc d text num M Fd Fc F/\ah F w1 wr)
   (fun i _=>4-(intOf i).toNat)
  case atStart=>exact⟨0,by omega,rfl,nU.out,Wk.out,(ah.refl F w1).alloc _⟩
  case round=>
   clear nU Wk;obtain⟨k,hk,rfl,hb,hx,hm⟩:=hrel;have HB:=hd0 hb;have HX:=hd0 hx;have HM:=hd0 hm;have e0:wr.cell? ⟨v,0,none⟩=some (aq pd):=aa hx.own 0;clear hb hx hm;by_cases aL:k<4
   ·have dN:(k:Int)<4:=by omega
    have R:=Le HX.out.disk (4*n+k) (by omega);have ek:((4*n+k:Nat):Int)=4*(n:Int)+(k:Int):=by omega
    rw[ek]at R;have HR:=hd0 R;clear R;go_wp2_with fail;refine HR.out.mono ?_;rintro e w2 ⟨rfl,rfl⟩;go_wp2_with fail;refine(Ph HX.out).mono ?_;rintro e w3 ⟨rfl,Ya,lz⟩;have qw:=hd0 Ya;have nW:=hd0 lz;clear Ya lz;go_wp2_with fail;have asb:=H1.out.lt v H1.out.fv;have ru:=AP HX.out.disk.ok (n:=4*n+k) (by omega);have yh:=De HX.out.disk.ok h4 k hk;have ox:=uX9 HB.out nW.out (by show ¬ w1.heap.size=v;omega) (fun j c fr hj e=>by
     subst e;have:=HX.out.own;rw[World.blk,hj]at this;simp at this)
    have rG:w1.heap.size<=w3.heap.size:=aux HM.out.size nW.out.size;refine(jt w1.heap.size w1.heap.size (upto d n k) (d.get (4*n+k)) w3 ox (by omega) rG).mono ?_;rintro e w4 ⟨rfl,Kn,tV,_⟩;rw[<-zB]at Kn;have m4:ah (fun i=>w1.heap.size<=i) w3 w4:=⟨tV.os,tV.tape,tV.output,tV.size,fun j hj hS=>tV.block j (by omega)⟩
    have FG:=hd0 Kn;have B3:=hd0 (qw.out.same (m4.on (fun b hb hge=>by have:=H1.out.lt b hb;omega)) m4.size);have rH:Hid (ah F w1 w4):=hd0 ((HM.out.trans (nW.out.mono (T:=F) (fun i _ e=>by subst e;exact H1.out.fv)) (fun _ _ h=>h)).trans m4 (fun i hi hge=>by omega));clear Kn tV m4 ox;go_wp2_with fail;exact⟨⟨k+1,by omega,by go_num,FG.out,B3.out,rH.out⟩,by simp[intOf];omega⟩
   ·obtain rfl:k=4:=by omega
    have rG:w1.heap.size<=wr.heap.size:=HM.out.size;have S:=hd0 (gO w1.heap.size w1.heap.size (upto d n 4) wr HB.out rG);rw[Lm]at S;go_wp2_with fail;refine S.out.mono ?_;rintro e w2 ⟨rfl,tV⟩;have m2:ah (fun i=>w1.heap.size<=i) wr w2:=⟨tV.os,tV.tape,tV.output,tV.size,fun j hj hS=>tV.block j (by omega)⟩
    have lE:=hd0 (HX.out.same (m2.on (fun b hb hge=>by have:=H1.out.lt b hb;omega)) m2.size);have oF:Hid (ah F w1 w2):=hd0 (HM.out.trans m2 (fun i hi hge=>by omega));clear tV m2;go_wp2_with fail;refine(Dc _ p w2 Hu.out).mono ?_;rintro e w3 ⟨rfl,dw⟩;have qw:=hd0 (lE.out.same (dw.on (fun _ _=>id)) dw.size);have nW:Hid (ah F w1 w3):=hd0 (oF.out.keep dw);have g3:w3.cell? ⟨v,3,none⟩=some (aq pc):=aa qw.out.own 3;clear dw;go_wp2_with fail;refine(Db qw.out.cache (n:Int) ⟨by omega,by omega⟩ p).mono ?_;rintro e w4 ⟨⟨u,rfl⟩,M',VL,hc4,iT,hM'⟩;have BY:w0.heap.size<=w3.heap.size:=aux yB.out.size nW.out.size;have X4:qi w4 v pd pc d text num M' Fd VL (fun b=>F b\/VL b):=
     { own:=ab iT.mod qw.out.own qw.out.nc,disk:=qw.out.disk.mod iT.mod qw.out.apart,cache:=hc4,
       good:=fun j s hj=>by
        rcases hM' j s hj with⟨rfl,rfl⟩|⟨_,h⟩
        ·exact Hp.out
        ·exact qw.out.good j s h
       fv:=.inl qw.out.fv,fd:=fun b hb=>.inl (qw.out.fd b hb),fc:=fun b hb=>.inr hb,
       apart:=fun b hb hc=>(iT.foot b hc).elim (qw.out.apart b hb) (fun hge=>by have:=qw.out.lt b (qw.out.fd b hb);omega),
       nd:=qw.out.nd,nc:=fun hc=>(iT.foot v hc).elim qw.out.nc (fun hge=>by have:=qw.out.lt v qw.out.fv;omega),many:=qw.out.many,num:=qw.out.num,
       lt:=fun b hb=>hb.elim (fun hb=>auL (qw.out.lt b hb) iT.mod.size) (fun hb=>hc4.lt b hb) }
    have B3:=hd0 X4;have HK:Hid (d6 F (fun b=>F b\/VL b) w0 w4):=hd0 ⟨(yB.out.trans nW.out (fun _ _ h=>h)).trans (iT.mod.mono (T:=F) (fun i _ hi=>qw.out.fc i hi)) (fun _ _ h=>h),
     fun b hb=>hb.elim .inl (fun hc=>(iT.foot b hc).elim (fun h=>.inl (qw.out.fc b h)) (fun h=>.inr (by omega)))⟩
    clear X4 hc4 iT hM';go_wp2;go_ret2;exact⟨rfl,_,⟨pd,pc,M',Fd,VL,B3.out⟩,HK.out⟩
end
end Go.Proofs.YtkghpdcloaiflaaGreatDoor
