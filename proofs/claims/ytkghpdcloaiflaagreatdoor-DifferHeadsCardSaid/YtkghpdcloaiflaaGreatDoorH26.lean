import Derived.Test.YtkghpdcloaiflaaGreatDoorH20
import Derived.Test.YtkghpdcloaiflaaGreatDoorH25
import Derived.Carry
set_option maxHeartbeats 8000000
set_option maxRecDepth 100000
namespace Go.Proofs.YtkghpdcloaiflaaGreatDoor
open _root_.Go.Proofs.Tryz
variable {k x:Int}{p tb:Nat}{w:World}
section
section
open Go.RowKit
section
variable {w:World}{p tb:Nat}{T:Tr}{A M:Int->Nat}{role:Nat->dE}{d:Int->Nat}
theorem QW (h:WF T d){n:Nd}(hg:T.get k=some n):n.num=k/\-9223372036854775808<=k/\k<=9223372036854775807:=by
 obtain⟨hm,hk⟩:=(aG h.sorted).1 hg;have:=h.nums n hm;omega
end
end
section
open Go.RowKit
section
variable {w:World}{p tb:Nat}{T:Tr}{A M:Int->Nat}{role:Nat->dE}{d:Int->Nat}
end
end
section
open Go.RowKit
section
variable {w:World}{p tb:Nat}{T:Tr}{A M:Int->Nat}{role:Nat->dE}{d:Int->Nat}
theorem Iw (h:WF T d){f:Nat}(e:dP T T.length 2=dP T f k):f=0->T.get k=none:=by
 intro h0;subst h0;have:=h.fresh.1;rw[e]at this;exact this
theorem Ac (h:aS w p T tb A M role)(hw:WF T d)(he:yK w)(c:cm)(hc:c.Small)(hk:c.kind=0\/c.kind=1):
  Calls prog 192 #[.pointer (some ⟨p,0,none⟩),kZ c] w λe w'=>e=.returned (.int .i64 (fX T c).2)/\eM w w' p tb role (fX T c).1:=by
 have HC:=Z hc;have dM:af w (w.alloc (.cells (dq c) 55)):=(ai.refl _ w).alloc _;obtain⟨HT,HW,He,zh⟩:=K4 (h.keep dM) hw (he.keep dM) h;have TU:Hid (World.blk (w.alloc (.cells (dq c) 55)) w.heap.size (dq c) 55):=Z (av _ _ _);have HKd:=Z hk;clear h hw he hc dM hk;go_enter func192,ntmps192;unfold kZ dq;go_wp2_with fail;unfold dq at HT He TU;have eR:Hid (af w (w.alloc (.cells #[.int .i64 c.kind,.string ⟨c.path.toArray⟩,.string ⟨c.dest.toArray⟩,.int .i64 c.pos,.string ⟨c.data.toArray⟩] 55))):=Z ((ai.refl _ w).alloc _);generalize w.alloc (.cells #[.int .i64 c.kind,.string ⟨c.path.toArray⟩,.string ⟨c.dest.toArray⟩,.int .i64 c.pos,.string ⟨c.data.toArray⟩] 55)=w0 at*;refine(QL HT.o HW.o He.o c.path HC.path).mono ?_;rintro e w1 ⟨rfl,hk⟩;obtain⟨FP,sE,cC⟩:=K3 (ab hk TU.o id) (HT.keep hk) (eR.keep hk);clear hk TU HT He eR
 cases hr:iG T c.path with
 |error e=>
  have eG:(e==0)=false:=by have:=Dy hr;rw[awO];omega
  have Hv:Hid (fX T c=(T,e)):=Z (by rw[fX,hr]);clear hr;unfold QK;go_wp2;go_ret;exact⟨by rw[Hv.o];rfl,by rw[Hv.o];exact eM.same zh.o cC.o⟩
 |ok x=>
  obtain⟨k,s⟩:=x;obtain⟨q,up,hp,qs,bZ,hf,hgk,KN,hn,AE,hdd⟩:=uU HW.o hr;have CG:s.length<=16:=by
   simp only[aJ,awo,awt]at bZ;exact bZ.1.1.2
  have CJ:=Z (And.intro hgk (And.intro KN (And.intro hn AE)));have c0:w1.cell? ⟨p,0,none⟩=some (.map (some tb)):=aa sE.tree 0;have bt:=λty=>dJ.len (tm:=247) sE.of underlying247 ty;have hla:(da T A).length=T.length:=by simp[da]
  rw[hla]at bt;have Hr:=Z hr;clear hr hp qs bZ hf hgk KN hn AE hdd hla;unfold QK;by_cases hb:60<=T.length
  ·have Hv:Hid (fX T c=(T,145)):=Z (by rw[fX,Hr.o];simp only[hb,if_true]);have fh:(60:Int)<=T.length:=J
   clear hb;go_wp2;go_ret;exact⟨by rw[Hv.o];rfl,by rw[Hv.o];exact eM.same zh.o cC.o⟩
  ·have Hv:Hid (fX T c=((Tr.add ⟨dP T T.length 2,c.kind==1,1,[],[]⟩ T).named k (rM s (dP T T.length 2)),0)):=Z (by rw[fX,Hr.o];simp only[hb,if_false]);have fh:¬(60:Int)<=T.length:=J
   have Hb:=Z hb;clear hb;go_wp2_with fail
   go_loop [8] (λi=>∃(f:Nat) (k:Int),f<=T.length/\i=.int .i64 k/\k=2+(T.length:Int)-f/\Hid (dP T T.length 2=dP T f k)) (λi=>(2+(T.length:Int)-intOf i).toNat)
   case atStart=>exact⟨T.length,2,av9 _,rfl,J,Z rfl⟩
   case round=>
    obtain⟨f,i,hf,rfl,hi,Hfr⟩:=hrel;have hib:0<=i/\i<=100:=by have:=Hb.o;omega
    have Hi:=Z hi;clear hi;have r1:=dJ.look1 (tm:=247) sE.of underlying247 underlying3 (z8 w1) i J;rw[pJ]at r1
    cases hg:T.get i with
    |some n=>
     rw[hg]at r1;simp only[aw7]at r1;have hf1:1<=f:=by
      rcases Nat.eq_zero_or_pos f with h0|h0
      ·have:=Iw HW.o Hfr.o h0;rw[hg]at this;cases this
      ·exact h0
     have alG:Hid (dP T T.length 2=dP T (f-1) (i+1)):=Z (by
      rw[Hfr.o];obtain⟨g,rfl⟩:∃ g,f=g+1:=⟨f-1,J⟩
      show(if(T.get i).isSome=true then dP T g (i+1)else i)=_;rw[hg];rfl)
     clear hg;go_wp2_with fail
     go_round
     case rel=>exact⟨f-1,i+1,J,rfl,by have:=Hi.o;omega,alG⟩
     case measure=>have:=Hi.o;simp[intOf];omega
    |none=>
     rw[hg]at r1;simp only[Option.map_none]at r1;have afO:Hid (dP T T.length 2=i):=Z (by
      rw[Hfr.o]
      cases f with
      |zero=>rfl
      |succ g=>
       show(if(T.get i).isSome=true then dP T g (i+1)else i)=_;rw[hg];rfl)
     have YW:=Z hg;have z0:w1.cell? ⟨w.heap.size,0,none⟩=some (.int .i64 c.kind):=aa FP.o 0;have alf:w.heap.size<w1.heap.size:=ak FP.o;have aqu:p<w1.heap.size:=ak sE.tree;have Ug:=@run_makeMap prog;clear hg hf Hi Hfr bt;rcases HKd.o with dM|hk1
     ·have Om:Hid (fX T c=((Tr.add ⟨i,false,1,[],[]⟩ T).named k (rM s i),0)):=Z (by
       rw[Hv.o,afO.o,dM];rfl)
      rw[dM]at z0;have B9:k≠i:=λe=>by have:=CJ.1;rw[e,YW.o]at this;cases this
      have Sf:=Z B9;have TF:True:=trivial;clear B9 dM;go_wp2_with (first
       |(at_mapUpdate
         have _t:=TF;refine iu (sE.of.mod ((ai.refl (λ_=>False) w1).alloc _) id) underlying247 underlying3 i J w1.heap.size (by have:=Hb.o;simp[da];omega) rfl rfl rfl rfl rfl ?_;intro w2 db jR;have hnt:w1.heap.size≠tb:=λe=>by have:=sE.of.lt;omega
         have jD:ai (·=tb) w1 w2:=((ai.refl (λx=>x=tb) w1).alloc _).trans jR (λ_ _ h=>h);have nW:World.blk w2 w1.heap.size (kO ⟨i,false,1,[],[]⟩ (w1.heap.size+1)) 246:=ab jR (av _ _ _) hnt;have Gg:=rR (n0:=⟨i,false,1,[],[]⟩) (a:=w1.heap.size) (m:=w1.heap.size+1) sE.o (jw.1 YW.o) jD (av9 _) J J (ak nW) (λh=>by cases h) db nW (λh=>by cases h);have j5:dQ (Tr.add ⟨i,false,1,[],[]⟩ T):=kB HW.sorted (jw.1 YW.o);have Cu:(Tr.add ⟨i,false,1,[],[]⟩ T).get k=some up:=by rw[uS HW.sorted (jw.1 YW.o),awf Sf.o];exact CJ.1
         have e4:w2.cell? ⟨A k,4,none⟩=some (.map (some (M k))):=by
          have h:=Gg.cell j5 Cu 4;simp only[awf Sf.o]at h;rw[h];show some (Value.map (if up.dir=true then some (M k)else none))=_;rw[awd CJ.2.1]
         have sD:=Gg.names up ((aG j5).1 Cu).1 CJ.2.1;have Th:up.num=k:=((aG j5).1 Cu).2;rw[Th]at sD;simp only[awf Sf.o]at sD;obtain⟨HMN,sC,B3,Tn⟩:=K4 sD Gg j5 Cu;have gi:Hid (ai (λb=>role b≠.none) w w2):=Z ((cC.mono (λ_ _ h=>h.elim)).trans jD (λj hj e=>by rw[e,zh.rof];exact dE.noConfusion));clear TF db jR hnt jD nW Gg j5 Cu sD Th)
       |(at_mapUpdate
         refine oQ HMN.o underlying244 underlying9 underlying3 s J i J (by have:=CJ.2.2.2;omega) rfl rfl rfl rfl rfl ?_;intro w3 nS yr;have aa9:=nS;have Y9:=xm (f:=rM s i) sC.o B3.o Tn.o CJ.2.1 (by simp only[awf Sf.o];exact yr) (by simp only[awf Sf.o];exact nS);have Uw:=Z Y9;have pU:Hid (ai (λb=>role b≠.none) w w3):=Z (gi.trans yr (λj hj e=>by
          have hr:=zh.rnames up ((aG HW.sorted).1 CJ.1).1 CJ.2.1;rw[((aG HW.sorted).1 CJ.1).2]at hr;rw[e,hr];exact dE.noConfusion))
         clear nS aa9 yr Y9 e4))
      go_ret;refine⟨by rw[Om.o];rfl,?_⟩;rw[Om.o];refine⟨_,_,_,Uw.o,λb hb=>?_,pU.o⟩;have cJ:=cC.size;by_cases e1:b=w1.heap.size
      ·exact .inr J
      ·by_cases e2:b=w1.heap.size+1
       ·exact .inr J
       ·left
        rw[awf e1,awf (λh=>e2 h.1)]at hb;exact hb
     ·have Om:Hid (fX T c=((Tr.add ⟨i,true,1,[],[]⟩ T).named k (rM s i),0)):=Z (by
       rw[Hv.o,afO.o,hk1];rfl)
      rw[hk1]at z0;have B9:k≠i:=λe=>by have:=CJ.1;rw[e,YW.o]at this;cases this
      have Sf:=Z B9;have TF:True:=trivial;clear B9 hk1;go_wp2_with (first
       |(at_mapUpdate
         have _t:=TF;refine iu (sE.of.mod (((ai.refl (λ_=>False) w1).alloc _).alloc _) id) underlying247 underlying3 i J w1.heap.size (by have:=Hb.o;simp[da];omega) rfl rfl rfl rfl rfl ?_;intro w2 db jR;have hnt:w1.heap.size≠tb:=λe=>by have:=sE.of.lt;omega
         have jD:ai (·=tb) w1 w2:=(((ai.refl (λx=>x=tb) w1).alloc _).alloc _).trans jR (λ_ _ h=>h);have nW:World.blk w2 w1.heap.size (kO ⟨i,true,1,[],[]⟩ (w1.heap.size+1)) 246:=ab jR (aE (av _ _ _) _) hnt;have Gg:=rR (n0:=⟨i,true,1,[],[]⟩) (a:=w1.heap.size) (m:=w1.heap.size+1) sE.o (jw.1 YW.o) jD (av9 _) J J (ak nW) (λ_=>by have:=jR.size;simp at this;omega) db nW (λ_=>(iC.made' sp7 ()).mod jR (λe=>by have:=sE.of.lt;omega));have j5:dQ (Tr.add ⟨i,true,1,[],[]⟩ T):=kB HW.sorted (jw.1 YW.o);have Cu:(Tr.add ⟨i,true,1,[],[]⟩ T).get k=some up:=by rw[uS HW.sorted (jw.1 YW.o),awf Sf.o];exact CJ.1
         have e4:w2.cell? ⟨A k,4,none⟩=some (.map (some (M k))):=by
          have h:=Gg.cell j5 Cu 4;simp only[awf Sf.o]at h;rw[h];show some (Value.map (if up.dir=true then some (M k)else none))=_;rw[awd CJ.2.1]
         have sD:=Gg.names up ((aG j5).1 Cu).1 CJ.2.1;have Th:up.num=k:=((aG j5).1 Cu).2;rw[Th]at sD;simp only[awf Sf.o]at sD;obtain⟨HMN,sC,B3,Tn⟩:=K4 sD Gg j5 Cu;have gi:Hid (ai (λb=>role b≠.none) w w2):=Z ((cC.mono (λ_ _ h=>h.elim)).trans jD (λj hj e=>by rw[e,zh.rof];exact dE.noConfusion));clear TF db jR hnt jD nW Gg j5 Cu sD Th)
       |(at_mapUpdate
         refine oQ HMN.o underlying244 underlying9 underlying3 s J i J (by have:=CJ.2.2.2;omega) rfl rfl rfl rfl rfl ?_;intro w3 nS yr;have aa9:=nS;have Y9:=xm (f:=rM s i) sC.o B3.o Tn.o CJ.2.1 (by simp only[awf Sf.o];exact yr) (by simp only[awf Sf.o];exact nS);have Uw:=Z Y9;have pU:Hid (ai (λb=>role b≠.none) w w3):=Z (gi.trans yr (λj hj e=>by
          have hr:=zh.rnames up ((aG HW.sorted).1 CJ.1).1 CJ.2.1;rw[((aG HW.sorted).1 CJ.1).2]at hr;rw[e,hr];exact dE.noConfusion))
         clear nS aa9 yr Y9 e4))
      go_ret;refine⟨by rw[Om.o];rfl,?_⟩;rw[Om.o];refine⟨_,_,_,Uw.o,λb hb=>?_,pU.o⟩;have cJ:=cC.size;by_cases e1:b=w1.heap.size
      ·exact .inr J
      ·by_cases e2:b=w1.heap.size+1
       ·exact .inr J
       ·left
        rw[awf e1,awf (λh=>e2 h.1)]at hb;exact hb
end
end
section
open Go.RowKit
section
variable {w:World}{p tb:Nat}{T:Tr}{A M:Int->Nat}{role:Nat->dE}{d:Int->Nat}
end
end
section
open Go.RowKit Go.Maps
section
variable {w:World}{p tb:Nat}{T:Tr}{A M:Int->Nat}{role:Nat->dE}{d:Int->Nat}
end
end
section
open Go.RowKit Go.Maps
section
variable {w:World}{p tb:Nat}{T:Tr}{A M:Int->Nat}{role:Nat->dE}{d:Int->Nat}
end
end
section
open Go.RowKit
theorem VO (w:World):Calls prog 102 #[] w λe w'=>∃ p tb A M role,e=.returned (.pointer (some ⟨p,0,none⟩))/\aS w' p Tr.new tb A M role/\(∀ b,role b≠.none->w.heap.size<=b)/\af w w':=by
 have Ug:=@run_makeMap prog;have dr:af (w.alloc (.map #[] 0)) (((w.alloc (.map #[] 0)).alloc (.map #[] 0)).alloc (.cells #[.int .i64 1,.bool true,.int .i64 1,.string ⟨#[]⟩,.map (some (w.heap.size+1))] 246)):=((ai.refl _ _).alloc _).alloc _;have eA:QE (((w.alloc (.map #[] 0)).alloc (.map #[] 0)).alloc (.cells #[.int .i64 1,.bool true,.int .i64 1,.string ⟨#[]⟩,.map (some (w.heap.size+1))] 246)) w.heap.size []:=(dJ.made w).mod dr id;have rp:It (((w.alloc (.map #[] 0)).alloc (.map #[] 0)).alloc (.cells #[.int .i64 1,.bool true,.int .i64 1,.string ⟨#[]⟩,.map (some (w.heap.size+1))] 246)) (w.heap.size+1) []:=(iC.made' sp7 ()).mod ((ai.refl (λ_=>False) _).alloc _) id;have nW:World.blk (((w.alloc (.map #[] 0)).alloc (.map #[] 0)).alloc (.cells #[.int .i64 1,.bool true,.int .i64 1,.string ⟨#[]⟩,.map (some (w.heap.size+1))] 246)) (w.heap.size+1+1) #[.int .i64 1,.bool true,.int .i64 1,.string ⟨#[]⟩,.map (some (w.heap.size+1))] 246:=aV sp7 _ _;obtain⟨w4,bN,AG,FF⟩:=dJ.store eA underlying247 underlying3 1 dc7 (w.heap.size+1+1) dc7;have cJ:=FF.size;obtain⟨HN4,HD4,sG⟩:=K3 (rp.mod FF J) (ab FF nW J) AG;have pO:Hid (af w w4):=Z (((((ai.refl (λ_=>False) w).alloc _).alloc _).alloc _).new FF (av9 _));simp at cJ;clear dr eA rp nW AG FF;go_enter func102,ntmps102;go_wp2;go_ret;obtain⟨N,hN⟩:∃ N,w.heap.size=N:=⟨_,rfl⟩
 rw[hN]at HN4 HD4 sG cJ;rw[hN];refine⟨w4.heap.size,N,λ_=>N+2,λ_=>N+1,λb=>if b=w4.heap.size then .tree else if b=N then .of else if b=N+2 then .node 1 else if b=N+1 then .names 1 else .none,rfl,⟨av _ _ _,awd rfl,sG.mod ((ai.refl (λ_=>False) w4).alloc _) id,?_,?_,?_,?_,?_,?_⟩,?_,pO.alloc _⟩
 ·rw[awf J,awd rfl]
 ·intro n hn;rw[Tr.new,axy]at hn;subst hn;exact aE HD4.o _
 ·intro n hn;rw[Tr.new,axy]at hn;subst hn;show(if N+2=w4.heap.size then _ else _)=_;rw[awf J,awf J,awd rfl]
 ·intro n hn _;rw[Tr.new,axy]at hn;subst hn;exact HN4.mod ((ai.refl (λ_=>False) w4).alloc _) id
 ·intro n hn _;rw[Tr.new,axy]at hn;subst hn;show(if N+1=w4.heap.size then _ else _)=_;rw[awf J,awf J,awf J,awd rfl]
 ·intro b hb;simp only[World.alloc,Array.size_push];by_cases h1:b=w4.heap.size
  ·omega
  ·by_cases h2:b=N
   ·omega
   ·by_cases h3:b=N+2
    ·omega
    ·by_cases h4:b=N+1
     ·omega
     ·rw[awf h1,awf h2,awf h3,awf h4]at hb;exact absurd rfl hb
 ·intro b hb;by_cases h1:b=w4.heap.size
  ·omega
  ·by_cases h2:b=N
   ·omega
   ·by_cases h3:b=N+2
    ·omega
    ·by_cases h4:b=N+1
     ·omega
     ·simp only[awf h1,awf h2,awf h3,awf h4]at hb;exact absurd rfl hb
theorem eM.from {w1 w':World}{role:Nat->dE}{X:Tr}(k:af w w1)(h:eM w1 w' p tb role X):eM w w' p tb role X:=by
 obtain⟨A',M',jQ,h1,h2,h3⟩:=h;exact⟨A',M',jQ,h1,λb hb=>(h2 b hb).imp id (λh=>av2 k.size h),(k.mono (λ_ _ h=>h.elim)).trans h3 (λ_ _ h=>h)⟩
def Br (f:FuncId)(g:Tr->cm->Tr×Int)(c:cm):Prop:=
 ∀ {w:World} {p tb:Nat} {T:Tr} {A M:Int->Nat} {role:Nat->dE} {d:Int->Nat},aS w p T tb A M role->WF T d->yK w->c.Small->
  Calls prog f #[.pointer (some ⟨p,0,none⟩),kZ c] w λe w'=>e=.returned (.int .i64 (g T c).2)/\eM w w' p tb role (g T c).1
structure VP (c:cm):Prop where
 wr:c.kind=2\/c.kind=3->(0<=c.pos/\c.pos<=16384)->c.data.length<=512->(c.kind≠2->c.data=[])->Br 193 mT c
 ln:c.kind=4->Br 194 sU c
 rn:c.kind=5->Br 195 jv c
 rm:c.kind=6->Br 196 me c
section
variable {w:World}{p tb:Nat}{T:Tr}{A M:Int->Nat}{role:Nat->dE}{d:Int->Nat}
theorem adh (h:aS w p T tb A M role)(hw:WF T d)(he:yK w)(c:cm)(hc:c.Small)(hd:VP c):
  Calls prog 118 #[.pointer (some ⟨p,0,none⟩),kZ c] w λe w'=>e=.returned (.int .i64 (qG T c).2)/\eM w w' p tb role (qG T c).1:=by
 obtain⟨HC,HD⟩:=K2 hc hd;have dM:af w (w.alloc (.cells (dq c) 55)):=(ai.refl _ w).alloc _;obtain⟨HT,HW,He,zh⟩:=K4 (h.keep dM) hw (he.keep dM) h;have TU:Hid (World.blk (w.alloc (.cells (dq c) 55)) w.heap.size (dq c) 55):=Z (av _ _ _);clear h hw he hc dM hd;go_enter func118,ntmps118;unfold kZ dq;go_wp2_with fail;unfold dq at HT He TU;have eR:Hid (af w (w.alloc (.cells #[.int .i64 c.kind,.string ⟨c.path.toArray⟩,.string ⟨c.dest.toArray⟩,.int .i64 c.pos,.string ⟨c.data.toArray⟩] 55))):=Z ((ai.refl _ w).alloc _);generalize w.alloc (.cells #[.int .i64 c.kind,.string ⟨c.path.toArray⟩,.string ⟨c.dest.toArray⟩,.int .i64 c.pos,.string ⟨c.data.toArray⟩] 55)=w0 at*;refine(tf c w0 He.o HC.o).mono ?_;rintro e w1 ⟨rfl,hk⟩;obtain⟨FP,sE,He1,cC⟩:=K4 (ab hk TU.o id) (HT.keep hk) (He.keep hk) (eR.keep hk);clear hk TU HT He eR
 cases bZ:c.ok with
 |false=>
  have Hv:Hid (qG T c=(T,1)):=Z (by rw[qG,awd bZ]);have hp:kM c=.tuple #[.string ⟨#[]⟩,.int .i64 130]:=by rw[kM,bZ];rfl
  rw[hp];clear hp bZ;go_wp2;go_ret;exact⟨by rw[Hv.o];rfl,by rw[Hv.o];exact eM.same zh.o cC.o⟩
 |true=>
  have hp:kM c=.tuple #[.string ⟨c.line.toArray⟩,.int .i64 0]:=by rw[kM,bZ];rfl
  rw[hp];obtain⟨h9,_,_⟩:=oC bZ;have hk:=ZC h9;obtain⟨JI,WV⟩:=K2 (PZ bZ) (J6 bZ);have Y8:Hid (qG T c=if c.kind=0\/c.kind=1 then fX T c else if c.kind=2\/c.kind=3 then mT T c else if c.kind=4 then sU T c else if c.kind=5 then jv T c else if c.kind=6 then me T c else(T,1)):=Z (by rw[qG,awf (by rw[bZ];decide)]);have z0:w1.cell? ⟨w.heap.size,0,none⟩=some (.int .i64 c.kind):=aa FP.o 0;have z1:w1.cell? ⟨w.heap.size,1,none⟩=some (.string ⟨c.path.toArray⟩):=aa FP.o 1;have z2:w1.cell? ⟨w.heap.size,2,none⟩=some (.string ⟨c.dest.toArray⟩):=aa FP.o 2;have z3:w1.cell? ⟨w.heap.size,3,none⟩=some (.int .i64 c.pos):=aa FP.o 3;have z4:w1.cell? ⟨w.heap.size,4,none⟩=some (.string ⟨c.data.toArray⟩):=aa FP.o 4;have rq:c.kind=0\/c.kind=1\/c.kind=2\/c.kind=3\/c.kind=4\/c.kind=5\/c.kind=6\/c.kind=7\/c.kind=8:=J
  clear hp bZ h9 hk;rcases rq with hq|hq|hq|hq|hq|hq|hq|hq|hq
  ·have Hv:Hid (qG T c=fX T c):=Z (by rw[Y8.o];simp[hq]);have cI:=Ac sE.o HW.o He1.o c HC.o (.inl hq);unfold kZ dq at cI;rw[hq]at cI;have Jq:=Z cI;rw[hq]at z0;clear hq cI;go_wp2_with fail;refine Jq.mono ?_;rintro e w2 ⟨rfl,ht⟩;have sC:=Z ht;clear ht;go_wp2;go_ret;exact⟨by rw[Hv.o];rfl,by rw[Hv.o];exact eM.from cC.o sC.o⟩
  ·have Hv:Hid (qG T c=fX T c):=Z (by rw[Y8.o];simp[hq]);have cI:=Ac sE.o HW.o He1.o c HC.o (.inr hq);unfold kZ dq at cI;rw[hq]at cI;have Jq:=Z cI;rw[hq]at z0;clear hq cI;go_wp2_with fail;refine Jq.mono ?_;rintro e w2 ⟨rfl,ht⟩;have sC:=Z ht;clear ht;go_wp2;go_ret;exact⟨by rw[Hv.o];rfl,by rw[Hv.o];exact eM.from cC.o sC.o⟩
  ·have Hv:Hid (qG T c=mT T c):=Z (by rw[Y8.o];simp[hq]);have cI:=HD.wr (.inl hq) JI.o WV.1 WV.2 sE.o HW.o He1.o HC.o;unfold kZ dq at cI;rw[hq]at cI;have Jq:=Z cI;rw[hq]at z0;clear hq cI;go_wp2_with fail;refine Jq.mono ?_;rintro e w2 ⟨rfl,ht⟩;have sC:=Z ht;clear ht;go_wp2;go_ret;exact⟨by rw[Hv.o];rfl,by rw[Hv.o];exact eM.from cC.o sC.o⟩
  ·have Hv:Hid (qG T c=mT T c):=Z (by rw[Y8.o];simp[hq]);have cI:=HD.wr (.inr hq) JI.o WV.1 WV.2 sE.o HW.o He1.o HC.o;unfold kZ dq at cI;rw[hq]at cI;have Jq:=Z cI;rw[hq]at z0;clear hq cI;go_wp2_with fail;refine Jq.mono ?_;rintro e w2 ⟨rfl,ht⟩;have sC:=Z ht;clear ht;go_wp2;go_ret;exact⟨by rw[Hv.o];rfl,by rw[Hv.o];exact eM.from cC.o sC.o⟩
  ·have Hv:Hid (qG T c=sU T c):=Z (by rw[Y8.o];simp[hq]);have cI:=HD.ln hq sE.o HW.o He1.o HC.o;unfold kZ dq at cI;rw[hq]at cI;have Jq:=Z cI;rw[hq]at z0;clear hq cI;go_wp2_with fail;refine Jq.mono ?_;rintro e w2 ⟨rfl,ht⟩;have sC:=Z ht;clear ht;go_wp2;go_ret;exact⟨by rw[Hv.o];rfl,by rw[Hv.o];exact eM.from cC.o sC.o⟩
  ·have Hv:Hid (qG T c=jv T c):=Z (by rw[Y8.o];simp[hq]);have cI:=HD.rn hq sE.o HW.o He1.o HC.o;unfold kZ dq at cI;rw[hq]at cI;have Jq:=Z cI;rw[hq]at z0;clear hq cI;go_wp2_with fail;refine Jq.mono ?_;rintro e w2 ⟨rfl,ht⟩;have sC:=Z ht;clear ht;go_wp2;go_ret;exact⟨by rw[Hv.o];rfl,by rw[Hv.o];exact eM.from cC.o sC.o⟩
  ·have Hv:Hid (qG T c=me T c):=Z (by rw[Y8.o];simp[hq]);have cI:=HD.rm hq sE.o HW.o He1.o HC.o;unfold kZ dq at cI;rw[hq]at cI;have Jq:=Z cI;rw[hq]at z0;clear hq cI;go_wp2_with fail;refine Jq.mono ?_;rintro e w2 ⟨rfl,ht⟩;have sC:=Z ht;clear ht;go_wp2;go_ret;exact⟨by rw[Hv.o];rfl,by rw[Hv.o];exact eM.from cC.o sC.o⟩
  all_goals
   have Hv:Hid (qG T c=(T,1)):=Z (by rw[Y8.o];simp[hq]);rw[hq]at z0;clear hq;go_wp2;go_ret;exact⟨by rw[Hv.o];rfl,by rw[Hv.o];exact eM.same zh.o cC.o⟩
end
end
end
section
section
open Go.RowKit Go.Maps Go.Shelf
theorem ZT {l:List (Int×Nat)}{c:Option Addr}{yd:DataW Value}{yp:List MemPlace}(hv:ji (.pointer c)=some (yd,yp))(uE:∀ zd,(OA l).atKey (.int .i64 x) zd=yd):∃ a,bM x l=some a/\c=some ⟨a,0,none⟩:=by
 have e:DataW.held (.pointer c)=yd:=by
  unfold ji at hv;injection hv with h;injection h
 subst e;have h1:=(mR (ef:=yJ) cN x l (GA 0)).symm.trans (uE (GA 0))
 cases hg:bM x l with
 |none=>rw[hg]at h1;cases h1
 |some a=>
  rw[hg]at h1;refine⟨a,rfl,?_⟩;simp[yJ]at h1;exact h1.symm
theorem VQ (v:Value)(y:DataW Value×List MemPlace)(h:ji v=some y):∃ c,v=Value.pointer c:=by
 cases v<;>simp[ji]at h
 exact⟨_,rfl⟩
theorem VT (key:Value)(kl:Lit)(h:keyOf prog 3 key=some kl):∃ x,key=Value.int .i64 x:=by
 obtain⟨x,hx,_⟩:=Maps.keyOf_int_inv underlying3 h;exact⟨x,hx⟩
theorem Mu (h1:World.blk w p #[.map (some tb)] 249)(h2:QE w tb [])(h3:p≠tb):aS w p [] tb (λ_=>0) (λ_=>0) (λb=>if b=p then .tree else if b=tb then .of else .none) where
 tree:=h1
 rtree:=awd rfl
 of:=h2
 rof:=by rw[awf (Ne.symm h3),awd rfl]
 node n hn:=by cases hn
 rnode n hn:=by cases hn
 names n hn:=by cases hn
 rnames n hn:=by cases hn
 lt b hb:=by
  by_cases e:b=p
  ·rw[e];exact ak h1
  ·by_cases e2:b=tb
   ·rw[e2];exact h2.lt
   ·rw[awf e,awf e2]at hb;exact absurd rfl hb
theorem Ix (b:Nat)(l:Nm)(w:World)(h:It w b l):Calls prog 191 #[.map (some b)] w λe w'=>e=.returned (.map (some w.heap.size))/\It w' w.heap.size l/\af w w':=by
 refine(AnyW.maps_Clone_owns Tryz.cloneN 9 (plainElem prog 3) b l.length (XK l) w h).mono ?_;rintro e w' ⟨rfl,h1,_,h3⟩;exact⟨rfl,h1,ai.ofBelow h3⟩
theorem Iy (w:World):Calls prog 191 #[.map none] w λe w'=>e=.returned (.map none)/\w'=w:=
 AnyW.maps_Clone_nil Tryz.cloneN w
def fZ (T:Tr)(left:Lit->Bool):Tr:=T.filter λn=>!left (.int .i64 n.num)
theorem VU {T:Tr}{left:Lit->Bool}(h:∀ l,left l=false):fZ T left=T:=List.filter_eq_self.2 λn _=>by rw[h];rfl
theorem QX {T:Tr}{left:Lit->Bool}(h:∀ n∈T,left (.int .i64 n.num)=true):fZ T left=[]:=List.filter_eq_nil_iff.2 λn hn=>by rw[h n hn];simp
theorem Bt {T:Tr}{left:Lit->Bool}{n:Nd}:n∈fZ T left↔n∈T/\left (.int .i64 n.num)=false:=by simp[fZ]
theorem Ev {T:Tr}{left:Lit->Bool}{n:Nd}(hs:dQ T)(hn:n∈T)(hx:n.num=x)(hl:left (.int .i64 x)=true):Tr.add n (fZ T left)=fZ T (λz=>left z&&!z.sameKey (.int .i64 x)):=by
 subst hx
 induction T with
 |nil=>cases hn
 |cons y r ih=>
  obtain⟨h1,h2⟩:=aw9.1 hs;rcases aws.1 hn with rfl|hm
  ·have e1:fZ (n::r) left=fZ r left:=by
    unfold fZ;rw[axh,awf (by rw[hl];simp)]
   have e2:fZ (n::r) (λz=>left z&&!z.sameKey (.int .i64 n.num))=n::fZ r left:=by
    unfold fZ;rw[axh,awd (by simp[cN])]
    congr 1
    refine List.filter_congr λm hm=>?_;have:=h1 m hm;simp only[cN,axl (show m.num≠n.num by omega)];simp
   rw[e1,e2]
   cases hq:fZ r left with
   |nil=>rfl
   |cons z q=>
    have hz:z∈fZ r left:=by rw[hq];simp
    have:=h1 z (Bt.1 hz).1;show(if n.num<z.num then _ else _)=_;rw[awd this]
  ·have h3:=h1 n hm;have e:(Lit.int .i64 y.num).sameKey (.int .i64 n.num)=false:=by rw[cN];exact axl J
   by_cases hy:left (.int .i64 y.num)=true
   ·have e1:fZ (y::r) left=fZ r left:=by
     unfold fZ;rw[axh,awf (by rw[hy];simp)]
    have e2:fZ (y::r) (λz=>left z&&!z.sameKey (.int .i64 n.num))=fZ r (λz=>left z&&!z.sameKey (.int .i64 n.num)):=by
     unfold fZ;rw[axh,awf (by simp[hy,e])]
    rw[e1,e2];exact ih h2 hm
   ·have hy':left (.int .i64 y.num)=false:=by simpa using hy
    have e1:fZ (y::r) left=y::fZ r left:=by
     unfold fZ;rw[axh,awd (by rw[hy'];simp)]
    have e2:fZ (y::r) (λz=>left z&&!z.sameKey (.int .i64 n.num))=y::fZ r (λz=>left z&&!z.sameKey (.int .i64 n.num)):=by
     unfold fZ;rw[axh,awd (by simp[hy'])]
    rw[e1,e2];show(if n.num<y.num then _ else _)=_;rw[awf J,ih h2 hm]
section
variable {T:Tr}{d:Int->Nat}{p tb:Nat}{A M:Int->Nat}{role:Nat->dE}{w:World}
def Mv (w:World)(T:Tr)(e:Ending)(w':World):Prop:=
 ∃ p tb A M role,e=.returned (.pointer (some ⟨p,0,none⟩))/\aS w' p T tb A M role/\(∀ b,role b≠.none->w.heap.size<=b)/\af w w'
theorem Mw (h:aS w p T tb A M role)(hw:WF T d):Calls prog 117 #[.pointer (some ⟨p,0,none⟩)] w (Mv w T):=by
 have HW:=Z hw;have Ug:=@run_makeMap prog;have AE:=hw.many;have zh:Hid (aS ((w.alloc (.map #[] 0)).alloc (.cells #[.map (some w.heap.size)] 249)) (w.heap.size+1) [] w.heap.size (λ_=>0) (λ_=>0) (λb=>if b=w.heap.size+1 then .tree else if b=w.heap.size then .of else .none)):=Z (Mu (aV sp7 _ _) ((dJ.made w).mod ((ai.refl (λ_=>False) _).alloc _) id) J);have eR:Hid (af w ((w.alloc (.map #[] 0)).alloc (.cells #[.map (some w.heap.size)] 249))):=Z (((ai.refl _ w).alloc _).alloc _);have za:((w.alloc (.map #[] 0)).alloc (.cells #[.map (some w.heap.size)] 249)).heap.size=w.heap.size+2:=by simp
 have HT:Hid (aS w p T tb A M role):=Z h;have sJ:=h.of.lt;clear hw h;go_enter func117,ntmps117;have c0:((w.alloc (.map #[] 0)).alloc (.cells #[.map (some w.heap.size)] 249)).cell? ⟨p,0,none⟩=some (.map (some tb)):=aa (HT.keep eR.o).tree 0;go_wp2_with (at_range;refine wpList_range_own _ rfl _ 247 rfl 3 243 (int_keyed underlying3) underlying247 _ tb (da T A).length (OA (da T A)) rfl ((HT.keep eR.o).of) ?_;intro w7 TJ hg0 WB)
 try go_frame
 have Od:=Z TJ;have HKg:Hid (af ((w.alloc (.map #[] 0)).alloc (.cells #[.map (some w.heap.size)] 249)) w7):=Z (vG hg0);rw[za]at WB;rw[za]at Od;obtain⟨HT7,yY⟩:=K2 (zh.keep HKg.o) (eR.keep HKg.o);clear TJ hg0 c0 zh eR HKg za
 go_loopw [15] (λ_ wr=>∃(left:Lit->Bool) (lZ:Nat) (A' M':Int->Nat) (jQ:Nat->dE),World.ranges wr prog 3 ji tb (w.heap.size+2) (da T A).length (OA (da T A)) left lZ/\af w wr/\aS wr (w.heap.size+1) (fZ T left) w.heap.size A' M' jQ/\Hid (∀ b,jQ b≠.none->w.heap.size<=b/\b≠w.heap.size+2)/\w.heap.size+3<=wr.heap.size) (λ_ wr=>wr.rangeLeft tb (w.heap.size+2))
 case atStart=>
  have lh:fZ T (has (OA (da T A)))=[]:=QX λn hn=>by
   rw[rE cN,pJ,(aG HW.sorted).2 ⟨hn,rfl⟩];rfl
  refine⟨_,_,λ_=>0,λ_=>0,λb=>if b=w.heap.size+1 then dE.tree else if b=w.heap.size then dE.of else dE.none,Od.o,yY.o,by rw[lh];exact HT7.o,Z λb hb=>?_,J⟩;by_cases e:b=w.heap.size+1
  ·omega
  ·by_cases e2:b=w.heap.size
   ·omega
   ·simp only[awf e,awf e2]at hb;exact absurd rfl hb
 case round=>
  clear Od yY HT7;obtain⟨left,cn,A',M',jQ,hrg,hK,hT',Hq,cJ⟩:=hrel;obtain⟨ON,HK,HT'⟩:=K3 hrg hK hT';clear hrg hK hT';go_wp2_with (at_next;refine wpList_next_ranges wr rfl _ rfl 3 (int_keyed underlying3) ji (Value.int .i64) Value.pointer VT VQ tb (w.heap.size+2) _ (OA (da T A)) left cn rfl ON.o ?_ ?_)
  ·intro _ Jg;have HTe:Hid (aS wr (w.heap.size+1) T w.heap.size A' M' jQ):=Z (by have:=HT'.o;rw[VU Jg]at this;exact this);clear Jg;go_wp2;go_ret;exact⟨w.heap.size+1,w.heap.size,A',M',jQ,rfl,HTe.o,λb hb=>(Hq.o b hb).1,HK.o⟩
  ·intro x c kl yd yp w' yg Xf FZ hv uE T9 aP hg1 oc hen;obtain⟨x',ex,rfl,_⟩:=Maps.keyOf_int_inv underlying3 Xf
   cases ex
   obtain⟨a,hga,rfl⟩:=ZT hv uE;rw[pJ]at hga
   cases hgn:T.get x with
   |none=>rw[hgn]at hga;cases hga
   |some n=>
    rw[hgn]at hga;obtain⟨rp,pn⟩:=(aG HW.sorted).1 hgn;have ha:A x=a:=by
     have:A n.num=a:=axa hga;rw[pn]at this;exact this
    subst ha;have HK':Hid (af w w'):=Z (HK.grown hg1 (λi e=>.inr (by injection e with e;omega)));have HTo:=Z (HT.keep HK'.o);have Zk:Hid (aS w' (w.heap.size+1) (fZ T left) w.heap.size A' M' jQ):=Z (HT'.mod (iP hg1) (λb hb e=>(Hq.o b hb).2 e));have a0:w'.cell? ⟨A x,0,none⟩=some (.int .i64 n.num):=HTo.cell HW.sorted hgn 0;have a1:w'.cell? ⟨A x,1,none⟩=some (.bool n.dir):=HTo.cell HW.sorted hgn 1;have a2:w'.cell? ⟨A x,2,none⟩=some (.int .i64 n.links):=HTo.cell HW.sorted hgn 2;have a3:w'.cell? ⟨A x,3,none⟩=some (.string ⟨n.data.toArray⟩):=HTo.cell HW.sorted hgn 3;have a4:w'.cell? ⟨A x,4,none⟩=some (.map (if n.dir=true then some (M x)else none)):=HTo.cell HW.sorted hgn 4;have eA:=λhd=>(HTo.names n rp hd)
    rw[pn]at eA;obtain⟨aaT,Hn,Xs,zm,Hlt,yB⟩:=K6 eA (And.intro rp pn) FZ T9 (show yg<cn from aP) (ON.left_eq);have yy:=(QW HW.o hgn)
    have YX:=hg1.size;clear Xf FZ hv uE T9 aP hg1 oc hga rp pn hgn eA
    cases hd:n.dir with
    |true=>
     rw[hd]at a1 a4;rw[awd rfl]at a4;have Hd:=Z hd;have hAx:=am a4;have e4:(w'.alloc (.cells #[.int .i64 x,.bool true,.int .i64 n.links,.string ⟨n.data.toArray⟩,.map (some (M x))] 246)).cell? ⟨A x,4,none⟩=some (.map (some (M x))):=by
      rw[((ai.refl (λ_=>False) w').alloc _).cell (p:=⟨A x,4,none⟩) hAx id];exact a4
     clear hd;go_wp2_with fail;have jg:Hid (World.blk (w'.alloc (.cells #[.int .i64 x,.bool true,.int .i64 n.links,.string ⟨n.data.toArray⟩,.map (some (M x))] 246)) w'.heap.size #[.int .i64 x,.bool true,.int .i64 n.links,.string ⟨n.data.toArray⟩,.map (some (M x))] 246):=Z (av _ _ _);have Cm:Hid (af w' (w'.alloc (.cells #[.int .i64 x,.bool true,.int .i64 n.links,.string ⟨n.data.toArray⟩,.map (some (M x))] 246))):=Z ((ai.refl _ w').alloc _);have hsa:(w'.alloc (.cells #[.int .i64 x,.bool true,.int .i64 n.links,.string ⟨n.data.toArray⟩,.map (some (M x))] 246)).heap.size=w'.heap.size+1:=by simp
     generalize w'.alloc (.cells #[.int .i64 x,.bool true,.int .i64 n.links,.string ⟨n.data.toArray⟩,.map (some (M x))] 246)=wa at*;refine(Ix (M x) n.names wa ((aaT.o Hd.o).mod Cm.o id)).mono ?_;rintro e wb ⟨rfl,zn,TT⟩;obtain⟨HMb,O3,WX⟩:=K3 zn (Cm.keep TT) (ab TT jg.o id);have hlb:=zn.lt;rw[hsa]at HMb hlb;rw[hsa];clear zn TT Cm jg e4 a0 a1 a2 a3 a4;have pn:=yy.1;have HT5:=Z (Zk.keep O3.o);have e5:wb.cell? ⟨w'.heap.size,4,none⟩=some (.map (some (M x))):=aa WX.o 4;have f5:wb.frozen? ⟨w'.heap.size,4,none⟩=false:=ae WX.o _ rfl;have Xl:Hid (af w' (wb.setCell ⟨w'.heap.size,4,none⟩ (.map (some (w'.heap.size+1))))):=Z (ai.setCell O3.o (.inr (av9 _)) _);have Tv:Hid (World.blk (wb.setCell ⟨w'.heap.size,4,none⟩ (.map (some (w'.heap.size+1)))) w'.heap.size #[.int .i64 x,.bool true,.int .i64 n.links,.string ⟨n.data.toArray⟩,.map (some (w'.heap.size+1))] 246):=Z (ah WX.o 4 _);have HMc:=Z (HMb.mod (ai.setCell (ai.refl (·=w'.heap.size) wb) (p:=⟨w'.heap.size,4,none⟩) (.inl rfl) (.map (some (w'.heap.size+1)))) (by omega:¬ w'.heap.size+1=w'.heap.size));have e6:(wb.setCell ⟨w'.heap.size,4,none⟩ (.map (some (w'.heap.size+1)))).cell? ⟨w.heap.size+1,0,none⟩=some (.map (some w.heap.size)):=aa (Zk.keep Xl.o).tree 0;have sp:∀ y∈fZ T left,y.num≠n.num:=λy hy e=>by
      have h1:=(Bt.1 hy).2;rw[e,pn,Xs.o]at h1;cases h1
     obtain⟨Hxn,yk⟩:=K2 sp pn;clear sp pn WX HT5
     go_wp2_with ((at_mapUpdate
                   refine iu (Zk.of.mod Xl.o id) underlying247 underlying3 x J w'.heap.size (by have:(fZ T left).length<=T.length:=awh _ _;simp[da];omega) rfl rfl rfl rfl rfl ?_;intro wd oe mH;have jD:ai (·=w.heap.size) w' wd:=(Xl.mono (λ_ _ h=>h.elim)).trans mH (λ_ _ h=>h);rw[<-yk.o]at oe;have UD:=rR (n0:=n) (a:=w'.heap.size) (m:=w'.heap.size+1) Zk.o Hxn.o jD (av9 _) J J (awg (ak Tv.o) mH.size) (λ_=>awg HMc.lt mH.size) oe (by
                    have h:=ab mH Tv.o (show ¬ w'.heap.size=w.heap.size by omega);have e:kO n (w'.heap.size+1)=#[.int .i64 x,.bool true,.int .i64 n.links,.string ⟨n.data.toArray⟩,.map (some (w'.heap.size+1))]:=by simp[kO,Hd.o,yk.o]
                    rw[e];exact h) (λ_=>HMc.mod mH J)
                   rw[Ev HW.sorted Hn.1 yk.o Xs.o]at UD;have HT6:=Z UD;have vf:Hid (af w wd):=Z (HK'.new jD (av9 _));have So:=Z (zm.kept (sP jD) (by simp;omega) sp7);have hsd:=mH.size;have hsc:=Xl.size;clear oe mH jD UD))
     simp only[Act.put]
     go_roundw
     case rel=>
      refine⟨_,yg,_,_,_,So.o,vf.o,HT6.o,Z λb hb=>?_,J⟩;by_cases e1:b=w'.heap.size
      ·omega
      ·by_cases e2:b=w'.heap.size+1/\n.dir=true
       ·omega
       ·simp only[awf e1,awf e2]at hb;exact Hq.o b hb
     case measure=>
      rw[So.left_eq,yB.o];exact Hlt.o
    |false=>
     rw[hd]at a1 a4;rw[awf dc7]at a4;have Hd:=Z hd;have hAx:=am a4;have e4:(w'.alloc (.cells #[.int .i64 x,.bool false,.int .i64 n.links,.string ⟨n.data.toArray⟩,.map none] 246)).cell? ⟨A x,4,none⟩=some (.map none):=by
      rw[((ai.refl (λ_=>False) w').alloc _).cell (p:=⟨A x,4,none⟩) hAx id];exact a4
     clear hd;go_wp2_with fail;have jg:Hid (World.blk (w'.alloc (.cells #[.int .i64 x,.bool false,.int .i64 n.links,.string ⟨n.data.toArray⟩,.map none] 246)) w'.heap.size #[.int .i64 x,.bool false,.int .i64 n.links,.string ⟨n.data.toArray⟩,.map none] 246):=Z (av _ _ _);have Cm:Hid (af w' (w'.alloc (.cells #[.int .i64 x,.bool false,.int .i64 n.links,.string ⟨n.data.toArray⟩,.map none] 246))):=Z ((ai.refl _ w').alloc _);have hsa:(w'.alloc (.cells #[.int .i64 x,.bool false,.int .i64 n.links,.string ⟨n.data.toArray⟩,.map none] 246)).heap.size=w'.heap.size+1:=by simp
     generalize w'.alloc (.cells #[.int .i64 x,.bool false,.int .i64 n.links,.string ⟨n.data.toArray⟩,.map none] 246)=wa at*;refine(Iy wa).mono ?_;rintro e wb ⟨rfl,Jp⟩;have O3:Hid (af w' wb):=Z (by rw[Jp];exact Cm.o);have WX:Hid (World.blk wb w'.heap.size #[.int .i64 x,.bool false,.int .i64 n.links,.string ⟨n.data.toArray⟩,.map none] 246):=Z (by rw[Jp];exact jg.o);clear Jp Cm jg e4 a0 a1 a2 a3 a4;have pn:=yy.1;have HT5:=Z (Zk.keep O3.o);have e5:wb.cell? ⟨w'.heap.size,4,none⟩=some (.map none):=aa WX.o 4;have f5:wb.frozen? ⟨w'.heap.size,4,none⟩=false:=ae WX.o _ rfl;have Xl:Hid (af w' (wb.setCell ⟨w'.heap.size,4,none⟩ (.map none))):=Z (ai.setCell O3.o (.inr (av9 _)) _);have Tv:Hid (World.blk (wb.setCell ⟨w'.heap.size,4,none⟩ (.map none)) w'.heap.size #[.int .i64 x,.bool false,.int .i64 n.links,.string ⟨n.data.toArray⟩,.map none] 246):=Z (ah WX.o 4 _);have e6:(wb.setCell ⟨w'.heap.size,4,none⟩ (.map none)).cell? ⟨w.heap.size+1,0,none⟩=some (.map (some w.heap.size)):=aa (Zk.keep Xl.o).tree 0;have sp:∀ y∈fZ T left,y.num≠n.num:=λy hy e=>by
      have h1:=(Bt.1 hy).2;rw[e,pn,Xs.o]at h1;cases h1
     obtain⟨Hxn,yk⟩:=K2 sp pn;clear sp pn WX HT5
     go_wp2_with ((at_mapUpdate
                   refine iu (Zk.of.mod Xl.o id) underlying247 underlying3 x J w'.heap.size (by have:(fZ T left).length<=T.length:=awh _ _;simp[da];omega) rfl rfl rfl rfl rfl ?_;intro wd oe mH;have jD:ai (·=w.heap.size) w' wd:=(Xl.mono (λ_ _ h=>h.elim)).trans mH (λ_ _ h=>h);rw[<-yk.o]at oe;have UD:=rR (n0:=n) (a:=w'.heap.size) (m:=w'.heap.size+1) Zk.o Hxn.o jD (av9 _) J J (awg (ak Tv.o) mH.size) (λh=>by rw[Hd.o]at h;cases h) oe (by
                    have h:=ab mH Tv.o (show ¬ w'.heap.size=w.heap.size by omega);have e:kO n (w'.heap.size+1)=#[.int .i64 x,.bool false,.int .i64 n.links,.string ⟨n.data.toArray⟩,.map none]:=by simp[kO,Hd.o,yk.o]
                    rw[e];exact h) (λh=>by rw[Hd.o]at h;cases h)
                   rw[Ev HW.sorted Hn.1 yk.o Xs.o]at UD;have HT6:=Z UD;have vf:Hid (af w wd):=Z (HK'.new jD (av9 _));have So:=Z (zm.kept (sP jD) (by simp;omega) sp7);have hsd:=mH.size;have hsc:=Xl.size;clear oe mH jD UD))
     simp only[Act.put]
     go_roundw
     case rel=>
      refine⟨_,yg,_,_,_,So.o,vf.o,HT6.o,Z λb hb=>?_,J⟩;by_cases e1:b=w'.heap.size
      ·omega
      ·by_cases e2:b=w'.heap.size+1/\n.dir=true
       ·omega
       ·simp only[awf e1,awf e2]at hb;exact Hq.o b hb
     case measure=>
      rw[So.left_eq,yB.o];exact Hlt.o
end
end
end
section
open Go.RowKit
theorem Ad (b:fI)(h:b.ok=true)(w:World):
  Calls prog 261 #[cR b] w λe w'=>e=.returned (.bool true)/\af w w':=by
 obtain⟨r,s⟩:=b;simp only[fI.ok,fI.may,awo,awt,awJ,decide_eq_decide]at h;obtain⟨⟨⟨⟨h1,h2⟩,h3⟩,h4⟩,h5⟩:=h;unfold cR;have hk:af w (w.alloc (.cells #[.int .i64 r,.int .i64 s] 42)):=(ai.refl _ w).alloc _;have HK:=Z hk;clear hk;by_cases hr:r=0
 ·have hs:=h3.1 hr;subst hr hs;go_enter func261,ntmps261;go_wp2;go_ret;exact⟨rfl,HK.o⟩
 ·have hs:¬ s=0:=λe=>hr (h3.2 e);have e1:(r==0)=false:=by simpa using hr
  have e2:(s==0)=false:=by simpa using hs
  clear h3;go_enter func261,ntmps261;go_wp2;go_ret;exact⟨rfl,HK.o⟩
end
end Go.Proofs.YtkghpdcloaiflaaGreatDoor
