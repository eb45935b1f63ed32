import Derived.Test.YtkghpdcloaiflaaGreatDoorH44
set_option maxHeartbeats 8000000
set_option maxRecDepth 100000
namespace Go.Proofs.YtkghpdcloaiflaaGreatDoor
open _root_.Go.Proofs.Tryz
variable {r z:Int}
section
open Go.RowKit
attribute [local go_sem] av0
def nB (b:fI):Bool:=if b.size=0 then b.root==0 else decide (0<b.size)&&decide (b.size<=16384)&&decide (1<=b.root)&&decide (b.root<=4095)
theorem NG (h1:1<=r/\r<=4095)(h2:1<=z/\z<=16384):nB ⟨r,z⟩=true:=by
 unfold nB;rw[awf (by show ¬ z=0;omega)];simp only[awo,awt];exact⟨⟨⟨by omega,h2.2⟩,h1.1⟩,h1.2⟩
theorem BU (h:nB ⟨r,z⟩=true)(h0:0<z):(1<=r/\r<=4095)/\(1<=z/\z<=16384):=by
 unfold nB at h;rw[awf (by show ¬ z=0;omega)]at h;simp only[awo,awt]at h;omega
theorem ya {d:ay}(h:gd d=true):(least d==d)=true/\d.length<=512/\aq d 0=false:=by
 unfold gd at h;simp only[awo,awt,Bool.not_eq_true']at h;exact⟨h.1.1,h.1.2,h.2⟩
theorem Wt {d:ay}(h1:(least d==d)=true)(h2:d.length<=512)(h3:aq d 0=false):gd d=true:=by
 unfold gd;rw[h1,h3,decide_eq_true h2];rfl
theorem NI (b:fI)(w:World):
  Calls prog 74 #[cR b] w λe w'=>e=.returned (.bool (nB b))/\af w w':=by
 obtain⟨r,z⟩:=b;obtain⟨v,hv⟩:∃ v,nB ⟨r,z⟩=v:=⟨_,rfl⟩
 have HV:=Z hv;unfold cR;have HK:Hid (af w (w.alloc (.cells #[.int .i64 r,.int .i64 z] 42))):=Z ((ai.refl _ w).alloc _);have HF:Hid (z≠0->v=(decide (0<z)&&decide (z<=16384)&&decide (1<=r)&&decide (r<=4095))):=Z (λh=>by rw[<-hv];unfold nB;rw[awf h]);rw[hv];clear hv;go_enter func74,ntmps74;by_cases hz:z=0
 ·subst hz;by_cases hr:r=0
  ·subst hr;go_wp2;go_ret;exact⟨by rw[<-HV.o];rfl,HK.o⟩
  ·have e1:(r==0)=false:=by simpa using hr
   go_wp2;go_ret;exact⟨by rw[<-HV.o];unfold nB;rw[awd rfl,e1];rfl,HK.o⟩
 ·have e2:(z==0)=false:=by simpa using hz
  have HE:=Z (HF.o hz);clear hz HF HV;by_cases q1:0<z
  ·by_cases q2:z<=16384
   ·by_cases q3:1<=r
    ·by_cases q4:r<=4095
     ·have e:(decide (0<z)&&decide (z<=16384)&&decide (1<=r)&&decide (r<=4095))=true:=by simp;omega
      rw[e]at HE;go_wp2;go_ret;exact⟨by rw[HE.o];rfl,HK.o⟩
     ·have e:(decide (0<z)&&decide (z<=16384)&&decide (1<=r)&&decide (r<=4095))=false:=by simp;intros;omega
      rw[e]at HE;go_wp2;go_ret;exact⟨by rw[HE.o];rfl,HK.o⟩
    ·have e:(decide (0<z)&&decide (z<=16384)&&decide (1<=r)&&decide (r<=4095))=false:=by simp;intros;omega
     rw[e]at HE;go_wp2;go_ret;exact⟨by rw[HE.o];rfl,HK.o⟩
   ·have e:(decide (0<z)&&decide (z<=16384)&&decide (1<=r)&&decide (r<=4095))=false:=by simp;intros;omega
    rw[e]at HE;go_wp2;go_ret;exact⟨by rw[HE.o];rfl,HK.o⟩
  ·have e:(decide (0<z)&&decide (z<=16384)&&decide (1<=r)&&decide (r<=4095))=false:=by simp;intros;omega
   rw[e]at HE;go_wp2;go_ret;exact⟨by rw[HE.o];rfl,HK.o⟩
structure oa (w0:World)(i j r z c:Nat)(o1 o2:Option Nat)(W:World):Prop where
 keep:af w0 W
 b1:∀ b,o1=some b->World.blk W b #[.int .i64 (i:Int),.int .i64 (j:Int)] 3
 b2:∀ b,o2=some b->World.blk W b #[.int .i64 (r:Int),.int .i64 (z:Int),.int .i64 (c:Int)] 3
section
variable {w0 W W':World}{i j r z c:Nat}{o1 o2:Option Nat}
theorem oa.step (h:oa w0 i j r z c o1 o2 W)(k:af W W'):oa w0 i j r z c o1 o2 W':=⟨h.keep.keep k,λb e=>ab k (h.b1 b e) id,λb e=>ab k (h.b2 b e) id⟩
theorem oa.a1 (h:oa w0 i j r z c none o2 W):oa w0 i j r z c (some W.heap.size) o2 (W.alloc (.cells #[.int .i64 (i:Int),.int .i64 (j:Int)] 3)):=
 ⟨h.keep.alloc _,λb e=>by injection e with e;subst e;exact av _ _ _,λb e=>aE (h.b2 b e) _⟩
theorem oa.a2 (h:oa w0 i j r z c o1 none W):oa w0 i j r z c o1 (some W.heap.size) (W.alloc (.cells #[.int .i64 (r:Int),.int .i64 (z:Int),.int .i64 (c:Int)] 3)):=
 ⟨h.keep.alloc _,λb e=>aE (h.b1 b e) _,λb e=>by injection e with e;subst e;exact av _ _ _⟩
end
theorem tG (h:Hd)(w:World)(hn:h.name.length<=140737488355328)(hd:h.drop.length<=140737488351232):
  Calls prog 29 #[sF h] w λe w'=>e=.returned (lF h)/\af w w':=by
 have NM:Hid (∀ W,Calls prog 20 #[.string ⟨h.name.toArray⟩] W λe w'=>e=.returned (.bool (aJ h.name))/\af W w'):=Z (λW=>(Nz h.name W hn).mono λe w' ⟨h1,h2⟩=>⟨h1,h2▸ai.refl _ _⟩);have BL:=Z (λW=>NI h.table W);have LE:Hid (∀ W,Calls prog 75 #[.string ⟨h.drop.toArray⟩] W λe w'=>e=.returned (.string ⟨(least h.drop).toArray⟩)/\af W w'):=Z (λW=>(Jd h.drop W hd).mono λe w' ⟨h1,h2⟩=>⟨h1,h2▸ai.refl _ _⟩);have HA:Hid (∀ W,Calls prog 56 #[.string ⟨h.drop.toArray⟩,.int .i64 0] W λe w'=>e=.returned (.bool (aq h.drop 0))/\af W w'):=Z (λW=>by
  rw[<-Az];exact(R6 h.drop 0 W hd J).mono λe w' ⟨h1,h2⟩=>⟨h1,h2▸ai.refl _ _⟩)
 obtain⟨bad,pj⟩:∃ b,kU h=b:=⟨_,rfl⟩
 have HV:Hid (lF h=if bad=true then .tuple #[az (eQ h),.int .i64 0]else .tuple #[.string ⟨#[]⟩,.int .i64 190]):=Z (by unfold lF;rw[pj]);have HB:=Z pj;have NO:Hid (¬ ge h->bad=false):=Z (λk=>by rw[<-pj];exact Ks k);have YES:Hid (ge h->bad=true):=Z (λk=>by rw[<-pj];exact(dU h).2 k);have HDL:=Z hd;obtain⟨po,base,name,⟨root,size⟩,count,drop⟩:=h;simp only at hn hd NM BL LE HA;unfold cR at BL;have hdi:(drop.length:Int)<=140737488351232:=J
 obtain⟨zf,aed⟩:∃ g,w.heap.size=g:=⟨_,rfl⟩
 obtain⟨W0,pQ⟩:∃ W,w.alloc (.cells #[.int .i64 po,.int .i64 base,.string ⟨name.toArray⟩,.int .i64 root,.int .i64 size,.int .i64 count,.string ⟨drop.toArray⟩] 44)=W:=⟨_,rfl⟩
 have HK:Hid (af w W0):=Z (by rw[<-pQ];exact(ai.refl _ w).alloc _);have HZ:Hid (World.blk W0 zf #[.int .i64 po,.int .i64 base,.string ⟨name.toArray⟩,.int .i64 root,.int .i64 size,.int .i64 count,.string ⟨drop.toArray⟩] 44):=Z (by rw[<-pQ,<-aed];exact av _ _ _);have e0:∀ X,(W0.ext X).cell? ⟨zf,0,none⟩=some (.int .i64 po):=λX=>aa (ab (aC W0 X) HZ.o id) 0;have e1:∀ X,(W0.ext X).cell? ⟨zf,1,none⟩=some (.int .i64 base):=λX=>aa (ab (aC W0 X) HZ.o id) 1;have e2:∀ X,(W0.ext X).cell? ⟨zf,2,none⟩=some (.string ⟨name.toArray⟩):=λX=>aa (ab (aC W0 X) HZ.o id) 2;have e3:∀ X,(W0.ext X).cell? ⟨zf,3,none⟩=some (.int .i64 root):=λX=>aa (ab (aC W0 X) HZ.o id) 3;have e4:∀ X,(W0.ext X).cell? ⟨zf,4,none⟩=some (.int .i64 size):=λX=>aa (ab (aC W0 X) HZ.o id) 4;have e5:∀ X,(W0.ext X).cell? ⟨zf,5,none⟩=some (.int .i64 count):=λX=>aa (ab (aC W0 X) HZ.o id) 5;have e6:∀ X,(W0.ext X).cell? ⟨zf,6,none⟩=some (.string ⟨drop.toArray⟩):=λX=>aa (ab (aC W0 X) HZ.o id) 6;clear hn hd pj;go_enter func29,ntmps29
 go_upto_region 1 with fail
 try rw[pQ]
 try rw[aed]
 clear pQ;go_cut [4]from 5 to 107 (λy wx=>y=.bool bad/\af w wx/\World.blk wx zf #[.int .i64 po,.int .i64 base,.string ⟨name.toArray⟩,.int .i64 root,.int .i64 size,.int .i64 count,.string ⟨drop.toArray⟩] 44)
 case first=>
  refine cl kr7 kr7 ?_;dsimp only[List.append];by_cases q1:1<=po
  case' neg=>
   have JE:=Z (NO.o (λk=>by have h:1<=po:=k.id.1;omega))
  case' pos=>
   have Pq1:=Z q1
   iterate 4 (go_big_quiet_step (first|with_reducible exact ar (NM.o _)|with_reducible exact ar (BL.o _)|with_reducible exact ar (LE.o _)|with_reducible exact ar (HA.o _)))
   clear q1;by_cases q2:po<=1099511627776
   case' neg=>
    have JE:=Z (NO.o (λk=>by have h:po<=1099511627776:=k.id.2;omega))
   case' pos=>
    have Pq2:=Z q2
    iterate 5 (go_big_quiet_step (first|with_reducible exact ar (NM.o _)|with_reducible exact ar (BL.o _)|with_reducible exact ar (LE.o _)|with_reducible exact ar (HA.o _)))
    clear q2;by_cases q3:0<=base
    case' neg=>
     have JE:=Z (NO.o (λk=>by have h:0<=base:=k.base.1;omega))
    case' pos=>
     have Pq3:=Z q3
     iterate 5 (go_big_quiet_step (first|with_reducible exact ar (NM.o _)|with_reducible exact ar (BL.o _)|with_reducible exact ar (LE.o _)|with_reducible exact ar (HA.o _)))
     clear q3;by_cases q4:base<po
     case' neg=>
      have JE:=Z (NO.o (λk=>by have h:base<po:=k.base.2;omega))
     case' pos=>
      have Pq4:=Z q4
      iterate 7 (go_big_quiet_step (first|with_reducible exact ar (NM.o _)|with_reducible exact ar (BL.o _)|with_reducible exact ar (LE.o _)|with_reducible exact ar (HA.o _)))
      clear q4;obtain⟨bqn,eqn⟩:∃ b,aJ name=b:=⟨_,rfl⟩
      rw[eqn]at NM
      cases bqn
      case' false=>
       have JE:=Z (NO.o (λk=>by have Qx:=eqn;rw[k.name.1]at Qx;cases Qx))
      case' true=>
       have Pqn:=Z eqn
       iterate 5 (go_big_quiet_step (first|with_reducible exact ar (NM.o _)|with_reducible exact ar (BL.o _)|with_reducible exact ar (LE.o _)|with_reducible exact ar (HA.o _)))
       clear eqn;obtain⟨bqb,eqb⟩:∃ b,nB ⟨root,size⟩=b:=⟨_,rfl⟩
       rw[eqb]at BL
       cases bqb
       case' false=>
        have JE:=Z (NO.o (λk=>by have Qx:=eqb;rw[NG k.root k.size]at Qx;cases Qx))
       case' true=>
        have Pqb:=Z eqb
        iterate 5 (go_big_quiet_step (first|with_reducible exact ar (NM.o _)|with_reducible exact ar (BL.o _)|with_reducible exact ar (LE.o _)|with_reducible exact ar (HA.o _)))
        clear eqb;by_cases q7:0<size
        case' neg=>
         have JE:=Z (NO.o (λk=>by have h:0<size:=(by have:=k.size.1;show 0<size;have h:1<=size:=this;omega);omega))
        case' pos=>
         have Pq7:=Z q7
         iterate 6 (go_big_quiet_step (first|with_reducible exact ar (NM.o _)|with_reducible exact ar (BL.o _)|with_reducible exact ar (LE.o _)|with_reducible exact ar (HA.o _)))
         clear q7;by_cases q9:0<=count
         case' neg=>
          have JE:=Z (NO.o (λk=>by have h:0<=count:=k.count.1;omega))
         case' pos=>
          have Pq9:=Z q9
          iterate 5 (go_big_quiet_step (first|with_reducible exact ar (NM.o _)|with_reducible exact ar (BL.o _)|with_reducible exact ar (LE.o _)|with_reducible exact ar (HA.o _)))
          clear q9;by_cases r1:count<=4095
          case' neg=>
           have JE:=Z (NO.o (λk=>by have h:count<=4095:=k.count.2;omega))
          case' pos=>
           have Pr1:=Z r1
           iterate 5 (go_big_quiet_step (first|with_reducible exact ar (NM.o _)|with_reducible exact ar (BL.o _)|with_reducible exact ar (LE.o _)|with_reducible exact ar (HA.o _)))
           clear r1;obtain⟨bql,eql⟩:∃ b,(least drop==drop)=b:=⟨_,rfl⟩
           cases bql
           case' false=>
            have JE:=Z (NO.o (λk=>by have Qx:=eql;rw[(ya k.drop.1).1]at Qx;cases Qx))
           case' true=>
            have Pql:=Z eql
            iterate 8 (go_big_quiet_step (first|with_reducible exact ar (NM.o _)|with_reducible exact ar (BL.o _)|with_reducible exact ar (LE.o _)|with_reducible exact ar (HA.o _)))
            clear eql;by_cases qe:(drop.length:Int)<=512
            case' neg=>
             have JE:=Z (NO.o (λk=>by have h:(drop.length:Int)<=512:=(by have:=k.drop.2;show(drop.length:Int)<=512;have h:drop.length<=512:=this;omega);omega))
            case' pos=>
             have Pqe:=Z qe
             iterate 6 (go_big_quiet_step (first|with_reducible exact ar (NM.o _)|with_reducible exact ar (BL.o _)|with_reducible exact ar (LE.o _)|with_reducible exact ar (HA.o _)))
             clear qe;obtain⟨bqh,eqh⟩:∃ b,aq drop 0=b:=⟨_,rfl⟩
             rw[eqh]at HA
             cases bqh
             case' true=>
              have JE:=Z (NO.o (λk=>by have Qx:=eqh;rw[(ya k.drop.1).2.2]at Qx;cases Qx))
             case' false=>
              have Pqh:=Z eqh
              iterate 6 (go_big_quiet_step (first|with_reducible exact ar (NM.o _)|with_reducible exact ar (BL.o _)|with_reducible exact ar (LE.o _)|with_reducible exact ar (HA.o _)))
              clear eqh;have hq5:drop.length<=512:=by have:=Pqe.o;omega
              have qd:gd drop=true:=Wt Pql.o hq5 Pqh.o;have q5:=BU Pqb.o Pq7.o;have Td:name.length<=16:=iz Pqn.o;have OK:=Z (λhn=>YES.o ⟨⟨Pq1.o,Pq2.o⟩,⟨Pq3.o,Pq4.o⟩,⟨Pqn.o,Td⟩,q5.1,q5.2,⟨Pq9.o,Pr1.o⟩,⟨qd,hq5⟩,hn⟩);clear Td q5 hq5 qd;by_cases r2:0<base
              case' pos=>
               have JE:=Z (OK.o (.inl r2))
              case' neg=>
               obtain⟨b3,r3⟩:∃ b,(drop==[])=b:=⟨_,rfl⟩
               cases b3
               case' true=>
                have JE:=Z (OK.o (.inr (by simpa using r3)))
               case' false=>
                have JE:=Z (NO.o (λk=>k.none.elim (λh=>by have h1:0<base:=h;omega) (λh=>by have q:=r3;have h1:drop=[]:=h;rw[h1]at q;cases q)))
  all_goals (
   repeat (go_big_quiet_step (first|with_reducible exact ar (NM.o _)|with_reducible exact ar (BL.o _)|with_reducible exact ar (LE.o _)|with_reducible exact ar (HA.o _)))
   refine awX ?_;intro _ bD;obtain⟨xq,rfl⟩:=bD;go_wp2_with fail;go_meet
   case rel=>exact⟨by rw[JE.o],HK.keep (aC W0 xq),ab (aC W0 xq) HZ.o id⟩)
 case rest=>
  obtain⟨rfl,WU,hzc⟩:=hcut;have nH:=Z WU;obtain⟨c0,c1,c2,c3,c4,c5,c6⟩:=bg hzc
  cases bad with
  |false=>
   clear NM BL LE HA NO YES WU hzc;go_wp2;go_ret2;exact⟨by rw[HV.o];rfl,nH.o⟩
  |true=>
   have k:=(dU _).1 HB.o;have CB:=k.nums;have KL:=k.pcs;have yw:drop.length<=512:=k.drop.2;have rk:name.length<=16:=k.name.2;simp only at CB;have HE:=Z (rZ ⟨po,base,name,⟨root,size⟩,count,drop⟩);simp only at HE;have hb1:po.toNat<=1099511627776/\base.toNat<=1099511627776/\root.toNat<=4095/\size.toNat<=16384/\count.toNat<=4095:=by
    have a1:=k.id.2;have a2:=k.base.2;have a3:=k.root.2;have a4:=k.size.2;have a5:=k.count.2;simp only at a1 a2 a3 a4 a5;omega
   obtain⟨i,hi⟩:∃ i,po.toNat=i:=⟨_,rfl⟩
   obtain⟨j,hj⟩:∃ i,base.toNat=i:=⟨_,rfl⟩
   obtain⟨r,hr⟩:∃ i,root.toNat=i:=⟨_,rfl⟩
   obtain⟨z,hz⟩:∃ i,size.toNat=i:=⟨_,rfl⟩
   obtain⟨c,hc⟩:∃ i,count.toNat=i:=⟨_,rfl⟩
   rw[hi,hj,hr,hz,hc]at CB hb1 HE;obtain⟨e1,e2,e3,e4,e5⟩:=CB;rw[<-e1]at c0;rw[<-e2]at c1;rw[<-e3]at c3;rw[<-e4]at c4;rw[<-e5]at c5;have N1:Hid (∀(W:World) (b:Nat),W.cell? ⟨b,0,none⟩=some (.int .i64 (i:Int))->W.cell? ⟨b,1,none⟩=some (.int .i64 (j:Int))->Calls prog 36 #[.slice (some ⟨b,0,none⟩) 2 2] W λe w'=>e=.returned (.string ⟨(aD i++aD j).toArray⟩)/\af W w'):=Z (λW b h0 h1=>by
    have:=Au [i,j] W b (by simp;omega) sp7 (λq n hq=>by
     rcases q with _|_|q
     ·simp at hq;subst hq;exact h0
     ·simp at hq;subst hq;exact h1
     ·simp at hq)
    simpa using this)
   have N2:Hid (∀(W:World) (b:Nat),W.cell? ⟨b,0,none⟩=some (.int .i64 (r:Int))->W.cell? ⟨b,1,none⟩=some (.int .i64 (z:Int))->W.cell? ⟨b,2,none⟩=some (.int .i64 (c:Int))->Calls prog 36 #[.slice (some ⟨b,0,none⟩) 3 3] W λe w'=>e=.returned (.string ⟨(aD r++(aD z++aD c)).toArray⟩)/\af W w'):=Z (λW b h0 h1 h2=>by
    have:=Au [r,z,c] W b (by simp;omega) sp7 (λq n hq=>by
     rcases q with _|_|_|q
     ·simp at hq;subst hq;exact h0
     ·simp at hq;subst hq;exact h1
     ·simp at hq;subst hq;exact h2
     ·simp at hq)
    simpa using this)
   obtain⟨T1,T2⟩:=K2 (λW=>uz name W J) (λW=>uz drop W J);have l1:=aK (n:=i) J;have l2:=aK (n:=j) J;have l3:=aK (n:=name.length) J;have l4:=aK (n:=r) J;have l5:=aK (n:=z) J;have l6:=aK (n:=c) J;have l7:=aK (n:=drop.length) J;have HL:=Z (And.intro (And.intro l1 (And.intro l2 (And.intro l3 (And.intro l4 (And.intro l5 (And.intro l6 l7)))))) (And.intro yw rk));clear NM BL LE HA NO YES WU hzc k KL hi hj hr hz hc e1 e2 e3 e4 e5 hb1;have h1:¬ 9223372036854775807<(aD i).length+(aD j).length+((aD name.length).length+name.length):=J
   have h2:¬ 9223372036854775807<(aD i).length+(aD j).length+((aD name.length).length+name.length)+((aD r).length+((aD z).length+(aD c).length)):=J
   have h3:¬ 9223372036854775807<(aD i).length+(aD j).length+((aD name.length).length+name.length)+((aD r).length+((aD z).length+(aD c).length))+((aD drop.length).length+drop.length):=J
   clear l1 l2 l3 l4 l5 l6 l7 yw rk;obtain⟨lY,Xz⟩:∃ g,zf=g:=⟨_,rfl⟩
   rw[Xz]at c0 c1 c2 c3 c4 c5 c6;have mL:lY<wc.heap.size:=am c0;have VC:Hid (∀ X,af wc X->X.cell? ⟨lY,0,none⟩=some (.int .i64 (i:Int))/\X.cell? ⟨lY,1,none⟩=some (.int .i64 (j:Int))/\X.cell? ⟨lY,2,none⟩=some (.string ⟨name.toArray⟩)/\X.cell? ⟨lY,3,none⟩=some (.int .i64 (r:Int))/\X.cell? ⟨lY,4,none⟩=some (.int .i64 (z:Int))/\X.cell? ⟨lY,5,none⟩=some (.int .i64 (c:Int))/\X.cell? ⟨lY,6,none⟩=some (.string ⟨drop.toArray⟩)):=Z (λX k=>⟨(k.cell (p:=⟨lY,0,none⟩) mL id).trans c0,(k.cell (p:=⟨lY,1,none⟩) mL id).trans c1,(k.cell (p:=⟨lY,2,none⟩) mL id).trans c2,(k.cell (p:=⟨lY,3,none⟩) mL id).trans c3,(k.cell (p:=⟨lY,4,none⟩) mL id).trans c4,(k.cell (p:=⟨lY,5,none⟩) mL id).trans c5,(k.cell (p:=⟨lY,6,none⟩) mL id).trans c6⟩);have C1:Hid (∀(W:World) (b b':Nat) (o2:Option Nat),oa wc i j r z c (some b') o2 W->b=b'->Calls prog 36 #[.slice (some ⟨b,0,none⟩) 2 2] W λe w'=>e=.returned (.string ⟨(aD i++aD j).toArray⟩)/\oa wc i j r z c (some b') o2 w'):=Z (λW b b' o2 h e=>by subst e;exact(N1.o W b (aa (h.b1 b rfl) 0) (aa (h.b1 b rfl) 1)).mono λe w' ⟨h1,k⟩=>⟨h1,h.step k⟩);have C2:Hid (∀(W:World) (b b':Nat) (o1:Option Nat),oa wc i j r z c o1 (some b') W->b=b'->Calls prog 36 #[.slice (some ⟨b,0,none⟩) 3 3] W λe w'=>e=.returned (.string ⟨(aD r++(aD z++aD c)).toArray⟩)/\oa wc i j r z c o1 (some b') w'):=Z (λW b b' o1 h e=>by subst e;exact(N2.o W b (aa (h.b2 b rfl) 0) (aa (h.b2 b rfl) 1) (aa (h.b2 b rfl) 2)).mono λe w' ⟨h1,k⟩=>⟨h1,h.step k⟩);have X1:Hid (∀(W:World) (o1 o2:Option Nat),oa wc i j r z c o1 o2 W->Calls prog 37 #[.string ⟨name.toArray⟩] W λe w'=>e=.returned (az (aD name.length++name))/\oa wc i j r z c o1 o2 w'):=Z (λW o1 o2 h=>(T1.o W).mono λe w' ⟨h1,k⟩=>⟨h1,h.step k⟩);have X2:Hid (∀(W:World) (o1 o2:Option Nat),oa wc i j r z c o1 o2 W->Calls prog 37 #[.string ⟨drop.toArray⟩] W λe w'=>e=.returned (az (aD drop.length++drop))/\oa wc i j r z c o1 o2 w'):=Z (λW o1 o2 h=>(T2.o W).mono λe w' ⟨h1,k⟩=>⟨h1,h.step k⟩);have R0:oa wc i j r z c none none wc:=⟨ai.refl _ _,λ_ e=>(by cases e),λ_ e=>(by cases e)⟩
   have HBD:=Z (R0.step ((ai.refl _ wc).drawn (wc.drawn+1)))
   try rw[Xz]
   clear N1 N2 T1 T2 R0 mL e0 e1 e2 e3 e4 e5 e6
   go_upto_region 4 with fail
   try rw[Xz]
   clear Xz c0 c1 c2 c3 c4 c5 c6 HB;have HB:=HBD;clear HBD;refine gC 100 [0,1,2,3,6,7,10,11,12,13,14,15,16,17,21,22] 11 (λX=>X.cell? ⟨lY,0,none⟩=some (.int .i64 (i:Int))/\X.cell? ⟨lY,1,none⟩=some (.int .i64 (j:Int))/\X.cell? ⟨lY,2,none⟩=some (.string ⟨name.toArray⟩)/\X.cell? ⟨lY,3,none⟩=some (.int .i64 (r:Int))/\X.cell? ⟨lY,4,none⟩=some (.int .i64 (z:Int))/\X.cell? ⟨lY,5,none⟩=some (.int .i64 (c:Int))/\X.cell? ⟨lY,6,none⟩=some (.string ⟨drop.toArray⟩)) (λ_=>True) ak7 ak7 (λ_ o _ _ _ h=>by cases o<;>exact h) ?_
   iterate 16 (refine eJ rfl (λL hL=>?_);go_simp;(first|refine hL _ ?_|refine⟨_,λ_ _ _ _ _ _ _ _=>rfl,hL _ ?_⟩|refine⟨_,λX h1 h2 h3 h4 h5 h6 h7=>by simp only[h1,h2,h3,h4,h5,h6,h7];rfl,hL _ ?_⟩|(trace_state;fail));clear hL L)
   refine gT ?_;refine bo (i:=4) (j:=18) ak7 rfl rfl ?_ ?_ ?_
   ·exact⟨VC.o _ HB.keep,.inr trivial⟩
   ·go_wp2_with fail;have nT:=HB;clear HB;have HB:=Z nT.a1;clear nT;refine bo (i:=5) (j:=18) ak7 rfl rfl ?_ ?_ ?_
    ·exact⟨VC.o _ HB.keep,.inr trivial⟩
    ·go_wp2_with fail;refine awi (C1.o _ _ _ _ HB.o (by first|rfl|simp)) ?_;rintro e wX ⟨rfl,hB⟩;clear HB;have HB:=Z hB;clear hB;go_wp2_with fail;refine bo (i:=8) (j:=18) ak7 rfl rfl ?_ ?_ ?_
     ·exact⟨VC.o _ HB.keep,.inr trivial⟩
     ·go_wp2_with fail;refine awi (X1.o _ _ _ HB.o) ?_;rintro e wX ⟨rfl,hB⟩;clear HB;have HB:=Z hB;clear hB;go_wp2_with fail;refine bo (i:=9) (j:=18) ak7 rfl rfl ?_ ?_ ?_
      ·exact⟨VC.o _ HB.keep,.inr trivial⟩
      ·go_wp2_with fail;refine ag (i:=18) ak7 rfl ?_ ?_
       ·exact⟨VC.o _ HB.keep,.inr trivial⟩
       go_wp2_with fail;have nT:=HB;clear HB;have HB:=Z nT.a2;clear nT;refine ag (i:=19) ak7 rfl ?_ ?_
       ·exact⟨VC.o _ HB.keep,.inr trivial⟩
       go_wp2_with fail;refine awi (C2.o _ _ _ _ HB.o (by first|rfl|simp)) ?_;rintro e wX ⟨rfl,hB⟩;clear HB;have HB:=Z hB;clear hB;go_wp2_with fail;refine bo (i:=20) (j:=23) ak7 rfl rfl ?_ ?_ ?_
       ·exact⟨VC.o _ HB.keep,.inr trivial⟩
       ·go_wp2_with fail;refine ag (i:=23) ak7 rfl ?_ ?_
        ·exact⟨VC.o _ HB.keep,.inr trivial⟩
        go_wp2_with fail;refine awi (X2.o _ _ _ HB.o) ?_;rintro e wX ⟨rfl,hB⟩;clear HB;have HB:=Z hB;clear hB;go_wp2_with fail;refine ag (i:=24) ak7 rfl ?_ ?_
        ·exact⟨VC.o _ HB.keep,.inr trivial⟩
        go_wp2_with fail;refine ag (i:=25) ak7 rfl ?_ ?_
        ·exact⟨VC.o _ HB.keep,.inr trivial⟩
        go_wp2_with fail;refine ag (i:=26) ak7 rfl ?_ ?_
        ·exact⟨VC.o _ HB.keep,.inr trivial⟩
        go_wp2_with fail;refine aT ⟨VC.o _ HB.keep,.inr trivial⟩ ?_;go_wp2;go_ret2;exact⟨by rw[HV.o,HE.o];simp,nH.keep HB.keep⟩
       ·go_wp2_with fail;refine awi (X2.o _ _ _ HB.o) ?_;rintro e wX ⟨rfl,hB⟩;clear HB;have HB:=Z hB;clear hB;go_wp2_with fail;refine ag (i:=20) ak7 rfl ?_ ?_
        ·exact⟨VC.o _ HB.keep,.inr trivial⟩
        go_wp2_with fail;refine ag (i:=24) ak7 rfl ?_ ?_
        ·exact⟨VC.o _ HB.keep,.inr trivial⟩
        go_wp2_with fail;refine ag (i:=25) ak7 rfl ?_ ?_
        ·exact⟨VC.o _ HB.keep,.inr trivial⟩
        go_wp2_with fail;refine ag (i:=26) ak7 rfl ?_ ?_
        ·exact⟨VC.o _ HB.keep,.inr trivial⟩
        go_wp2_with fail;refine aT ⟨VC.o _ HB.keep,.inr trivial⟩ ?_;go_wp2;go_ret2;exact⟨by rw[HV.o,HE.o];simp,nH.keep HB.keep⟩
      ·go_wp2_with fail;have nT:=HB;clear HB;have HB:=Z nT.a2;clear nT;refine bo (i:=9) (j:=19) ak7 rfl rfl ?_ ?_ ?_
       ·exact⟨VC.o _ HB.keep,.inr trivial⟩
       ·go_wp2_with fail;refine ag (i:=19) ak7 rfl ?_ ?_
        ·exact⟨VC.o _ HB.keep,.inr trivial⟩
        go_wp2_with fail;refine awi (C2.o _ _ _ _ HB.o (by first|rfl|simp)) ?_;rintro e wX ⟨rfl,hB⟩;clear HB;have HB:=Z hB;clear hB;go_wp2_with fail;refine bo (i:=20) (j:=23) ak7 rfl rfl ?_ ?_ ?_
        ·exact⟨VC.o _ HB.keep,.inr trivial⟩
        ·go_wp2_with fail;refine ag (i:=23) ak7 rfl ?_ ?_
         ·exact⟨VC.o _ HB.keep,.inr trivial⟩
         go_wp2_with fail;refine awi (X2.o _ _ _ HB.o) ?_;rintro e wX ⟨rfl,hB⟩;clear HB;have HB:=Z hB;clear hB;go_wp2_with fail;refine ag (i:=24) ak7 rfl ?_ ?_
         ·exact⟨VC.o _ HB.keep,.inr trivial⟩
         go_wp2_with fail;refine ag (i:=25) ak7 rfl ?_ ?_
         ·exact⟨VC.o _ HB.keep,.inr trivial⟩
         go_wp2_with fail;refine ag (i:=26) ak7 rfl ?_ ?_
         ·exact⟨VC.o _ HB.keep,.inr trivial⟩
         go_wp2_with fail;refine aT ⟨VC.o _ HB.keep,.inr trivial⟩ ?_;go_wp2;go_ret2;exact⟨by rw[HV.o,HE.o];simp,nH.keep HB.keep⟩
        ·go_wp2_with fail;refine awi (X2.o _ _ _ HB.o) ?_;rintro e wX ⟨rfl,hB⟩;clear HB;have HB:=Z hB;clear hB;go_wp2_with fail;refine ag (i:=20) ak7 rfl ?_ ?_
         ·exact⟨VC.o _ HB.keep,.inr trivial⟩
         go_wp2_with fail;refine ag (i:=24) ak7 rfl ?_ ?_
         ·exact⟨VC.o _ HB.keep,.inr trivial⟩
         go_wp2_with fail;refine ag (i:=25) ak7 rfl ?_ ?_
         ·exact⟨VC.o _ HB.keep,.inr trivial⟩
         go_wp2_with fail;refine ag (i:=26) ak7 rfl ?_ ?_
         ·exact⟨VC.o _ HB.keep,.inr trivial⟩
         go_wp2_with fail;refine aT ⟨VC.o _ HB.keep,.inr trivial⟩ ?_;go_wp2;go_ret2;exact⟨by rw[HV.o,HE.o];simp,nH.keep HB.keep⟩
       ·go_wp2_with fail;refine awi (C2.o _ _ _ _ HB.o (by first|rfl|simp)) ?_;rintro e wX ⟨rfl,hB⟩;clear HB;have HB:=Z hB;clear hB;go_wp2_with fail;refine bo (i:=9) (j:=23) ak7 rfl rfl ?_ ?_ ?_
        ·exact⟨VC.o _ HB.keep,.inr trivial⟩
        ·go_wp2_with fail;refine bo (i:=20) (j:=23) ak7 rfl rfl ?_ ?_ ?_
         ·exact⟨VC.o _ HB.keep,.inr trivial⟩
         ·go_wp2_with fail;refine ag (i:=23) ak7 rfl ?_ ?_
          ·exact⟨VC.o _ HB.keep,.inr trivial⟩
          go_wp2_with fail;refine awi (X2.o _ _ _ HB.o) ?_;rintro e wX ⟨rfl,hB⟩;clear HB;have HB:=Z hB;clear hB;go_wp2_with fail;refine ag (i:=24) ak7 rfl ?_ ?_
          ·exact⟨VC.o _ HB.keep,.inr trivial⟩
          go_wp2_with fail;refine ag (i:=25) ak7 rfl ?_ ?_
          ·exact⟨VC.o _ HB.keep,.inr trivial⟩
          go_wp2_with fail;refine ag (i:=26) ak7 rfl ?_ ?_
          ·exact⟨VC.o _ HB.keep,.inr trivial⟩
          go_wp2_with fail;refine aT ⟨VC.o _ HB.keep,.inr trivial⟩ ?_;go_wp2;go_ret2;exact⟨by rw[HV.o,HE.o];simp,nH.keep HB.keep⟩
         ·go_wp2_with fail;refine awi (X2.o _ _ _ HB.o) ?_;rintro e wX ⟨rfl,hB⟩;clear HB;have HB:=Z hB;clear hB;go_wp2_with fail;refine ag (i:=20) ak7 rfl ?_ ?_
          ·exact⟨VC.o _ HB.keep,.inr trivial⟩
          go_wp2_with fail;refine ag (i:=24) ak7 rfl ?_ ?_
          ·exact⟨VC.o _ HB.keep,.inr trivial⟩
          go_wp2_with fail;refine ag (i:=25) ak7 rfl ?_ ?_
          ·exact⟨VC.o _ HB.keep,.inr trivial⟩
          go_wp2_with fail;refine ag (i:=26) ak7 rfl ?_ ?_
          ·exact⟨VC.o _ HB.keep,.inr trivial⟩
          go_wp2_with fail;refine aT ⟨VC.o _ HB.keep,.inr trivial⟩ ?_;go_wp2;go_ret2;exact⟨by rw[HV.o,HE.o];simp,nH.keep HB.keep⟩
        ·go_wp2_with fail;refine awi (X2.o _ _ _ HB.o) ?_;rintro e wX ⟨rfl,hB⟩;clear HB;have HB:=Z hB;clear hB;go_wp2_with fail;refine ag (i:=9) ak7 rfl ?_ ?_
         ·exact⟨VC.o _ HB.keep,.inr trivial⟩
         go_wp2_with fail;refine ag (i:=20) ak7 rfl ?_ ?_
         ·exact⟨VC.o _ HB.keep,.inr trivial⟩
         go_wp2_with fail;refine ag (i:=24) ak7 rfl ?_ ?_
         ·exact⟨VC.o _ HB.keep,.inr trivial⟩
         go_wp2_with fail;refine ag (i:=25) ak7 rfl ?_ ?_
         ·exact⟨VC.o _ HB.keep,.inr trivial⟩
         go_wp2_with fail;refine ag (i:=26) ak7 rfl ?_ ?_
         ·exact⟨VC.o _ HB.keep,.inr trivial⟩
         go_wp2_with fail;refine aT ⟨VC.o _ HB.keep,.inr trivial⟩ ?_;go_wp2;go_ret2;exact⟨by rw[HV.o,HE.o];simp,nH.keep HB.keep⟩
     ·go_wp2_with fail;have nT:=HB;clear HB;have HB:=Z nT.a2;clear nT;refine ag (i:=8) ak7 rfl ?_ ?_
      ·exact⟨VC.o _ HB.keep,.inr trivial⟩
      go_wp2_with fail;refine awi (X1.o _ _ _ HB.o) ?_;rintro e wX ⟨rfl,hB⟩;clear HB;have HB:=Z hB;clear hB;go_wp2_with fail;refine bo (i:=9) (j:=19) ak7 rfl rfl ?_ ?_ ?_
      ·exact⟨VC.o _ HB.keep,.inr trivial⟩
      ·go_wp2_with fail;refine ag (i:=19) ak7 rfl ?_ ?_
       ·exact⟨VC.o _ HB.keep,.inr trivial⟩
       go_wp2_with fail;refine awi (C2.o _ _ _ _ HB.o (by first|rfl|simp)) ?_;rintro e wX ⟨rfl,hB⟩;clear HB;have HB:=Z hB;clear hB;go_wp2_with fail;refine bo (i:=20) (j:=23) ak7 rfl rfl ?_ ?_ ?_
       ·exact⟨VC.o _ HB.keep,.inr trivial⟩
       ·go_wp2_with fail;refine ag (i:=23) ak7 rfl ?_ ?_
        ·exact⟨VC.o _ HB.keep,.inr trivial⟩
        go_wp2_with fail;refine awi (X2.o _ _ _ HB.o) ?_;rintro e wX ⟨rfl,hB⟩;clear HB;have HB:=Z hB;clear hB;go_wp2_with fail;refine ag (i:=24) ak7 rfl ?_ ?_
        ·exact⟨VC.o _ HB.keep,.inr trivial⟩
        go_wp2_with fail;refine ag (i:=25) ak7 rfl ?_ ?_
        ·exact⟨VC.o _ HB.keep,.inr trivial⟩
        go_wp2_with fail;refine ag (i:=26) ak7 rfl ?_ ?_
        ·exact⟨VC.o _ HB.keep,.inr trivial⟩
        go_wp2_with fail;refine aT ⟨VC.o _ HB.keep,.inr trivial⟩ ?_;go_wp2;go_ret2;exact⟨by rw[HV.o,HE.o];simp,nH.keep HB.keep⟩
       ·go_wp2_with fail;refine awi (X2.o _ _ _ HB.o) ?_;rintro e wX ⟨rfl,hB⟩;clear HB;have HB:=Z hB;clear hB;go_wp2_with fail;refine ag (i:=20) ak7 rfl ?_ ?_
        ·exact⟨VC.o _ HB.keep,.inr trivial⟩
        go_wp2_with fail;refine ag (i:=24) ak7 rfl ?_ ?_
        ·exact⟨VC.o _ HB.keep,.inr trivial⟩
        go_wp2_with fail;refine ag (i:=25) ak7 rfl ?_ ?_
        ·exact⟨VC.o _ HB.keep,.inr trivial⟩
        go_wp2_with fail;refine ag (i:=26) ak7 rfl ?_ ?_
        ·exact⟨VC.o _ HB.keep,.inr trivial⟩
        go_wp2_with fail;refine aT ⟨VC.o _ HB.keep,.inr trivial⟩ ?_;go_wp2;go_ret2;exact⟨by rw[HV.o,HE.o];simp,nH.keep HB.keep⟩
      ·go_wp2_with fail;refine awi (C2.o _ _ _ _ HB.o (by first|rfl|simp)) ?_;rintro e wX ⟨rfl,hB⟩;clear HB;have HB:=Z hB;clear hB;go_wp2_with fail;refine bo (i:=9) (j:=23) ak7 rfl rfl ?_ ?_ ?_
       ·exact⟨VC.o _ HB.keep,.inr trivial⟩
       ·go_wp2_with fail;refine bo (i:=20) (j:=23) ak7 rfl rfl ?_ ?_ ?_
        ·exact⟨VC.o _ HB.keep,.inr trivial⟩
        ·go_wp2_with fail;refine ag (i:=23) ak7 rfl ?_ ?_
         ·exact⟨VC.o _ HB.keep,.inr trivial⟩
         go_wp2_with fail;refine awi (X2.o _ _ _ HB.o) ?_;rintro e wX ⟨rfl,hB⟩;clear HB;have HB:=Z hB;clear hB;go_wp2_with fail;refine ag (i:=24) ak7 rfl ?_ ?_
         ·exact⟨VC.o _ HB.keep,.inr trivial⟩
         go_wp2_with fail;refine ag (i:=25) ak7 rfl ?_ ?_
         ·exact⟨VC.o _ HB.keep,.inr trivial⟩
         go_wp2_with fail;refine ag (i:=26) ak7 rfl ?_ ?_
         ·exact⟨VC.o _ HB.keep,.inr trivial⟩
         go_wp2_with fail;refine aT ⟨VC.o _ HB.keep,.inr trivial⟩ ?_;go_wp2;go_ret2;exact⟨by rw[HV.o,HE.o];simp,nH.keep HB.keep⟩
        ·go_wp2_with fail;refine awi (X2.o _ _ _ HB.o) ?_;rintro e wX ⟨rfl,hB⟩;clear HB;have HB:=Z hB;clear hB;go_wp2_with fail;refine ag (i:=20) ak7 rfl ?_ ?_
         ·exact⟨VC.o _ HB.keep,.inr trivial⟩
         go_wp2_with fail;refine ag (i:=24) ak7 rfl ?_ ?_
         ·exact⟨VC.o _ HB.keep,.inr trivial⟩
         go_wp2_with fail;refine ag (i:=25) ak7 rfl ?_ ?_
         ·exact⟨VC.o _ HB.keep,.inr trivial⟩
         go_wp2_with fail;refine ag (i:=26) ak7 rfl ?_ ?_
         ·exact⟨VC.o _ HB.keep,.inr trivial⟩
         go_wp2_with fail;refine aT ⟨VC.o _ HB.keep,.inr trivial⟩ ?_;go_wp2;go_ret2;exact⟨by rw[HV.o,HE.o];simp,nH.keep HB.keep⟩
       ·go_wp2_with fail;refine awi (X2.o _ _ _ HB.o) ?_;rintro e wX ⟨rfl,hB⟩;clear HB;have HB:=Z hB;clear hB;go_wp2_with fail;refine ag (i:=9) ak7 rfl ?_ ?_
        ·exact⟨VC.o _ HB.keep,.inr trivial⟩
        go_wp2_with fail;refine ag (i:=20) ak7 rfl ?_ ?_
        ·exact⟨VC.o _ HB.keep,.inr trivial⟩
        go_wp2_with fail;refine ag (i:=24) ak7 rfl ?_ ?_
        ·exact⟨VC.o _ HB.keep,.inr trivial⟩
        go_wp2_with fail;refine ag (i:=25) ak7 rfl ?_ ?_
        ·exact⟨VC.o _ HB.keep,.inr trivial⟩
        go_wp2_with fail;refine ag (i:=26) ak7 rfl ?_ ?_
        ·exact⟨VC.o _ HB.keep,.inr trivial⟩
        go_wp2_with fail;refine aT ⟨VC.o _ HB.keep,.inr trivial⟩ ?_;go_wp2;go_ret2;exact⟨by rw[HV.o,HE.o];simp,nH.keep HB.keep⟩
    ·go_wp2_with fail;have nT:=HB;clear HB;have HB:=Z nT.a2;clear nT;refine ag (i:=5) ak7 rfl ?_ ?_
     ·exact⟨VC.o _ HB.keep,.inr trivial⟩
     go_wp2_with fail;refine awi (C1.o _ _ _ _ HB.o (by first|rfl|simp)) ?_;rintro e wX ⟨rfl,hB⟩;clear HB;have HB:=Z hB;clear hB;go_wp2_with fail;refine ag (i:=8) ak7 rfl ?_ ?_
     ·exact⟨VC.o _ HB.keep,.inr trivial⟩
     go_wp2_with fail;refine awi (X1.o _ _ _ HB.o) ?_;rintro e wX ⟨rfl,hB⟩;clear HB;have HB:=Z hB;clear hB;go_wp2_with fail;refine bo (i:=9) (j:=19) ak7 rfl rfl ?_ ?_ ?_
     ·exact⟨VC.o _ HB.keep,.inr trivial⟩
     ·go_wp2_with fail;refine ag (i:=19) ak7 rfl ?_ ?_
      ·exact⟨VC.o _ HB.keep,.inr trivial⟩
      go_wp2_with fail;refine awi (C2.o _ _ _ _ HB.o (by first|rfl|simp)) ?_;rintro e wX ⟨rfl,hB⟩;clear HB;have HB:=Z hB;clear hB;go_wp2_with fail;refine bo (i:=20) (j:=23) ak7 rfl rfl ?_ ?_ ?_
      ·exact⟨VC.o _ HB.keep,.inr trivial⟩
      ·go_wp2_with fail;refine ag (i:=23) ak7 rfl ?_ ?_
       ·exact⟨VC.o _ HB.keep,.inr trivial⟩
       go_wp2_with fail;refine awi (X2.o _ _ _ HB.o) ?_;rintro e wX ⟨rfl,hB⟩;clear HB;have HB:=Z hB;clear hB;go_wp2_with fail;refine ag (i:=24) ak7 rfl ?_ ?_
       ·exact⟨VC.o _ HB.keep,.inr trivial⟩
       go_wp2_with fail;refine ag (i:=25) ak7 rfl ?_ ?_
       ·exact⟨VC.o _ HB.keep,.inr trivial⟩
       go_wp2_with fail;refine ag (i:=26) ak7 rfl ?_ ?_
       ·exact⟨VC.o _ HB.keep,.inr trivial⟩
       go_wp2_with fail;refine aT ⟨VC.o _ HB.keep,.inr trivial⟩ ?_;go_wp2;go_ret2;exact⟨by rw[HV.o,HE.o];simp,nH.keep HB.keep⟩
      ·go_wp2_with fail;refine awi (X2.o _ _ _ HB.o) ?_;rintro e wX ⟨rfl,hB⟩;clear HB;have HB:=Z hB;clear hB;go_wp2_with fail;refine ag (i:=20) ak7 rfl ?_ ?_
       ·exact⟨VC.o _ HB.keep,.inr trivial⟩
       go_wp2_with fail;refine ag (i:=24) ak7 rfl ?_ ?_
       ·exact⟨VC.o _ HB.keep,.inr trivial⟩
       go_wp2_with fail;refine ag (i:=25) ak7 rfl ?_ ?_
       ·exact⟨VC.o _ HB.keep,.inr trivial⟩
       go_wp2_with fail;refine ag (i:=26) ak7 rfl ?_ ?_
       ·exact⟨VC.o _ HB.keep,.inr trivial⟩
       go_wp2_with fail;refine aT ⟨VC.o _ HB.keep,.inr trivial⟩ ?_;go_wp2;go_ret2;exact⟨by rw[HV.o,HE.o];simp,nH.keep HB.keep⟩
     ·go_wp2_with fail;refine awi (C2.o _ _ _ _ HB.o (by first|rfl|simp)) ?_;rintro e wX ⟨rfl,hB⟩;clear HB;have HB:=Z hB;clear hB;go_wp2_with fail;refine bo (i:=9) (j:=23) ak7 rfl rfl ?_ ?_ ?_
      ·exact⟨VC.o _ HB.keep,.inr trivial⟩
      ·go_wp2_with fail;refine bo (i:=20) (j:=23) ak7 rfl rfl ?_ ?_ ?_
       ·exact⟨VC.o _ HB.keep,.inr trivial⟩
       ·go_wp2_with fail;refine ag (i:=23) ak7 rfl ?_ ?_
        ·exact⟨VC.o _ HB.keep,.inr trivial⟩
        go_wp2_with fail;refine awi (X2.o _ _ _ HB.o) ?_;rintro e wX ⟨rfl,hB⟩;clear HB;have HB:=Z hB;clear hB;go_wp2_with fail;refine ag (i:=24) ak7 rfl ?_ ?_
        ·exact⟨VC.o _ HB.keep,.inr trivial⟩
        go_wp2_with fail;refine ag (i:=25) ak7 rfl ?_ ?_
        ·exact⟨VC.o _ HB.keep,.inr trivial⟩
        go_wp2_with fail;refine ag (i:=26) ak7 rfl ?_ ?_
        ·exact⟨VC.o _ HB.keep,.inr trivial⟩
        go_wp2_with fail;refine aT ⟨VC.o _ HB.keep,.inr trivial⟩ ?_;go_wp2;go_ret2;exact⟨by rw[HV.o,HE.o];simp,nH.keep HB.keep⟩
       ·go_wp2_with fail;refine awi (X2.o _ _ _ HB.o) ?_;rintro e wX ⟨rfl,hB⟩;clear HB;have HB:=Z hB;clear hB;go_wp2_with fail;refine ag (i:=20) ak7 rfl ?_ ?_
        ·exact⟨VC.o _ HB.keep,.inr trivial⟩
        go_wp2_with fail;refine ag (i:=24) ak7 rfl ?_ ?_
        ·exact⟨VC.o _ HB.keep,.inr trivial⟩
        go_wp2_with fail;refine ag (i:=25) ak7 rfl ?_ ?_
        ·exact⟨VC.o _ HB.keep,.inr trivial⟩
        go_wp2_with fail;refine ag (i:=26) ak7 rfl ?_ ?_
        ·exact⟨VC.o _ HB.keep,.inr trivial⟩
        go_wp2_with fail;refine aT ⟨VC.o _ HB.keep,.inr trivial⟩ ?_;go_wp2;go_ret2;exact⟨by rw[HV.o,HE.o];simp,nH.keep HB.keep⟩
      ·go_wp2_with fail;refine awi (X2.o _ _ _ HB.o) ?_;rintro e wX ⟨rfl,hB⟩;clear HB;have HB:=Z hB;clear hB;go_wp2_with fail;refine ag (i:=9) ak7 rfl ?_ ?_
       ·exact⟨VC.o _ HB.keep,.inr trivial⟩
       go_wp2_with fail;refine ag (i:=20) ak7 rfl ?_ ?_
       ·exact⟨VC.o _ HB.keep,.inr trivial⟩
       go_wp2_with fail;refine ag (i:=24) ak7 rfl ?_ ?_
       ·exact⟨VC.o _ HB.keep,.inr trivial⟩
       go_wp2_with fail;refine ag (i:=25) ak7 rfl ?_ ?_
       ·exact⟨VC.o _ HB.keep,.inr trivial⟩
       go_wp2_with fail;refine ag (i:=26) ak7 rfl ?_ ?_
       ·exact⟨VC.o _ HB.keep,.inr trivial⟩
       go_wp2_with fail;refine aT ⟨VC.o _ HB.keep,.inr trivial⟩ ?_;go_wp2;go_ret2;exact⟨by rw[HV.o,HE.o];simp,nH.keep HB.keep⟩
   ·go_wp2_with fail;have nT:=HB;clear HB;have HB:=Z nT.a2;clear nT;refine ag (i:=4) ak7 rfl ?_ ?_
    ·exact⟨VC.o _ HB.keep,.inr trivial⟩
    go_wp2_with fail;have nT:=HB;clear HB;have HB:=Z nT.a1;clear nT;refine ag (i:=5) ak7 rfl ?_ ?_
    ·exact⟨VC.o _ HB.keep,.inr trivial⟩
    go_wp2_with fail;refine awi (C1.o _ _ _ _ HB.o (by first|rfl|simp)) ?_;rintro e wX ⟨rfl,hB⟩;clear HB;have HB:=Z hB;clear hB;go_wp2_with fail;refine ag (i:=8) ak7 rfl ?_ ?_
    ·exact⟨VC.o _ HB.keep,.inr trivial⟩
    go_wp2_with fail;refine awi (X1.o _ _ _ HB.o) ?_;rintro e wX ⟨rfl,hB⟩;clear HB;have HB:=Z hB;clear hB;go_wp2_with fail;refine bo (i:=9) (j:=19) ak7 rfl rfl ?_ ?_ ?_
    ·exact⟨VC.o _ HB.keep,.inr trivial⟩
    ·go_wp2_with fail;refine ag (i:=19) ak7 rfl ?_ ?_
     ·exact⟨VC.o _ HB.keep,.inr trivial⟩
     go_wp2_with fail;refine awi (C2.o _ _ _ _ HB.o (by first|rfl|simp)) ?_;rintro e wX ⟨rfl,hB⟩;clear HB;have HB:=Z hB;clear hB;go_wp2_with fail;refine bo (i:=20) (j:=23) ak7 rfl rfl ?_ ?_ ?_
     ·exact⟨VC.o _ HB.keep,.inr trivial⟩
     ·go_wp2_with fail;refine ag (i:=23) ak7 rfl ?_ ?_
      ·exact⟨VC.o _ HB.keep,.inr trivial⟩
      go_wp2_with fail;refine awi (X2.o _ _ _ HB.o) ?_;rintro e wX ⟨rfl,hB⟩;clear HB;have HB:=Z hB;clear hB;go_wp2_with fail;refine ag (i:=24) ak7 rfl ?_ ?_
      ·exact⟨VC.o _ HB.keep,.inr trivial⟩
      go_wp2_with fail;refine ag (i:=25) ak7 rfl ?_ ?_
      ·exact⟨VC.o _ HB.keep,.inr trivial⟩
      go_wp2_with fail;refine ag (i:=26) ak7 rfl ?_ ?_
      ·exact⟨VC.o _ HB.keep,.inr trivial⟩
      go_wp2_with fail;refine aT ⟨VC.o _ HB.keep,.inr trivial⟩ ?_;go_wp2;go_ret2;exact⟨by rw[HV.o,HE.o];simp,nH.keep HB.keep⟩
     ·go_wp2_with fail;refine awi (X2.o _ _ _ HB.o) ?_;rintro e wX ⟨rfl,hB⟩;clear HB;have HB:=Z hB;clear hB;go_wp2_with fail;refine ag (i:=20) ak7 rfl ?_ ?_
      ·exact⟨VC.o _ HB.keep,.inr trivial⟩
      go_wp2_with fail;refine ag (i:=24) ak7 rfl ?_ ?_
      ·exact⟨VC.o _ HB.keep,.inr trivial⟩
      go_wp2_with fail;refine ag (i:=25) ak7 rfl ?_ ?_
      ·exact⟨VC.o _ HB.keep,.inr trivial⟩
      go_wp2_with fail;refine ag (i:=26) ak7 rfl ?_ ?_
      ·exact⟨VC.o _ HB.keep,.inr trivial⟩
      go_wp2_with fail;refine aT ⟨VC.o _ HB.keep,.inr trivial⟩ ?_;go_wp2;go_ret2;exact⟨by rw[HV.o,HE.o];simp,nH.keep HB.keep⟩
    ·go_wp2_with fail;refine awi (C2.o _ _ _ _ HB.o (by first|rfl|simp)) ?_;rintro e wX ⟨rfl,hB⟩;clear HB;have HB:=Z hB;clear hB;go_wp2_with fail;refine bo (i:=9) (j:=23) ak7 rfl rfl ?_ ?_ ?_
     ·exact⟨VC.o _ HB.keep,.inr trivial⟩
     ·go_wp2_with fail;refine bo (i:=20) (j:=23) ak7 rfl rfl ?_ ?_ ?_
      ·exact⟨VC.o _ HB.keep,.inr trivial⟩
      ·go_wp2_with fail;refine ag (i:=23) ak7 rfl ?_ ?_
       ·exact⟨VC.o _ HB.keep,.inr trivial⟩
       go_wp2_with fail;refine awi (X2.o _ _ _ HB.o) ?_;rintro e wX ⟨rfl,hB⟩;clear HB;have HB:=Z hB;clear hB;go_wp2_with fail;refine ag (i:=24) ak7 rfl ?_ ?_
       ·exact⟨VC.o _ HB.keep,.inr trivial⟩
       go_wp2_with fail;refine ag (i:=25) ak7 rfl ?_ ?_
       ·exact⟨VC.o _ HB.keep,.inr trivial⟩
       go_wp2_with fail;refine ag (i:=26) ak7 rfl ?_ ?_
       ·exact⟨VC.o _ HB.keep,.inr trivial⟩
       go_wp2_with fail;refine aT ⟨VC.o _ HB.keep,.inr trivial⟩ ?_;go_wp2;go_ret2;exact⟨by rw[HV.o,HE.o];simp,nH.keep HB.keep⟩
      ·go_wp2_with fail;refine awi (X2.o _ _ _ HB.o) ?_;rintro e wX ⟨rfl,hB⟩;clear HB;have HB:=Z hB;clear hB;go_wp2_with fail;refine ag (i:=20) ak7 rfl ?_ ?_
       ·exact⟨VC.o _ HB.keep,.inr trivial⟩
       go_wp2_with fail;refine ag (i:=24) ak7 rfl ?_ ?_
       ·exact⟨VC.o _ HB.keep,.inr trivial⟩
       go_wp2_with fail;refine ag (i:=25) ak7 rfl ?_ ?_
       ·exact⟨VC.o _ HB.keep,.inr trivial⟩
       go_wp2_with fail;refine ag (i:=26) ak7 rfl ?_ ?_
       ·exact⟨VC.o _ HB.keep,.inr trivial⟩
       go_wp2_with fail;refine aT ⟨VC.o _ HB.keep,.inr trivial⟩ ?_;go_wp2;go_ret2;exact⟨by rw[HV.o,HE.o];simp,nH.keep HB.keep⟩
     ·go_wp2_with fail;refine awi (X2.o _ _ _ HB.o) ?_;rintro e wX ⟨rfl,hB⟩;clear HB;have HB:=Z hB;clear hB;go_wp2_with fail;refine ag (i:=9) ak7 rfl ?_ ?_
      ·exact⟨VC.o _ HB.keep,.inr trivial⟩
      go_wp2_with fail;refine ag (i:=20) ak7 rfl ?_ ?_
      ·exact⟨VC.o _ HB.keep,.inr trivial⟩
      go_wp2_with fail;refine ag (i:=24) ak7 rfl ?_ ?_
      ·exact⟨VC.o _ HB.keep,.inr trivial⟩
      go_wp2_with fail;refine ag (i:=25) ak7 rfl ?_ ?_
      ·exact⟨VC.o _ HB.keep,.inr trivial⟩
      go_wp2_with fail;refine ag (i:=26) ak7 rfl ?_ ?_
      ·exact⟨VC.o _ HB.keep,.inr trivial⟩
      go_wp2_with fail;refine aT ⟨VC.o _ HB.keep,.inr trivial⟩ ?_;go_wp2;go_ret2;exact⟨by rw[HV.o,HE.o];simp,nH.keep HB.keep⟩
end
end Go.Proofs.YtkghpdcloaiflaaGreatDoor
