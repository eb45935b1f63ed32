import Derived.Test.YtkghpdcloaiflaaGreatDoorE44
import Derived.Laws.StructEq
set_option maxHeartbeats 16000000
set_option maxRecDepth 100000
namespace Go.Proofs.YtkghpdcloaiflaaGreatDoor
open _root_.Go.Proofs.Tryz
section
open Go.RowKit
attribute [local go_sem] auv
section
variable {w ws wr w2:World}{Ls:Nat->Prop}{p:Nat}{v u:Vs}{a a2:eF}{q:Nat}{h:Hd}{l:List Nat}{lv:Value}
theorem qk.did (s:qk w ws Ls p v a q h l lv wr)(_hw:w.heap.size<=ws.heap.size)(k:Ve wr p v a u a2 w2):qk w ws Ls p u a2 q h l lv w2 where
 at_:=k.at_
 foot g hg:=(k.foot g hg).elim (s.foot g) (fun h1=>aux s.keep.size h1)
 keep:=s.keep.trans k.mod (fun g hl hg=>by have:=s.foot g hg;omega)
 plan:=s.plan.to (__v:=v) (__u:=u) k.mod k.foot
 size:=aux s.size k.mod.size
 own b hb:=⟨(s.own b hb).1,(k.mod.block b (auL (s.own b hb).1 s.size) (s.own b hb).2.2).trans (s.own b hb).2.1,fun hf=>(k.foot b hf).elim (s.own b hb).2.2 (fun h1=>by have:=(s.own b hb).1;have:=s.size;omega)⟩
end
theorem Vt (h:Hd)(W:World):(binOp .neq 44 (hdF h) (hdF h)).run prog W=.ok (.bool false) W:=by
 rw[run_neq_struct,run_equalIn_struct _ _ _ _ _ (by kernel_rfl) (by kernel_rfl)];simp only[Program.fieldsOf,underlying44];simp[go_sem,Op.eqFields]
theorem Nx (w:World)(he:tr w)(blocks:Int)(hb:-9223372036854775808<=blocks/\blocks<=9223372036854775807)(av bv:Value)(cs:List bP)(hr:jS oE 5 w av cs)(hs:∀ c∈cs,c.Small)(hl:cs.length<=1048576)
  (bs:List bP) (hq:jS oE 5 w bv bs) (hu:∀ c∈bs,c.Small) (hm:bs.length<=1048576) (base target:az) (h1:base.length<=140737488351232) (h2:target.length<=140737488351232):
  Calls prog 5 #[acy blocks av bv base target] w fun e w'=>e=.returned (.bool true)/\af w w':=by
 obtain⟨W0,rA⟩:∃ W,w.alloc (.cells #[.int .i64 blocks,av,bv,.string ⟨base.toArray⟩,.string ⟨target.toArray⟩] 31)=W:=⟨_,rfl⟩
 obtain⟨wb,Cm⟩:∃ b,w.heap.size=b:=⟨_,rfl⟩
 have dO:Hid (af w W0):=hd0 (by rw[<-rA];exact(ah.refl _ w).alloc _);have HZ0:Hid (World.blk W0 wb #[.int .i64 blocks,av,bv,.string ⟨base.toArray⟩,.string ⟨target.toArray⟩] 31):=hd0 (by rw[<-rA,<-Cm];exact aw _ _ _);have LD:=hd0 (Au (he.keep dO.out) blocks hb cs av (eZ hr dO.out) hs hl (fun _=>Aw) (fun c _=>Ek c));have HE:=hd0 he;have Oc:=hd0 (And.intro h1 h2);obtain⟨ca,cap,rfl,hx⟩:=hq;have HX:=hd0 hx;have HBS:=hd0 (And.intro hu hm);have Hwb:=hd0 Cm;have hmi:(bs.length:Int)<=1048576:=by omega
 obtain⟨z0,z1,_,_,_⟩:=Ax HZ0.out;clear he hb hr hs hl h1 h2 hx hu hm;go_enter func5,ntmps5
 go_upto_region 1 with fail
 try rw[rA]
 try rw[Cm]
 go_wp2_with fail;refine LD.out.mono ?_;rintro e w1 ⟨p,v0,v,a,rfl,_,_,eU,_,ni⟩;have HG:=hd0 eU.good;have HLV:=hd0 eU;have HA:=hd0 ni;have bU:Hid (af w w1):=hd0 (dO.out.keep ni.keep);have HZ1:=hd0 (ab ni.keep HZ0.out id);obtain⟨_,_,_,c3,c4⟩:=Ax HZ1.out;have HL7:Hid (v.b.list.length<=1000):=hd0 (by have:=HG.out.list.many;omega);have NW:=hd0 (As ni.at_ HL7.out eU.good.list.plane (fun x y hx hy=>⟨fN eU.good hx,aux (ji _ _) (Nat.max_le.2 ⟨fN eU.good hx,fN eU.good hy⟩)⟩) base target (by have:=Oc.out.1;omega) (by have:=Oc.out.2;omega));clear eU ni LD z0 z1;go_wp2_with fail;refine NW.out.mono ?_;rintro e w2 ⟨k2,jJ⟩;have bu:=hd0 k2;have FXW:Hid (∀ W,af w W->Calls prog 13 #[] W fun e w'=>e=.returned (.bool true)/\af W w'):=hd0 (fun W k=>Nn (HE.out.keep k));clear k2 NW c3 c4
 cases FW:iS v base target with
 |error er=>
  rw[FW]at jJ;simp only at jJ;subst jJ;have FX:=hd0 (FXW.out w2 (bU.out.keep bu.out));clear FW;go_wp2_with fail;refine FX.out.mono ?_;rintro e w3 ⟨rfl,k3⟩;have dZ:=hd0 ((bU.out.keep bu.out).keep k3);clear k3 FX;go_wp2;go_ret;exact⟨rfl,dZ.out⟩
 |ok pl=>
  obtain⟨h,l⟩:=pl;rw[FW]at jJ;simp only at jJ;obtain⟨q,lv,rfl,Ff⟩:=jJ;have PS:=hd0 (Az HG.out FW);have RD:=hd0 (ye HG.out FW);have SS:=hd0 (fun(u:Vs) (hu:io u) (hs:dS v u) hid=>IQ HG.out hu hs FW hid);have Xb:=hd0 Ff;have PH:=hd0 (tP Ff);clear FW Ff;go_wp2_with fail;refine PH.out.mono ?_;rintro e w5 ⟨rfl,k5⟩;have lZ:=hd0 (bu.out.keep k5);have Sk:=hd0 (Xb.out.keep k5);obtain⟨w6,hw6⟩:∃ W,w5.alloc (.cells #[.int .i64 h.id,.int .i64 h.base,.string ⟨h.name.toArray⟩,.int .i64 h.table.root,.int .i64 h.table.size,.int .i64 h.count,.string ⟨h.drop.toArray⟩] 44)=W:=⟨_,rfl⟩
  obtain⟨hb,Yp⟩:∃ b,w5.heap.size=b:=⟨_,rfl⟩
  have k6:af w5 w6:=by rw[<-hw6];exact(ah.refl _ w5).alloc _
  have FM:Hid (World.blk w6 hb #[.int .i64 h.id,.int .i64 h.base,.string ⟨h.name.toArray⟩,.int .i64 h.table.root,.int .i64 h.table.size,.int .i64 h.count,.string ⟨h.drop.toArray⟩] 44):=hd0 (by rw[<-hw6,<-Yp];exact aw _ _ _);have rz:=hd0 (lZ.out.keep k6);have Js:=hd0 (Sk.out.keep k6);have HZ6:=hd0 (ab rz.out HZ1.out id);have rB:Hid (qk w w6 (fun b=>b=wb\/b=hb) p v a q h l lv w6):=hd0 (by
   have hbw:=ai FM.out;have hw5:w1.heap.size<=hb:=by rw[<-Yp];exact lZ.out.size
   have aqv:=ai HZ1.out;refine⟨HA.out.at_.keep rz.out,fun g hg=>aux dO.out.size (HA.out.foot g hg),bU.out.keep rz.out,⟨⟨_,Js.out⟩,fun hf=>?_,fun g hg hf=>?_⟩,auE _,fun b N7=>⟨?_,rfl,fun hf=>?_⟩⟩
   ·have h1:=HA.out.at_.lt hf;have h2:=Js.out.new;omega
   ·have h1:=HA.out.at_.lt hf;have h2:=(Js.out.row.lt g hg).1;omega
   ·rcases N7 with rfl|rfl
    ·have:=rz.out.size;omega
    ·exact hbw
   ·rcases N7 with rfl|rfl
    ·have h1:=HA.out.foot _ hf;have:=ai HZ0.out;omega
    ·have h1:=HA.out.at_.lt hf;omega)
  have Fh:Hid (w.heap.size<=w6.heap.size/\v.blocks<=4096):=hd0 ⟨(bU.out.keep rz.out).size,HG.out.many.2⟩;have PU:=hd0 (sD rB.out.at_ HL7.out rB.out.plan (fun _=>PS.out.first) (by have:=PS.out.few;omega) Fh.out.2 (uM v) RD.out);generalize Kw:KX fX (fY (uM v) l)=sm at*;have HSM:=hd0 Kw;clear k5 k6 PH Xb Sk Js Kw;go_wp2_with fail
  try rw[hw6]
  try rw[Yp]
  refine PU.out.mono ?_;rintro e w7 ⟨rfl,a2,gW,AA,jJ⟩;have HS7:=hd0 (rB.out.to Fh.out.1 gW);have HCS:Hid (min cs.length 60<=60):=hd0 (Nat.min_le_right _ _);generalize min cs.length 60=n0 at*;clear gW AA jJ PU hw6 Yp rB;go_wp2_with fail
  go_loopw [9] (fun y wr=>∃ k:Nat,k<=bs.length/\k<=40/\y=.int .i64 (k:Int)/\Hid (∃ u a',dS v u/\Lv u (n0+k)/\u.blocks=v.blocks/\qk w w6 (fun b=>b=wb\/b=hb) p u a' q h l lv wr)) (fun y _=>40-(intOf y).toNat)
  case atStart=>exact⟨0,by omega,by omega,rfl,hd0 ⟨v,a2,dS.refl v,HLV.out,rfl,HS7.out⟩⟩
  case round=>
   clear HS7;obtain⟨k,hk,iT,rfl,HR⟩:=hrel;obtain⟨u,a3,dg,eU,oG,hps⟩:=HR.out;have HS:=hd0 hps;have HU:=hd0 (And.intro dg (And.intro eU oG));have r2:wr.cell? ⟨wb,2,none⟩=some (.slice ca bs.length cap):=hps.cell (.inl rfl) (aa HZ6.out 2);clear dg eU oG hps HR;by_cases aL:k<bs.length
   ·have dN:(k:Int)<(bs.length:Int):=by omega
    by_cases h40:k<40
    ·have ajg:(k:Int)<40:=by omega
     obtain⟨c,hc⟩:∃ c,bs[k]?=some c:=⟨_,auB aL⟩
     obtain⟨rb,o,rfl,RH⟩:=HX.out k c hc;have cx:∀ i x,(oE c)[i]?=some x->wr.cell? ⟨rb,o+k*5+i,none⟩=some x:=fun i x hi=>by
      have h1:=RH i x hi;rw[HS.out.keep.cell (p:=⟨rb,o+k*5+i,none⟩) (ak h1) id];exact h1
     have c0:wr.cell? ⟨rb,o+k*5,none⟩=some (.int .i64 c.kind):=cx 0 _ rfl;have c1:wr.cell? ⟨rb,o+k*5+1,none⟩=some (.string ⟨c.path.toArray⟩):=cx 1 _ rfl;have c2:wr.cell? ⟨rb,o+k*5+2,none⟩=some (.string ⟨c.dest.toArray⟩):=cx 2 _ rfl;have c3:wr.cell? ⟨rb,o+k*5+3,none⟩=some (.int .i64 c.pos):=cx 3 _ rfl;have c4:wr.cell? ⟨rb,o+k*5+4,none⟩=some (.string ⟨c.data.toArray⟩):=cx 4 _ rfl;have hda:Y1 u c:=by
      obtain⟨_,eU,_⟩:=HU.out;obtain⟨d,hw⟩:=eU.wf;obtain⟨d',cf⟩:=JR hw c;exact⟨eU.good,by have:=eU.id;have:=HCS.out;omega,by have:=eU.num;have:=HCS.out;omega,HBS.out.1 c (auC hc),fun cq=>⟨by have:=pC cq;have:=eU.half;omega,pC cq⟩,tR cf,qe⟩
     have DO:=hd0 (Kd HS.out.at_ (HE.out.keep HS.out.keep) hda (fun _=>Aw) (Ek c));clear cx RH hda hc;go_wp2_with fail;unfold gt bL at DO;refine DO.out.mono ?_;rintro e w8 ⟨rr,u2,a4,nR,rfl,hvd⟩;have HN:Hid (dS v u2/\Lv u2 (n0+(k+1))/\u2.blocks=v.blocks):=hd0 (by
      obtain⟨dg,eU,oG⟩:=HU.out;obtain⟨r',u',q1,q2,q3,_⟩:=eU.step c;have q4:=Rw eU.good q1;rw[q1]at nR;injection nR with nR;injection nR with h1 h2;subst h1 h2;exact⟨dS.trans (iK HG.out) dg q4,q2,q3.trans oG⟩)
     have za:=hd0 (HS.out.did Fh.out.1 hvd);have d4:w8.cell? ⟨wb,4,none⟩=some (.string ⟨target.toArray⟩):=za.out.cell (.inl rfl) (aa HZ6.out 4);have HL8:Hid (u2.b.list.length<=1000):=hd0 (by have:=HN.out.2.1.good.list.many;omega);have IDS:Hid (Calls prog 17 #[aq p,.string ⟨#[]⟩,aC target] w8 fun e w'=>e=.returned (.tuple #[.int .i64 (bT u2.b.list []),.int .i64 (bT u2.b.list target)])/\af w8 w'):=hd0 (Rx za.out.at_ HL8.out [] target);clear nR hvd DO c0 c1 c2 c3 c4 r2 HS;go_wp2_with fail;refine IDS.out.mono ?_;rintro e w9 ⟨rfl,k9⟩;have Cv:=hd0 (za.out.keep' k9);have aff:∀(W:World) (a':eF),qk w w6 (fun b=>b=wb\/b=hb) p u2 a' q h l lv W->Hid (∃ u a',dS v u/\Lv u (n0+(k+1))/\u.blocks=v.blocks/\qk w w6 (fun b=>b=wb\/b=hb) p u a' q h l lv W):=fun W a' hs=>hd0 ⟨u2,a',HN.out.1,HN.out.2.1,HN.out.2.2,hs⟩;have NXT:=hd0 aff;have amn:n0<=1000:=by have:=HCS.out;omega
     clear k9 IDS d4 za aff;by_cases hid:bT u2.b.list target=h.id
     ·have TQ:=SS.out u2 HN.out.2.1.good HN.out.1 hid;have PU:=hd0 (sD Cv.out.at_ HL8.out Cv.out.plan (fun _=>TQ.1) (by have:=PS.out.few;omega) (by rw[HN.out.2.2];exact Fh.out.2) (uM v) TQ.2);rw[HSM.out]at PU;rw[hid];clear TQ hid;generalize bT u2.b.list []=i0 at*;have bs1:(sm==sm)=true:=by simp
      have bs2:(h.id==h.id)=true:=by simp
      have bs3:(h.id != h.id)=false:=by simp
      go_wp2_with fail;refine PU.out.mono ?_;rintro e mV ⟨rfl,a5,gW,AA,jJ⟩;have nS:=hd0 (Cv.out.to Fh.out.1 gW);have PH:Hid (∀ X,Calls prog 18 #[aq q] (mV.ext X) fun e w'=>e=.returned (hdF h)/\af (mV.ext X) w'):=hd0 (fun X=>by
       obtain⟨_,hp⟩:=(nS.out.plan.keep (ay mV X)).at_;exact tP hp)
      have q0:∀ X,(mV.ext X).cell? ⟨hb,0,none⟩=some (.int .i64 h.id):=fun X=>(nS.out.keep' (ay mV X)).cell (.inr rfl) (aa FM.out 0);have q1:∀ X,(mV.ext X).cell? ⟨hb,1,none⟩=some (.int .i64 h.base):=fun X=>(nS.out.keep' (ay mV X)).cell (.inr rfl) (aa FM.out 1);have q2:∀ X,(mV.ext X).cell? ⟨hb,2,none⟩=some (.string ⟨h.name.toArray⟩):=fun X=>(nS.out.keep' (ay mV X)).cell (.inr rfl) (aa FM.out 2);have q3:∀ X,(mV.ext X).cell? ⟨hb,3,none⟩=some (.int .i64 h.table.root):=fun X=>(nS.out.keep' (ay mV X)).cell (.inr rfl) (aa FM.out 3);have q4:∀ X,(mV.ext X).cell? ⟨hb,4,none⟩=some (.int .i64 h.table.size):=fun X=>(nS.out.keep' (ay mV X)).cell (.inr rfl) (aa FM.out 4);have q5:∀ X,(mV.ext X).cell? ⟨hb,5,none⟩=some (.int .i64 h.count):=fun X=>(nS.out.keep' (ay mV X)).cell (.inr rfl) (aa FM.out 5);have q6:∀ X,(mV.ext X).cell? ⟨hb,6,none⟩=some (.string ⟨h.drop.toArray⟩):=fun X=>(nS.out.keep' (ay mV X)).cell (.inr rfl) (aa FM.out 6);have dW:=Vt h;clear gW AA jJ PU Cv
      go_upto_region 17 with fail
      refine bA (by kernel_rfl) (by kernel_rfl) ?_
      repeat (quiet_step (with_reducible exact aZ (PH.out _)))
      refine avt ?_;intro _ cf;obtain⟨xq,rfl⟩:=cf;have yS:=hd0 (nS.out.keep' (ay mV xq));have g0:=q0 xq;clear PH q0 q1 q2 q3 q4 q5 q6 dW;go_wp2_with fail;exact⟨⟨k+1,by omega,by omega,by go_num,NXT.out _ _ yS.out⟩,by simp[intOf];omega⟩
     ·have bi1:(bT u2.b.list target==h.id)=false:=by simpa using hid
      have bi2:(bT u2.b.list target != h.id)=true:=by simpa using hid
      have q0:∀ W a',qk w w6 (fun b=>b=wb\/b=hb) p u2 a' q h l lv W->W.cell? ⟨hb,0,none⟩=some (.int .i64 h.id)/\W.cell? ⟨hb,5,none⟩=some (.int .i64 h.count):=fun W a' s=>⟨s.cell (.inr rfl) (aa FM.out 0),s.cell (.inr rfl) (aa FM.out 5)⟩
      have Q0:=hd0 q0;have N9:=PS.out.count;clear q0;by_cases tY:0<l.length
      ·have hfi:((aK u2.b.list h.name).getD dY).id≠h.id:=by
        rw[PS.out.name.1,<-fZ HN.out.2.1.good.list.names];exact hid
       have PG:=hd0 (Nv Cv.out.at_ HL8.out Cv.out.plan hfi tY (by have:=PS.out.few;omega));have uS:0<h.count:=by omega
       clear hid hfi N9;generalize bT u2.b.list []=i0 at*;generalize bT u2.b.list target=i1 at*;go_wp2_with fail;refine PG.out.mono ?_;rintro e mV ⟨rfl,Su⟩;have nS:=hd0 (Cv.out.keep' Su);clear Su PG Cv;have q0:∀ X,(mV.ext X).cell? ⟨hb,0,none⟩=some (.int .i64 h.id):=fun X=>(Q0.out _ _ (nS.out.keep' (ay mV X))).1
       go_upto_region 17 with fail
       refine bA (by kernel_rfl) (by kernel_rfl) ?_
       repeat (go_big_quiet_step (fail))
       refine avt ?_;intro _ cf;obtain⟨xq,rfl⟩:=cf;have yS:=hd0 (nS.out.keep' (ay mV xq));obtain⟨g0,g5⟩:=Q0.out _ _ yS.out;clear q0;go_wp2_with fail;exact⟨⟨k+1,by omega,by omega,by go_num,NXT.out _ _ yS.out⟩,by simp[intOf];omega⟩
      ·have ZC:l=[]:=au8.1 (by omega);have hz:h.count=0:=by omega
       have PU:=hd0 (sD Cv.out.at_ HL8.out Cv.out.plan (fun e=>absurd ZC e) (by have:=PS.out.few;omega) (by rw[HN.out.2.2];exact Fh.out.2) (uM v) (fun n hn=>by rw[ZC]at hn;cases hn));clear hid N9 ZC;generalize bT u2.b.list []=i0 at*;generalize bT u2.b.list target=i1 at*;go_wp2_with fail;refine PU.out.mono ?_;rintro e mV ⟨rfl,a5,gW,AA,jJ⟩;have nS:=hd0 (Cv.out.to Fh.out.1 gW);clear gW AA jJ PU Cv;have q0:∀ X,(mV.ext X).cell? ⟨hb,0,none⟩=some (.int .i64 h.id):=fun X=>(Q0.out _ _ (nS.out.keep' (ay mV X))).1
       go_upto_region 17 with fail
       refine bA (by kernel_rfl) (by kernel_rfl) ?_
       repeat (go_big_quiet_step (fail))
       refine avt ?_;intro _ cf;obtain⟨xq,rfl⟩:=cf;have yS:=hd0 (nS.out.keep' (ay mV xq));obtain⟨g0,g5⟩:=Q0.out _ _ yS.out;clear q0;rw[hz]at g5;go_wp2_with fail;exact⟨⟨k+1,by omega,by omega,by go_num,NXT.out _ _ yS.out⟩,by simp[intOf];omega⟩
    ·have ajg:¬(k:Int)<40:=by omega
     have FX:=hd0 (FXW.out wr HS.out.keep);go_wp2_with fail;refine FX.out.mono ?_;rintro e w8 ⟨rfl,k8⟩;have ql:=hd0 (HS.out.keep.keep k8);clear k8 FX;go_wp2;go_ret;exact⟨rfl,ql.out⟩
   ·have dN:¬(k:Int)<(bs.length:Int):=by omega
    have FX:=hd0 (FXW.out wr HS.out.keep);go_wp2_with fail;refine FX.out.mono ?_;rintro e w8 ⟨rfl,k8⟩;have ql:=hd0 (HS.out.keep.keep k8);clear k8 FX;go_wp2;go_ret;exact⟨rfl,ql.out⟩
end
end Go.Proofs.YtkghpdcloaiflaaGreatDoor
section
namespace Go.Proofs.YtkghpdcloaiflaaGreatDoor.lawStays
open _root_.Go.Proofs.Tryz
open Go.ChangeShapes Go.WideShapes Go.ChangeAt Go.RowKit
open Go.ChangeMaps (open_string shut_string)
theorem own:ownKnob prog.godebug=none:=by kernel_rfl
theorem Vu:laidOutB prog=true:=by kernel_rfl
theorem acz (os:Os){H:Type}(enc:TypeId×Value->H):∃ places,DataW.whole enc prog ((BF os).forCall (fun _ _=>0) ⟨#[],#[.agg #[.int .i64 0,.slice none 0 0,.slice none 0 0,.string .empty,.string .empty]],[]⟩).memory Tryz.f5.params.toList Rows.differStaysSpec.vars false (#[.agg #[.int .i64 0,.slice none 0 0,.slice none 0 0,.string .empty,.string .empty]]:Array Value).toList 8=some ([.agg [.lit (.int .i64 0),.nil,.nil,.lit (.string []),.lit (.string [])]],[],places):=
 ⟨[],by kernel_rfl⟩
theorem lifted (os:Os)(started:os.Started)(H:Type)(enc:TypeId×Value->H)(F:Stop.Interp):
  ReturnsInHanded {} Tryz.checked os 5 .any ((Rows.OpenSpec.upto Rows.differStaysSpec).preRow enc prog Tryz.f5 Rows.differStaysUptoRow.domain false Rows.differStaysUptoRow.laid) (((Rows.OpenSpec.upto Rows.differStaysSpec).at F).post enc prog Tryz.f5 false true false false):=by
 obtain⟨places,hx⟩:=acz os enc;refine returnsInHanded_of_row (C:=Tryz.checked) (s:=Rows.OpenSpec.upto Rows.differStaysSpec) own started (by kernel_rfl) func5
  (witness_row_atRef (enc:=enc) (C:=Tryz.checked) false (BF os) #[.agg #[.int .i64 0,.slice none 0 0,.slice none 0 0,.string .empty,.string .empty]] (No _) (by kernel_rfl) (by kernel_rfl) (by kernel_rfl)
   (OpenSpec.preRow_of_cond 8 hx (by kernel_rfl) (fun k hk=>by cases hk;kernel_rfl) (by kernel_rfl) (Ru os _))) ?_
 intro W base args ds gs before XP hW _ afe zl hL aam _;have ajc:tr W:=YE aam (C0 hL (by kernel_rfl)) (C3 hL (by kernel_rfl)) (C4 hL (by kernel_rfl));have cK:(DataW.weightsEach prog (Tryz.f5.params.toList++Rows.differStaysSpec.plain.varTypes prog) (ds++gs)).all (·<=reachBytes)=true:=zl;have So:∀(j:Nat) t v,Tryz.f5.params[j]?=some t->args[j]?=some v->Value.okWide prog W .any base t v:=XP;clear zl XP;have hW':=hW;obtain⟨p,q,hA0,hV,rfl,_,_⟩:=hW;have hA:DataW.TrodAll enc prog W 0 (fun _=>true) true Tryz.f5.params.toList args.toList ds p:=hA0;clear hA0;rw[params5]at hA So cK;obtain⟨v0,vs0,d0,ds0,p0,q0,alr,rfl,rfl,h0,r0⟩:=trodAll_cons hA;obtain⟨rfl,rfl,rfl⟩:=trodAll_nil r0;obtain rfl:args=#[v0]:=by cases args;simp_all
 obtain⟨rfl,rfl⟩:=trodVars_none hV;have KQ:=afe _ rfl;obtain⟨n0,av0,bv0,NP,bs0,wb0,wt0,rfl,Jg,XE,hq0,tY,R9,SR,hu0,iM,ht0⟩:=Rz (So 0 31 v0 rfl rfl) h0 KQ (j:=0) rfl;refine(Nx W ajc n0 Jg av0 bv0 NP XE SR tY bs0 hq0 hu0 R9 wb0 wt0 (aux iM (by decide)) (aux ht0 (by decide))).mono fun e W' ⟨he,hk⟩=>?_;subst he;exact⟨_,rfl,Nl Vu (by kernel_rfl) rfl rfl underlying4 rfl hW' hk⟩
end Go.Proofs.YtkghpdcloaiflaaGreatDoor.lawStays
end
