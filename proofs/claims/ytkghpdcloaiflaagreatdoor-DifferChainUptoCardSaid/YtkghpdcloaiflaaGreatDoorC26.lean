import Derived.Test.YtkghpdcloaiflaaGreatDoorC25
import Derived.Carry
set_option maxHeartbeats 8000000
set_option maxRecDepth 100000
namespace Go.Proofs.YtkghpdcloaiflaaGreatDoor
open _root_.Go.Proofs.Tryz
section
section
open Go.RowKit
section
variable {w:World}{p tb:Nat}{T:Tr}{A M:Int->Nat}{role:Nat->cU}{d:Int->Nat}
theorem gy (h:WF T d){k:Int}{n:Nd}(hg:T.get k=some n):n.num=k/\-9223372036854775808<=k/\k<=9223372036854775807:=by
 obtain⟨hm,hk⟩:=(ax h.sorted).1 hg;have:=h.nums n hm;omega
theorem Yn {j:Int}(h:∀ n∈T,n.names.length<=60):jS T j<=T.length*60:=by
 unfold jS
 induction T with
 |nil=>simp
 |cons y r ih=>
  have h1:=ih fun n hn=>h n (by simp[hn]);have h2:=h y (by simp);have h3:gq y.names j<=y.names.length:=List.countP_le_length;simp only[atF,atG,atH];omega
theorem tX (h:WF T d){k:Int}{n:Nd}(hg:T.get k=some n):1<=n.links/\n.links<=3600:=by
 obtain⟨hm,hk⟩:=(ax h.sorted).1 hg;by_cases h1:n.num=1
 ·obtain⟨r,hr,e,_,hl⟩:=h.root;have:=lL h.sorted hm hr (by omega);rw[this,hl];omega
 ·have hc:=h.count n hm h1;have h2:=Yn (T:=T) (j:=n.num) fun m hm=>(h.names m hm).1;have:=h.many;omega
theorem LQ (h:aI w p T tb A M role)(hw:WF T d)(he:tL w)(c:bT)(hc:c.Small):
  Calls prog 194 #[.pointer (some ⟨p,0,none⟩),gJ c] w fun e w'=>e=.returned (.int .i64 (iU T c).2)/\bH w w' p tb role (iU T c).1:=by
 have HC:=hd0 hc;have dA:af w (w.alloc (.cells (bM c) 55)):=(ah.refl _ w).alloc _;have HT:=hd0 (h.keep dA);have HW:=hd0 hw;have He:=hd0 (he.keep dA);have lC:=hd0 h;have sx:Hid (World.blk (w.alloc (.cells (bM c) 55)) w.heap.size (bM c) 55):=hd0 (aw _ _ _);clear h hw he hc dA;go_enter func194,ntmps194;unfold gJ bM;go_wp2_with fail;unfold bM at HT He sx;have dN:Hid (af w (w.alloc (.cells #[.int .i64 c.kind,.string ⟨c.path.toArray⟩,.string ⟨c.dest.toArray⟩,.int .i64 c.pos,.string ⟨c.data.toArray⟩] 55))):=hd0 ((ah.refl _ w).alloc _);generalize w.alloc (.cells #[.int .i64 c.kind,.string ⟨c.path.toArray⟩,.string ⟨c.dest.toArray⟩,.int .i64 c.pos,.string ⟨c.data.toArray⟩] 55)=w0 at*;refine(A1 HT.out HW.out He.out c.path HC.out.path).mono ?_;rintro e w1 ⟨rfl,hk⟩;have mh:=hd0 (ab hk sx.out id);have iD:=hd0 (HT.out.keep hk);have Fi:=hd0 (He.out.keep hk);have bU:=hd0 (dN.out.keep hk);clear hk sx HT He dN
 cases ha:zk T c.path with
 |error e=>
  have dZ:(e==0)=false:=by have:=vS ha;rw[auv];omega
  have Hv:Hid (iU T c=(T,e)):=hd0 (by rw[iU,ha]);clear ha;unfold kX;go_wp2;go_ret;exact⟨by rw[Hv.out];rfl,by rw[Hv.out];exact bH.same lC.out bU.out⟩
 |ok j=>
  obtain⟨l,n,_,_,hg⟩:=zm HW.out ha;have c1:w1.cell? ⟨A j,1,none⟩=some (.bool n.dir):=iD.out.cell HW.out.sorted hg 1;unfold kX
  cases hd:n.dir with
  |true=>
   rw[hd]at c1;have Hv:Hid (iU T c=(T,143)):=hd0 (by rw[iU,ha];simp[hg,hd]);clear ha hg hd;go_wp2;go_ret;exact⟨by rw[Hv.out];rfl,by rw[Hv.out];exact bH.same lC.out bU.out⟩
  |false=>
   rw[hd]at c1;have Hv:Hid (iU T c=match gp T c.dest with
     | .error e=>(T,e)
     | .ok (k,s)=>((T.named k (l5 s j)).upd j fun n=>{ n with links:=n.links+1 },0)):=hd0 (by rw[iU,ha];simp only[hg,hd];rfl)
   have Hg:=hd0 hg;have Hd:=hd0 hd;have z2:w1.cell? ⟨w.heap.size,2,none⟩=some (.string ⟨c.dest.toArray⟩):=aa mh.out 2;clear ha hg hd;go_wp2_with fail;refine(wW iD.out HW.out Fi.out c.dest HC.out.dest).mono ?_;rintro e w2 ⟨rfl,hk⟩;have mQ:=hd0 (iD.out.keep hk);have bu:=hd0 (bU.out.keep hk);clear hk c1 z2
   cases hr:gp T c.dest with
   |error e=>
    have dZ:(e==0)=false:=by have:=rC hr;rw[auv];omega
    rw[hr]at Hv;clear hr;unfold wV;go_wp2;go_ret;exact⟨by rw[Hv.out];rfl,by rw[Hv.out];exact bH.same lC.out bu.out⟩
   |ok x=>
    obtain⟨k,s⟩:=x;obtain⟨q,up,hp,pk,cC,hf,JT,yR,hn,sC,VV⟩:=pC HW.out hr;rw[hr]at Hv;simp only at Hv;have d4:w2.cell? ⟨A k,4,none⟩=some (.map (if up.dir=true then some (M k)else none)):=mQ.out.cell HW.out.sorted JT 4;rw[atP yR]at d4;have d0:w2.cell? ⟨A j,0,none⟩=some (.int .i64 n.num):=mQ.out.cell HW.out.sorted Hg.out 0;obtain⟨dy,Bk⟩:=gy HW.out Hg.out;rw[dy]at d0;have jL:=hd0 (And.intro JT (And.intro yR (And.intro hn sC)));have uw:s.length<=16:=by
     simp only[aH,at2,aua]at cC;exact cC.1.1.2
    have qU:=hd0 dy;clear hr hp pk cC hf JT yR hn sC VV dy;unfold wV;go_wp2_with fail;refine dz 9 (by kernel_rfl) (by kernel_rfl) ?_;simp only[auz,auA,auB,auC]
    repeat (quiet_step (fail))
    refine auE ?_;intro _ cJ;obtain⟨nq,rfl⟩:=cJ;have ZX:=(mQ.out.keep ((ah.refl (fun _=>False) w2).drewN nq))
    have cm:=ZX.names up ((ax HW.out.sorted).1 jL.out.1).1 jL.out.2.1;rw[((ax HW.out.sorted).1 jL.out.1).2]at cm;obtain⟨w3,bh,ln,iB⟩:=eZ.store cm underlying244 underlying9 underlying3 s (by omega) j Bk (by have:=jL.out.2.2.2;omega);refine iw bh rfl rfl rfl rfl rfl ?_;have EJ:=gK (f:=l5 s j) ZX HW.out.sorted jL.out.1 jL.out.2.1 iB ln;have yc:j≠k:=fun e=>by
     have h1:=Hg.out;rw[e,jL.out.1]at h1;have h2:=auR h1;have h3:=jL.out.2.1;rw[h2,Hd.out]at h3;cases h3
    have rh:dd (T.named k (l5 s j)):=iV (fun _=>rfl) HW.out.sorted;have JW:(T.named k (l5 s j)).get j=some n:=by rw[eM,atR yc];exact Hg.out
    have EL:=EJ.node n ((ax rh).1 JW).1;rw[qU.out]at EL;have nW:=hd0 EL;have Ah:=hd0 EJ;have IK:=hd0 rh;have HG3:=hd0 JW;have nL:Hid (ah (fun b=>role b≠.none) w w3):=hd0 (((bu.out.drewN nq).mono (fun _ _ h=>h.elim)).trans iB (fun i hi e=>by
     have hr:=lC.out.rnames up ((ax HW.out.sorted).1 jL.out.1).1 jL.out.2.1;rw[((ax HW.out.sorted).1 jL.out.1).2]at hr;rw[e,hr];exact cU.noConfusion))
    have e2:w3.cell? ⟨A j,2,none⟩=some (.int .i64 n.links):=aa EL 2;have e3:w3.frozen? ⟨A j,2,none⟩=false:=ae EL _ rfl;have Al:=tX HW.out Hg.out;clear ZX cm bh ln iB EJ yc rh JW EL d4 d0;go_wp2;go_ret;refine⟨by rw[Hv.out];rfl,?_⟩;rw[Hv.out];have eY:ah (·=A j) w3 (w3.setCell ⟨A j,2,none⟩ (.int .i64 (n.links+1))):=(ah.refl (fun x=>x=A j) w3).setCell (p:=⟨A j,2,none⟩) (.inl rfl) _;refine⟨A,M,role,mC (f:=fun n=>{ n with links:=n.links+1 }) Ah.out IK.out (fun _=>⟨rfl,rfl,rfl⟩) HG3.out eY (ag nW.out 2 _),fun _ hb=>.inl hb,nL.out.trans eY (fun i hi e=>?_)⟩;have hr:=lC.out.rnode n ((ax HW.out.sorted).1 Hg.out).1;rw[qU.out]at hr;rw[e,hr];exact cU.noConfusion
end
end
section
open Go.RowKit
section
variable {w:World}{p tb:Nat}{T:Tr}{A M:Int->Nat}{role:Nat->cU}{d:Int->Nat}
theorem xa (h:aI w p T tb A M role)(hw:WF T d)(he:tL w)(c:bT)(hc:c.Small)(Iv:0<=c.pos/\c.pos<=16384)(EV:c.data.length<=512)(hcut:c.kind≠2->c.data=[]):
  Calls prog 193 #[.pointer (some ⟨p,0,none⟩),gJ c] w fun e w'=>e=.returned (.int .i64 (dL T c).2)/\bH w w' p tb role (dL T c).1:=by
 have HC:=hd0 hc;have dA:af w (w.alloc (.cells (bM c) 55)):=(ah.refl _ w).alloc _;have HT:=hd0 (h.keep dA);have HW:=hd0 hw;have He:=hd0 (he.keep dA);have lC:=hd0 h;have sx:Hid (World.blk (w.alloc (.cells (bM c) 55)) w.heap.size (bM c) 55):=hd0 (aw _ _ _);have yG:=hd0 Iv;have Hdl:=hd0 EV;have arQ:=hd0 hcut;clear h hw he hc dA Iv EV hcut;go_enter func193,ntmps193;unfold gJ bM;go_wp2_with fail;unfold bM at HT He sx;have dN:Hid (af w (w.alloc (.cells #[.int .i64 c.kind,.string ⟨c.path.toArray⟩,.string ⟨c.dest.toArray⟩,.int .i64 c.pos,.string ⟨c.data.toArray⟩] 55))):=hd0 ((ah.refl _ w).alloc _);generalize w.alloc (.cells #[.int .i64 c.kind,.string ⟨c.path.toArray⟩,.string ⟨c.dest.toArray⟩,.int .i64 c.pos,.string ⟨c.data.toArray⟩] 55)=w0 at*;refine(A1 HT.out HW.out He.out c.path HC.out.path).mono ?_;rintro e w1 ⟨rfl,hk⟩;have mh:=hd0 (ab hk sx.out id);have iD:=hd0 (HT.out.keep hk);have Fi:=hd0 (He.out.keep hk);have bU:=hd0 (dN.out.keep hk);clear hk sx HT He dN
 cases ha:zk T c.path with
 |error e=>
  have dZ:(e==0)=false:=by have:=vS ha;rw[auv];omega
  have Hv:Hid (dL T c=(T,e)):=hd0 (by rw[dL,ha]);clear ha;unfold kX;go_wp2;go_ret;exact⟨by rw[Hv.out];rfl,by rw[Hv.out];exact bH.same lC.out bU.out⟩
 |ok j=>
  obtain⟨_,n,_,_,hg⟩:=zm HW.out ha;have c1:w1.cell? ⟨A j,1,none⟩=some (.bool n.dir):=iD.out.cell HW.out.sorted hg 1;have c3:w1.cell? ⟨A j,3,none⟩=some (.string ⟨n.data.toArray⟩):=iD.out.cell HW.out.sorted hg 3;unfold kX
  cases hd:n.dir with
  |true=>
   rw[hd]at c1;have Hv:Hid (dL T c=(T,143)):=hd0 (by rw[dL,ha];simp[hg,hd]);clear ha hg hd;go_wp2;go_ret;exact⟨by rw[Hv.out];rfl,by rw[Hv.out];exact bH.same lC.out bU.out⟩
  |false=>
   rw[hd]at c1;have Hv:Hid (dL T c=if(n.data.length:Int)<c.pos\/c.kind=2/\16384<c.pos+c.data.length then(T,145)else(T.upd j fun n=>{ n with data:=oc c n.data },0)):=hd0 (by rw[dL,ha];simp[hg,hd]);have xX:=(HW.out.file n ((ax HW.out.sorted).1 hg).1 hd).2;have Hnl:=hd0 xX;have Hg:=hd0 hg;have z0:w1.cell? ⟨w.heap.size,0,none⟩=some (.int .i64 c.kind):=aa mh.out 0;have z3:w1.cell? ⟨w.heap.size,3,none⟩=some (.int .i64 c.pos):=aa mh.out 3;have z4:w1.cell? ⟨w.heap.size,4,none⟩=some (.string ⟨c.data.toArray⟩):=aa mh.out 4;obtain⟨pos,xY⟩:∃ pos:Nat,c.pos=pos:=⟨c.pos.toNat,by have:=yG.out;omega⟩
   have HP:=hd0 xY;rw[xY]at z3;have mL:pos<=16384:=by have:=yG.out;omega
   have Hpb:=hd0 mL;obtain⟨kd,hkd⟩:∃ kd,c.kind=kd:=⟨_,rfl⟩
   rw[hkd]at z0;have Zk:=hd0 hkd;obtain⟨D,hD⟩:∃ D,c.data=D:=⟨_,rfl⟩
   rw[hD]at z4;have HD:=hd0 hD;have hDl:D.length<=512:=by rw[<-hD];exact Hdl.out
   have HDl:=hd0 hDl;clear ha hg hd xX xY hkd hD mL hDl;by_cases hb1:(n.data.length:Int)<pos
   ·have tt:Hid (dL T c=(T,145)):=hd0 (by rw[Hv.out,HP.out,atP (.inl hb1)]);go_wp2_with fail;refine gw (by kernel_rfl) (by kernel_rfl) ?_
    repeat (go_big_quiet_step (fail))
    refine auE ?_;intro _ cJ;obtain⟨nq,rfl⟩:=cJ;go_wp2;go_ret;exact⟨by rw[tt.out];rfl,by rw[tt.out];exact bH.same lC.out (bU.out.drewN nq)⟩
   ·have I2:pos<=n.data.length:=by omega
    have IM:decide (n.data.length<pos)=false:=by rw[decide_eq_false_iff_not];omega
    have Nf:IntKind.i64.wrap ((pos:Int)+(D.length:Int))=(pos:Int)+(D.length:Int):=by rw[IntKind.wrap_i64];have:=Hpb.out;have:=HDl.out;omega
    by_cases dc:kd=2
    ·have J0:(kd==2)=true:=auq.2 dc;by_cases eS:(16384:Int)<(pos:Int)+(D.length:Int)
     ·have tt:Hid (dL T c=(T,145)):=hd0 (by rw[Hv.out,HP.out,Zk.out,HD.out,atP (.inr ⟨dc,eS⟩)]);have J6:decide ((16384:Int)<(pos:Int)+(D.length:Int))=true:=by rw[decide_eq_true_iff];exact eS
      clear dc I2 hb1 eS;go_wp2_with fail;refine gw (by kernel_rfl) (by kernel_rfl) ?_
      repeat (go_big_quiet_step (fail))
      refine auE ?_;intro _ cJ;obtain⟨nq,rfl⟩:=cJ;go_wp2;go_ret;exact⟨by rw[tt.out];rfl,by rw[tt.out];exact bH.same lC.out (bU.out.drewN nq)⟩
     ·have tt:Hid (dL T c=(T.upd j fun n=>{ n with data:=oc c n.data },0)):=hd0 (by rw[Hv.out,HP.out,Zk.out,HD.out,atR (by rintro(h|⟨_,h⟩);exact hb1 h;exact eS h)]);have Hle:=hd0 I2;have mK:(pos:Int)<=n.data.length:=by omega
      have nD:(0:Int)<=pos:=by omega
      have uu:¬ 9223372036854775807<min pos n.data.length+D.length:=by have:=Hpb.out;have:=HDl.out;omega
      have J6:decide ((16384:Int)<(pos:Int)+(D.length:Int))=false:=by rw[decide_eq_false_iff_not];exact eS
      clear I2 hb1 eS dc;go_wp2_with fail;refine gw (by kernel_rfl) (by kernel_rfl) ?_
      repeat (go_big_quiet_step (fail))
      refine auE ?_;intro _ cJ;obtain⟨nq,rfl⟩:=cJ;go_wp2_with fail;refine mV (by kernel_rfl) (by kernel_rfl) ?_
      repeat (go_big_quiet_step (fail))
      refine auE ?_;intro _ cJ;obtain⟨nr,rfl⟩:=cJ;have uw:(n.data.take pos++D).length<=16896:=by have:=Hpb.out;have:=HDl.out;rw[at0,atO];omega
      obtain⟨s,hs⟩:∃ s,n.data.take pos++D=s:=⟨_,rfl⟩
      rw[hs]at uw;rw[hs];have Hs:=hd0 hs;have Hsl:=hd0 uw;have hf3:w1.frozen? ⟨A j,3,none⟩=false:=by
       have hB:=iD.out.node n ((ax HW.out.sorted).1 Hg.out).1;rw[(gy HW.out Hg.out).1]at hB;exact ae hB _ rfl
      clear hs uw IM Nf mK nD uu J6 c1 z3 z4;by_cases aM:s.length<n.data.length
      ·have hX:Hid (s++n.data.drop s.length=oc c n.data):=hd0 (by
        unfold oc;rw[HP.out,auo,HD.out,Hs.out];simp only;rw[atP ⟨Zk.out.trans (by simpa using J0),aM⟩])
       have uV:(s.length:Int)<n.data.length:=by omega
       have lj:(s.length:Int)<=n.data.length:=by omega
       have uz:(0:Int)<=s.length:=by omega
       have uu:¬ 9223372036854775807<s.length+(n.data.length-s.length):=by have:=Hnl.out;omega
       have J4:s.length<=n.data.length:=by omega
       go_wp2;go_ret;refine⟨by rw[tt.out];rfl,?_⟩;rw[tt.out];have dy:=(gy HW.out Hg.out).1;have hB:=(iD.out.keep ((ah.refl (fun _=>False) w1).drewN nr)).node n ((ax HW.out.sorted).1 Hg.out).1;rw[dy]at hB;have IZ:=lC.out.rnode n ((ax HW.out.sorted).1 Hg.out).1;rw[dy]at IZ;have eY:ah (·=A j) (w1.drewN nr) ((w1.drewN nr).setCell ⟨A j,3,none⟩ (.string ⟨(oc c n.data).toArray⟩)):=(ah.refl (fun x=>x=A j) _).setCell (p:=⟨A j,3,none⟩) (.inl rfl) _;have hX:=hX.out;rw[hX];exact⟨A,M,role,mC (f:=fun n=>{ n with data:=oc c n.data }) (iD.out.keep ((ah.refl (fun _=>False) w1).drewN nr)) HW.out.sorted (fun _=>⟨rfl,rfl,rfl⟩) Hg.out eY (ag hB 3 _),fun _ hb=>.inl hb,((bU.out.drewN nr).mono (fun _ _ h=>h.elim)).trans eY (fun i hi e=>by rw[e,IZ];exact cU.noConfusion)⟩
      ·have hX:Hid (s=oc c n.data):=hd0 (by
        unfold oc;rw[HP.out,auo,HD.out,Hs.out];simp only;rw[atR (fun h=>aM h.2)])
       have uV:¬(s.length:Int)<n.data.length:=by omega
       clear aM;go_wp2;go_ret;refine⟨by rw[tt.out];rfl,?_⟩;rw[tt.out];have dy:=(gy HW.out Hg.out).1;have hB:=(iD.out.keep ((ah.refl (fun _=>False) w1).drewN nr)).node n ((ax HW.out.sorted).1 Hg.out).1;rw[dy]at hB;have IZ:=lC.out.rnode n ((ax HW.out.sorted).1 Hg.out).1;rw[dy]at IZ;have eY:ah (·=A j) (w1.drewN nr) ((w1.drewN nr).setCell ⟨A j,3,none⟩ (.string ⟨(oc c n.data).toArray⟩)):=(ah.refl (fun x=>x=A j) _).setCell (p:=⟨A j,3,none⟩) (.inl rfl) _;have hX:=hX.out;rw[hX];exact⟨A,M,role,mC (f:=fun n=>{ n with data:=oc c n.data }) (iD.out.keep ((ah.refl (fun _=>False) w1).drewN nr)) HW.out.sorted (fun _=>⟨rfl,rfl,rfl⟩) Hg.out eY (ag hB 3 _),fun _ hb=>.inl hb,((bU.out.drewN nr).mono (fun _ _ h=>h.elim)).trans eY (fun i hi e=>by rw[e,IZ];exact cU.noConfusion)⟩
    ·have J0:(kd==2)=false:=au2 dc;have tt:Hid (dL T c=(T.upd j fun n=>{ n with data:=oc c n.data },0)):=hd0 (by rw[Hv.out,HP.out,Zk.out,HD.out,atR (by rintro(h|⟨h,_⟩);exact hb1 h;exact dc h)]);have Hle:=hd0 I2;have mK:(pos:Int)<=n.data.length:=by omega
     have nD:(0:Int)<=pos:=by omega
     have uu:¬ 9223372036854775807<min pos n.data.length+D.length:=by have:=Hpb.out;have:=HDl.out;omega
     have U4:=hd0 dc;clear I2 hb1 dc;go_wp2_with fail;refine gw (by kernel_rfl) (by kernel_rfl) ?_
     repeat (go_big_quiet_step (fail))
     refine auE ?_;intro _ cJ;obtain⟨nq,rfl⟩:=cJ;go_wp2_with fail;refine mV (by kernel_rfl) (by kernel_rfl) ?_
     repeat (go_big_quiet_step (fail))
     refine auE ?_;intro _ cJ;obtain⟨nr,rfl⟩:=cJ;have hX:Hid (n.data.take pos++D=oc c n.data):=hd0 (by
      unfold oc;rw[HP.out,auo,HD.out];simp only;rw[atR (fun h=>U4.out (Zk.out.symm.trans h.1))])
     have hf3:w1.frozen? ⟨A j,3,none⟩=false:=by
      have hB:=iD.out.node n ((ax HW.out.sorted).1 Hg.out).1;rw[(gy HW.out Hg.out).1]at hB;exact ae hB _ rfl
     rw[hX.out];clear IM Nf mK nD uu c1 z3 z4;go_wp2;go_ret;refine⟨by rw[tt.out];rfl,?_⟩;rw[tt.out];have dy:=(gy HW.out Hg.out).1;have hB:=(iD.out.keep ((ah.refl (fun _=>False) w1).drewN nr)).node n ((ax HW.out.sorted).1 Hg.out).1;rw[dy]at hB;have IZ:=lC.out.rnode n ((ax HW.out.sorted).1 Hg.out).1;rw[dy]at IZ;have eY:ah (·=A j) (w1.drewN nr) ((w1.drewN nr).setCell ⟨A j,3,none⟩ (.string ⟨(oc c n.data).toArray⟩)):=(ah.refl (fun x=>x=A j) _).setCell (p:=⟨A j,3,none⟩) (.inl rfl) _;exact⟨A,M,role,mC (f:=fun n=>{ n with data:=oc c n.data }) (iD.out.keep ((ah.refl (fun _=>False) w1).drewN nr)) HW.out.sorted (fun _=>⟨rfl,rfl,rfl⟩) Hg.out eY (ag hB 3 _),fun _ hb=>.inl hb,((bU.out.drewN nr).mono (fun _ _ h=>h.elim)).trans eY (fun i hi e=>by rw[e,IZ];exact cU.noConfusion)⟩
end
end
section
open Go.RowKit
section
variable {w:World}{p tb:Nat}{T:Tr}{A M:Int->Nat}{role:Nat->cU}{d:Int->Nat}
theorem GR (h:WF T d){f:Nat}{k:Int}(e:dW T T.length 2=dW T f k):f=0->T.get k=none:=by
 intro h0;subst h0;have:=h.fresh.1;rw[e]at this;exact this
theorem zP (h:aI w p T tb A M role)(hw:WF T d)(he:tL w)(c:bT)(hc:c.Small)(hk:c.kind=0\/c.kind=1):
  Calls prog 192 #[.pointer (some ⟨p,0,none⟩),gJ c] w fun e w'=>e=.returned (.int .i64 (ga T c).2)/\bH w w' p tb role (ga T c).1:=by
 have HC:=hd0 hc;have dA:af w (w.alloc (.cells (bM c) 55)):=(ah.refl _ w).alloc _;have HT:=hd0 (h.keep dA);have HW:=hd0 hw;have He:=hd0 (he.keep dA);have lC:=hd0 h;have sx:Hid (World.blk (w.alloc (.cells (bM c) 55)) w.heap.size (bM c) 55):=hd0 (aw _ _ _);have Zk:=hd0 hk;clear h hw he hc dA hk;go_enter func192,ntmps192;unfold gJ bM;go_wp2_with fail;unfold bM at HT He sx;have dN:Hid (af w (w.alloc (.cells #[.int .i64 c.kind,.string ⟨c.path.toArray⟩,.string ⟨c.dest.toArray⟩,.int .i64 c.pos,.string ⟨c.data.toArray⟩] 55))):=hd0 ((ah.refl _ w).alloc _);generalize w.alloc (.cells #[.int .i64 c.kind,.string ⟨c.path.toArray⟩,.string ⟨c.dest.toArray⟩,.int .i64 c.pos,.string ⟨c.data.toArray⟩] 55)=w0 at*;refine(wW HT.out HW.out He.out c.path HC.out.path).mono ?_;rintro e w1 ⟨rfl,hk⟩;have mh:=hd0 (ab hk sx.out id);have iD:=hd0 (HT.out.keep hk);have bU:=hd0 (dN.out.keep hk);clear hk sx HT He dN
 cases hr:gp T c.path with
 |error e=>
  have dZ:(e==0)=false:=by have:=rC hr;rw[auv];omega
  have Hv:Hid (ga T c=(T,e)):=hd0 (by rw[ga,hr]);clear hr;unfold wV;go_wp2;go_ret;exact⟨by rw[Hv.out];rfl,by rw[Hv.out];exact bH.same lC.out bU.out⟩
 |ok x=>
  obtain⟨k,s⟩:=x;obtain⟨q,up,hp,pk,cC,hf,JT,yR,hn,sC,VV⟩:=pC HW.out hr;have uw:s.length<=16:=by
   simp only[aH,at2,aua]at cC;exact cC.1.1.2
  have jL:=hd0 (And.intro JT (And.intro yR (And.intro hn sC)));have c0:w1.cell? ⟨p,0,none⟩=some (.map (some tb)):=aa iD.out.tree 0;have aU:=fun ty=>dC.len (tm:=247) iD.out.of underlying247 ty;have hla:(cg T A).length=T.length:=by simp[cg]
  rw[hla]at aU;have Hr:=hd0 hr;clear hr hp pk cC hf JT yR hn sC VV hla;unfold wV;by_cases hb:60<=T.length
  ·have Hv:Hid (ga T c=(T,145)):=hd0 (by rw[ga,Hr.out];simp only[hb,if_true]);have eS:(60:Int)<=T.length:=by omega
   clear hb;go_wp2;go_ret;exact⟨by rw[Hv.out];rfl,by rw[Hv.out];exact bH.same lC.out bU.out⟩
  ·have Hv:Hid (ga T c=((Tr.add ⟨dW T T.length 2,c.kind==1,1,[],[]⟩ T).named k (l5 s (dW T T.length 2)),0)):=hd0 (by rw[ga,Hr.out];simp only[hb,if_false]);have eS:¬(60:Int)<=T.length:=by omega
   have Hb:=hd0 hb;clear hb;go_wp2_with fail
   go_loop [8] (fun i=>∃(f:Nat) (k:Int),f<=T.length/\i=.int .i64 k/\k=2+(T.length:Int)-f/\Hid (dW T T.length 2=dW T f k)) (fun i=>(2+(T.length:Int)-intOf i).toNat)
   case atStart=>exact⟨T.length,2,atL _,rfl,by omega,hd0 rfl⟩
   case round=>
    obtain⟨f,i,hf,rfl,hi,Hfr⟩:=hrel;have hib:0<=i/\i<=100:=by have:=Hb.out;omega
    have Hi:=hd0 hi;clear hi;have r1:=dC.look1 (tm:=247) iD.out.of underlying247 underlying3 (zM w1) i (by omega);rw[pK]at r1
    cases hg:T.get i with
    |some n=>
     rw[hg]at r1;simp only[auO]at r1;have hf1:1<=f:=by
      rcases Nat.eq_zero_or_pos f with h0|h0
      ·have:=GR HW.out Hfr.out h0;rw[hg]at this;cases this
      ·exact h0
     have ahM:Hid (dW T T.length 2=dW T (f-1) (i+1)):=hd0 (by
      rw[Hfr.out];obtain⟨g,rfl⟩:∃ g,f=g+1:=⟨f-1,by omega⟩
      show(if(T.get i).isSome=true then dW T g (i+1)else i)=_;rw[hg];rfl)
     clear hg;go_wp2_with fail
     go_round
     case rel=>exact⟨f-1,i+1,by omega,rfl,by have:=Hi.out;omega,ahM⟩
     case measure=>have:=Hi.out;simp[intOf];omega
    |none=>
     rw[hg]at r1;simp only[Option.map_none]at r1;have qU:Hid (dW T T.length 2=i):=hd0 (by
      rw[Hfr.out]
      cases f with
      |zero=>rfl
      |succ g=>
       show(if(T.get i).isSome=true then dW T g (i+1)else i)=_;rw[hg];rfl)
     have XS:=hd0 hg;have z0:w1.cell? ⟨w.heap.size,0,none⟩=some (.int .i64 c.kind):=aa mh.out 0;have ajK:w.heap.size<w1.heap.size:=ai mh.out;have ap5:p<w1.heap.size:=ai iD.out.tree;have It:=@run_makeMap prog;clear hg hf Hi Hfr aU;rcases Zk.out with dA|hk1
     ·have tt:Hid (ga T c=((Tr.add ⟨i,false,1,[],[]⟩ T).named k (l5 s i),0)):=hd0 (by
       rw[Hv.out,qU.out,dA];rfl)
      rw[dA]at z0;have BV:k≠i:=fun e=>by have:=jL.out.1;rw[e,XS.out]at this;cases this
      have Rt:=hd0 BV;have RH:True:=trivial;clear BV dA;go_wp2_with (first
       |(at_mapUpdate
         have _t:=RH;refine iy (iD.out.of.mod ((ah.refl (fun _=>False) w1).alloc _) id) underlying247 underlying3 i (by omega) w1.heap.size (by have:=Hb.out;simp[cg];omega) rfl rfl rfl rfl rfl ?_;intro w2 gO jO;have hnt:w1.heap.size≠tb:=fun e=>by have:=iD.out.of.lt;omega
         have jx:ah (·=tb) w1 w2:=((ah.refl (fun x=>x=tb) w1).alloc _).trans jO (fun _ _ h=>h);have nZ:World.blk w2 w1.heap.size (jG ⟨i,false,1,[],[]⟩ (w1.heap.size+1)) 246:=ab jO (aw _ _ _) hnt;have Oj:=rI (n0:=⟨i,false,1,[],[]⟩) (a:=w1.heap.size) (m:=w1.heap.size+1) iD.out (jq.1 XS.out) jx (atL _) (by omega) (by omega) (ai nZ) (fun h=>by cases h) gO nZ (fun h=>by cases h);have lh:dd (Tr.add ⟨i,false,1,[],[]⟩ T):=kH HW.out.sorted (jq.1 XS.out);have BX:(Tr.add ⟨i,false,1,[],[]⟩ T).get k=some up:=by rw[uJ HW.out.sorted (jq.1 XS.out),atR Rt.out];exact jL.out.1
         have e4:w2.cell? ⟨A k,4,none⟩=some (.map (some (M k))):=by
          have h:=Oj.cell lh BX 4;simp only[atR Rt.out]at h;rw[h];show some (Value.map (if up.dir=true then some (M k)else none))=_;rw[atP jL.out.2.1]
         have rY:=Oj.names up ((ax lh).1 BX).1 jL.out.2.1;have R4:up.num=k:=((ax lh).1 BX).2;rw[R4]at rY;simp only[atR Rt.out]at rY;have HMN:=hd0 rY;have mQ:=hd0 Oj;have Bw:=hd0 lh;have RI:=hd0 BX;have oh:Hid (ah (fun b=>role b≠.none) w w2):=hd0 ((bU.out.mono (fun _ _ h=>h.elim)).trans jx (fun j hj e=>by rw[e,lC.out.rof];exact cU.noConfusion));clear RH gO jO hnt jx nZ Oj lh BX rY R4)
       |(at_mapUpdate
         refine kZ HMN.out underlying244 underlying9 underlying3 s (by omega) i (by omega) (by have:=jL.out.2.2.2;omega) rfl rfl rfl rfl rfl ?_;intro w3 ln iB;have aac:=ln;have EJ:=gK (f:=l5 s i) mQ.out Bw.out RI.out jL.out.2.1 (by simp only[atR Rt.out];exact iB) (by simp only[atR Rt.out];exact ln);have Ah:=hd0 EJ;have nL:Hid (ah (fun b=>role b≠.none) w w3):=hd0 (oh.out.trans iB (fun j hj e=>by
          have hr:=lC.out.rnames up ((ax HW.out.sorted).1 jL.out.1).1 jL.out.2.1;rw[((ax HW.out.sorted).1 jL.out.1).2]at hr;rw[e,hr];exact cU.noConfusion))
         clear ln aac iB EJ e4))
      go_ret;refine⟨by rw[tt.out];rfl,?_⟩;rw[tt.out];refine⟨_,_,_,Ah.out,fun b hb=>?_,nL.out⟩;have cA:=bU.out.size;by_cases e1:b=w1.heap.size
      ·exact .inr (by omega)
      ·by_cases e2:b=w1.heap.size+1
       ·exact .inr (by omega)
       ·left
        rw[atR e1,atR (fun h=>e2 h.1)]at hb;exact hb
     ·have tt:Hid (ga T c=((Tr.add ⟨i,true,1,[],[]⟩ T).named k (l5 s i),0)):=hd0 (by
       rw[Hv.out,qU.out,hk1];rfl)
      rw[hk1]at z0;have BV:k≠i:=fun e=>by have:=jL.out.1;rw[e,XS.out]at this;cases this
      have Rt:=hd0 BV;have RH:True:=trivial;clear BV hk1;go_wp2_with (first
       |(at_mapUpdate
         have _t:=RH;refine iy (iD.out.of.mod (((ah.refl (fun _=>False) w1).alloc _).alloc _) id) underlying247 underlying3 i (by omega) w1.heap.size (by have:=Hb.out;simp[cg];omega) rfl rfl rfl rfl rfl ?_;intro w2 gO jO;have hnt:w1.heap.size≠tb:=fun e=>by have:=iD.out.of.lt;omega
         have jx:ah (·=tb) w1 w2:=(((ah.refl (fun x=>x=tb) w1).alloc _).alloc _).trans jO (fun _ _ h=>h);have nZ:World.blk w2 w1.heap.size (jG ⟨i,true,1,[],[]⟩ (w1.heap.size+1)) 246:=ab jO (aG (aw _ _ _) _) hnt;have Oj:=rI (n0:=⟨i,true,1,[],[]⟩) (a:=w1.heap.size) (m:=w1.heap.size+1) iD.out (jq.1 XS.out) jx (atL _) (by omega) (by omega) (ai nZ) (fun _=>by have:=jO.size;simp at this;omega) gO nZ (fun _=>(eZ.made' (by simp) ()).mod jO (fun e=>by have:=iD.out.of.lt;omega));have lh:dd (Tr.add ⟨i,true,1,[],[]⟩ T):=kH HW.out.sorted (jq.1 XS.out);have BX:(Tr.add ⟨i,true,1,[],[]⟩ T).get k=some up:=by rw[uJ HW.out.sorted (jq.1 XS.out),atR Rt.out];exact jL.out.1
         have e4:w2.cell? ⟨A k,4,none⟩=some (.map (some (M k))):=by
          have h:=Oj.cell lh BX 4;simp only[atR Rt.out]at h;rw[h];show some (Value.map (if up.dir=true then some (M k)else none))=_;rw[atP jL.out.2.1]
         have rY:=Oj.names up ((ax lh).1 BX).1 jL.out.2.1;have R4:up.num=k:=((ax lh).1 BX).2;rw[R4]at rY;simp only[atR Rt.out]at rY;have HMN:=hd0 rY;have mQ:=hd0 Oj;have Bw:=hd0 lh;have RI:=hd0 BX;have oh:Hid (ah (fun b=>role b≠.none) w w2):=hd0 ((bU.out.mono (fun _ _ h=>h.elim)).trans jx (fun j hj e=>by rw[e,lC.out.rof];exact cU.noConfusion));clear RH gO jO hnt jx nZ Oj lh BX rY R4)
       |(at_mapUpdate
         refine kZ HMN.out underlying244 underlying9 underlying3 s (by omega) i (by omega) (by have:=jL.out.2.2.2;omega) rfl rfl rfl rfl rfl ?_;intro w3 ln iB;have aac:=ln;have EJ:=gK (f:=l5 s i) mQ.out Bw.out RI.out jL.out.2.1 (by simp only[atR Rt.out];exact iB) (by simp only[atR Rt.out];exact ln);have Ah:=hd0 EJ;have nL:Hid (ah (fun b=>role b≠.none) w w3):=hd0 (oh.out.trans iB (fun j hj e=>by
          have hr:=lC.out.rnames up ((ax HW.out.sorted).1 jL.out.1).1 jL.out.2.1;rw[((ax HW.out.sorted).1 jL.out.1).2]at hr;rw[e,hr];exact cU.noConfusion))
         clear ln aac iB EJ e4))
      go_ret;refine⟨by rw[tt.out];rfl,?_⟩;rw[tt.out];refine⟨_,_,_,Ah.out,fun b hb=>?_,nL.out⟩;have cA:=bU.out.size;by_cases e1:b=w1.heap.size
      ·exact .inr (by omega)
      ·by_cases e2:b=w1.heap.size+1
       ·exact .inr (by omega)
       ·left
        rw[atR e1,atR (fun h=>e2 h.1)]at hb;exact hb
end
end
section
open Go.RowKit
section
variable {w:World}{p tb:Nat}{T:Tr}{A M:Int->Nat}{role:Nat->cU}{d:Int->Nat}
theorem xc (h:aI w p T tb A M role)(hw:WF T d)(he:tL w)(path:List UInt8)(hp:path.length<4294967281){q:List (List UInt8)}{s:List UInt8}{o:Int}(rV:bd path=some (q++[s]))(hf:aW T 1 q=.ok o):
  Calls prog 247 #[.pointer (some ⟨p,0,none⟩),.string ⟨path.toArray⟩] w fun e w'=>e=.returned (.tuple #[.pointer (some ⟨A o,0,none⟩),.string ⟨s.toArray⟩])/\af w w':=by
 have HT:=hd0 h;have HW:=hd0 hw;have He:=hd0 he;have Hp:=hd0 hp;have Hf:=hd0 hf;have Ft:=hd0 rV;clear h hw he hp hf rV;go_enter func247,ntmps247;go_wp2_with fail;refine(my path w He.out Hp.out).mono ?_;rintro e w1 ⟨v,rfl,ho,hk⟩;have hL:cT path=q++[s]:=by rw[cT,Ft.out];rfl
 rw[hL]at ho;have HR:=hd0 (oz ho);have iD:=hd0 (HT.out.keep hk);have HK:=hd0 hk;obtain⟨a,cap,hv⟩:=mB HR.out;rw[kB]at hv;have yP:(q++[s]).length<=cap:=by rw[hv]at ho;exact JF ho
 obtain⟨N,hN⟩:∃ N,q.length=N:=⟨_,rfl⟩
 have N7:v=.slice a (N+1) cap:=by rw[hv];simp[hN]
 subst N7;obtain⟨UY,b,o',rfl,c0⟩:=DB HR.out hN;have SV:=hd0 UY;have hcp:N+1<=cap:=by simp[hN]at yP;omega
 have Hl:=hd0 (ju Ft.out);have Hq:Hid (q.length=N):=hd0 hN;have hN8:N<=7:=by have:=Hl.out.1;simp at this;omega
 obtain⟨pe,sB⟩:∃ pe,eH path=pe:=⟨_,rfl⟩
 rw[sB];clear sB hL hv UY hN HR yP ho hk;go_wp2_with fail;refine(wT iD.out HW.out _ q SV.out (by have:=Hq.out;omega) (fun x hx=>by have:=Hl.out.2 x (by simp[hx]);omega)).mono ?_;rintro e w2 ⟨rfl,dc⟩;have c1:w2.cell? ⟨b,o'+N,none⟩=some (.string ⟨s.toArray⟩):=by rw[dc.cell (p:=⟨b,o'+N,none⟩) (am c0) id];exact c0
 have bu:=hd0 (HK.out.keep dc);clear dc c0;rw[Hf.out];unfold kX;go_wp2_with fail;have q1:IntKind.i64.wrap (N:Int)=(N:Int):=by rw[IntKind.wrap_i64];omega
 have q2:(0:Int)<=N:=by omega
 have q3:(N:Int)<(N:Int)+1:=by omega
 refine gw (by kernel_rfl) (by kernel_rfl) ?_
 repeat (quiet_step (fail))
 refine auE ?_;intro _ cJ;obtain⟨nq,rfl⟩:=cJ;go_wp2;go_ret2;exact⟨rfl,bu.out.drewN _⟩
theorem Qf {T:Tr}{j:Int}{f:Nd->Nd}(hf:∀ n,(f n).num=n.num):(T.upd j f).drop j=T.drop j:=by
 unfold Tr.upd Tr.drop
 induction T with
 |nil=>rfl
 |cons y r ih=>
  rw[atF,auY,auY,ih];have e:(if(y.num==j)=true then f y else y).num=y.num:=by
   split
   ·exact hf y
   ·rfl
  rw[e];by_cases h:y.num=j
  ·rw[auq.2 h];rfl
  ·rw[au2 h];rfl
theorem DK (h:aI w p T tb A M role)(hw:WF T d)(he:tL w)(c:bT)(hc:c.Small):
  Calls prog 196 #[.pointer (some ⟨p,0,none⟩),gJ c] w fun e w'=>e=.returned (.int .i64 (dF T c).2)/\bH w w' p tb role (dF T c).1:=by
 have HC:=hd0 hc;have dA:af w (w.alloc (.cells (bM c) 55)):=(ah.refl _ w).alloc _;have HT:=hd0 (h.keep dA);have HW:=hd0 hw;have He:=hd0 (he.keep dA);have lC:=hd0 h;have sx:Hid (World.blk (w.alloc (.cells (bM c) 55)) w.heap.size (bM c) 55):=hd0 (aw _ _ _);clear h hw he hc dA;by_cases mP:c.path=[47]
 ·have hq:(c.path==[47])=true:=auq.2 mP;have Hv:Hid (dF T c=(T,144)):=hd0 (by rw[dF,atP mP]);clear mP HT He sx;go_enter func196,ntmps196;unfold gJ bM;go_wp2;go_ret;exact⟨by rw[Hv.out];rfl,by rw[Hv.out];exact bH.same lC.out ((ah.refl _ w).alloc _)⟩
 ·have hq:(c.path==[47])=false:=au2 mP;have oa:=hd0 mP;clear mP;go_enter func196,ntmps196;unfold gJ bM;go_wp2_with fail;unfold bM at HT He sx;have dN:Hid (af w (w.alloc (.cells #[.int .i64 c.kind,.string ⟨c.path.toArray⟩,.string ⟨c.dest.toArray⟩,.int .i64 c.pos,.string ⟨c.data.toArray⟩] 55))):=hd0 ((ah.refl _ w).alloc _);generalize w.alloc (.cells #[.int .i64 c.kind,.string ⟨c.path.toArray⟩,.string ⟨c.dest.toArray⟩,.int .i64 c.pos,.string ⟨c.data.toArray⟩] 55)=w0 at*;refine(A1 HT.out HW.out He.out c.path HC.out.path).mono ?_;rintro e w1 ⟨rfl,hk⟩;have mh:=hd0 (ab hk sx.out id);have iD:=hd0 (HT.out.keep hk);have Fi:=hd0 (He.out.keep hk);have bU:=hd0 (dN.out.keep hk);clear hk sx HT He dN
  cases ha:zk T c.path with
  |error e=>
   have dZ:(e==0)=false:=by have:=vS ha;rw[auv];omega
   have Hv:Hid (dF T c=(T,e)):=hd0 (by rw[dF,atR oa.out,ha]);clear ha;unfold kX;go_wp2;go_ret;exact⟨by rw[Hv.out];rfl,by rw[Hv.out];exact bH.same lC.out bU.out⟩
  |ok j=>
   obtain⟨_,n,_,_,hg⟩:=zm HW.out ha;obtain⟨q,s,o,up,rV,hfj,N6,No,uR,hs⟩:=uL HW.out ha oa.out;have c4:w1.cell? ⟨A j,4,none⟩=some (.map (if n.dir=true then some (M j)else none)):=iD.out.cell HW.out.sorted hg 4;obtain⟨dy,Bk⟩:=gy HW.out hg;have hm:=((ax HW.out.sorted).1 hg).1;have aU:∀ ty,(Builtin.len_ #[244] ty #[.map (if n.dir=true then some (M j)else none)]).run prog w1=.ok (.int .i64 (n.names.length:Int)) w1:=fun ty=>by
    by_cases hd:n.dir=true
    ·rw[atP hd];have cm:=iD.out.names n hm hd;rw[dy]at cm;exact eZ.len cm underlying244 ty
    ·rw[atR hd];have:n.names=[]:=(HW.out.file n hm (by simpa using hd)).1;rw[this];exact Maps.len_nil underlying244 ty
   have qU:=hd0 dy;have Hg:=hd0 hg;have jL:=hd0 (And.intro No (And.intro uR hs));have Ft:=hd0 rV;have Hfo:=hd0 N6;have uw:s.length<=16:=by
    have:=(ju rV).2 s (by simp);exact this
   have sC:=(HW.out.names n hm).1;generalize Ns:(Value.map (if n.dir=true then some (M j)else none))=mp at*;clear Ns;have z1:w1.cell? ⟨w.heap.size,1,none⟩=some (.string ⟨c.path.toArray⟩):=aa mh.out 1;unfold kX;by_cases pp:n.names=[]
   ·have uz:n.names.length=0:=by rw[pp];rfl
    rw[uz]at aU;have Hnm:=hd0 pp;have Hv:Hid (dF T c=(if n.links=1 then(T.named o (fN s)).drop j else(T.named o (fN s)).upd j fun n=>{ n with links:=n.links-1 },0)):=hd0 (by
     rw[dF,atR oa.out,ha];simp[hg,pp,rV,N6])
    clear ha hg hfj rV N6 No uR hs dy hm pp sC uz;go_wp2_with fail;refine(xc iD.out HW.out Fi.out c.path HC.out.path Ft.out Hfo.out).mono ?_;rintro e w2 ⟨rfl,hk⟩;have mQ:=hd0 (iD.out.keep hk);have bu:=hd0 (bU.out.keep hk);clear hk c4 z1 aU;obtain⟨VJ,IL⟩:=(ax HW.out.sorted).1 jL.out.1;have d4:w2.cell? ⟨A o,4,none⟩=some (.map (if up.dir=true then some (M o)else none)):=mQ.out.cell HW.out.sorted jL.out.1 4;rw[atP jL.out.2.1]at d4;have cm:=mQ.out.names up VJ jL.out.2.1;rw[IL]at cm;have hjo:j≠o:=fun e=>by
     have h1:=Hg.out;rw[e,jL.out.1]at h1;have h2:=auR h1;have h3:=jL.out.2.2;rw[h2,Hnm.out]at h3;cases h3
    have Hjo:=hd0 hjo;have Vy:=hd0 (And.intro VJ IL);have yD:=hd0 cm;have Vn:=hd0 (tX HW.out Hg.out);clear hjo VJ IL cm;by_cases uV:n.links=1
    ·have Hl1:=hd0 uV;clear uV;go_wp2_with (
      (at_delete
       refine jI yD.out underlying244 underlying9 s (by omega) rfl rfl rfl rfl ?_;intro w3 ln iB;have EJ:=gK (f:=fN s) mQ.out HW.out.sorted jL.out.1 jL.out.2.1 iB ln;have rh:dd (T.named o (fN s)):=iV (fun _=>rfl) HW.out.sorted;have JW:(T.named o (fN s)).get j=some n:=by rw[eM,atR Hjo.out];exact Hg.out
       have EL:=EJ.node n ((ax rh).1 JW).1;rw[qU.out]at EL;have nW:=hd0 EL;have Ah:=hd0 EJ;have IK:=hd0 rh;have HG3:=hd0 JW;have nL:Hid (ah (fun b=>role b≠.none) w w3):=hd0 ((bu.out.mono (fun _ _ h=>h.elim)).trans iB (fun i hi e=>by
        have hr:=lC.out.rnames up Vy.out.1 jL.out.2.1;rw[Vy.out.2]at hr;rw[e,hr];exact cU.noConfusion))
       have e2:w3.cell? ⟨A j,2,none⟩=some (.int .i64 1):=by rw[<-Hl1.out];exact aa EL 2
       have e3:w3.frozen? ⟨A j,2,none⟩=false:=ae EL _ rfl;clear ln iB EJ rh JW EL d4))
     have eY:ah (·=A j) w3 (w3.setCell ⟨A j,2,none⟩ (.int .i64 0)):=(ah.refl (fun x=>x=A j) w3).setCell (p:=⟨A j,2,none⟩) (.inl rfl) _;have hB4:=ag nW.out 2 (.int .i64 0);have ht4:=mC (f:=fun n=>{ n with links:=0 }) Ah.out IK.out (fun _=>⟨rfl,rfl,rfl⟩) HG3.out eY hB4;have IZ:=lC.out.rnode n ((ax HW.out.sorted).1 Hg.out).1;rw[qU.out]at IZ;have rf:=hd0 (nL.out.trans eY (fun i hi e=>by rw[e,IZ];exact cU.noConfusion));generalize w3.setCell ⟨A j,2,none⟩ (.int .i64 0)=w4 at*;have f0:w4.cell? ⟨p,0,none⟩=some (.map (some tb)):=aa ht4.tree 0;have f1:w4.cell? ⟨A j,0,none⟩=some (.int .i64 j):=by rw[<-qU.out];rw[<-qU.out]at hB4;exact aa hB4 0
     have RT:=hd0 ht4;clear ht4 hB4 eY IZ e2 e3;refine dz 8 (by kernel_rfl) (by kernel_rfl) ?_;simp only[auz,auA,auB,auC]
     repeat (quiet_step (fail))
     refine auE ?_;intro _ cJ;obtain⟨nq,rfl⟩:=cJ;have aad:=RT.out.keep ((ah.refl (fun _=>False) w4).drewN nq);refine un aad.of underlying247 underlying3 j Bk rfl rfl rfl rfl ?_;intro w5 yM R2;have ht5:=LP aad R2 yM;rw[Qf (f:=fun n=>{ n with links:=0 }) (fun _=>rfl)]at ht5;have VT:=hd0 ht5;have BY:=hd0 ((rf.out.drewN nq).trans R2 (fun i hi e=>by rw[e,lC.out.rof];exact cU.noConfusion));clear ht5 yM R2 aad f0 f1;go_wp2;go_ret;refine⟨by rw[Hv.out];rfl,?_⟩;rw[Hv.out,atP Hl1.out];exact⟨A,M,role,VT.out,fun _ hb=>.inl hb,BY.out⟩
    ·have Hl1:=hd0 uV;have hq3:(n.links-1==0)=false:=by rw[auv];omega
     have Al:=Vn.out;clear uV;go_wp2_with (
      (at_delete
       refine jI yD.out underlying244 underlying9 s (by omega) rfl rfl rfl rfl ?_;intro w3 ln iB;have EJ:=gK (f:=fN s) mQ.out HW.out.sorted jL.out.1 jL.out.2.1 iB ln;have rh:dd (T.named o (fN s)):=iV (fun _=>rfl) HW.out.sorted;have JW:(T.named o (fN s)).get j=some n:=by rw[eM,atR Hjo.out];exact Hg.out
       have EL:=EJ.node n ((ax rh).1 JW).1;rw[qU.out]at EL;have nW:=hd0 EL;have Ah:=hd0 EJ;have IK:=hd0 rh;have HG3:=hd0 JW;have nL:Hid (ah (fun b=>role b≠.none) w w3):=hd0 ((bu.out.mono (fun _ _ h=>h.elim)).trans iB (fun i hi e=>by
        have hr:=lC.out.rnames up Vy.out.1 jL.out.2.1;rw[Vy.out.2]at hr;rw[e,hr];exact cU.noConfusion))
       have e2:w3.cell? ⟨A j,2,none⟩=some (.int .i64 n.links):=aa EL 2;have e3:w3.frozen? ⟨A j,2,none⟩=false:=ae EL _ rfl;clear ln iB EJ rh JW EL d4))
     go_ret;refine⟨by rw[Hv.out];rfl,?_⟩;rw[Hv.out,atR Hl1.out];have eY:ah (·=A j) w3 (w3.setCell ⟨A j,2,none⟩ (.int .i64 (n.links-1))):=(ah.refl (fun x=>x=A j) w3).setCell (p:=⟨A j,2,none⟩) (.inl rfl) _;have IZ:=lC.out.rnode n ((ax HW.out.sorted).1 Hg.out).1;rw[qU.out]at IZ;exact⟨A,M,role,mC (f:=fun n=>{ n with links:=n.links-1 }) Ah.out IK.out (fun _=>⟨rfl,rfl,rfl⟩) HG3.out eY (ag nW.out 2 _),fun _ hb=>.inl hb,nL.out.trans eY (fun i hi e=>by rw[e,IZ];exact cU.noConfusion)⟩
   ·have uz:¬((n.names.length:Int)=0):=by
     intro e;exact pp (auk.1 (by omega))
    have uV:(0:Int)<n.names.length:=by omega
    have Hv:Hid (dF T c=(T,144)):=hd0 (by rw[dF,atR oa.out,ha];simp[hg,pp]);clear ha hg hfj rV N6 No uR hs dy hm pp;go_wp2;go_ret;exact⟨by rw[Hv.out];rfl,by rw[Hv.out];exact bH.same lC.out bU.out⟩
end
end
section
open Go.RowKit Go.Maps
theorem Uk {α:Type}(g:α->Nat):∀(l:List α) (m0 m:Nat),m0<=m->(∀ q∈l,g q<=m)->(m=m0\/∃ q∈l,m=g q)->l.foldl (fun m p=>max m (g p)) m0=m:=by
 intro l
 induction l with
 |nil=>
  intro m0 m h0 _ h2;rcases h2 with rfl|⟨q,hq,_⟩
  ·rfl
  ·cases hq
 |cons x r ih=>
  intro m0 m h0 h1 h2;rw[List.foldl_cons];refine ih (max m0 (g x)) m (by have:=h1 x (by simp);omega) (fun q hq=>h1 q (by simp[hq])) ?_;rcases h2 with rfl|⟨q,hq,e⟩
  ·left;have:=h1 x (by simp);omega
  ·rcases at9.1 hq with rfl|hq
   ·left;omega
   ·right;exact⟨q,hq,e⟩
theorem JI {T:Tr}:∀(f:Nat) (k:Int),fC T f k<=f:=by
 intro f
 induction f with
 |zero=>intro k;exact atL _
 |succ f ih=>
  intro k;have key:∀(l:Nm) (m:Nat),m<=f+1->l.foldl (fun m p=>max m (1+fC T f p.2)) m<=f+1:=by
   intro l
   induction l with
   |nil=>intro m h;exact h
   |cons q r ih2=>
    intro m h;rw[List.foldl_cons];exact ih2 _ (by have:=ih q.2;omega)
  show(match T.get k with|none=>0|some n=>_)<=_;split
  ·omega
  ·exact key _ 0 (by omega)
theorem Ul {l:Nm}{x:List UInt8}{c:Int}{yd:DataW Value}{yp:List MemPlace}{te:TypeId}(he:prog.underlying te=some (.int .i64))(hv:plainElem prog te (.int .i64 c)=some (yd,yp))(nE:∀ zd,(NN l).atKey (.string x) zd=yd):bD x l=some c:=by
 obtain⟨a,ea,ey,_⟩:=plainElem_int_inv he hv;have ea2:c=a:=by injection ea
 subst ea2;have ey2:yd=oy c:=auZ Prod.fst ey;have h1:=(kx (ef:=oy) jo x l (oy 0)).symm.trans (nE (oy 0));have h2:=(kx (ef:=oy) jo x l (oy 1)).symm.trans (nE (oy 1));rw[ey2]at h1 h2
 cases hg:bD x l with
 |none=>
  rw[hg]at h1 h2;have e1:=Ax (a:=0) (b:=c) h1;have e2:=Ax (a:=1) (b:=c) h2;omega
 |some b=>
  rw[hg]at h1;exact auZ some (Ax h1)
section
variable {w:World}{p tb:Nat}{T:Tr}{A M:Int->Nat}{role:Nat->cU}{d:Int->Nat}
theorem Qg (hw:WF T d):∀(f:Nat) (k:Int) (n:Nd) (w:World),aI w p T tb A M role->T.get k=some n->1<=f->f<=100->(n.dir=true->9<=d k+f)->
  Calls prog 246 #[.pointer (some ⟨p,0,none⟩),.pointer (some ⟨A k,0,none⟩)] w fun e w'=>e=.returned (.int .i64 (fC T f k:Int))/\af w w':=by
 have HW:=hd0 hw;clear hw;intro f
 induction f with
 |zero=>intro k n w _ _ h1 _ _;omega
 |succ f ih=>
  intro k n w h hg h1 arx hd9;have HT:=hd0 h;have Hg:=hd0 hg;have IH:=hd0 ih;have c4:w.cell? ⟨A k,4,none⟩=some (.map (if n.dir=true then some (M k)else none)):=h.cell HW.out.sorted hg 4;obtain⟨hm,hk⟩:=(ax HW.out.sorted).1 hg;have Og:fC T (f+1) k=n.names.foldl (fun m p=>max m (1+fC T f p.2)) 0:=by
   show(match T.get k with|none=>0|some n=>_)=_;rw[hg]
  have Hm:=hd0 (And.intro hm hk);have Hdv:=hd0 Og;have H9:=hd0 hd9;clear h hg ih h1 hm hk Og hd9
  cases hd:n.dir with
  |false=>
   rw[hd]at c4;have pp:=(HW.out.file n Hm.out.1 hd).1;have Hv:Hid (fC T (f+1) k=0):=hd0 (by rw[Hdv.out,pp];rfl);clear pp;have Kq:=run_range_nilMap (P:=prog) w _ _ _ underlying244;have tC:=fun ty=>run_next_nilMap (P:=prog) w ty 0 0 #[];go_enter func246,ntmps246;go_wp2_with fail;refine wp_loop_rounds 1 ?_;rw[rounds_succ];go_wp2;go_ret;exact⟨by rw[Hv.out];rfl,(ah.refl _ w).alloc _⟩
  |true=>
   rw[hd,atP rfl]at c4;have cm:=HT.out.names n Hm.out.1 hd;rw[Hm.out.2]at cm;have yD:=hd0 cm;have Hd:=hd0 hd;clear cm hd;go_enter func246,ntmps246;go_wp2_with (at_range;refine wpList_range_own _ rfl _ 244 rfl 9 3 (string_keyed underlying9) underlying244 _ (M k) n.names.length (NN n.names) rfl yD.out ?_;intro w0 EY Xl RG)
   go_frame
   have BC:=hd0 EY;have dN:=hd0 (qt Xl);clear EY Xl RG c4
   go_loopw [5] (fun v wr=>∃(left:Lit->Bool) (jS m:Nat),World.ranges wr prog 9 (plainElem prog 3) (M k) w.heap.size n.names.length (NN n.names) left jS/\v=.int .i64 (m:Int)/\af w wr/\Hid (m<=101/\(∀ q∈n.names,left (.string q.1)=false->1+fC T f q.2<=m)/\(m=0\/∃ q∈n.names,m=1+fC T f q.2))) (fun _ wr=>wr.rangeLeft (M k) w.heap.size)
   case atStart=>
    refine⟨_,_,0,BC.out,rfl,dN.out,hd0 ⟨by omega,fun q hq hl=>?_,.inl rfl⟩⟩;rw[py jo,(cq (HW.out.snames n Hm.out.1)).2 hq]at hl
    cases hl
   case round=>
    clear BC dN;obtain⟨left,jS,m,SR,rfl,hK,Hq⟩:=hrel;have IW:=hd0 SR;have HK:=hd0 hK;clear SR hK;go_wp2_with (at_next;refine wpList_next_ranges wr rfl _ rfl 9 (string_keyed underlying9) (plainElem prog 3) (fun x:List UInt8=>.string ⟨x.toArray⟩) (Value.int .i64) (fun key kl h=>by obtain⟨x,hx,_⟩:=Maps.keyOf_str underlying9 h;exact⟨x,hx⟩) (fun v y h=>by obtain⟨a,ha,_⟩:=plainElem_int_inv underlying3 h;exact⟨a,ha⟩) (M k) w.heap.size _ (NN n.names) left jS rfl IW.out ?_ ?_)
    ·intro _ uz;have Hv:Hid (fC T (f+1) k=m):=hd0 (by
      rw[Hdv.out];exact Uk _ _ 0 m (auw _) (fun q hq=>Hq.out.2.1 q hq (uz _)) Hq.out.2.2)
     clear uz;go_wp2;go_ret;exact⟨by rw[Hv.out];rfl,HK.out⟩
    ·intro x c kl yd yp w' rW IQ Al hv nE ES aM Zf uC hen;obtain⟨x',ex,rfl,_⟩:=Maps.keyOf_str underlying9 IQ;have ex2:x'=x:=by simpa[Go.Proofs.encStr]using ex.symm
     subst ex2;have SZ:=Ul underlying3 hv nE;have Hin:=hd0 ((cq (HW.out.snames n Hm.out.1)).1 SZ);obtain⟨_,nc,Ke,Tj⟩:=HW.out.closed n Hm.out.1 _ Hin.out;have Hgc:=hd0 ((ax HW.out.sorted).2 ⟨Ke,Tj⟩);have XT:Hid (af w w'):=hd0 (HK.out.grown Zf (fun i e=>.inr (by injection e with e;omega)));have HT':=hd0 (HT.out.keep XT.out);have d0:w'.cell? ⟨p,0,none⟩=some (.map (some tb)):=aa HT'.out.tree 0;have J5:=(gy HW.out Hgc.out).2;have r1:=HT'.out.look1 HW.out.sorted Hgc.out J5;have h7:=HW.out.deep n Hm.out.1 (List.ne_nil_of_mem Hin.out);rw[Hm.out.2]at h7;have h9:=H9.out Hd.out;have Hfu:Hid (1<=f/\f<=100/\(nc.dir=true->9<=d c+f)):=hd0 ⟨by omega,by omega,fun hcd=>by
      have:=HW.out.depth n Hm.out.1 _ Hin.out nc Ke Tj hcd;rw[Hm.out.2]at this;simp only at this;omega⟩
     have uv:=hd0 ES;have Hlt:=hd0 (show rW<jS from aM);have rX:=hd0 (IW.out.left_eq);clear IQ Al hv nE ES aM Zf uC ex SZ Ke Tj h7 h9 J5;go_wp2_with fail;refine(IH.out c nc w' HT'.out Hgc.out Hfu.out.1 Hfu.out.2.1 Hfu.out.2.2).mono ?_;rintro e w2 ⟨rfl,dc⟩;have bu:=hd0 (XT.out.keep dc);have Sp:=hd0 (uv.out.kept (FN dc) (by simp) (by simp));obtain⟨dv,Og⟩:∃ dv,fC T f c=dv:=⟨_,rfl⟩
     have Hdl:=JI (T:=T) f c;rw[Og]at Hdl;rw[Og];have mM:=Hq.out.1;have hfb:=Hfu.out.2.1;have ZZ:max (m:Int) (1+(dv:Int))=((max m (1+dv):Nat):Int):=by omega
     have Hq2:Hid (max m (1+dv)<=101/\(∀ q∈n.names,(left (.string q.1)&&!(Lit.string q.1).sameKey (.string x'))=false->1+fC T f q.2<=max m (1+dv))/\(max m (1+dv)=0\/∃ q∈n.names,max m (1+dv)=1+fC T f q.2)):=hd0 (by
      refine⟨by omega,fun q hq hl=>?_,?_⟩
      ·cases hlq:left (.string q.1)with
       |false=>have:=Hq.out.2.1 q hq hlq;omega
       |true=>
        rw[hlq]at hl;have e:q.1=x':=by simpa[Lit.sameKey]using hl
        have e2:=vN (HW.out.snames n Hm.out.1) hq Hin.out e;rw[e2];show 1+fC T f c<=_;rw[Og];omega
      ·by_cases hge:m<=1+dv
       ·exact .inr ⟨_,Hin.out,by show _=1+fC T f c;rw[Og];omega⟩
       ·rcases Hq.out.2.2 with h0|⟨q,hq,e⟩
        ·omega
        ·exact .inr ⟨q,hq,by omega⟩)
     clear dc Og hen d0 r1;go_wp2_with fail;refine⟨⟨_,rW,max m (1+dv),Sp.out,rfl,bu.out,Hq2⟩,?_⟩;rw[Sp.out.left_eq,rX.out];exact Hlt.out
end
end
section
open Go.RowKit Go.Maps
theorem yA (s p:List UInt8)(w:World):
  Calls prog 170 #[.string ⟨s.toArray⟩,.string ⟨p.toArray⟩] w fun e w'=>e=.returned (.bool (Lib.hasPrefix s p))/\w'=w:=
 Tryz.strings_HasPrefix ⟨s.toArray⟩ ⟨p.toArray⟩ w
section
variable {w:World}{p tb:Nat}{T:Tr}{A M:Int->Nat}{role:Nat->cU}{d:Int->Nat}
theorem DM (h:aI w p T tb A M role)(hw:WF T d)(he:tL w)(c:bT)(hc:c.Small):
  Calls prog 195 #[.pointer (some ⟨p,0,none⟩),gJ c] w fun e w'=>e=.returned (.int .i64 (cd T c).2)/\bH w w' p tb role (cd T c).1:=by
 have HC:=hd0 hc;have dA:af w (w.alloc (.cells (bM c) 55)):=(ah.refl _ w).alloc _;have HT:=hd0 (h.keep dA);have HW:=hd0 hw;have He:=hd0 (he.keep dA);have lC:=hd0 h;have sx:Hid (World.blk (w.alloc (.cells (bM c) 55)) w.heap.size (bM c) 55):=hd0 (aw _ _ _);clear h hw he hc dA;by_cases mP:c.path=[47]
 ·have hq:(c.path==[47])=true:=auq.2 mP;have Hv:Hid (cd T c=(T,144)):=hd0 (by rw[cd,atP mP]);clear mP HT He sx;go_enter func195,ntmps195;unfold gJ bM;go_wp2;go_ret;exact⟨by rw[Hv.out];rfl,by rw[Hv.out];exact bH.same lC.out ((ah.refl _ w).alloc _)⟩
 ·have hq:(c.path==[47])=false:=au2 mP;have oa:=hd0 mP;clear mP;go_enter func195,ntmps195;unfold gJ bM;go_wp2_with fail;unfold bM at HT He sx;have dN:Hid (af w (w.alloc (.cells #[.int .i64 c.kind,.string ⟨c.path.toArray⟩,.string ⟨c.dest.toArray⟩,.int .i64 c.pos,.string ⟨c.data.toArray⟩] 55))):=hd0 ((ah.refl _ w).alloc _);generalize w.alloc (.cells #[.int .i64 c.kind,.string ⟨c.path.toArray⟩,.string ⟨c.dest.toArray⟩,.int .i64 c.pos,.string ⟨c.data.toArray⟩] 55)=w0 at*;refine(A1 HT.out HW.out He.out c.path HC.out.path).mono ?_;rintro e w1 ⟨rfl,hk⟩;have mh:=hd0 (ab hk sx.out id);have iD:=hd0 (HT.out.keep hk);have Fi:=hd0 (He.out.keep hk);have bU:=hd0 (dN.out.keep hk);clear hk sx HT He dN
  cases ha:zk T c.path with
  |error e=>
   have dZ:(e==0)=false:=by have:=vS ha;rw[auv];omega
   have Hv:Hid (cd T c=(T,e)):=hd0 (by rw[cd,atR oa.out,ha]);clear ha;unfold kX;go_wp2;go_ret;exact⟨by rw[Hv.out];rfl,by rw[Hv.out];exact bH.same lC.out bU.out⟩
  |ok j=>
   obtain⟨_,n,_,_,hg⟩:=zm HW.out ha;obtain⟨q,s,o,up,rV,hfj,N6,No,uR,hs⟩:=uL HW.out ha oa.out;obtain⟨dy,Bk⟩:=gy HW.out hg;have qU:=hd0 dy;have Hg:=hd0 hg;have jL:=hd0 (And.intro No (And.intro uR hs));have Ft:=hd0 rV;have Hfo:=hd0 N6;have Ha:=hd0 ha;have Hsl:=hd0 ((ju rV).2 s (by simp));clear ha hg rV hfj N6 No uR hs dy;have z1:w1.cell? ⟨w.heap.size,1,none⟩=some (.string ⟨c.path.toArray⟩):=aa mh.out 1;have z2:w1.cell? ⟨w.heap.size,2,none⟩=some (.string ⟨c.dest.toArray⟩):=aa mh.out 2;have nI:¬ 9223372036854775807<c.path.length+1:=by have:=HC.out.path;omega
   unfold kX;go_wp2_with fail;refine(yA c.dest (c.path++[47]) w1).mono ?_;rintro e w' ⟨rfl,rfl⟩
   cases Xv:Lib.hasPrefix c.dest (c.path++[47])with
   |true=>
    have Hv:Hid (cd T c=(T,144)):=hd0 (by rw[cd,atR oa.out,Ha.out];simp only[Xv,if_true]);clear Xv;go_wp2;go_ret;exact⟨by rw[Hv.out];rfl,by rw[Hv.out];exact bH.same lC.out bU.out⟩
   |false=>
    have Hpx:=hd0 Xv;clear Xv;go_wp2_with fail;refine(wW iD.out HW.out Fi.out c.dest HC.out.dest).mono ?_;rintro e w2 ⟨rfl,hk⟩;have mQ:=hd0 (iD.out.keep hk);have bu:=hd0 (bU.out.keep hk);have Vj:=hd0 (Fi.out.keep hk);have Vd:=hd0 (ab hk mh.out id);clear hk z1 z2 mh iD Fi bU
    cases hr:gp T c.dest with
    |error e=>
     have dZ:(e==0)=false:=by have:=rC hr;rw[auv];omega
     have Hv:Hid (cd T c=(T,e)):=hd0 (by rw[cd,atR oa.out,Ha.out];simp only[Hpx.out,hr];rfl);clear hr;unfold wV;go_wp2;go_ret;exact⟨by rw[Hv.out];rfl,by rw[Hv.out];exact bH.same lC.out bu.out⟩
    |ok x=>
     obtain⟨k,s2⟩:=x;obtain⟨q2,up2,BG,pk,cC,hf2,JT,yR,Aq,sC,VV⟩:=pC HW.out hr;have NR:Hid (cd T c=if 8<(q2++[s2]).length+fC T 9 j then(T,145)else((T.named o (fN s)).named k (l5 s2 j),0)):=hd0 (by
      rw[cd,atR oa.out,Ha.out];simp only[Hpx.out,hr,BG,aun,Ft.out,List.dropLast_concat,List.getLastD_concat,Hfo.out];rfl)
     have aop:s2.length<=16:=by
      simp only[aH,at2,aua]at cC;exact cC.1.1.2
     have Zp:=hd0 BG;have yQ:=hd0 (And.intro JT (And.intro yR (And.intro Aq sC)));have z1:w2.cell? ⟨w.heap.size,1,none⟩=some (.string ⟨c.path.toArray⟩):=aa Vd.out 1;have z2:w2.cell? ⟨w.heap.size,2,none⟩=some (.string ⟨c.dest.toArray⟩):=aa Vd.out 2;clear hr BG cC hf2 JT yR Aq sC VV;unfold wV;go_wp2_with fail;refine(my c.dest w2 Vj.out HC.out.dest).mono ?_;rintro e w3 ⟨v3,rfl,An,dq⟩;have hL:cT c.dest=q2++[s2]:=by rw[cT,Zp.out];rfl
     rw[hL]at An;obtain⟨a3,Zy,N4⟩:=mB (oz An);rw[kB]at N4;obtain⟨L2,Tf⟩:∃ L2,(q2++[s2]).length=L2:=⟨_,rfl⟩
     rw[Tf]at N4;subst N4;have SM:=hd0 Tf;have hLb:L2<=8:=by rw[<-Tf];simp;omega
     obtain⟨pe,sB⟩:∃ pe,eH c.dest=pe:=⟨_,rfl⟩
     rw[sB];have Ah:=hd0 (mQ.out.keep dq);have dT:=hd0 (bu.out.keep dq);have He3:=hd0 (Vj.out.keep dq);have adz:=hd0 (ab dq Vd.out id);clear hL sB An dq z1 z2 mQ bu Vj Vd Tf;go_wp2_with fail;refine(Qg HW.out 9 j n w3 Ah.out Hg.out (by omega) (by omega) (fun _=>by omega)).mono ?_;rintro e w4 ⟨rfl,je⟩;have RT:=hd0 (Ah.out.keep je);have lw:=hd0 (dT.out.keep je);have He4:=hd0 (He3.out.keep je);have adp:=hd0 (ab je adz.out id);have EV:=JI (T:=T) 9 j;obtain⟨dv,Og⟩:∃ dv,fC T 9 j=dv:=⟨_,rfl⟩
     rw[Og]at EV NR;rw[Og];clear je Ah dT He3 adz Og;have z1:w4.cell? ⟨w.heap.size,1,none⟩=some (.string ⟨c.path.toArray⟩):=aa adp.out 1;by_cases h8:8<L2+dv
     ·have Hv:Hid (cd T c=(T,145)):=hd0 (by rw[NR.out,SM.out,atP h8]);have h8':(8:Int)<(L2:Int)+(dv:Int):=by omega
      clear h8;go_wp2;go_ret;exact⟨by rw[Hv.out];rfl,by rw[Hv.out];exact bH.same lC.out lw.out⟩
     ·have Hv:Hid (cd T c=((T.named o (fN s)).named k (l5 s2 j),0)):=hd0 (by rw[NR.out,SM.out,atR h8]);have h8':¬(8:Int)<(L2:Int)+(dv:Int):=by omega
      clear h8;go_wp2_with fail;refine(xc RT.out HW.out He4.out c.path HC.out.path Ft.out Hfo.out).mono ?_;rintro e w5 ⟨rfl,hk⟩;have VT:=hd0 (RT.out.keep hk);have j7:=hd0 (lw.out.keep hk);clear hk z1 RT lw He4 adp;have Vy:=hd0 ((ax HW.out.sorted).1 jL.out.1);have d4:w5.cell? ⟨A o,4,none⟩=some (.map (if up.dir=true then some (M o)else none)):=VT.out.cell HW.out.sorted jL.out.1 4;rw[atP jL.out.2.1]at d4;have cm:=VT.out.names up Vy.out.1 jL.out.2.1;rw[Vy.out.2]at cm;have yD:=hd0 cm;have IT:dd (T.named o (fN s)):=iV (fun _=>rfl) HW.out.sorted;have HS6:=hd0 IT;obtain⟨Xb,JW,IC,Sa,J4⟩:∃ Xb,(T.named o (fN s)).get k=some Xb/\Xb.dir=true/\jD s2 Xb.names=none/\Xb.names.length<60:=by
       rw[eM];by_cases e:k=o
       ·rw[atP e,yQ.out.1];refine⟨_,rfl,yQ.out.2.1,?_,Nat.lt_of_le_of_lt (rt _ _) yQ.out.2.2.2⟩;rw[mr];intro x hx;exact mr.1 yQ.out.2.2.1 x (kI.1 hx).1
       ·rw[atR e];exact⟨up2,yQ.out.1,yQ.out.2.1,yQ.out.2.2.1,yQ.out.2.2.2⟩
      obtain⟨n3,acP,adJ⟩:∃ n3,(T.named o (fN s)).get j=some n3/\n3.num=j:=by
       rw[eM];by_cases e:j=o
       ·rw[atP e,Hg.out];exact⟨_,rfl,qU.out⟩
       ·rw[atR e];exact⟨n,Hg.out,qU.out⟩
      have yH:=hd0 (And.intro JW (And.intro IC (And.intro Sa J4)));have Hn3:=hd0 (And.intro acP adJ);clear cm IT JW IC Sa J4 acP adJ;have uw:=Hsl.out;go_wp2_with (
       (at_delete
        refine jI yD.out underlying244 underlying9 s (by omega) rfl rfl rfl rfl ?_;intro w6 rc R6;have Ip:=gK (f:=fN s) VT.out HW.out.sorted jL.out.1 jL.out.2.1 R6 rc;have HT6:=hd0 Ip;have Oe:Hid (ah (fun b=>role b≠.none) w w6):=hd0 ((j7.out.mono (fun _ _ h=>h.elim)).trans R6 (fun i hi e=>by
         have hr:=lC.out.rnames up Vy.out.1 jL.out.2.1;rw[Vy.out.2]at hr;rw[e,hr];exact cU.noConfusion))
        have e4:w6.cell? ⟨A k,4,none⟩=some (.map (if Xb.dir=true then some (M k)else none)):=Ip.cell HS6.out yH.out.1 4;rw[atP yH.out.2.1]at e4;have e0:w6.cell? ⟨A j,0,none⟩=some (.int .i64 n3.num):=Ip.cell HS6.out Hn3.out.1 0;rw[Hn3.out.2]at e0;clear rc R6 Ip d4))
      refine dz 9 (by kernel_rfl) (by kernel_rfl) ?_;simp only[auz,auA,auB,auC]
      repeat (quiet_step (fail))
      refine auE ?_;intro _ cJ;obtain⟨nq,rfl⟩:=cJ;have ZD:=HT6.out.keep ((ah.refl (fun _=>False) w6).drewN nq);have nV:=(ax HS6.out).1 yH.out.1;have RR:=ZD.names Xb nV.1 yH.out.2.1;rw[nV.2]at RR;have Ks:=HT6.out.rnames Xb nV.1 yH.out.2.1;rw[nV.2]at Ks;refine kZ RR underlying244 underlying9 underlying3 s2 (by omega) j Bk (by have:=yH.out.2.2.2;omega) rfl rfl rfl rfl rfl ?_;intro w7 hm7 Sy;have ht7:=gK (f:=l5 s2 j) ZD HS6.out yH.out.1 yH.out.2.1 Sy hm7;have HT7:=hd0 ht7;have HM7:=hd0 ((Oe.out.drewN nq).trans Sy (fun i hi e=>by rw[e,Ks];exact cU.noConfusion));clear ht7 hm7 Sy ZD nV RR Ks e4 e0;go_wp2;go_ret;refine⟨by rw[Hv.out];rfl,?_⟩;rw[Hv.out];exact⟨A,M,role,HT7.out,fun _ hb=>.inl hb,HM7.out⟩
end
end
section
open Go.RowKit
theorem Um (w:World):Calls prog 102 #[] w fun e w'=>∃ p tb A M role,e=.returned (.pointer (some ⟨p,0,none⟩))/\aI w' p Tr.new tb A M role/\(∀ b,role b≠.none->w.heap.size<=b)/\af w w':=by
 have It:=@run_makeMap prog;have dq:af (w.alloc (.map #[] 0)) (((w.alloc (.map #[] 0)).alloc (.map #[] 0)).alloc (.cells #[.int .i64 1,.bool true,.int .i64 1,.string ⟨#[]⟩,.map (some (w.heap.size+1))] 246)):=((ah.refl _ _).alloc _).alloc _;have cm:LH (((w.alloc (.map #[] 0)).alloc (.map #[] 0)).alloc (.cells #[.int .i64 1,.bool true,.int .i64 1,.string ⟨#[]⟩,.map (some (w.heap.size+1))] 246)) w.heap.size []:=(dC.made w).mod dq id;have pp:GN (((w.alloc (.map #[] 0)).alloc (.map #[] 0)).alloc (.cells #[.int .i64 1,.bool true,.int .i64 1,.string ⟨#[]⟩,.map (some (w.heap.size+1))] 246)) (w.heap.size+1) []:=(eZ.made' (by simp) ()).mod ((ah.refl (fun _=>False) _).alloc _) id;have nZ:World.blk (((w.alloc (.map #[] 0)).alloc (.map #[] 0)).alloc (.cells #[.int .i64 1,.bool true,.int .i64 1,.string ⟨#[]⟩,.map (some (w.heap.size+1))] 246)) (w.heap.size+1+1) #[.int .i64 1,.bool true,.int .i64 1,.string ⟨#[]⟩,.map (some (w.heap.size+1))] 246:=aY (by simp) _ _;obtain⟨w4,bh,Ao,eY⟩:=dC.store cm underlying247 underlying3 1 (by decide) (w.heap.size+1+1) (by decide);have cA:=eY.size;have HN4:=hd0 (pp.mod eY (by omega));have HD4:=hd0 (ab eY nZ (by omega));have rf:=hd0 Ao;have lw:Hid (af w w4):=hd0 (((((ah.refl (fun _=>False) w).alloc _).alloc _).alloc _).new eY (atL _));simp at cA;clear dq cm pp nZ Ao eY;go_enter func102,ntmps102;go_wp2;go_ret;obtain⟨N,hN⟩:∃ N,w.heap.size=N:=⟨_,rfl⟩
 rw[hN]at HN4 HD4 rf cA;rw[hN];refine⟨w4.heap.size,N,fun _=>N+2,fun _=>N+1,fun b=>if b=w4.heap.size then .tree else if b=N then .of else if b=N+2 then .node 1 else if b=N+1 then .names 1 else .none,rfl,⟨aw _ _ _,atP rfl,rf.out.mod ((ah.refl (fun _=>False) w4).alloc _) id,?_,?_,?_,?_,?_,?_⟩,?_,lw.out.alloc _⟩
 ·rw[atR (by omega),atP rfl]
 ·intro n hn;rw[Tr.new,avf]at hn;subst hn;exact aG HD4.out _
 ·intro n hn;rw[Tr.new,avf]at hn;subst hn;show(if N+2=w4.heap.size then _ else _)=_;rw[atR (by omega),atR (by omega),atP rfl]
 ·intro n hn _;rw[Tr.new,avf]at hn;subst hn;exact HN4.out.mod ((ah.refl (fun _=>False) w4).alloc _) id
 ·intro n hn _;rw[Tr.new,avf]at hn;subst hn;show(if N+1=w4.heap.size then _ else _)=_;rw[atR (by omega),atR (by omega),atR (by omega),atP rfl]
 ·intro b hb;simp only[World.alloc,Array.size_push];by_cases h1:b=w4.heap.size
  ·omega
  ·by_cases h2:b=N
   ·omega
   ·by_cases h3:b=N+2
    ·omega
    ·by_cases h4:b=N+1
     ·omega
     ·rw[atR h1,atR h2,atR h3,atR h4]at hb;exact absurd rfl hb
 ·intro b hb;by_cases h1:b=w4.heap.size
  ·omega
  ·by_cases h2:b=N
   ·omega
   ·by_cases h3:b=N+2
    ·omega
    ·by_cases h4:b=N+1
     ·omega
     ·simp only[atR h1,atR h2,atR h3,atR h4]at hb;exact absurd rfl hb
theorem bH.from {w w1 w':World}{p tb:Nat}{role:Nat->cU}{X:Tr}(k:af w w1)(h:bH w1 w' p tb role X):bH w w' p tb role X:=by
 obtain⟨A',M',jP,h1,h2,h3⟩:=h;exact⟨A',M',jP,h1,fun b hb=>(h2 b hb).imp id (fun h=>atE k.size h),(k.mono (fun _ _ h=>h.elim)).trans h3 (fun _ _ h=>h)⟩
section
variable {w:World}{p tb:Nat}{T:Tr}{A M:Int->Nat}{role:Nat->cU}{d:Int->Nat}
theorem Yo (h:aI w p T tb A M role)(hw:WF T d)(he:tL w)(c:bT)(hc:c.Small):
  Calls prog 118 #[.pointer (some ⟨p,0,none⟩),gJ c] w fun e w'=>e=.returned (.int .i64 (qy T c).2)/\bH w w' p tb role (qy T c).1:=by
 have HC:=hd0 hc;have dA:af w (w.alloc (.cells (bM c) 55)):=(ah.refl _ w).alloc _;have HT:=hd0 (h.keep dA);have HW:=hd0 hw;have He:=hd0 (he.keep dA);have lC:=hd0 h;have sx:Hid (World.blk (w.alloc (.cells (bM c) 55)) w.heap.size (bM c) 55):=hd0 (aw _ _ _);clear h hw he hc dA;go_enter func118,ntmps118;unfold gJ bM;go_wp2_with fail;unfold bM at HT He sx;have dN:Hid (af w (w.alloc (.cells #[.int .i64 c.kind,.string ⟨c.path.toArray⟩,.string ⟨c.dest.toArray⟩,.int .i64 c.pos,.string ⟨c.data.toArray⟩] 55))):=hd0 ((ah.refl _ w).alloc _);generalize w.alloc (.cells #[.int .i64 c.kind,.string ⟨c.path.toArray⟩,.string ⟨c.dest.toArray⟩,.int .i64 c.pos,.string ⟨c.data.toArray⟩] 55)=w0 at*;refine(sS c w0 He.out HC.out).mono ?_;rintro e w1 ⟨rfl,hk⟩;have mh:=hd0 (ab hk sx.out id);have iD:=hd0 (HT.out.keep hk);have Fi:=hd0 (He.out.keep hk);have bU:=hd0 (dN.out.keep hk);clear hk sx HT He dN
 cases cC:c.ok with
 |false=>
  have Hv:Hid (qy T c=(T,1)):=hd0 (by rw[qy,atP cC]);have hp:kV c=.tuple #[.string ⟨#[]⟩,.int .i64 130]:=by rw[kV,cC];rfl
  rw[hp];clear hp cC;go_wp2;go_ret;exact⟨by rw[Hv.out];rfl,by rw[Hv.out];exact bH.same lC.out bU.out⟩
 |true=>
  have hp:kV c=.tuple #[.string ⟨c.line.toArray⟩,.int .i64 0]:=by rw[kV,cC];rfl
  rw[hp];obtain⟨h9,_,_⟩:=oH cC;have hk:=X9 h9;have yG:=hd0 (Pd cC);have VX:=hd0 (Js cC);have NR:Hid (qy T c=if c.kind=0\/c.kind=1 then ga T c else if c.kind=2\/c.kind=3 then dL T c else if c.kind=4 then iU T c else if c.kind=5 then cd T c else if c.kind=6 then dF T c else(T,1)):=hd0 (by rw[qy,atR (by rw[cC];decide)]);have z0:w1.cell? ⟨w.heap.size,0,none⟩=some (.int .i64 c.kind):=aa mh.out 0;have z1:w1.cell? ⟨w.heap.size,1,none⟩=some (.string ⟨c.path.toArray⟩):=aa mh.out 1;have z2:w1.cell? ⟨w.heap.size,2,none⟩=some (.string ⟨c.dest.toArray⟩):=aa mh.out 2;have z3:w1.cell? ⟨w.heap.size,3,none⟩=some (.int .i64 c.pos):=aa mh.out 3;have z4:w1.cell? ⟨w.heap.size,4,none⟩=some (.string ⟨c.data.toArray⟩):=aa mh.out 4;have qX:c.kind=0\/c.kind=1\/c.kind=2\/c.kind=3\/c.kind=4\/c.kind=5\/c.kind=6\/c.kind=7\/c.kind=8:=by omega
  clear hp cC h9 hk;rcases qX with hq|hq|hq|hq|hq|hq|hq|hq|hq
  ·have Hv:Hid (qy T c=ga T c):=hd0 (by rw[NR.out];simp[hq]);have cX:=zP iD.out HW.out Fi.out c HC.out (.inl hq);unfold gJ bM at cX;rw[hq]at cX;have I1:=hd0 cX;rw[hq]at z0;clear hq cX;go_wp2_with fail;refine I1.out.mono ?_;rintro e w2 ⟨rfl,ht⟩;have mQ:=hd0 ht;clear ht;go_wp2;go_ret;exact⟨by rw[Hv.out];rfl,by rw[Hv.out];exact bH.from bU.out mQ.out⟩
  ·have Hv:Hid (qy T c=ga T c):=hd0 (by rw[NR.out];simp[hq]);have cX:=zP iD.out HW.out Fi.out c HC.out (.inr hq);unfold gJ bM at cX;rw[hq]at cX;have I1:=hd0 cX;rw[hq]at z0;clear hq cX;go_wp2_with fail;refine I1.out.mono ?_;rintro e w2 ⟨rfl,ht⟩;have mQ:=hd0 ht;clear ht;go_wp2;go_ret;exact⟨by rw[Hv.out];rfl,by rw[Hv.out];exact bH.from bU.out mQ.out⟩
  ·have Hv:Hid (qy T c=dL T c):=hd0 (by rw[NR.out];simp[hq]);have cX:=xa iD.out HW.out Fi.out c HC.out yG.out VX.out.1 VX.out.2;unfold gJ bM at cX;rw[hq]at cX;have I1:=hd0 cX;rw[hq]at z0;clear hq cX;go_wp2_with fail;refine I1.out.mono ?_;rintro e w2 ⟨rfl,ht⟩;have mQ:=hd0 ht;clear ht;go_wp2;go_ret;exact⟨by rw[Hv.out];rfl,by rw[Hv.out];exact bH.from bU.out mQ.out⟩
  ·have Hv:Hid (qy T c=dL T c):=hd0 (by rw[NR.out];simp[hq]);have cX:=xa iD.out HW.out Fi.out c HC.out yG.out VX.out.1 VX.out.2;unfold gJ bM at cX;rw[hq]at cX;have I1:=hd0 cX;rw[hq]at z0;clear hq cX;go_wp2_with fail;refine I1.out.mono ?_;rintro e w2 ⟨rfl,ht⟩;have mQ:=hd0 ht;clear ht;go_wp2;go_ret;exact⟨by rw[Hv.out];rfl,by rw[Hv.out];exact bH.from bU.out mQ.out⟩
  ·have Hv:Hid (qy T c=iU T c):=hd0 (by rw[NR.out];simp[hq]);have cX:=LQ iD.out HW.out Fi.out c HC.out;unfold gJ bM at cX;rw[hq]at cX;have I1:=hd0 cX;rw[hq]at z0;clear hq cX;go_wp2_with fail;refine I1.out.mono ?_;rintro e w2 ⟨rfl,ht⟩;have mQ:=hd0 ht;clear ht;go_wp2;go_ret;exact⟨by rw[Hv.out];rfl,by rw[Hv.out];exact bH.from bU.out mQ.out⟩
  ·have Hv:Hid (qy T c=cd T c):=hd0 (by rw[NR.out];simp[hq]);have cX:=DM iD.out HW.out Fi.out c HC.out;unfold gJ bM at cX;rw[hq]at cX;have I1:=hd0 cX;rw[hq]at z0;clear hq cX;go_wp2_with fail;refine I1.out.mono ?_;rintro e w2 ⟨rfl,ht⟩;have mQ:=hd0 ht;clear ht;go_wp2;go_ret;exact⟨by rw[Hv.out];rfl,by rw[Hv.out];exact bH.from bU.out mQ.out⟩
  ·have Hv:Hid (qy T c=dF T c):=hd0 (by rw[NR.out];simp[hq]);have cX:=DK iD.out HW.out Fi.out c HC.out;unfold gJ bM at cX;rw[hq]at cX;have I1:=hd0 cX;rw[hq]at z0;clear hq cX;go_wp2_with fail;refine I1.out.mono ?_;rintro e w2 ⟨rfl,ht⟩;have mQ:=hd0 ht;clear ht;go_wp2;go_ret;exact⟨by rw[Hv.out];rfl,by rw[Hv.out];exact bH.from bU.out mQ.out⟩
  all_goals
   have Hv:Hid (qy T c=(T,1)):=hd0 (by rw[NR.out];simp[hq]);rw[hq]at z0;clear hq;go_wp2;go_ret;exact⟨by rw[Hv.out];rfl,by rw[Hv.out];exact bH.same lC.out bU.out⟩
end
end
end
end Go.Proofs.YtkghpdcloaiflaaGreatDoor
