import Derived.Test.YtkghpdcloaiflaaGreatDoorE25
import Derived.Carry
set_option maxHeartbeats 8000000
set_option maxRecDepth 100000
namespace Go.Proofs.YtkghpdcloaiflaaGreatDoor
open _root_.Go.Proofs.Tryz
section
section
open Go.RowKit
section
variable {w:World}{p tb:Nat}{T:Tr}{A M:Int->Nat}{role:Nat->cT}{d:Int->Nat}
theorem gH (h:WF T d){k:Int}{n:Nd}(hg:T.get k=some n):n.num=k/\-9223372036854775808<=k/\k<=9223372036854775807:=by
 obtain⟨hm,hk⟩:=(ax h.sorted).1 hg;have:=h.nums n hm;omega
theorem YU {j:Int}(h:∀ n∈T,n.names.length<=60):j8 T j<=T.length*60:=by
 unfold j8
 induction T with
 |nil=>simp
 |cons y r ih=>
  have h1:=ih fun n hn=>h n (by simp[hn]);have h2:=h y (by simp);have h3:gD y.names j<=y.names.length:=List.countP_le_length;simp only[auy,auz,auA];omega
theorem ur (h:WF T d){k:Int}{n:Nd}(hg:T.get k=some n):1<=n.links/\n.links<=3600:=by
 obtain⟨hm,hk⟩:=(ax h.sorted).1 hg;by_cases h1:n.num=1
 ·obtain⟨r,hr,e,_,hl⟩:=h.root;have:=lR h.sorted hm hr (by omega);rw[this,hl];omega
 ·have hc:=h.count n hm h1;have h2:=YU (T:=T) (j:=n.num) fun m hm=>(h.names m hm).1;have:=h.many;omega
theorem Mq (h:aI w p T tb A M role)(hw:WF T d)(he:tr w)(c:bP)(hc:c.Small):
  Calls prog 194 #[.pointer (some ⟨p,0,none⟩),gt c] w fun e w'=>e=.returned (.int .i64 (iD T c).2)/\bD w w' p tb role (iD T c).1:=by
 have HC:=hd0 hc;have dE:af w (w.alloc (.cells (bL c) 55)):=(ah.refl _ w).alloc _;have HT:=hd0 (h.keep dE);have HW:=hd0 hw;have He:=hd0 (he.keep dE);have lF:=hd0 h;have sI:Hid (World.blk (w.alloc (.cells (bL c) 55)) w.heap.size (bL c) 55):=hd0 (aw _ _ _);clear h hw he hc dE;go_enter func194,ntmps194;unfold gt bL;go_wp2_with fail;unfold bL at HT He sI;have dO:Hid (af w (w.alloc (.cells #[.int .i64 c.kind,.string ⟨c.path.toArray⟩,.string ⟨c.dest.toArray⟩,.int .i64 c.pos,.string ⟨c.data.toArray⟩] 55))):=hd0 ((ah.refl _ w).alloc _);generalize w.alloc (.cells #[.int .i64 c.kind,.string ⟨c.path.toArray⟩,.string ⟨c.dest.toArray⟩,.int .i64 c.pos,.string ⟨c.data.toArray⟩] 55)=w0 at*;refine(Bm HT.out HW.out He.out c.path HC.out.path).mono ?_;rintro e w1 ⟨rfl,hk⟩;have ms:=hd0 (ab hk sI.out id);have iN:=hd0 (HT.out.keep hk);have FT:=hd0 (He.out.keep hk);have bU:=hd0 (dO.out.keep hk);clear hk sI HT He dO
 cases ha:zE T c.path with
 |error e=>
  have dW:(e==0)=false:=by have:=wI ha;rw[avj];omega
  have Hv:Hid (iD T c=(T,e)):=hd0 (by rw[iD,ha]);clear ha;unfold lj;go_wp2;go_ret;exact⟨by rw[Hv.out];rfl,by rw[Hv.out];exact bD.same lF.out bU.out⟩
 |ok j=>
  obtain⟨l,n,_,_,hg⟩:=zG HW.out ha;have c1:w1.cell? ⟨A j,1,none⟩=some (.bool n.dir):=iN.out.cell HW.out.sorted hg 1;unfold lj
  cases hd:n.dir with
  |true=>
   rw[hd]at c1;have Hv:Hid (iD T c=(T,143)):=hd0 (by rw[iD,ha];simp[hg,hd]);clear ha hg hd;go_wp2;go_ret;exact⟨by rw[Hv.out];rfl,by rw[Hv.out];exact bD.same lF.out bU.out⟩
  |false=>
   rw[hd]at c1;have Hv:Hid (iD T c=match gC T c.dest with
     | .error e=>(T,e)
     | .ok (k,s)=>((T.named k (me s j)).upd j fun n=>{ n with links:=n.links+1 },0)):=hd0 (by rw[iD,ha];simp only[hg,hd];rfl)
   have Hg:=hd0 hg;have Hd:=hd0 hd;have z2:w1.cell? ⟨w.heap.size,2,none⟩=some (.string ⟨c.dest.toArray⟩):=aa ms.out 2;clear ha hg hd;go_wp2_with fail;refine(xu iN.out HW.out FT.out c.dest HC.out.dest).mono ?_;rintro e w2 ⟨rfl,hk⟩;have mR:=hd0 (iN.out.keep hk);have bu:=hd0 (bU.out.keep hk);clear hk c1 z2
   cases hr:gC T c.dest with
   |error e=>
    have dW:(e==0)=false:=by have:=rV hr;rw[avj];omega
    rw[hr]at Hv;clear hr;unfold xt;go_wp2;go_ret;exact⟨by rw[Hv.out];rfl,by rw[Hv.out];exact bD.same lF.out bu.out⟩
   |ok x=>
    obtain⟨k,s⟩:=x;obtain⟨q,up,hp,pG,cq,hf,Kz,zm,hn,sW,Wi⟩:=pQ HW.out hr;rw[hr]at Hv;simp only at Hv;have d4:w2.cell? ⟨A k,4,none⟩=some (.map (if up.dir=true then some (M k)else none)):=mR.out.cell HW.out.sorted Kz 4;rw[auI zm]at d4;have d0:w2.cell? ⟨A j,0,none⟩=some (.int .i64 n.num):=mR.out.cell HW.out.sorted Hg.out 0;obtain⟨dC,Cd⟩:=gH HW.out Hg.out;rw[dC]at d0;have jY:=hd0 (And.intro Kz (And.intro zm (And.intro hn sW)));have uW:s.length<=16:=by
     simp only[aG,auT,auY]at cq;exact cq.1.1.2
    have rx:=hd0 dC;clear hr hp pG cq hf Kz zm hn sW Wi dC;unfold xt;go_wp2_with fail;refine dD 9 (by kernel_rfl) (by kernel_rfl) ?_;simp only[avn,avo,avq,avr]
    repeat (quiet_step (fail))
    refine avt ?_;intro _ cf;obtain⟨nq,rfl⟩:=cf;have aaM:=(mR.out.keep ((ah.refl (fun _=>False) w2).drewN nq))
    have cw:=aaM.names up ((ax HW.out.sorted).1 jY.out.1).1 jY.out.2.1;rw[((ax HW.out.sorted).1 jY.out.1).2]at cw;obtain⟨w3,bi,lz,iL⟩:=fu.store cw underlying244 underlying9 underlying3 s (by omega) j Cd (by have:=jY.out.2.2.2;omega);refine iG bi rfl rfl rfl rfl rfl ?_;have Fm:=gR (f:=me s j) aaM HW.out.sorted jY.out.1 jY.out.2.1 iL lz;have yo:j≠k:=fun e=>by
     have h1:=Hg.out;rw[e,jY.out.1]at h1;have h2:=avG h1;have h3:=jY.out.2.1;rw[h2,Hd.out]at h3;cases h3
    have rG:df (T.named k (me s j)):=jc (fun _=>rfl) HW.out.sorted;have Kl:(T.named k (me s j)).get j=some n:=by rw[eY,auK yo];exact Hg.out
    have Fq:=Fm.node n ((ax rG).1 Kl).1;rw[rx.out]at Fq;have ox:=hd0 Fq;have AF:=hd0 Fm;have I8:=hd0 rG;have HG3:=hd0 Kl;have nW:Hid (ah (fun b=>role b≠.none) w w3):=hd0 (((bu.out.drewN nq).mono (fun _ _ h=>h.elim)).trans iL (fun i hi e=>by
     have hr:=lF.out.rnames up ((ax HW.out.sorted).1 jY.out.1).1 jY.out.2.1;rw[((ax HW.out.sorted).1 jY.out.1).2]at hr;rw[e,hr];exact cT.noConfusion))
    have e2:w3.cell? ⟨A j,2,none⟩=some (.int .i64 n.links):=aa Fq 2;have e3:w3.frozen? ⟨A j,2,none⟩=false:=ae Fq _ rfl;have AI:=ur HW.out Hg.out;clear aaM cw bi lz iL Fm yo rG Kl Fq d4 d0;go_wp2;go_ret;refine⟨by rw[Hv.out];rfl,?_⟩;rw[Hv.out];have ft:ah (·=A j) w3 (w3.setCell ⟨A j,2,none⟩ (.int .i64 (n.links+1))):=(ah.refl (fun x=>x=A j) w3).setCell (p:=⟨A j,2,none⟩) (.inl rfl) _;refine⟨A,M,role,mK (f:=fun n=>{ n with links:=n.links+1 }) AF.out I8.out (fun _=>⟨rfl,rfl,rfl⟩) HG3.out ft (ag ox.out 2 _),fun _ hb=>.inl hb,nW.out.trans ft (fun i hi e=>?_)⟩;have hr:=lF.out.rnode n ((ax HW.out.sorted).1 Hg.out).1;rw[rx.out]at hr;rw[e,hr];exact cT.noConfusion
end
end
section
open Go.RowKit
section
variable {w:World}{p tb:Nat}{T:Tr}{A M:Int->Nat}{role:Nat->cT}{d:Int->Nat}
theorem Ig (h:aI w p T tb A M role)(hw:WF T d)(he:tr w)(c:bP)(hc:c.Small)(Jh:0<=c.pos/\c.pos<=16384)(Fz:c.data.length<=512)(hcut:c.kind≠2->c.data=[]):
  Calls prog 193 #[.pointer (some ⟨p,0,none⟩),gt c] w fun e w'=>e=.returned (.int .i64 (dA T c).2)/\bD w w' p tb role (dA T c).1:=by
 have HC:=hd0 hc;have dE:af w (w.alloc (.cells (bL c) 55)):=(ah.refl _ w).alloc _;have HT:=hd0 (h.keep dE);have HW:=hd0 hw;have He:=hd0 (he.keep dE);have lF:=hd0 h;have sI:Hid (World.blk (w.alloc (.cells (bL c) 55)) w.heap.size (bL c) 55):=hd0 (aw _ _ _);have zg:=hd0 Jh;have Hdl:=hd0 Fz;have aqU:=hd0 hcut;clear h hw he hc dE Jh Fz hcut;go_enter func193,ntmps193;unfold gt bL;go_wp2_with fail;unfold bL at HT He sI;have dO:Hid (af w (w.alloc (.cells #[.int .i64 c.kind,.string ⟨c.path.toArray⟩,.string ⟨c.dest.toArray⟩,.int .i64 c.pos,.string ⟨c.data.toArray⟩] 55))):=hd0 ((ah.refl _ w).alloc _);generalize w.alloc (.cells #[.int .i64 c.kind,.string ⟨c.path.toArray⟩,.string ⟨c.dest.toArray⟩,.int .i64 c.pos,.string ⟨c.data.toArray⟩] 55)=w0 at*;refine(Bm HT.out HW.out He.out c.path HC.out.path).mono ?_;rintro e w1 ⟨rfl,hk⟩;have ms:=hd0 (ab hk sI.out id);have iN:=hd0 (HT.out.keep hk);have FT:=hd0 (He.out.keep hk);have bU:=hd0 (dO.out.keep hk);clear hk sI HT He dO
 cases ha:zE T c.path with
 |error e=>
  have dW:(e==0)=false:=by have:=wI ha;rw[avj];omega
  have Hv:Hid (dA T c=(T,e)):=hd0 (by rw[dA,ha]);clear ha;unfold lj;go_wp2;go_ret;exact⟨by rw[Hv.out];rfl,by rw[Hv.out];exact bD.same lF.out bU.out⟩
 |ok j=>
  obtain⟨_,n,_,_,hg⟩:=zG HW.out ha;have c1:w1.cell? ⟨A j,1,none⟩=some (.bool n.dir):=iN.out.cell HW.out.sorted hg 1;have c3:w1.cell? ⟨A j,3,none⟩=some (.string ⟨n.data.toArray⟩):=iN.out.cell HW.out.sorted hg 3;unfold lj
  cases hd:n.dir with
  |true=>
   rw[hd]at c1;have Hv:Hid (dA T c=(T,143)):=hd0 (by rw[dA,ha];simp[hg,hd]);clear ha hg hd;go_wp2;go_ret;exact⟨by rw[Hv.out];rfl,by rw[Hv.out];exact bD.same lF.out bU.out⟩
  |false=>
   rw[hd]at c1;have Hv:Hid (dA T c=if(n.data.length:Int)<c.pos\/c.kind=2/\16384<c.pos+c.data.length then(T,145)else(T.upd j fun n=>{ n with data:=oB c n.data },0)):=hd0 (by rw[dA,ha];simp[hg,hd]);have yy:=(HW.out.file n ((ax HW.out.sorted).1 hg).1 hd).2;have Hnl:=hd0 yy;have Hg:=hd0 hg;have z0:w1.cell? ⟨w.heap.size,0,none⟩=some (.int .i64 c.kind):=aa ms.out 0;have z3:w1.cell? ⟨w.heap.size,3,none⟩=some (.int .i64 c.pos):=aa ms.out 3;have z4:w1.cell? ⟨w.heap.size,4,none⟩=some (.string ⟨c.data.toArray⟩):=aa ms.out 4;obtain⟨pos,uS⟩:∃ pos:Nat,c.pos=pos:=⟨c.pos.toNat,by have:=zg.out;omega⟩
   have HP:=hd0 uS;rw[uS]at z3;have mW:pos<=16384:=by have:=zg.out;omega
   have Hpb:=hd0 mW;obtain⟨kd,hkd⟩:∃ kd,c.kind=kd:=⟨_,rfl⟩
   rw[hkd]at z0;have HKd:=hd0 hkd;obtain⟨D,hD⟩:∃ D,c.data=D:=⟨_,rfl⟩
   rw[hD]at z4;have HD:=hd0 hD;have hDl:D.length<=512:=by rw[<-hD];exact Hdl.out
   have HDl:=hd0 hDl;clear ha hg hd yy uS hkd hD mW hDl;by_cases hb1:(n.data.length:Int)<pos
   ·have t6:Hid (dA T c=(T,145)):=hd0 (by rw[Hv.out,HP.out,auI (.inl hb1)]);go_wp2_with fail;refine gF (by kernel_rfl) (by kernel_rfl) ?_
    repeat (go_big_quiet_step (fail))
    refine avt ?_;intro _ cf;obtain⟨nq,rfl⟩:=cf;go_wp2;go_ret;exact⟨by rw[t6.out];rfl,by rw[t6.out];exact bD.same lF.out (bU.out.drewN nq)⟩
   ·have IY:pos<=n.data.length:=by omega
    have IZ:decide (n.data.length<pos)=false:=by rw[decide_eq_false_iff_not];omega
    have Od:IntKind.i64.wrap ((pos:Int)+(D.length:Int))=(pos:Int)+(D.length:Int):=by rw[IntKind.wrap_i64];have:=Hpb.out;have:=HDl.out;omega
    by_cases de:kd=2
    ·have KN:(kd==2)=true:=ave.2 de;by_cases fi:(16384:Int)<(pos:Int)+(D.length:Int)
     ·have t6:Hid (dA T c=(T,145)):=hd0 (by rw[Hv.out,HP.out,HKd.out,HD.out,auI (.inr ⟨de,fi⟩)]);have Kh:decide ((16384:Int)<(pos:Int)+(D.length:Int))=true:=by rw[decide_eq_true_iff];exact fi
      clear de IY hb1 fi;go_wp2_with fail;refine gF (by kernel_rfl) (by kernel_rfl) ?_
      repeat (go_big_quiet_step (fail))
      refine avt ?_;intro _ cf;obtain⟨nq,rfl⟩:=cf;go_wp2;go_ret;exact⟨by rw[t6.out];rfl,by rw[t6.out];exact bD.same lF.out (bU.out.drewN nq)⟩
     ·have t6:Hid (dA T c=(T.upd j fun n=>{ n with data:=oB c n.data },0)):=hd0 (by rw[Hv.out,HP.out,HKd.out,HD.out,auK (by rintro(h|⟨_,h⟩);exact hb1 h;exact fi h)]);have Hle:=hd0 IY;have mZ:(pos:Int)<=n.data.length:=by omega
      have nX:(0:Int)<=pos:=by omega
      have uR:¬ 9223372036854775807<min pos n.data.length+D.length:=by have:=Hpb.out;have:=HDl.out;omega
      have Kh:decide ((16384:Int)<(pos:Int)+(D.length:Int))=false:=by rw[decide_eq_false_iff_not];exact fi
      clear IY hb1 fi de;go_wp2_with fail;refine gF (by kernel_rfl) (by kernel_rfl) ?_
      repeat (go_big_quiet_step (fail))
      refine avt ?_;intro _ cf;obtain⟨nq,rfl⟩:=cf;go_wp2_with fail;refine nt (by kernel_rfl) (by kernel_rfl) ?_
      repeat (go_big_quiet_step (fail))
      refine avt ?_;intro _ cf;obtain⟨nr,rfl⟩:=cf;have uW:(n.data.take pos++D).length<=16896:=by have:=Hpb.out;have:=HDl.out;rw[auS,auH];omega
      obtain⟨s,hs⟩:∃ s,n.data.take pos++D=s:=⟨_,rfl⟩
      rw[hs]at uW;rw[hs];have Hs:=hd0 hs;have Hsl:=hd0 uW;have hf3:w1.frozen? ⟨A j,3,none⟩=false:=by
       have hB:=iN.out.node n ((ax HW.out.sorted).1 Hg.out).1;rw[(gH HW.out Hg.out).1]at hB;exact ae hB _ rfl
      clear hs uW IZ Od mZ nX uR Kh c1 z3 z4;by_cases aL:s.length<n.data.length
      ·have hX:Hid (s++n.data.drop s.length=oB c n.data):=hd0 (by
        unfold oB;rw[HP.out,avc,HD.out,Hs.out];simp only;rw[auI ⟨HKd.out.trans (by simpa using KN),aL⟩])
       have vw:(s.length:Int)<n.data.length:=by omega
       have lA:(s.length:Int)<=n.data.length:=by omega
       have tY:(0:Int)<=s.length:=by omega
       have uR:¬ 9223372036854775807<s.length+(n.data.length-s.length):=by have:=Hnl.out;omega
       have Kt:s.length<=n.data.length:=by omega
       go_wp2;go_ret;refine⟨by rw[t6.out];rfl,?_⟩;rw[t6.out];have dC:=(gH HW.out Hg.out).1;have hB:=(iN.out.keep ((ah.refl (fun _=>False) w1).drewN nr)).node n ((ax HW.out.sorted).1 Hg.out).1;rw[dC]at hB;have I3:=lF.out.rnode n ((ax HW.out.sorted).1 Hg.out).1;rw[dC]at I3;have ft:ah (·=A j) (w1.drewN nr) ((w1.drewN nr).setCell ⟨A j,3,none⟩ (.string ⟨(oB c n.data).toArray⟩)):=(ah.refl (fun x=>x=A j) _).setCell (p:=⟨A j,3,none⟩) (.inl rfl) _;have hX:=hX.out;rw[hX];exact⟨A,M,role,mK (f:=fun n=>{ n with data:=oB c n.data }) (iN.out.keep ((ah.refl (fun _=>False) w1).drewN nr)) HW.out.sorted (fun _=>⟨rfl,rfl,rfl⟩) Hg.out ft (ag hB 3 _),fun _ hb=>.inl hb,((bU.out.drewN nr).mono (fun _ _ h=>h.elim)).trans ft (fun i hi e=>by rw[e,I3];exact cT.noConfusion)⟩
      ·have hX:Hid (s=oB c n.data):=hd0 (by
        unfold oB;rw[HP.out,avc,HD.out,Hs.out];simp only;rw[auK (fun h=>aL h.2)])
       have vw:¬(s.length:Int)<n.data.length:=by omega
       clear aL;go_wp2;go_ret;refine⟨by rw[t6.out];rfl,?_⟩;rw[t6.out];have dC:=(gH HW.out Hg.out).1;have hB:=(iN.out.keep ((ah.refl (fun _=>False) w1).drewN nr)).node n ((ax HW.out.sorted).1 Hg.out).1;rw[dC]at hB;have I3:=lF.out.rnode n ((ax HW.out.sorted).1 Hg.out).1;rw[dC]at I3;have ft:ah (·=A j) (w1.drewN nr) ((w1.drewN nr).setCell ⟨A j,3,none⟩ (.string ⟨(oB c n.data).toArray⟩)):=(ah.refl (fun x=>x=A j) _).setCell (p:=⟨A j,3,none⟩) (.inl rfl) _;have hX:=hX.out;rw[hX];exact⟨A,M,role,mK (f:=fun n=>{ n with data:=oB c n.data }) (iN.out.keep ((ah.refl (fun _=>False) w1).drewN nr)) HW.out.sorted (fun _=>⟨rfl,rfl,rfl⟩) Hg.out ft (ag hB 3 _),fun _ hb=>.inl hb,((bU.out.drewN nr).mono (fun _ _ h=>h.elim)).trans ft (fun i hi e=>by rw[e,I3];exact cT.noConfusion)⟩
    ·have KN:(kd==2)=false:=avR de;have t6:Hid (dA T c=(T.upd j fun n=>{ n with data:=oB c n.data },0)):=hd0 (by rw[Hv.out,HP.out,HKd.out,HD.out,auK (by rintro(h|⟨h,_⟩);exact hb1 h;exact de h)]);have Hle:=hd0 IY;have mZ:(pos:Int)<=n.data.length:=by omega
     have nX:(0:Int)<=pos:=by omega
     have uR:¬ 9223372036854775807<min pos n.data.length+D.length:=by have:=Hpb.out;have:=HDl.out;omega
     have WA:=hd0 de;clear IY hb1 de;go_wp2_with fail;refine gF (by kernel_rfl) (by kernel_rfl) ?_
     repeat (go_big_quiet_step (fail))
     refine avt ?_;intro _ cf;obtain⟨nq,rfl⟩:=cf;go_wp2_with fail;refine nt (by kernel_rfl) (by kernel_rfl) ?_
     repeat (go_big_quiet_step (fail))
     refine avt ?_;intro _ cf;obtain⟨nr,rfl⟩:=cf;have hX:Hid (n.data.take pos++D=oB c n.data):=hd0 (by
      unfold oB;rw[HP.out,avc,HD.out];simp only;rw[auK (fun h=>WA.out (HKd.out.symm.trans h.1))])
     have hf3:w1.frozen? ⟨A j,3,none⟩=false:=by
      have hB:=iN.out.node n ((ax HW.out.sorted).1 Hg.out).1;rw[(gH HW.out Hg.out).1]at hB;exact ae hB _ rfl
     rw[hX.out];clear IZ Od mZ nX uR c1 z3 z4;go_wp2;go_ret;refine⟨by rw[t6.out];rfl,?_⟩;rw[t6.out];have dC:=(gH HW.out Hg.out).1;have hB:=(iN.out.keep ((ah.refl (fun _=>False) w1).drewN nr)).node n ((ax HW.out.sorted).1 Hg.out).1;rw[dC]at hB;have I3:=lF.out.rnode n ((ax HW.out.sorted).1 Hg.out).1;rw[dC]at I3;have ft:ah (·=A j) (w1.drewN nr) ((w1.drewN nr).setCell ⟨A j,3,none⟩ (.string ⟨(oB c n.data).toArray⟩)):=(ah.refl (fun x=>x=A j) _).setCell (p:=⟨A j,3,none⟩) (.inl rfl) _;exact⟨A,M,role,mK (f:=fun n=>{ n with data:=oB c n.data }) (iN.out.keep ((ah.refl (fun _=>False) w1).drewN nr)) HW.out.sorted (fun _=>⟨rfl,rfl,rfl⟩) Hg.out ft (ag hB 3 _),fun _ hb=>.inl hb,((bU.out.drewN nr).mono (fun _ _ h=>h.elim)).trans ft (fun i hi e=>by rw[e,I3];exact cT.noConfusion)⟩
end
end
section
open Go.RowKit
section
variable {w:World}{p tb:Nat}{T:Tr}{A M:Int->Nat}{role:Nat->cT}{d:Int->Nat}
theorem Ih (h:WF T d){f:Nat}{k:Int}(e:d7 T T.length 2=d7 T f k):f=0->T.get k=none:=by
 intro h0;subst h0;have:=h.fresh.1;rw[e]at this;exact this
theorem Ae (h:aI w p T tb A M role)(hw:WF T d)(he:tr w)(c:bP)(hc:c.Small)(hk:c.kind=0\/c.kind=1):
  Calls prog 192 #[.pointer (some ⟨p,0,none⟩),gt c] w fun e w'=>e=.returned (.int .i64 (gp T c).2)/\bD w w' p tb role (gp T c).1:=by
 have HC:=hd0 hc;have dE:af w (w.alloc (.cells (bL c) 55)):=(ah.refl _ w).alloc _;have HT:=hd0 (h.keep dE);have HW:=hd0 hw;have He:=hd0 (he.keep dE);have lF:=hd0 h;have sI:Hid (World.blk (w.alloc (.cells (bL c) 55)) w.heap.size (bL c) 55):=hd0 (aw _ _ _);have HKd:=hd0 hk;clear h hw he hc dE hk;go_enter func192,ntmps192;unfold gt bL;go_wp2_with fail;unfold bL at HT He sI;have dO:Hid (af w (w.alloc (.cells #[.int .i64 c.kind,.string ⟨c.path.toArray⟩,.string ⟨c.dest.toArray⟩,.int .i64 c.pos,.string ⟨c.data.toArray⟩] 55))):=hd0 ((ah.refl _ w).alloc _);generalize w.alloc (.cells #[.int .i64 c.kind,.string ⟨c.path.toArray⟩,.string ⟨c.dest.toArray⟩,.int .i64 c.pos,.string ⟨c.data.toArray⟩] 55)=w0 at*;refine(xu HT.out HW.out He.out c.path HC.out.path).mono ?_;rintro e w1 ⟨rfl,hk⟩;have ms:=hd0 (ab hk sI.out id);have iN:=hd0 (HT.out.keep hk);have bU:=hd0 (dO.out.keep hk);clear hk sI HT He dO
 cases hr:gC T c.path with
 |error e=>
  have dW:(e==0)=false:=by have:=rV hr;rw[avj];omega
  have Hv:Hid (gp T c=(T,e)):=hd0 (by rw[gp,hr]);clear hr;unfold xt;go_wp2;go_ret;exact⟨by rw[Hv.out];rfl,by rw[Hv.out];exact bD.same lF.out bU.out⟩
 |ok x=>
  obtain⟨k,s⟩:=x;obtain⟨q,up,hp,pG,cq,hf,Kz,zm,hn,sW,Wi⟩:=pQ HW.out hr;have uW:s.length<=16:=by
   simp only[aG,auT,auY]at cq;exact cq.1.1.2
  have jY:=hd0 (And.intro Kz (And.intro zm (And.intro hn sW)));have c0:w1.cell? ⟨p,0,none⟩=some (.map (some tb)):=aa iN.out.tree 0;have aV:=fun ty=>dG.len (tm:=247) iN.out.of underlying247 ty;have hla:(cm T A).length=T.length:=by simp[cm]
  rw[hla]at aV;have Hr:=hd0 hr;clear hr hp pG cq hf Kz zm hn sW Wi hla;unfold xt;by_cases hb:60<=T.length
  ·have Hv:Hid (gp T c=(T,145)):=hd0 (by rw[gp,Hr.out];simp only[hb,if_true]);have fi:(60:Int)<=T.length:=by omega
   clear hb;go_wp2;go_ret;exact⟨by rw[Hv.out];rfl,by rw[Hv.out];exact bD.same lF.out bU.out⟩
  ·have Hv:Hid (gp T c=((Tr.add ⟨d7 T T.length 2,c.kind==1,1,[],[]⟩ T).named k (me s (d7 T T.length 2)),0)):=hd0 (by rw[gp,Hr.out];simp only[hb,if_false]);have fi:¬(60:Int)<=T.length:=by omega
   have Hb:=hd0 hb;clear hb;go_wp2_with fail
   go_loop [8] (fun i=>∃(f:Nat) (k:Int),f<=T.length/\i=.int .i64 k/\k=2+(T.length:Int)-f/\Hid (d7 T T.length 2=d7 T f k)) (fun i=>(2+(T.length:Int)-intOf i).toNat)
   case atStart=>exact⟨T.length,2,auE _,rfl,by omega,hd0 rfl⟩
   case round=>
    obtain⟨f,i,hf,rfl,hi,Hfr⟩:=hrel;have hib:0<=i/\i<=100:=by have:=Hb.out;omega
    have Hi:=hd0 hi;clear hi;have r1:=dG.look1 (tm:=247) iN.out.of underlying247 underlying3 (Ab w1) i (by omega);rw[pY]at r1
    cases hg:T.get i with
    |some n=>
     rw[hg]at r1;simp only[avD]at r1;have hf1:1<=f:=by
      rcases Nat.eq_zero_or_pos f with h0|h0
      ·have:=Ih HW.out Hfr.out h0;rw[hg]at this;cases this
      ·exact h0
     have aiO:Hid (d7 T T.length 2=d7 T (f-1) (i+1)):=hd0 (by
      rw[Hfr.out];obtain⟨g,rfl⟩:∃ g,f=g+1:=⟨f-1,by omega⟩
      show(if(T.get i).isSome=true then d7 T g (i+1)else i)=_;rw[hg];rfl)
     clear hg;go_wp2_with fail
     go_round
     case rel=>exact⟨f-1,i+1,by omega,rfl,by have:=Hi.out;omega,aiO⟩
     case measure=>have:=Hi.out;simp[intOf];omega
    |none=>
     rw[hg]at r1;simp only[Option.map_none]at r1;have rx:Hid (d7 T T.length 2=i):=hd0 (by
      rw[Hfr.out]
      cases f with
      |zero=>rfl
      |succ g=>
       show(if(T.get i).isSome=true then d7 T g (i+1)else i)=_;rw[hg];rfl)
     have Xu:=hd0 hg;have z0:w1.cell? ⟨w.heap.size,0,none⟩=some (.int .i64 c.kind):=aa ms.out 0;have ajB:w.heap.size<w1.heap.size:=ai ms.out;have aru:p<w1.heap.size:=ai iN.out.tree;have Ju:=@run_makeMap prog;clear hg hf Hi Hfr aV;rcases HKd.out with dE|hk1
     ·have t6:Hid (gp T c=((Tr.add ⟨i,false,1,[],[]⟩ T).named k (me s i),0)):=hd0 (by
       rw[Hv.out,rx.out,dE];rfl)
      rw[dE]at z0;have Cx:k≠i:=fun e=>by have:=jY.out.1;rw[e,Xu.out]at this;cases this
      have Sv:=hd0 Cx;have RY:True:=trivial;clear Cx dE;go_wp2_with (first
       |(at_mapUpdate
         have _t:=RY;refine iH (iN.out.of.mod ((ah.refl (fun _=>False) w1).alloc _) id) underlying247 underlying3 i (by omega) w1.heap.size (by have:=Hb.out;simp[cm];omega) rfl rfl rfl rfl rfl ?_;intro w2 gV j5;have hnt:w1.heap.size≠tb:=fun e=>by have:=iN.out.of.lt;omega
         have jH:ah (·=tb) w1 w2:=((ah.refl (fun x=>x=tb) w1).alloc _).trans j5 (fun _ _ h=>h);have ow:World.blk w2 w1.heap.size (jT ⟨i,false,1,[],[]⟩ (w1.heap.size+1)) 246:=ab j5 (aw _ _ _) hnt;have OD:=sr (n0:=⟨i,false,1,[],[]⟩) (a:=w1.heap.size) (m:=w1.heap.size+1) iN.out (jB.1 Xu.out) jH (auE _) (by omega) (by omega) (ai ow) (fun h=>by cases h) gV ow (fun h=>by cases h);have kp:df (Tr.add ⟨i,false,1,[],[]⟩ T):=kT HW.out.sorted (jB.1 Xu.out);have CE:(Tr.add ⟨i,false,1,[],[]⟩ T).get k=some up:=by rw[vg HW.out.sorted (jB.1 Xu.out),auK Sv.out];exact jY.out.1
         have e4:w2.cell? ⟨A k,4,none⟩=some (.map (some (M k))):=by
          have h:=OD.cell kp CE 4;simp only[auK Sv.out]at h;rw[h];show some (Value.map (if up.dir=true then some (M k)else none))=_;rw[auI jY.out.2.1]
         have sL:=OD.names up ((ax kp).1 CE).1 jY.out.2.1;have RQ:up.num=k:=((ax kp).1 CE).2;rw[RQ]at sL;simp only[auK Sv.out]at sL;have HMN:=hd0 sL;have mR:=hd0 OD;have BV:=hd0 kp;have SC:=hd0 CE;have oF:Hid (ah (fun b=>role b≠.none) w w2):=hd0 ((bU.out.mono (fun _ _ h=>h.elim)).trans jH (fun j hj e=>by rw[e,lF.out.rof];exact cT.noConfusion));clear RY gV j5 hnt jH ow OD kp CE sL RQ)
       |(at_mapUpdate
         refine lq HMN.out underlying244 underlying9 underlying3 s (by omega) i (by omega) (by have:=jY.out.2.2.2;omega) rfl rfl rfl rfl rfl ?_;intro w3 lz iL;have aaY:=lz;have Fm:=gR (f:=me s i) mR.out BV.out SC.out jY.out.2.1 (by simp only[auK Sv.out];exact iL) (by simp only[auK Sv.out];exact lz);have AF:=hd0 Fm;have nW:Hid (ah (fun b=>role b≠.none) w w3):=hd0 (oF.out.trans iL (fun j hj e=>by
          have hr:=lF.out.rnames up ((ax HW.out.sorted).1 jY.out.1).1 jY.out.2.1;rw[((ax HW.out.sorted).1 jY.out.1).2]at hr;rw[e,hr];exact cT.noConfusion))
         clear lz aaY iL Fm e4))
      go_ret;refine⟨by rw[t6.out];rfl,?_⟩;rw[t6.out];refine⟨_,_,_,AF.out,fun b hb=>?_,nW.out⟩;have cK:=bU.out.size;by_cases e1:b=w1.heap.size
      ·exact .inr (by omega)
      ·by_cases e2:b=w1.heap.size+1
       ·exact .inr (by omega)
       ·left
        rw[auK e1,auK (fun h=>e2 h.1)]at hb;exact hb
     ·have t6:Hid (gp T c=((Tr.add ⟨i,true,1,[],[]⟩ T).named k (me s i),0)):=hd0 (by
       rw[Hv.out,rx.out,hk1];rfl)
      rw[hk1]at z0;have Cx:k≠i:=fun e=>by have:=jY.out.1;rw[e,Xu.out]at this;cases this
      have Sv:=hd0 Cx;have RY:True:=trivial;clear Cx hk1;go_wp2_with (first
       |(at_mapUpdate
         have _t:=RY;refine iH (iN.out.of.mod (((ah.refl (fun _=>False) w1).alloc _).alloc _) id) underlying247 underlying3 i (by omega) w1.heap.size (by have:=Hb.out;simp[cm];omega) rfl rfl rfl rfl rfl ?_;intro w2 gV j5;have hnt:w1.heap.size≠tb:=fun e=>by have:=iN.out.of.lt;omega
         have jH:ah (·=tb) w1 w2:=(((ah.refl (fun x=>x=tb) w1).alloc _).alloc _).trans j5 (fun _ _ h=>h);have ow:World.blk w2 w1.heap.size (jT ⟨i,true,1,[],[]⟩ (w1.heap.size+1)) 246:=ab j5 (aH (aw _ _ _) _) hnt;have OD:=sr (n0:=⟨i,true,1,[],[]⟩) (a:=w1.heap.size) (m:=w1.heap.size+1) iN.out (jB.1 Xu.out) jH (auE _) (by omega) (by omega) (ai ow) (fun _=>by have:=j5.size;simp at this;omega) gV ow (fun _=>(fu.made' (by simp) ()).mod j5 (fun e=>by have:=iN.out.of.lt;omega));have kp:df (Tr.add ⟨i,true,1,[],[]⟩ T):=kT HW.out.sorted (jB.1 Xu.out);have CE:(Tr.add ⟨i,true,1,[],[]⟩ T).get k=some up:=by rw[vg HW.out.sorted (jB.1 Xu.out),auK Sv.out];exact jY.out.1
         have e4:w2.cell? ⟨A k,4,none⟩=some (.map (some (M k))):=by
          have h:=OD.cell kp CE 4;simp only[auK Sv.out]at h;rw[h];show some (Value.map (if up.dir=true then some (M k)else none))=_;rw[auI jY.out.2.1]
         have sL:=OD.names up ((ax kp).1 CE).1 jY.out.2.1;have RQ:up.num=k:=((ax kp).1 CE).2;rw[RQ]at sL;simp only[auK Sv.out]at sL;have HMN:=hd0 sL;have mR:=hd0 OD;have BV:=hd0 kp;have SC:=hd0 CE;have oF:Hid (ah (fun b=>role b≠.none) w w2):=hd0 ((bU.out.mono (fun _ _ h=>h.elim)).trans jH (fun j hj e=>by rw[e,lF.out.rof];exact cT.noConfusion));clear RY gV j5 hnt jH ow OD kp CE sL RQ)
       |(at_mapUpdate
         refine lq HMN.out underlying244 underlying9 underlying3 s (by omega) i (by omega) (by have:=jY.out.2.2.2;omega) rfl rfl rfl rfl rfl ?_;intro w3 lz iL;have aaY:=lz;have Fm:=gR (f:=me s i) mR.out BV.out SC.out jY.out.2.1 (by simp only[auK Sv.out];exact iL) (by simp only[auK Sv.out];exact lz);have AF:=hd0 Fm;have nW:Hid (ah (fun b=>role b≠.none) w w3):=hd0 (oF.out.trans iL (fun j hj e=>by
          have hr:=lF.out.rnames up ((ax HW.out.sorted).1 jY.out.1).1 jY.out.2.1;rw[((ax HW.out.sorted).1 jY.out.1).2]at hr;rw[e,hr];exact cT.noConfusion))
         clear lz aaY iL Fm e4))
      go_ret;refine⟨by rw[t6.out];rfl,?_⟩;rw[t6.out];refine⟨_,_,_,AF.out,fun b hb=>?_,nW.out⟩;have cK:=bU.out.size;by_cases e1:b=w1.heap.size
      ·exact .inr (by omega)
      ·by_cases e2:b=w1.heap.size+1
       ·exact .inr (by omega)
       ·left
        rw[auK e1,auK (fun h=>e2 h.1)]at hb;exact hb
end
end
section
open Go.RowKit
section
variable {w:World}{p tb:Nat}{T:Tr}{A M:Int->Nat}{role:Nat->cT}{d:Int->Nat}
theorem xy (h:aI w p T tb A M role)(hw:WF T d)(he:tr w)(path:List UInt8)(hp:path.length<4294967281){q:List (List UInt8)}{s:List UInt8}{o:Int}(sM:bg path=some (q++[s]))(hf:aX T 1 q=.ok o):
  Calls prog 247 #[.pointer (some ⟨p,0,none⟩),.string ⟨path.toArray⟩] w fun e w'=>e=.returned (.tuple #[.pointer (some ⟨A o,0,none⟩),.string ⟨s.toArray⟩])/\af w w':=by
 have HT:=hd0 h;have HW:=hd0 hw;have He:=hd0 he;have Hp:=hd0 hp;have Hf:=hd0 hf;have FY:=hd0 sM;clear h hw he hp hf sM;go_enter func247,ntmps247;go_wp2_with fail;refine(mI path w He.out Hp.out).mono ?_;rintro e w1 ⟨v,rfl,ho,hk⟩;have hL:cU path=q++[s]:=by rw[cU,FY.out];rfl
 rw[hL]at ho;have HR:=hd0 (oO ho);have iN:=hd0 (HT.out.keep hk);have HK:=hd0 hk;obtain⟨a,cap,hv⟩:=mJ HR.out;rw[kO]at hv;have yY:(q++[s]).length<=cap:=by rw[hv]at ho;exact J3 ho
 obtain⟨N,hN⟩:∃ N,q.length=N:=⟨_,rfl⟩
 have OP:v=.slice a (N+1) cap:=by rw[hv];simp[hN]
 subst OP;obtain⟨Ww,b,o',rfl,c0⟩:=Ea HR.out hN;have TR:=hd0 Ww;have hcp:N+1<=cap:=by simp[hN]at yY;omega
 have Hl:=hd0 (jE FY.out);have Hq:Hid (q.length=N):=hd0 hN;have hN8:N<=7:=by have:=Hl.out.1;simp at this;omega
 obtain⟨pe,sZ⟩:∃ pe,eP path=pe:=⟨_,rfl⟩
 rw[sZ];clear sZ hL hv Ww hN HR yY ho hk;go_wp2_with fail;refine(xr iN.out HW.out _ q TR.out (by have:=Hq.out;omega) (fun x hx=>by have:=Hl.out.2 x (by simp[hx]);omega)).mono ?_;rintro e w2 ⟨rfl,de⟩;have c1:w2.cell? ⟨b,o'+N,none⟩=some (.string ⟨s.toArray⟩):=by rw[de.cell (p:=⟨b,o'+N,none⟩) (ak c0) id];exact c0
 have bu:=hd0 (HK.out.keep de);clear de c0;rw[Hf.out];unfold lj;go_wp2_with fail;have q1:IntKind.i64.wrap (N:Int)=(N:Int):=by rw[IntKind.wrap_i64];omega
 have q2:(0:Int)<=N:=by omega
 have q3:(N:Int)<(N:Int)+1:=by omega
 refine gF (by kernel_rfl) (by kernel_rfl) ?_
 repeat (quiet_step (fail))
 refine avt ?_;intro _ cf;obtain⟨nq,rfl⟩:=cf;go_wp2;go_ret2;exact⟨rfl,bu.out.drewN _⟩
theorem QB {T:Tr}{j:Int}{f:Nd->Nd}(hf:∀ n,(f n).num=n.num):(T.upd j f).drop j=T.drop j:=by
 unfold Tr.upd Tr.drop
 induction T with
 |nil=>rfl
 |cons y r ih=>
  rw[auy,avN,avN,ih];have e:(if(y.num==j)=true then f y else y).num=y.num:=by
   split
   ·exact hf y
   ·rfl
  rw[e];by_cases h:y.num=j
  ·rw[ave.2 h];rfl
  ·rw[avR h];rfl
theorem Ei (h:aI w p T tb A M role)(hw:WF T d)(he:tr w)(c:bP)(hc:c.Small):
  Calls prog 196 #[.pointer (some ⟨p,0,none⟩),gt c] w fun e w'=>e=.returned (.int .i64 (dx T c).2)/\bD w w' p tb role (dx T c).1:=by
 have HC:=hd0 hc;have dE:af w (w.alloc (.cells (bL c) 55)):=(ah.refl _ w).alloc _;have HT:=hd0 (h.keep dE);have HW:=hd0 hw;have He:=hd0 (he.keep dE);have lF:=hd0 h;have sI:Hid (World.blk (w.alloc (.cells (bL c) 55)) w.heap.size (bL c) 55):=hd0 (aw _ _ _);clear h hw he hc dE;by_cases mY:c.path=[47]
 ·have hq:(c.path==[47])=true:=ave.2 mY;have Hv:Hid (dx T c=(T,144)):=hd0 (by rw[dx,auI mY]);clear mY HT He sI;go_enter func196,ntmps196;unfold gt bL;go_wp2;go_ret;exact⟨by rw[Hv.out];rfl,by rw[Hv.out];exact bD.same lF.out ((ah.refl _ w).alloc _)⟩
 ·have hq:(c.path==[47])=false:=avR mY;have oy:=hd0 mY;clear mY;go_enter func196,ntmps196;unfold gt bL;go_wp2_with fail;unfold bL at HT He sI;have dO:Hid (af w (w.alloc (.cells #[.int .i64 c.kind,.string ⟨c.path.toArray⟩,.string ⟨c.dest.toArray⟩,.int .i64 c.pos,.string ⟨c.data.toArray⟩] 55))):=hd0 ((ah.refl _ w).alloc _);generalize w.alloc (.cells #[.int .i64 c.kind,.string ⟨c.path.toArray⟩,.string ⟨c.dest.toArray⟩,.int .i64 c.pos,.string ⟨c.data.toArray⟩] 55)=w0 at*;refine(Bm HT.out HW.out He.out c.path HC.out.path).mono ?_;rintro e w1 ⟨rfl,hk⟩;have ms:=hd0 (ab hk sI.out id);have iN:=hd0 (HT.out.keep hk);have FT:=hd0 (He.out.keep hk);have bU:=hd0 (dO.out.keep hk);clear hk sI HT He dO
  cases ha:zE T c.path with
  |error e=>
   have dW:(e==0)=false:=by have:=wI ha;rw[avj];omega
   have Hv:Hid (dx T c=(T,e)):=hd0 (by rw[dx,auK oy.out,ha]);clear ha;unfold lj;go_wp2;go_ret;exact⟨by rw[Hv.out];rfl,by rw[Hv.out];exact bD.same lF.out bU.out⟩
  |ok j=>
   obtain⟨_,n,_,_,hg⟩:=zG HW.out ha;obtain⟨q,s,o,up,sM,hfj,ON,N4,nR,hs⟩:=vi HW.out ha oy.out;have c4:w1.cell? ⟨A j,4,none⟩=some (.map (if n.dir=true then some (M j)else none)):=iN.out.cell HW.out.sorted hg 4;obtain⟨dC,Cd⟩:=gH HW.out hg;have hm:=((ax HW.out.sorted).1 hg).1;have aV:∀ ty,(Builtin.len_ #[244] ty #[.map (if n.dir=true then some (M j)else none)]).run prog w1=.ok (.int .i64 (n.names.length:Int)) w1:=fun ty=>by
    by_cases hd:n.dir=true
    ·rw[auI hd];have cw:=iN.out.names n hm hd;rw[dC]at cw;exact fu.len cw underlying244 ty
    ·rw[auK hd];have:n.names=[]:=(HW.out.file n hm (by simpa using hd)).1;rw[this];exact Maps.len_nil underlying244 ty
   have rx:=hd0 dC;have Hg:=hd0 hg;have jY:=hd0 (And.intro N4 (And.intro nR hs));have FY:=hd0 sM;have Hfo:=hd0 ON;have uW:s.length<=16:=by
    have:=(jE sM).2 s (by simp);exact this
   have sW:=(HW.out.names n hm).1;generalize BZ:(Value.map (if n.dir=true then some (M j)else none))=mp at*;clear BZ;have z1:w1.cell? ⟨w.heap.size,1,none⟩=some (.string ⟨c.path.toArray⟩):=aa ms.out 1;unfold lj;by_cases nZ:n.names=[]
   ·have tY:n.names.length=0:=by rw[nZ];rfl
    rw[tY]at aV;have Hnm:=hd0 nZ;have Hv:Hid (dx T c=(if n.links=1 then(T.named o (fT s)).drop j else(T.named o (fT s)).upd j fun n=>{ n with links:=n.links-1 },0)):=hd0 (by
     rw[dx,auK oy.out,ha];simp[hg,nZ,sM,ON])
    clear ha hg hfj sM ON N4 nR hs dC hm nZ sW tY;go_wp2_with fail;refine(xy iN.out HW.out FT.out c.path HC.out.path FY.out Hfo.out).mono ?_;rintro e w2 ⟨rfl,hk⟩;have mR:=hd0 (iN.out.keep hk);have bu:=hd0 (bU.out.keep hk);clear hk c4 z1 aV;obtain⟨Vx,Jj⟩:=(ax HW.out.sorted).1 jY.out.1;have d4:w2.cell? ⟨A o,4,none⟩=some (.map (if up.dir=true then some (M o)else none)):=mR.out.cell HW.out.sorted jY.out.1 4;rw[auI jY.out.2.1]at d4;have cw:=mR.out.names up Vx jY.out.2.1;rw[Jj]at cw;have hjo:j≠o:=fun e=>by
     have h1:=Hg.out;rw[e,jY.out.1]at h1;have h2:=avG h1;have h3:=jY.out.2.2;rw[h2,Hnm.out]at h3;cases h3
    have Hjo:=hd0 hjo;have VT:=hd0 (And.intro Vx Jj);have yV:=hd0 cw;have Wz:=hd0 (ur HW.out Hg.out);clear hjo Vx Jj cw;by_cases vw:n.links=1
    ·have Hl1:=hd0 vw;clear vw;go_wp2_with (
      (at_delete
       refine jV yV.out underlying244 underlying9 s (by omega) rfl rfl rfl rfl ?_;intro w3 lz iL;have Fm:=gR (f:=fT s) mR.out HW.out.sorted jY.out.1 jY.out.2.1 iL lz;have rG:df (T.named o (fT s)):=jc (fun _=>rfl) HW.out.sorted;have Kl:(T.named o (fT s)).get j=some n:=by rw[eY,auK Hjo.out];exact Hg.out
       have Fq:=Fm.node n ((ax rG).1 Kl).1;rw[rx.out]at Fq;have ox:=hd0 Fq;have AF:=hd0 Fm;have I8:=hd0 rG;have HG3:=hd0 Kl;have nW:Hid (ah (fun b=>role b≠.none) w w3):=hd0 ((bu.out.mono (fun _ _ h=>h.elim)).trans iL (fun i hi e=>by
        have hr:=lF.out.rnames up VT.out.1 jY.out.2.1;rw[VT.out.2]at hr;rw[e,hr];exact cT.noConfusion))
       have e2:w3.cell? ⟨A j,2,none⟩=some (.int .i64 1):=by rw[<-Hl1.out];exact aa Fq 2
       have e3:w3.frozen? ⟨A j,2,none⟩=false:=ae Fq _ rfl;clear lz iL Fm rG Kl Fq d4))
     have ft:ah (·=A j) w3 (w3.setCell ⟨A j,2,none⟩ (.int .i64 0)):=(ah.refl (fun x=>x=A j) w3).setCell (p:=⟨A j,2,none⟩) (.inl rfl) _;have hB4:=ag ox.out 2 (.int .i64 0);have ht4:=mK (f:=fun n=>{ n with links:=0 }) AF.out I8.out (fun _=>⟨rfl,rfl,rfl⟩) HG3.out ft hB4;have I3:=lF.out.rnode n ((ax HW.out.sorted).1 Hg.out).1;rw[rx.out]at I3;have rH:=hd0 (nW.out.trans ft (fun i hi e=>by rw[e,I3];exact cT.noConfusion));generalize w3.setCell ⟨A j,2,none⟩ (.int .i64 0)=w4 at*;have f0:w4.cell? ⟨p,0,none⟩=some (.map (some tb)):=aa ht4.tree 0;have f1:w4.cell? ⟨A j,0,none⟩=some (.int .i64 j):=by rw[<-rx.out];rw[<-rx.out]at hB4;exact aa hB4 0
     have Sf:=hd0 ht4;clear ht4 hB4 ft I3 e2 e3;refine dD 8 (by kernel_rfl) (by kernel_rfl) ?_;simp only[avn,avo,avq,avr]
     repeat (quiet_step (fail))
     refine avt ?_;intro _ cf;obtain⟨nq,rfl⟩:=cf;have aaG:=Sf.out.keep ((ah.refl (fun _=>False) w4).drewN nq);refine uK aaG.of underlying247 underlying3 j Cd rfl rfl rfl rfl ?_;intro w5 zc SP;have ht5:=Mp aaG SP zc;rw[QB (f:=fun n=>{ n with links:=0 }) (fun _=>rfl)]at ht5;have VI:=hd0 ht5;have Cr:=hd0 ((rH.out.drewN nq).trans SP (fun i hi e=>by rw[e,lF.out.rof];exact cT.noConfusion));clear ht5 zc SP aaG f0 f1;go_wp2;go_ret;refine⟨by rw[Hv.out];rfl,?_⟩;rw[Hv.out,auI Hl1.out];exact⟨A,M,role,VI.out,fun _ hb=>.inl hb,Cr.out⟩
    ·have Hl1:=hd0 vw;have hq3:(n.links-1==0)=false:=by rw[avj];omega
     have AI:=Wz.out;clear vw;go_wp2_with (
      (at_delete
       refine jV yV.out underlying244 underlying9 s (by omega) rfl rfl rfl rfl ?_;intro w3 lz iL;have Fm:=gR (f:=fT s) mR.out HW.out.sorted jY.out.1 jY.out.2.1 iL lz;have rG:df (T.named o (fT s)):=jc (fun _=>rfl) HW.out.sorted;have Kl:(T.named o (fT s)).get j=some n:=by rw[eY,auK Hjo.out];exact Hg.out
       have Fq:=Fm.node n ((ax rG).1 Kl).1;rw[rx.out]at Fq;have ox:=hd0 Fq;have AF:=hd0 Fm;have I8:=hd0 rG;have HG3:=hd0 Kl;have nW:Hid (ah (fun b=>role b≠.none) w w3):=hd0 ((bu.out.mono (fun _ _ h=>h.elim)).trans iL (fun i hi e=>by
        have hr:=lF.out.rnames up VT.out.1 jY.out.2.1;rw[VT.out.2]at hr;rw[e,hr];exact cT.noConfusion))
       have e2:w3.cell? ⟨A j,2,none⟩=some (.int .i64 n.links):=aa Fq 2;have e3:w3.frozen? ⟨A j,2,none⟩=false:=ae Fq _ rfl;clear lz iL Fm rG Kl Fq d4))
     go_ret;refine⟨by rw[Hv.out];rfl,?_⟩;rw[Hv.out,auK Hl1.out];have ft:ah (·=A j) w3 (w3.setCell ⟨A j,2,none⟩ (.int .i64 (n.links-1))):=(ah.refl (fun x=>x=A j) w3).setCell (p:=⟨A j,2,none⟩) (.inl rfl) _;have I3:=lF.out.rnode n ((ax HW.out.sorted).1 Hg.out).1;rw[rx.out]at I3;exact⟨A,M,role,mK (f:=fun n=>{ n with links:=n.links-1 }) AF.out I8.out (fun _=>⟨rfl,rfl,rfl⟩) HG3.out ft (ag ox.out 2 _),fun _ hb=>.inl hb,nW.out.trans ft (fun i hi e=>by rw[e,I3];exact cT.noConfusion)⟩
   ·have tY:¬((n.names.length:Int)=0):=by
     intro e;exact nZ (au8.1 (by omega))
    have vw:(0:Int)<n.names.length:=by omega
    have Hv:Hid (dx T c=(T,144)):=hd0 (by rw[dx,auK oy.out,ha];simp[hg,nZ]);clear ha hg hfj sM ON N4 nR hs dC hm nZ;go_wp2;go_ret;exact⟨by rw[Hv.out];rfl,by rw[Hv.out];exact bD.same lF.out bU.out⟩
end
end
section
open Go.RowKit Go.Maps
theorem UR {α:Type}(g:α->Nat):∀(l:List α) (m0 m:Nat),m0<=m->(∀ q∈l,g q<=m)->(m=m0\/∃ q∈l,m=g q)->l.foldl (fun m p=>max m (g p)) m0=m:=by
 intro l
 induction l with
 |nil=>
  intro m0 m h0 _ h2;rcases h2 with rfl|⟨q,hq,_⟩
  ·rfl
  ·cases hq
 |cons x r ih=>
  intro m0 m h0 h1 h2;rw[List.foldl_cons];refine ih (max m0 (g x)) m (by have:=h1 x (by simp);omega) (fun q hq=>h1 q (by simp[hq])) ?_;rcases h2 with rfl|⟨q,hq,e⟩
  ·left;have:=h1 x (by simp);omega
  ·rcases auX.1 hq with rfl|hq
   ·left;omega
   ·right;exact⟨q,hq,e⟩
theorem J6 {T:Tr}:∀(f:Nat) (k:Int),fI T f k<=f:=by
 intro f
 induction f with
 |zero=>intro k;exact auE _
 |succ f ih=>
  intro k;have key:∀(l:Nm) (m:Nat),m<=f+1->l.foldl (fun m p=>max m (1+fI T f p.2)) m<=f+1:=by
   intro l
   induction l with
   |nil=>intro m h;exact h
   |cons q r ih2=>
    intro m h;rw[List.foldl_cons];exact ih2 _ (by have:=ih q.2;omega)
  show(match T.get k with|none=>0|some n=>_)<=_;split
  ·omega
  ·exact key _ 0 (by omega)
theorem UT {l:Nm}{x:List UInt8}{c:Int}{yd:DataW Value}{yp:List MemPlace}{te:TypeId}(he:prog.underlying te=some (.int .i64))(hv:plainElem prog te (.int .i64 c)=some (yd,yp))(ni:∀ zd,(Ol l).atKey (.string x) zd=yd):bF x l=some c:=by
 obtain⟨a,ea,ey,_⟩:=plainElem_int_inv he hv;have ea2:c=a:=by injection ea
 subst ea2;have ey2:yd=oN c:=avO Prod.fst ey;have h1:=(kL (ef:=oN) jz x l (oN 0)).symm.trans (ni (oN 0));have h2:=(kL (ef:=oN) jz x l (oN 1)).symm.trans (ni (oN 1));rw[ey2]at h1 h2
 cases hg:bF x l with
 |none=>
  rw[hg]at h1 h2;have e1:=AT (a:=0) (b:=c) h1;have e2:=AT (a:=1) (b:=c) h2;omega
 |some b=>
  rw[hg]at h1;exact avO some (AT h1)
section
variable {w:World}{p tb:Nat}{T:Tr}{A M:Int->Nat}{role:Nat->cT}{d:Int->Nat}
theorem QC (hw:WF T d):∀(f:Nat) (k:Int) (n:Nd) (w:World),aI w p T tb A M role->T.get k=some n->1<=f->f<=100->(n.dir=true->9<=d k+f)->
  Calls prog 246 #[.pointer (some ⟨p,0,none⟩),.pointer (some ⟨A k,0,none⟩)] w fun e w'=>e=.returned (.int .i64 (fI T f k:Int))/\af w w':=by
 have HW:=hd0 hw;clear hw;intro f
 induction f with
 |zero=>intro k n w _ _ h1 _ _;omega
 |succ f ih=>
  intro k n w h hg h1 aqC hd9;have HT:=hd0 h;have Hg:=hd0 hg;have IH:=hd0 ih;have c4:w.cell? ⟨A k,4,none⟩=some (.map (if n.dir=true then some (M k)else none)):=h.cell HW.out.sorted hg 4;obtain⟨hm,hk⟩:=(ax HW.out.sorted).1 hg;have OS:fI T (f+1) k=n.names.foldl (fun m p=>max m (1+fI T f p.2)) 0:=by
   show(match T.get k with|none=>0|some n=>_)=_;rw[hg]
  have Hm:=hd0 (And.intro hm hk);have Hdv:=hd0 OS;have H9:=hd0 hd9;clear h hg ih h1 hm hk OS hd9
  cases hd:n.dir with
  |false=>
   rw[hd]at c4;have nZ:=(HW.out.file n Hm.out.1 hd).1;have Hv:Hid (fI T (f+1) k=0):=hd0 (by rw[Hdv.out,nZ];rfl);clear nZ;have KG:=run_range_nilMap (P:=prog) w _ _ _ underlying244;have tT:=fun ty=>run_next_nilMap (P:=prog) w ty 0 0 #[];go_enter func246,ntmps246;go_wp2_with fail;refine wp_loop_rounds 1 ?_;rw[rounds_succ];go_wp2;go_ret;exact⟨by rw[Hv.out];rfl,(ah.refl _ w).alloc _⟩
  |true=>
   rw[hd,auI rfl]at c4;have cw:=HT.out.names n Hm.out.1 hd;rw[Hm.out.2]at cw;have yV:=hd0 cw;have Hd:=hd0 hd;clear cw hd;go_enter func246,ntmps246;go_wp2_with (at_range;refine wpList_range_own _ rfl _ 244 rfl 9 3 (string_keyed underlying9) underlying244 _ (M k) n.names.length (Ol n.names) rfl yV.out ?_;intro w0 Fp XK SR)
   go_frame
   have BW:=hd0 Fp;have dO:=hd0 (qI XK);clear Fp XK SR c4
   go_loopw [5] (fun v wr=>∃(left:Lit->Bool) (j8 m:Nat),World.ranges wr prog 9 (plainElem prog 3) (M k) w.heap.size n.names.length (Ol n.names) left j8/\v=.int .i64 (m:Int)/\af w wr/\Hid (m<=101/\(∀ q∈n.names,left (.string q.1)=false->1+fI T f q.2<=m)/\(m=0\/∃ q∈n.names,m=1+fI T f q.2))) (fun _ wr=>wr.rangeLeft (M k) w.heap.size)
   case atStart=>
    refine⟨_,_,0,BW.out,rfl,dO.out,hd0 ⟨by omega,fun q hq hl=>?_,.inl rfl⟩⟩;rw[pM jz,(cC (HW.out.snames n Hm.out.1)).2 hq]at hl
    cases hl
   case round=>
    clear BW dO;obtain⟨left,j8,m,TH,rfl,hK,Hq⟩:=hrel;have IV:=hd0 TH;have HK:=hd0 hK;clear TH hK;go_wp2_with (at_next;refine wpList_next_ranges wr rfl _ rfl 9 (string_keyed underlying9) (plainElem prog 3) (fun x:List UInt8=>.string ⟨x.toArray⟩) (Value.int .i64) (fun key kl h=>by obtain⟨x,hx,_⟩:=Maps.keyOf_str underlying9 h;exact⟨x,hx⟩) (fun v y h=>by obtain⟨a,ha,_⟩:=plainElem_int_inv underlying3 h;exact⟨a,ha⟩) (M k) w.heap.size _ (Ol n.names) left j8 rfl IV.out ?_ ?_)
    ·intro _ tY;have Hv:Hid (fI T (f+1) k=m):=hd0 (by
      rw[Hdv.out];exact UR _ _ 0 m (avk _) (fun q hq=>Hq.out.2.1 q hq (tY _)) Hq.out.2.2)
     clear tY;go_wp2;go_ret;exact⟨by rw[Hv.out];rfl,HK.out⟩
    ·intro x c kl yd yp w' sU IR AI hv ni Fb aL hg1 sQ hen;obtain⟨x',ex,rfl,_⟩:=Maps.keyOf_str underlying9 IR;have ex2:x'=x:=by simpa[Go.Proofs.encStr]using ex.symm
     subst ex2;have TE:=UT underlying3 hv ni;have Hin:=hd0 ((cC (HW.out.snames n Hm.out.1)).1 TE);obtain⟨_,nc,Kk,N9⟩:=HW.out.closed n Hm.out.1 _ Hin.out;have Hgc:=hd0 ((ax HW.out.sorted).2 ⟨Kk,N9⟩);have Xm:Hid (af w w'):=hd0 (HK.out.grown hg1 (fun i e=>.inr (by injection e with e;omega)));have HT':=hd0 (HT.out.keep Xm.out);have d0:w'.cell? ⟨p,0,none⟩=some (.map (some tb)):=aa HT'.out.tree 0;have Kp:=(gH HW.out Hgc.out).2;have r1:=HT'.out.look1 HW.out.sorted Hgc.out Kp;have h7:=HW.out.deep n Hm.out.1 (List.ne_nil_of_mem Hin.out);rw[Hm.out.2]at h7;have h9:=H9.out Hd.out;have Hfu:Hid (1<=f/\f<=100/\(nc.dir=true->9<=d c+f)):=hd0 ⟨by omega,by omega,fun hcd=>by
      have:=HW.out.depth n Hm.out.1 _ Hin.out nc Kk N9 hcd;rw[Hm.out.2]at this;simp only at this;omega⟩
     have uO:=hd0 Fb;have Hlt:=hd0 (show sU<j8 from aL);have sS:=hd0 (IV.out.left_eq);clear IR AI hv ni Fb aL hg1 sQ ex TE Kk N9 h7 h9 Kp;go_wp2_with fail;refine(IH.out c nc w' HT'.out Hgc.out Hfu.out.1 Hfu.out.2.1 Hfu.out.2.2).mono ?_;rintro e w2 ⟨rfl,de⟩;have bu:=hd0 (Xm.out.keep de);have Sh:=hd0 (uO.out.kept (Gl de) (by simp) (by simp));obtain⟨dv,OS⟩:∃ dv,fI T f c=dv:=⟨_,rfl⟩
     have Hdl:=J6 (T:=T) f c;rw[OS]at Hdl;rw[OS];have mT:=Hq.out.1;have hfb:=Hfu.out.2.1;have aaa:max (m:Int) (1+(dv:Int))=((max m (1+dv):Nat):Int):=by omega
     have Hq2:Hid (max m (1+dv)<=101/\(∀ q∈n.names,(left (.string q.1)&&!(Lit.string q.1).sameKey (.string x'))=false->1+fI T f q.2<=max m (1+dv))/\(max m (1+dv)=0\/∃ q∈n.names,max m (1+dv)=1+fI T f q.2)):=hd0 (by
      refine⟨by omega,fun q hq hl=>?_,?_⟩
      ·cases hlq:left (.string q.1)with
       |false=>have:=Hq.out.2.1 q hq hlq;omega
       |true=>
        rw[hlq]at hl;have e:q.1=x':=by simpa[Lit.sameKey]using hl
        have e2:=wu (HW.out.snames n Hm.out.1) hq Hin.out e;rw[e2];show 1+fI T f c<=_;rw[OS];omega
      ·by_cases hge:m<=1+dv
       ·exact .inr ⟨_,Hin.out,by show _=1+fI T f c;rw[OS];omega⟩
       ·rcases Hq.out.2.2 with h0|⟨q,hq,e⟩
        ·omega
        ·exact .inr ⟨q,hq,by omega⟩)
     clear de OS hen d0 r1;go_wp2_with fail;refine⟨⟨_,sU,max m (1+dv),Sh.out,rfl,bu.out,Hq2⟩,?_⟩;rw[Sh.out.left_eq,sS.out];exact Hlt.out
end
end
section
open Go.RowKit Go.Maps
theorem yN (s p:List UInt8)(w:World):
  Calls prog 170 #[.string ⟨s.toArray⟩,.string ⟨p.toArray⟩] w fun e w'=>e=.returned (.bool (Lib.hasPrefix s p))/\w'=w:=
 Tryz.strings_HasPrefix ⟨s.toArray⟩ ⟨p.toArray⟩ w
section
variable {w:World}{p tb:Nat}{T:Tr}{A M:Int->Nat}{role:Nat->cT}{d:Int->Nat}
theorem Ej (h:aI w p T tb A M role)(hw:WF T d)(he:tr w)(c:bP)(hc:c.Small):
  Calls prog 195 #[.pointer (some ⟨p,0,none⟩),gt c] w fun e w'=>e=.returned (.int .i64 (bY T c).2)/\bD w w' p tb role (bY T c).1:=by
 have HC:=hd0 hc;have dE:af w (w.alloc (.cells (bL c) 55)):=(ah.refl _ w).alloc _;have HT:=hd0 (h.keep dE);have HW:=hd0 hw;have He:=hd0 (he.keep dE);have lF:=hd0 h;have sI:Hid (World.blk (w.alloc (.cells (bL c) 55)) w.heap.size (bL c) 55):=hd0 (aw _ _ _);clear h hw he hc dE;by_cases mY:c.path=[47]
 ·have hq:(c.path==[47])=true:=ave.2 mY;have Hv:Hid (bY T c=(T,144)):=hd0 (by rw[bY,auI mY]);clear mY HT He sI;go_enter func195,ntmps195;unfold gt bL;go_wp2;go_ret;exact⟨by rw[Hv.out];rfl,by rw[Hv.out];exact bD.same lF.out ((ah.refl _ w).alloc _)⟩
 ·have hq:(c.path==[47])=false:=avR mY;have oy:=hd0 mY;clear mY;go_enter func195,ntmps195;unfold gt bL;go_wp2_with fail;unfold bL at HT He sI;have dO:Hid (af w (w.alloc (.cells #[.int .i64 c.kind,.string ⟨c.path.toArray⟩,.string ⟨c.dest.toArray⟩,.int .i64 c.pos,.string ⟨c.data.toArray⟩] 55))):=hd0 ((ah.refl _ w).alloc _);generalize w.alloc (.cells #[.int .i64 c.kind,.string ⟨c.path.toArray⟩,.string ⟨c.dest.toArray⟩,.int .i64 c.pos,.string ⟨c.data.toArray⟩] 55)=w0 at*;refine(Bm HT.out HW.out He.out c.path HC.out.path).mono ?_;rintro e w1 ⟨rfl,hk⟩;have ms:=hd0 (ab hk sI.out id);have iN:=hd0 (HT.out.keep hk);have FT:=hd0 (He.out.keep hk);have bU:=hd0 (dO.out.keep hk);clear hk sI HT He dO
  cases ha:zE T c.path with
  |error e=>
   have dW:(e==0)=false:=by have:=wI ha;rw[avj];omega
   have Hv:Hid (bY T c=(T,e)):=hd0 (by rw[bY,auK oy.out,ha]);clear ha;unfold lj;go_wp2;go_ret;exact⟨by rw[Hv.out];rfl,by rw[Hv.out];exact bD.same lF.out bU.out⟩
  |ok j=>
   obtain⟨_,n,_,_,hg⟩:=zG HW.out ha;obtain⟨q,s,o,up,sM,hfj,ON,N4,nR,hs⟩:=vi HW.out ha oy.out;obtain⟨dC,Cd⟩:=gH HW.out hg;have rx:=hd0 dC;have Hg:=hd0 hg;have jY:=hd0 (And.intro N4 (And.intro nR hs));have FY:=hd0 sM;have Hfo:=hd0 ON;have Ha:=hd0 ha;have Hsl:=hd0 ((jE sM).2 s (by simp));clear ha hg sM hfj ON N4 nR hs dC;have z1:w1.cell? ⟨w.heap.size,1,none⟩=some (.string ⟨c.path.toArray⟩):=aa ms.out 1;have z2:w1.cell? ⟨w.heap.size,2,none⟩=some (.string ⟨c.dest.toArray⟩):=aa ms.out 2;have jJ:¬ 9223372036854775807<c.path.length+1:=by have:=HC.out.path;omega
   unfold lj;go_wp2_with fail;refine(yN c.dest (c.path++[47]) w1).mono ?_;rintro e w' ⟨rfl,rfl⟩
   cases FW:Lib.hasPrefix c.dest (c.path++[47])with
   |true=>
    have Hv:Hid (bY T c=(T,144)):=hd0 (by rw[bY,auK oy.out,Ha.out];simp only[FW,if_true]);clear FW;go_wp2;go_ret;exact⟨by rw[Hv.out];rfl,by rw[Hv.out];exact bD.same lF.out bU.out⟩
   |false=>
    have Hpx:=hd0 FW;clear FW;go_wp2_with fail;refine(xu iN.out HW.out FT.out c.dest HC.out.dest).mono ?_;rintro e w2 ⟨rfl,hk⟩;have mR:=hd0 (iN.out.keep hk);have bu:=hd0 (bU.out.keep hk);have Wb:=hd0 (FT.out.keep hk);have VQ:=hd0 (ab hk ms.out id);clear hk z1 z2 ms iN FT bU
    cases hr:gC T c.dest with
    |error e=>
     have dW:(e==0)=false:=by have:=rV hr;rw[avj];omega
     have Hv:Hid (bY T c=(T,e)):=hd0 (by rw[bY,auK oy.out,Ha.out];simp only[Hpx.out,hr];rfl);clear hr;unfold xt;go_wp2;go_ret;exact⟨by rw[Hv.out];rfl,by rw[Hv.out];exact bD.same lF.out bu.out⟩
    |ok x=>
     obtain⟨k,s2⟩:=x;obtain⟨q2,up2,BP,pG,cq,hf2,Kz,zm,AK,sW,Wi⟩:=pQ HW.out hr;have OA:Hid (bY T c=if 8<(q2++[s2]).length+fI T 9 j then(T,145)else((T.named o (fT s)).named k (me s2 j),0)):=hd0 (by
      rw[bY,auK oy.out,Ha.out];simp only[Hpx.out,hr,BP,avb,FY.out,List.dropLast_concat,List.getLastD_concat,Hfo.out];rfl)
     have arS:s2.length<=16:=by
      simp only[aG,auT,auY]at cq;exact cq.1.1.2
     have Hp2:=hd0 BP;have yW:=hd0 (And.intro Kz (And.intro zm (And.intro AK sW)));have z1:w2.cell? ⟨w.heap.size,1,none⟩=some (.string ⟨c.path.toArray⟩):=aa VQ.out 1;have z2:w2.cell? ⟨w.heap.size,2,none⟩=some (.string ⟨c.dest.toArray⟩):=aa VQ.out 2;clear hr BP cq hf2 Kz zm AK sW Wi;unfold xt;go_wp2_with fail;refine(mI c.dest w2 Wb.out HC.out.dest).mono ?_;rintro e w3 ⟨v3,rfl,AD,dw⟩;have hL:cU c.dest=q2++[s2]:=by rw[cU,Hp2.out];rfl
     rw[hL]at AD;obtain⟨a3,ZS,OL⟩:=mJ (oO AD);rw[kO]at OL;obtain⟨L2,TJ⟩:∃ L2,(q2++[s2]).length=L2:=⟨_,rfl⟩
     rw[TJ]at OL;subst OL;have TG:=hd0 TJ;have hLb:L2<=8:=by rw[<-TJ];simp;omega
     obtain⟨pe,sZ⟩:∃ pe,eP c.dest=pe:=⟨_,rfl⟩
     rw[sZ];have AF:=hd0 (mR.out.keep dw);have dZ:=hd0 (bu.out.keep dw);have He3:=hd0 (Wb.out.keep dw);have adj:=hd0 (ab dw VQ.out id);clear hL sZ AD dw z1 z2 mR bu Wb VQ TJ;go_wp2_with fail;refine(QC HW.out 9 j n w3 AF.out Hg.out (by omega) (by omega) (fun _=>by omega)).mono ?_;rintro e w4 ⟨rfl,iT⟩;have Sf:=hd0 (AF.out.keep iT);have ou:=hd0 (dZ.out.keep iT);have He4:=hd0 (He3.out.keep iT);have aei:=hd0 (ab iT adj.out id);have Fz:=J6 (T:=T) 9 j;obtain⟨dv,OS⟩:∃ dv,fI T 9 j=dv:=⟨_,rfl⟩
     rw[OS]at Fz OA;rw[OS];clear iT AF dZ He3 adj OS;have z1:w4.cell? ⟨w.heap.size,1,none⟩=some (.string ⟨c.path.toArray⟩):=aa aei.out 1;by_cases h8:8<L2+dv
     ·have Hv:Hid (bY T c=(T,145)):=hd0 (by rw[OA.out,TG.out,auI h8]);have h8':(8:Int)<(L2:Int)+(dv:Int):=by omega
      clear h8;go_wp2;go_ret;exact⟨by rw[Hv.out];rfl,by rw[Hv.out];exact bD.same lF.out ou.out⟩
     ·have Hv:Hid (bY T c=((T.named o (fT s)).named k (me s2 j),0)):=hd0 (by rw[OA.out,TG.out,auK h8]);have h8':¬(8:Int)<(L2:Int)+(dv:Int):=by omega
      clear h8;go_wp2_with fail;refine(xy Sf.out HW.out He4.out c.path HC.out.path FY.out Hfo.out).mono ?_;rintro e w5 ⟨rfl,hk⟩;have VI:=hd0 (Sf.out.keep hk);have lZ:=hd0 (ou.out.keep hk);clear hk z1 Sf ou He4 aei;have VT:=hd0 ((ax HW.out.sorted).1 jY.out.1);have d4:w5.cell? ⟨A o,4,none⟩=some (.map (if up.dir=true then some (M o)else none)):=VI.out.cell HW.out.sorted jY.out.1 4;rw[auI jY.out.2.1]at d4;have cw:=VI.out.names up VT.out.1 jY.out.2.1;rw[VT.out.2]at cw;have yV:=hd0 cw;have Jn:df (T.named o (fT s)):=jc (fun _=>rfl) HW.out.sorted;have HS6:=hd0 Jn;obtain⟨XI,Kl,I5,Te,Kt⟩:∃ XI,(T.named o (fT s)).get k=some XI/\XI.dir=true/\jP s2 XI.names=none/\XI.names.length<60:=by
       rw[eY];by_cases e:k=o
       ·rw[auI e,yW.out.1];refine⟨_,rfl,yW.out.2.1,?_,Nat.lt_of_le_of_lt (rO _ _) yW.out.2.2.2⟩;rw[mC];intro x hx;exact mC.1 yW.out.2.2.1 x (kU.1 hx).1
       ·rw[auK e];exact⟨up2,yW.out.1,yW.out.2.1,yW.out.2.2.1,yW.out.2.2.2⟩
      obtain⟨n3,afp,adB⟩:∃ n3,(T.named o (fT s)).get j=some n3/\n3.num=j:=by
       rw[eY];by_cases e:j=o
       ·rw[auI e,Hg.out];exact⟨_,rfl,rx.out⟩
       ·rw[auK e];exact⟨n,Hg.out,rx.out⟩
      have zk:=hd0 (And.intro Kl (And.intro I5 (And.intro Te Kt)));have Hn3:=hd0 (And.intro afp adB);clear cw Jn Kl I5 Te Kt afp adB;have uW:=Hsl.out;go_wp2_with (
       (at_delete
        refine jV yV.out underlying244 underlying9 s (by omega) rfl rfl rfl rfl ?_;intro w6 rF Ti;have I4:=gR (f:=fT s) VI.out HW.out.sorted jY.out.1 jY.out.2.1 Ti rF;have HT6:=hd0 I4;have OE:Hid (ah (fun b=>role b≠.none) w w6):=hd0 ((lZ.out.mono (fun _ _ h=>h.elim)).trans Ti (fun i hi e=>by
         have hr:=lF.out.rnames up VT.out.1 jY.out.2.1;rw[VT.out.2]at hr;rw[e,hr];exact cT.noConfusion))
        have e4:w6.cell? ⟨A k,4,none⟩=some (.map (if XI.dir=true then some (M k)else none)):=I4.cell HS6.out zk.out.1 4;rw[auI zk.out.2.1]at e4;have e0:w6.cell? ⟨A j,0,none⟩=some (.int .i64 n3.num):=I4.cell HS6.out Hn3.out.1 0;rw[Hn3.out.2]at e0;clear rF Ti I4 d4))
      refine dD 9 (by kernel_rfl) (by kernel_rfl) ?_;simp only[avn,avo,avq,avr]
      repeat (quiet_step (fail))
      refine avt ?_;intro _ cf;obtain⟨nq,rfl⟩:=cf;have ZQ:=HT6.out.keep ((ah.refl (fun _=>False) w6).drewN nq);have oz:=(ax HS6.out).1 zk.out.1;have Tq:=ZQ.names XI oz.1 zk.out.2.1;rw[oz.2]at Tq;have KT:=HT6.out.rnames XI oz.1 zk.out.2.1;rw[oz.2]at KT;refine lq Tq underlying244 underlying9 underlying3 s2 (by omega) j Cd (by have:=zk.out.2.2.2;omega) rfl rfl rfl rfl rfl ?_;intro w7 hm7 R3;have ht7:=gR (f:=me s2 j) ZQ HS6.out zk.out.1 zk.out.2.1 R3 hm7;have HT7:=hd0 ht7;have HM7:=hd0 ((OE.out.drewN nq).trans R3 (fun i hi e=>by rw[e,KT];exact cT.noConfusion));clear ht7 hm7 R3 ZQ oz Tq KT e4 e0;go_wp2;go_ret;refine⟨by rw[Hv.out];rfl,?_⟩;rw[Hv.out];exact⟨A,M,role,HT7.out,fun _ hb=>.inl hb,HM7.out⟩
end
end
section
open Go.RowKit
theorem UU (w:World):Calls prog 102 #[] w fun e w'=>∃ p tb A M role,e=.returned (.pointer (some ⟨p,0,none⟩))/\aI w' p Tr.new tb A M role/\(∀ b,role b≠.none->w.heap.size<=b)/\af w w':=by
 have Ju:=@run_makeMap prog;have dw:af (w.alloc (.map #[] 0)) (((w.alloc (.map #[] 0)).alloc (.map #[] 0)).alloc (.cells #[.int .i64 1,.bool true,.int .i64 1,.string ⟨#[]⟩,.map (some (w.heap.size+1))] 246)):=((ah.refl _ _).alloc _).alloc _;have cw:Mj (((w.alloc (.map #[] 0)).alloc (.map #[] 0)).alloc (.cells #[.int .i64 1,.bool true,.int .i64 1,.string ⟨#[]⟩,.map (some (w.heap.size+1))] 246)) w.heap.size []:=(dG.made w).mod dw id;have nZ:Ic (((w.alloc (.map #[] 0)).alloc (.map #[] 0)).alloc (.cells #[.int .i64 1,.bool true,.int .i64 1,.string ⟨#[]⟩,.map (some (w.heap.size+1))] 246)) (w.heap.size+1) []:=(fu.made' (by simp) ()).mod ((ah.refl (fun _=>False) _).alloc _) id;have ow:World.blk (((w.alloc (.map #[] 0)).alloc (.map #[] 0)).alloc (.cells #[.int .i64 1,.bool true,.int .i64 1,.string ⟨#[]⟩,.map (some (w.heap.size+1))] 246)) (w.heap.size+1+1) #[.int .i64 1,.bool true,.int .i64 1,.string ⟨#[]⟩,.map (some (w.heap.size+1))] 246:=ba (by simp) _ _;obtain⟨w4,bi,AG,ft⟩:=dG.store cw underlying247 underlying3 1 (by decide) (w.heap.size+1+1) (by decide);have cK:=ft.size;have HN4:=hd0 (nZ.mod ft (by omega));have HD4:=hd0 (ab ft ow (by omega));have rH:=hd0 AG;have ou:Hid (af w w4):=hd0 (((((ah.refl (fun _=>False) w).alloc _).alloc _).alloc _).new ft (auE _));simp at cK;clear dw cw nZ ow AG ft;go_enter func102,ntmps102;go_wp2;go_ret;obtain⟨N,hN⟩:∃ N,w.heap.size=N:=⟨_,rfl⟩
 rw[hN]at HN4 HD4 rH cK;rw[hN];refine⟨w4.heap.size,N,fun _=>N+2,fun _=>N+1,fun b=>if b=w4.heap.size then .tree else if b=N then .of else if b=N+2 then .node 1 else if b=N+1 then .names 1 else .none,rfl,⟨aw _ _ _,auI rfl,rH.out.mod ((ah.refl (fun _=>False) w4).alloc _) id,?_,?_,?_,?_,?_,?_⟩,?_,ou.out.alloc _⟩
 ·rw[auK (by omega),auI rfl]
 ·intro n hn;rw[Tr.new,av5]at hn;subst hn;exact aH HD4.out _
 ·intro n hn;rw[Tr.new,av5]at hn;subst hn;show(if N+2=w4.heap.size then _ else _)=_;rw[auK (by omega),auK (by omega),auI rfl]
 ·intro n hn _;rw[Tr.new,av5]at hn;subst hn;exact HN4.out.mod ((ah.refl (fun _=>False) w4).alloc _) id
 ·intro n hn _;rw[Tr.new,av5]at hn;subst hn;show(if N+1=w4.heap.size then _ else _)=_;rw[auK (by omega),auK (by omega),auK (by omega),auI rfl]
 ·intro b hb;simp only[World.alloc,Array.size_push];by_cases h1:b=w4.heap.size
  ·omega
  ·by_cases h2:b=N
   ·omega
   ·by_cases h3:b=N+2
    ·omega
    ·by_cases h4:b=N+1
     ·omega
     ·rw[auK h1,auK h2,auK h3,auK h4]at hb;exact absurd rfl hb
 ·intro b hb;by_cases h1:b=w4.heap.size
  ·omega
  ·by_cases h2:b=N
   ·omega
   ·by_cases h3:b=N+2
    ·omega
    ·by_cases h4:b=N+1
     ·omega
     ·simp only[auK h1,auK h2,auK h3,auK h4]at hb;exact absurd rfl hb
theorem bD.from {w w1 w':World}{p tb:Nat}{role:Nat->cT}{X:Tr}(k:af w w1)(h:bD w1 w' p tb role X):bD w w' p tb role X:=by
 obtain⟨A',M',j4,h1,h2,h3⟩:=h;exact⟨A',M',j4,h1,fun b hb=>(h2 b hb).imp id (fun h=>aux k.size h),(k.mono (fun _ _ h=>h.elim)).trans h3 (fun _ _ h=>h)⟩
def Bn (f:FuncId)(g:Tr->bP->Tr×Int)(c:bP):Prop:=
 ∀ {w:World} {p tb:Nat} {T:Tr} {A M:Int->Nat} {role:Nat->cT} {d:Int->Nat},aI w p T tb A M role->WF T d->tr w->c.Small->
  Calls prog f #[.pointer (some ⟨p,0,none⟩),gt c] w fun e w'=>e=.returned (.int .i64 (g T c).2)/\bD w w' p tb role (g T c).1
structure QD (c:bP):Prop where
 wr:c.kind=2\/c.kind=3->(0<=c.pos/\c.pos<=16384)->c.data.length<=512->(c.kind≠2->c.data=[])->Bn 193 dA c
 ln:c.kind=4->Bn 194 iD c
 rn:c.kind=5->Bn 195 bY c
 rm:c.kind=6->Bn 196 dx c
theorem Ek (c:bP):QD c:=
 ⟨fun _ a b k=>by intro w p tb T A M role d h hw he hc;exact Ig h hw he c hc a b k,fun _=>by intro w p tb T A M role d h hw he hc;exact Mq h hw he c hc,fun _=>by intro w p tb T A M role d h hw he hc;exact Ej h hw he c hc,fun _=>by intro w p tb T A M role d h hw he hc;exact Ei h hw he c hc⟩
section
variable {w:World}{p tb:Nat}{T:Tr}{A M:Int->Nat}{role:Nat->cT}{d:Int->Nat}
theorem acq (h:aI w p T tb A M role)(hw:WF T d)(he:tr w)(c:bP)(hc:c.Small)(hd:QD c):
  Calls prog 118 #[.pointer (some ⟨p,0,none⟩),gt c] w fun e w'=>e=.returned (.int .i64 (qN T c).2)/\bD w w' p tb role (qN T c).1:=by
 have HC:=hd0 hc;have HD:=hd0 hd;have dE:af w (w.alloc (.cells (bL c) 55)):=(ah.refl _ w).alloc _;have HT:=hd0 (h.keep dE);have HW:=hd0 hw;have He:=hd0 (he.keep dE);have lF:=hd0 h;have sI:Hid (World.blk (w.alloc (.cells (bL c) 55)) w.heap.size (bL c) 55):=hd0 (aw _ _ _);clear h hw he hc dE hd;go_enter func118,ntmps118;unfold gt bL;go_wp2_with fail;unfold bL at HT He sI;have dO:Hid (af w (w.alloc (.cells #[.int .i64 c.kind,.string ⟨c.path.toArray⟩,.string ⟨c.dest.toArray⟩,.int .i64 c.pos,.string ⟨c.data.toArray⟩] 55))):=hd0 ((ah.refl _ w).alloc _);generalize w.alloc (.cells #[.int .i64 c.kind,.string ⟨c.path.toArray⟩,.string ⟨c.dest.toArray⟩,.int .i64 c.pos,.string ⟨c.data.toArray⟩] 55)=w0 at*;refine(tD c w0 He.out HC.out).mono ?_;rintro e w1 ⟨rfl,hk⟩;have ms:=hd0 (ab hk sI.out id);have iN:=hd0 (HT.out.keep hk);have FT:=hd0 (He.out.keep hk);have bU:=hd0 (dO.out.keep hk);clear hk sI HT He dO
 cases cq:c.ok with
 |false=>
  have Hv:Hid (qN T c=(T,1)):=hd0 (by rw[qN,auI cq]);have hp:lh c=.tuple #[.string ⟨#[]⟩,.int .i64 130]:=by rw[lh,cq];rfl
  rw[hp];clear hp cq;go_wp2;go_ret;exact⟨by rw[Hv.out];rfl,by rw[Hv.out];exact bD.same lF.out bU.out⟩
 |true=>
  have hp:lh c=.tuple #[.string ⟨c.line.toArray⟩,.int .i64 0]:=by rw[lh,cq];rfl
  rw[hp];obtain⟨h9,_,_⟩:=oW cq;have hk:=YG h9;have zg:=hd0 (Pz cq);have VZ:=hd0 (JQ cq);have OA:Hid (qN T c=if c.kind=0\/c.kind=1 then gp T c else if c.kind=2\/c.kind=3 then dA T c else if c.kind=4 then iD T c else if c.kind=5 then bY T c else if c.kind=6 then dx T c else(T,1)):=hd0 (by rw[qN,auK (by rw[cq];decide)]);have z0:w1.cell? ⟨w.heap.size,0,none⟩=some (.int .i64 c.kind):=aa ms.out 0;have z1:w1.cell? ⟨w.heap.size,1,none⟩=some (.string ⟨c.path.toArray⟩):=aa ms.out 1;have z2:w1.cell? ⟨w.heap.size,2,none⟩=some (.string ⟨c.dest.toArray⟩):=aa ms.out 2;have z3:w1.cell? ⟨w.heap.size,3,none⟩=some (.int .i64 c.pos):=aa ms.out 3;have z4:w1.cell? ⟨w.heap.size,4,none⟩=some (.string ⟨c.data.toArray⟩):=aa ms.out 4;have rl:c.kind=0\/c.kind=1\/c.kind=2\/c.kind=3\/c.kind=4\/c.kind=5\/c.kind=6\/c.kind=7\/c.kind=8:=by omega
  clear hp cq h9 hk;rcases rl with hq|hq|hq|hq|hq|hq|hq|hq|hq
  ·have Hv:Hid (qN T c=gp T c):=hd0 (by rw[OA.out];simp[hq]);have cY:=Ae iN.out HW.out FT.out c HC.out (.inl hq);unfold gt bL at cY;rw[hq]at cY;have I2:=hd0 cY;rw[hq]at z0;clear hq cY;go_wp2_with fail;refine I2.out.mono ?_;rintro e w2 ⟨rfl,ht⟩;have mR:=hd0 ht;clear ht;go_wp2;go_ret;exact⟨by rw[Hv.out];rfl,by rw[Hv.out];exact bD.from bU.out mR.out⟩
  ·have Hv:Hid (qN T c=gp T c):=hd0 (by rw[OA.out];simp[hq]);have cY:=Ae iN.out HW.out FT.out c HC.out (.inr hq);unfold gt bL at cY;rw[hq]at cY;have I2:=hd0 cY;rw[hq]at z0;clear hq cY;go_wp2_with fail;refine I2.out.mono ?_;rintro e w2 ⟨rfl,ht⟩;have mR:=hd0 ht;clear ht;go_wp2;go_ret;exact⟨by rw[Hv.out];rfl,by rw[Hv.out];exact bD.from bU.out mR.out⟩
  ·have Hv:Hid (qN T c=dA T c):=hd0 (by rw[OA.out];simp[hq]);have cY:=HD.out.wr (.inl hq) zg.out VZ.out.1 VZ.out.2 iN.out HW.out FT.out HC.out;unfold gt bL at cY;rw[hq]at cY;have I2:=hd0 cY;rw[hq]at z0;clear hq cY;go_wp2_with fail;refine I2.out.mono ?_;rintro e w2 ⟨rfl,ht⟩;have mR:=hd0 ht;clear ht;go_wp2;go_ret;exact⟨by rw[Hv.out];rfl,by rw[Hv.out];exact bD.from bU.out mR.out⟩
  ·have Hv:Hid (qN T c=dA T c):=hd0 (by rw[OA.out];simp[hq]);have cY:=HD.out.wr (.inr hq) zg.out VZ.out.1 VZ.out.2 iN.out HW.out FT.out HC.out;unfold gt bL at cY;rw[hq]at cY;have I2:=hd0 cY;rw[hq]at z0;clear hq cY;go_wp2_with fail;refine I2.out.mono ?_;rintro e w2 ⟨rfl,ht⟩;have mR:=hd0 ht;clear ht;go_wp2;go_ret;exact⟨by rw[Hv.out];rfl,by rw[Hv.out];exact bD.from bU.out mR.out⟩
  ·have Hv:Hid (qN T c=iD T c):=hd0 (by rw[OA.out];simp[hq]);have cY:=HD.out.ln hq iN.out HW.out FT.out HC.out;unfold gt bL at cY;rw[hq]at cY;have I2:=hd0 cY;rw[hq]at z0;clear hq cY;go_wp2_with fail;refine I2.out.mono ?_;rintro e w2 ⟨rfl,ht⟩;have mR:=hd0 ht;clear ht;go_wp2;go_ret;exact⟨by rw[Hv.out];rfl,by rw[Hv.out];exact bD.from bU.out mR.out⟩
  ·have Hv:Hid (qN T c=bY T c):=hd0 (by rw[OA.out];simp[hq]);have cY:=HD.out.rn hq iN.out HW.out FT.out HC.out;unfold gt bL at cY;rw[hq]at cY;have I2:=hd0 cY;rw[hq]at z0;clear hq cY;go_wp2_with fail;refine I2.out.mono ?_;rintro e w2 ⟨rfl,ht⟩;have mR:=hd0 ht;clear ht;go_wp2;go_ret;exact⟨by rw[Hv.out];rfl,by rw[Hv.out];exact bD.from bU.out mR.out⟩
  ·have Hv:Hid (qN T c=dx T c):=hd0 (by rw[OA.out];simp[hq]);have cY:=HD.out.rm hq iN.out HW.out FT.out HC.out;unfold gt bL at cY;rw[hq]at cY;have I2:=hd0 cY;rw[hq]at z0;clear hq cY;go_wp2_with fail;refine I2.out.mono ?_;rintro e w2 ⟨rfl,ht⟩;have mR:=hd0 ht;clear ht;go_wp2;go_ret;exact⟨by rw[Hv.out];rfl,by rw[Hv.out];exact bD.from bU.out mR.out⟩
  all_goals
   have Hv:Hid (qN T c=(T,1)):=hd0 (by rw[OA.out];simp[hq]);rw[hq]at z0;clear hq;go_wp2;go_ret;exact⟨by rw[Hv.out];rfl,by rw[Hv.out];exact bD.same lF.out bU.out⟩
end
end
end
end Go.Proofs.YtkghpdcloaiflaaGreatDoor
