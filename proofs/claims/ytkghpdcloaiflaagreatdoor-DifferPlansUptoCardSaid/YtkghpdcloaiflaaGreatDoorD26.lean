import Derived.Test.YtkghpdcloaiflaaGreatDoorD25
import Derived.Carry
set_option maxHeartbeats 8000000
set_option maxRecDepth 100000
namespace Go.Proofs.YtkghpdcloaiflaaGreatDoor
open _root_.Go.Proofs.Tryz
section
section
open Go.RowKit
section
variable {w:World}{p tb:Nat}{T:Tr}{A M:Int->Nat}{role:Nat->cV}{d:Int->Nat}
theorem gG (h:WF T d){k:Int}{n:Nd}(hg:T.get k=some n):n.num=k/\-9223372036854775808<=k/\k<=9223372036854775807:=by
 obtain⟨hm,hk⟩:=(ax h.sorted).1 hg;have:=h.nums n hm;omega
theorem Y7 {j:Int}(h:∀ n∈T,n.names.length<=60):kg T j<=T.length*60:=by
 unfold kg
 induction T with
 |nil=>simp
 |cons y r ih=>
  have h1:=ih fun n hn=>h n (by simp[hn]);have h2:=h y (by simp);have h3:gC y.names j<=y.names.length:=List.countP_le_length;simp only[auJ,auK,auL];omega
theorem ul (h:WF T d){k:Int}{n:Nd}(hg:T.get k=some n):1<=n.links/\n.links<=3600:=by
 obtain⟨hm,hk⟩:=(ax h.sorted).1 hg;by_cases h1:n.num=1
 ·obtain⟨r,hr,e,_,hl⟩:=h.root;have:=lR h.sorted hm hr (by omega);rw[this,hl];omega
 ·have hc:=h.count n hm h1;have h2:=Y7 (T:=T) (j:=n.num) fun m hm=>(h.names m hm).1;have:=h.many;omega
theorem Mo (h:aJ w p T tb A M role)(hw:WF T d)(he:t8 w)(c:bU)(hc:c.Small):
  Calls prog 194 #[.pointer (some ⟨p,0,none⟩),gQ c] w fun e w'=>e=.returned (.int .i64 (ja T c).2)/\bH w w' p tb role (ja T c).1:=by
 have HC:=hd0 hc;have dE:af w (w.alloc (.cells (bL c) 55)):=(ah.refl _ w).alloc _;have HT:=hd0 (h.keep dE);have HW:=hd0 hw;have He:=hd0 (he.keep dE);have lE:=hd0 h;have sF:Hid (World.blk (w.alloc (.cells (bL c) 55)) w.heap.size (bL c) 55):=hd0 (aw _ _ _);clear h hw he hc dE;go_enter func194,ntmps194;unfold gQ bL;go_wp2_with fail;unfold bL at HT He sF;have dF:Hid (af w (w.alloc (.cells #[.int .i64 c.kind,.string ⟨c.path.toArray⟩,.string ⟨c.dest.toArray⟩,.int .i64 c.pos,.string ⟨c.data.toArray⟩] 55))):=hd0 ((ah.refl _ w).alloc _);generalize w.alloc (.cells #[.int .i64 c.kind,.string ⟨c.path.toArray⟩,.string ⟨c.dest.toArray⟩,.int .i64 c.pos,.string ⟨c.data.toArray⟩] 55)=w0 at*;refine(Bq HT.out HW.out He.out c.path HC.out.path).mono ?_;rintro e w1 ⟨rfl,hk⟩;have ms:=hd0 (ab hk sF.out id);have iM:=hd0 (HT.out.keep hk);have FV:=hd0 (He.out.keep hk);have bS:=hd0 (dF.out.keep hk);clear hk sF HT He dF
 cases ha:zF T c.path with
 |error e=>
  have dZ:(e==0)=false:=by have:=ww ha;rw[avv];omega
  have Hv:Hid (ja T c=(T,e)):=hd0 (by rw[ja,ha]);clear ha;unfold lh;go_wp2;go_ret;exact⟨by rw[Hv.out];rfl,by rw[Hv.out];exact bH.same lE.out bS.out⟩
 |ok j=>
  obtain⟨l,n,_,_,hg⟩:=zH HW.out ha;have c1:w1.cell? ⟨A j,1,none⟩=some (.bool n.dir):=iM.out.cell HW.out.sorted hg 1;unfold lh
  cases hd:n.dir with
  |true=>
   rw[hd]at c1;have Hv:Hid (ja T c=(T,143)):=hd0 (by rw[ja,ha];simp[hg,hd]);clear ha hg hd;go_wp2;go_ret;exact⟨by rw[Hv.out];rfl,by rw[Hv.out];exact bH.same lE.out bS.out⟩
  |false=>
   rw[hd]at c1;have Hv:Hid (ja T c=match gB T c.dest with
     | .error e=>(T,e)
     | .ok (k,s)=>((T.named k (me s j)).upd j fun n=>{ n with links:=n.links+1 },0)):=hd0 (by rw[ja,ha];simp only[hg,hd];rfl)
   have Hg:=hd0 hg;have Hd:=hd0 hd;have z2:w1.cell? ⟨w.heap.size,2,none⟩=some (.string ⟨c.dest.toArray⟩):=aa ms.out 2;clear ha hg hd;go_wp2_with fail;refine(xn iM.out HW.out FV.out c.dest HC.out.dest).mono ?_;rintro e w2 ⟨rfl,hk⟩;have mZ:=hd0 (iM.out.keep hk);have bw:=hd0 (bS.out.keep hk);clear hk c1 z2
   cases hr:gB T c.dest with
   |error e=>
    have dZ:(e==0)=false:=by have:=rQ hr;rw[avv];omega
    rw[hr]at Hv;clear hr;unfold xm;go_wp2;go_ret;exact⟨by rw[Hv.out];rfl,by rw[Hv.out];exact bH.same lE.out bw.out⟩
   |ok x=>
    obtain⟨k,s⟩:=x;obtain⟨q,up,hp,pE,cg,hf,Kk,yW,hn,sQ,VY⟩:=pP HW.out hr;rw[hr]at Hv;simp only at Hv;have d4:w2.cell? ⟨A k,4,none⟩=some (.map (if up.dir=true then some (M k)else none)):=mZ.out.cell HW.out.sorted Kk 4;rw[auT yW]at d4;have d0:w2.cell? ⟨A j,0,none⟩=some (.int .i64 n.num):=mZ.out.cell HW.out.sorted Hg.out 0;obtain⟨dC,BO⟩:=gG HW.out Hg.out;rw[dC]at d0;have j0:=hd0 (And.intro Kk (And.intro yW (And.intro hn sQ)));have rC:s.length<=16:=by
     simp only[aG,au4,au9]at cg;exact cg.1.1.2
    have rk:=hd0 dC;clear hr hp pE cg hf Kk yW hn sQ VY dC;unfold xm;go_wp2_with fail;refine dD 9 (by kernel_rfl) (by kernel_rfl) ?_;simp only[avz,avA,avB,avC]
    repeat (quiet_step (fail))
    refine avE ?_;intro _ cL;obtain⟨nq,rfl⟩:=cL;have Z1:=(mZ.out.keep ((ah.refl (fun _=>False) w2).drewN nq))
    have cw:=Z1.names up ((ax HW.out.sorted).1 j0.out.1).1 j0.out.2.1;rw[((ax HW.out.sorted).1 j0.out.1).2]at cw;obtain⟨w3,bh,ly,iK⟩:=fu.store cw underlying244 underlying9 underlying3 s (by omega) j BO (by have:=j0.out.2.2.2;omega);refine iF bh rfl rfl rfl rfl rfl ?_;have FB:=gS (f:=me s j) Z1 HW.out.sorted j0.out.1 j0.out.2.1 iK ly;have yg:j≠k:=fun e=>by
     have h1:=Hg.out;rw[e,j0.out.1]at h1;have h2:=avR h1;have h3:=j0.out.2.1;rw[h2,Hd.out]at h3;cases h3
    have qe:dg (T.named k (me s j)):=jb (fun _=>rfl) HW.out.sorted;have Kg:(T.named k (me s j)).get j=some n:=by rw[eY,auV yg];exact Hg.out
    have Fm:=FB.node n ((ax qe).1 Kg).1;rw[rk.out]at Fm;have oo:=hd0 Fm;have AJ:=hd0 FB;have AG:=hd0 qe;have HG3:=hd0 Kg;have nT:Hid (ah (fun b=>role b≠.none) w w3):=hd0 (((bw.out.drewN nq).mono (fun _ _ h=>h.elim)).trans iK (fun i hi e=>by
     have hr:=lE.out.rnames up ((ax HW.out.sorted).1 j0.out.1).1 j0.out.2.1;rw[((ax HW.out.sorted).1 j0.out.1).2]at hr;rw[e,hr];exact cV.noConfusion))
    have e2:w3.cell? ⟨A j,2,none⟩=some (.int .i64 n.links):=aa Fm 2;have e3:w3.frozen? ⟨A j,2,none⟩=false:=ae Fm _ rfl;have AF:=ul HW.out Hg.out;clear Z1 cw bh ly iK FB yg qe Kg Fm d4 d0;go_wp2;go_ret;refine⟨by rw[Hv.out];rfl,?_⟩;rw[Hv.out];have ft:ah (·=A j) w3 (w3.setCell ⟨A j,2,none⟩ (.int .i64 (n.links+1))):=(ah.refl (fun x=>x=A j) w3).setCell (p:=⟨A j,2,none⟩) (.inl rfl) _;refine⟨A,M,role,mL (f:=fun n=>{ n with links:=n.links+1 }) AJ.out AG.out (fun _=>⟨rfl,rfl,rfl⟩) HG3.out ft (ag oo.out 2 _),fun _ hb=>.inl hb,nT.out.trans ft (fun i hi e=>?_)⟩;have hr:=lE.out.rnode n ((ax HW.out.sorted).1 Hg.out).1;rw[rk.out]at hr;rw[e,hr];exact cV.noConfusion
end
end
section
open Go.RowKit
section
variable {w:World}{p tb:Nat}{T:Tr}{A M:Int->Nat}{role:Nat->cV}{d:Int->Nat}
theorem xr (h:aJ w p T tb A M role)(hw:WF T d)(he:t8 w)(c:bU)(hc:c.Small)(Jh:0<=c.pos/\c.pos<=16384)(Fw:c.data.length<=512)(hcut:c.kind≠2->c.data=[]):
  Calls prog 193 #[.pointer (some ⟨p,0,none⟩),gQ c] w fun e w'=>e=.returned (.int .i64 (dT T c).2)/\bH w w' p tb role (dT T c).1:=by
 have HC:=hd0 hc;have dE:af w (w.alloc (.cells (bL c) 55)):=(ah.refl _ w).alloc _;have HT:=hd0 (h.keep dE);have HW:=hd0 hw;have He:=hd0 (he.keep dE);have lE:=hd0 h;have sF:Hid (World.blk (w.alloc (.cells (bL c) 55)) w.heap.size (bL c) 55):=hd0 (aw _ _ _);have yU:=hd0 Jh;have Hdl:=hd0 Fw;have arB:=hd0 hcut;clear h hw he hc dE Jh Fw hcut;go_enter func193,ntmps193;unfold gQ bL;go_wp2_with fail;unfold bL at HT He sF;have dF:Hid (af w (w.alloc (.cells #[.int .i64 c.kind,.string ⟨c.path.toArray⟩,.string ⟨c.dest.toArray⟩,.int .i64 c.pos,.string ⟨c.data.toArray⟩] 55))):=hd0 ((ah.refl _ w).alloc _);generalize w.alloc (.cells #[.int .i64 c.kind,.string ⟨c.path.toArray⟩,.string ⟨c.dest.toArray⟩,.int .i64 c.pos,.string ⟨c.data.toArray⟩] 55)=w0 at*;refine(Bq HT.out HW.out He.out c.path HC.out.path).mono ?_;rintro e w1 ⟨rfl,hk⟩;have ms:=hd0 (ab hk sF.out id);have iM:=hd0 (HT.out.keep hk);have FV:=hd0 (He.out.keep hk);have bS:=hd0 (dF.out.keep hk);clear hk sF HT He dF
 cases ha:zF T c.path with
 |error e=>
  have dZ:(e==0)=false:=by have:=ww ha;rw[avv];omega
  have Hv:Hid (dT T c=(T,e)):=hd0 (by rw[dT,ha]);clear ha;unfold lh;go_wp2;go_ret;exact⟨by rw[Hv.out];rfl,by rw[Hv.out];exact bH.same lE.out bS.out⟩
 |ok j=>
  obtain⟨_,n,_,_,hg⟩:=zH HW.out ha;have c1:w1.cell? ⟨A j,1,none⟩=some (.bool n.dir):=iM.out.cell HW.out.sorted hg 1;have c3:w1.cell? ⟨A j,3,none⟩=some (.string ⟨n.data.toArray⟩):=iM.out.cell HW.out.sorted hg 3;unfold lh
  cases hd:n.dir with
  |true=>
   rw[hd]at c1;have Hv:Hid (dT T c=(T,143)):=hd0 (by rw[dT,ha];simp[hg,hd]);clear ha hg hd;go_wp2;go_ret;exact⟨by rw[Hv.out];rfl,by rw[Hv.out];exact bH.same lE.out bS.out⟩
  |false=>
   rw[hd]at c1;have Hv:Hid (dT T c=if(n.data.length:Int)<c.pos\/c.kind=2/\16384<c.pos+c.data.length then(T,145)else(T.upd j fun n=>{ n with data:=oz c n.data },0)):=hd0 (by rw[dT,ha];simp[hg,hd]);have yk:=(HW.out.file n ((ax HW.out.sorted).1 hg).1 hd).2;have Hnl:=hd0 yk;have Hg:=hd0 hg;have z0:w1.cell? ⟨w.heap.size,0,none⟩=some (.int .i64 c.kind):=aa ms.out 0;have z3:w1.cell? ⟨w.heap.size,3,none⟩=some (.int .i64 c.pos):=aa ms.out 3;have z4:w1.cell? ⟨w.heap.size,4,none⟩=some (.string ⟨c.data.toArray⟩):=aa ms.out 4;obtain⟨pos,ym⟩:∃ pos:Nat,c.pos=pos:=⟨c.pos.toNat,by have:=yU.out;omega⟩
   have HP:=hd0 ym;rw[ym]at z3;have mY:pos<=16384:=by have:=yU.out;omega
   have Hpb:=hd0 mY;obtain⟨kd,hkd⟩:∃ kd,c.kind=kd:=⟨_,rfl⟩
   rw[hkd]at z0;have HKd:=hd0 hkd;obtain⟨D,hD⟩:∃ D,c.data=D:=⟨_,rfl⟩
   rw[hD]at z4;have HD:=hd0 hD;have hDl:D.length<=512:=by rw[<-hD];exact Hdl.out
   have HDl:=hd0 hDl;clear ha hg hd yk ym hkd hD mY hDl;by_cases hb1:(n.data.length:Int)<pos
   ·have tP:Hid (dT T c=(T,145)):=hd0 (by rw[Hv.out,HP.out,auT (.inl hb1)]);go_wp2_with fail;refine gE (by kernel_rfl) (by kernel_rfl) ?_
    repeat (go_big_quiet_step (fail))
    refine avE ?_;intro _ cL;obtain⟨nq,rfl⟩:=cL;go_wp2;go_ret;exact⟨by rw[tP.out];rfl,by rw[tP.out];exact bH.same lE.out (bS.out.drewN nq)⟩
   ·have FH:pos<=n.data.length:=by omega
    have Jq:decide (n.data.length<pos)=false:=by rw[decide_eq_false_iff_not];omega
    have Oi:IntKind.i64.wrap ((pos:Int)+(D.length:Int))=(pos:Int)+(D.length:Int):=by rw[IntKind.wrap_i64];have:=Hpb.out;have:=HDl.out;omega
    by_cases df:kd=2
    ·have KM:(kd==2)=true:=avq.2 df;by_cases eL:(16384:Int)<(pos:Int)+(D.length:Int)
     ·have tP:Hid (dT T c=(T,145)):=hd0 (by rw[Hv.out,HP.out,HKd.out,HD.out,auT (.inr ⟨df,eL⟩)]);have Kw:decide ((16384:Int)<(pos:Int)+(D.length:Int))=true:=by rw[decide_eq_true_iff];exact eL
      clear df FH hb1 eL;go_wp2_with fail;refine gE (by kernel_rfl) (by kernel_rfl) ?_
      repeat (go_big_quiet_step (fail))
      refine avE ?_;intro _ cL;obtain⟨nq,rfl⟩:=cL;go_wp2;go_ret;exact⟨by rw[tP.out];rfl,by rw[tP.out];exact bH.same lE.out (bS.out.drewN nq)⟩
     ·have tP:Hid (dT T c=(T.upd j fun n=>{ n with data:=oz c n.data },0)):=hd0 (by rw[Hv.out,HP.out,HKd.out,HD.out,auV (by rintro(h|⟨_,h⟩);exact hb1 h;exact eL h)]);have Hle:=hd0 FH;have mU:(pos:Int)<=n.data.length:=by omega
      have nY:(0:Int)<=pos:=by omega
      have sN:¬ 9223372036854775807<min pos n.data.length+D.length:=by have:=Hpb.out;have:=HDl.out;omega
      have Kw:decide ((16384:Int)<(pos:Int)+(D.length:Int))=false:=by rw[decide_eq_false_iff_not];exact eL
      clear FH hb1 eL df;go_wp2_with fail;refine gE (by kernel_rfl) (by kernel_rfl) ?_
      repeat (go_big_quiet_step (fail))
      refine avE ?_;intro _ cL;obtain⟨nq,rfl⟩:=cL;go_wp2_with fail;refine nw (by kernel_rfl) (by kernel_rfl) ?_
      repeat (go_big_quiet_step (fail))
      refine avE ?_;intro _ cL;obtain⟨nr,rfl⟩:=cL;have rC:(n.data.take pos++D).length<=16896:=by have:=Hpb.out;have:=HDl.out;rw[au3,auS];omega
      obtain⟨s,hs⟩:∃ s,n.data.take pos++D=s:=⟨_,rfl⟩
      rw[hs]at rC;rw[hs];have Hs:=hd0 hs;have Hsl:=hd0 rC;have hf3:w1.frozen? ⟨A j,3,none⟩=false:=by
       have hB:=iM.out.node n ((ax HW.out.sorted).1 Hg.out).1;rw[(gG HW.out Hg.out).1]at hB;exact ae hB _ rfl
      clear hs rC Jq Oi mU nY sN Kw c1 z3 z4;by_cases aK:s.length<n.data.length
      ·have hX:Hid (s++n.data.drop s.length=oz c n.data):=hd0 (by
        unfold oz;rw[HP.out,avn,HD.out,Hs.out];simp only;rw[auT ⟨HKd.out.trans (by simpa using KM),aK⟩])
       have vq:(s.length:Int)<n.data.length:=by omega
       have lw:(s.length:Int)<=n.data.length:=by omega
       have uN:(0:Int)<=s.length:=by omega
       have sN:¬ 9223372036854775807<s.length+(n.data.length-s.length):=by have:=Hnl.out;omega
       have Kh:s.length<=n.data.length:=by omega
       go_wp2;go_ret;refine⟨by rw[tP.out];rfl,?_⟩;rw[tP.out];have dC:=(gG HW.out Hg.out).1;have hB:=(iM.out.keep ((ah.refl (fun _=>False) w1).drewN nr)).node n ((ax HW.out.sorted).1 Hg.out).1;rw[dC]at hB;have Ji:=lE.out.rnode n ((ax HW.out.sorted).1 Hg.out).1;rw[dC]at Ji;have ft:ah (·=A j) (w1.drewN nr) ((w1.drewN nr).setCell ⟨A j,3,none⟩ (.string ⟨(oz c n.data).toArray⟩)):=(ah.refl (fun x=>x=A j) _).setCell (p:=⟨A j,3,none⟩) (.inl rfl) _;have hX:=hX.out;rw[hX];exact⟨A,M,role,mL (f:=fun n=>{ n with data:=oz c n.data }) (iM.out.keep ((ah.refl (fun _=>False) w1).drewN nr)) HW.out.sorted (fun _=>⟨rfl,rfl,rfl⟩) Hg.out ft (ag hB 3 _),fun _ hb=>.inl hb,((bS.out.drewN nr).mono (fun _ _ h=>h.elim)).trans ft (fun i hi e=>by rw[e,Ji];exact cV.noConfusion)⟩
      ·have hX:Hid (s=oz c n.data):=hd0 (by
        unfold oz;rw[HP.out,avn,HD.out,Hs.out];simp only;rw[auV (fun h=>aK h.2)])
       have vq:¬(s.length:Int)<n.data.length:=by omega
       clear aK;go_wp2;go_ret;refine⟨by rw[tP.out];rfl,?_⟩;rw[tP.out];have dC:=(gG HW.out Hg.out).1;have hB:=(iM.out.keep ((ah.refl (fun _=>False) w1).drewN nr)).node n ((ax HW.out.sorted).1 Hg.out).1;rw[dC]at hB;have Ji:=lE.out.rnode n ((ax HW.out.sorted).1 Hg.out).1;rw[dC]at Ji;have ft:ah (·=A j) (w1.drewN nr) ((w1.drewN nr).setCell ⟨A j,3,none⟩ (.string ⟨(oz c n.data).toArray⟩)):=(ah.refl (fun x=>x=A j) _).setCell (p:=⟨A j,3,none⟩) (.inl rfl) _;have hX:=hX.out;rw[hX];exact⟨A,M,role,mL (f:=fun n=>{ n with data:=oz c n.data }) (iM.out.keep ((ah.refl (fun _=>False) w1).drewN nr)) HW.out.sorted (fun _=>⟨rfl,rfl,rfl⟩) Hg.out ft (ag hB 3 _),fun _ hb=>.inl hb,((bS.out.drewN nr).mono (fun _ _ h=>h.elim)).trans ft (fun i hi e=>by rw[e,Ji];exact cV.noConfusion)⟩
    ·have KM:(kd==2)=false:=av3 df;have tP:Hid (dT T c=(T.upd j fun n=>{ n with data:=oz c n.data },0)):=hd0 (by rw[Hv.out,HP.out,HKd.out,HD.out,auV (by rintro(h|⟨h,_⟩);exact hb1 h;exact df h)]);have Hle:=hd0 FH;have mU:(pos:Int)<=n.data.length:=by omega
     have nY:(0:Int)<=pos:=by omega
     have sN:¬ 9223372036854775807<min pos n.data.length+D.length:=by have:=Hpb.out;have:=HDl.out;omega
     have WA:=hd0 df;clear FH hb1 df;go_wp2_with fail;refine gE (by kernel_rfl) (by kernel_rfl) ?_
     repeat (go_big_quiet_step (fail))
     refine avE ?_;intro _ cL;obtain⟨nq,rfl⟩:=cL;go_wp2_with fail;refine nw (by kernel_rfl) (by kernel_rfl) ?_
     repeat (go_big_quiet_step (fail))
     refine avE ?_;intro _ cL;obtain⟨nr,rfl⟩:=cL;have hX:Hid (n.data.take pos++D=oz c n.data):=hd0 (by
      unfold oz;rw[HP.out,avn,HD.out];simp only;rw[auV (fun h=>WA.out (HKd.out.symm.trans h.1))])
     have hf3:w1.frozen? ⟨A j,3,none⟩=false:=by
      have hB:=iM.out.node n ((ax HW.out.sorted).1 Hg.out).1;rw[(gG HW.out Hg.out).1]at hB;exact ae hB _ rfl
     rw[hX.out];clear Jq Oi mU nY sN c1 z3 z4;go_wp2;go_ret;refine⟨by rw[tP.out];rfl,?_⟩;rw[tP.out];have dC:=(gG HW.out Hg.out).1;have hB:=(iM.out.keep ((ah.refl (fun _=>False) w1).drewN nr)).node n ((ax HW.out.sorted).1 Hg.out).1;rw[dC]at hB;have Ji:=lE.out.rnode n ((ax HW.out.sorted).1 Hg.out).1;rw[dC]at Ji;have ft:ah (·=A j) (w1.drewN nr) ((w1.drewN nr).setCell ⟨A j,3,none⟩ (.string ⟨(oz c n.data).toArray⟩)):=(ah.refl (fun x=>x=A j) _).setCell (p:=⟨A j,3,none⟩) (.inl rfl) _;exact⟨A,M,role,mL (f:=fun n=>{ n with data:=oz c n.data }) (iM.out.keep ((ah.refl (fun _=>False) w1).drewN nr)) HW.out.sorted (fun _=>⟨rfl,rfl,rfl⟩) Hg.out ft (ag hB 3 _),fun _ hb=>.inl hb,((bS.out.drewN nr).mono (fun _ _ h=>h.elim)).trans ft (fun i hi e=>by rw[e,Ji];exact cV.noConfusion)⟩
end
end
section
open Go.RowKit
section
variable {w:World}{p tb:Nat}{T:Tr}{A M:Int->Nat}{role:Nat->cV}{d:Int->Nat}
theorem Ik (h:WF T d){f:Nat}{k:Int}(e:ee T T.length 2=ee T f k):f=0->T.get k=none:=by
 intro h0;subst h0;have:=h.fresh.1;rw[e]at this;exact this
theorem Af (h:aJ w p T tb A M role)(hw:WF T d)(he:t8 w)(c:bU)(hc:c.Small)(hk:c.kind=0\/c.kind=1):
  Calls prog 192 #[.pointer (some ⟨p,0,none⟩),gQ c] w fun e w'=>e=.returned (.int .i64 (gp T c).2)/\bH w w' p tb role (gp T c).1:=by
 have HC:=hd0 hc;have dE:af w (w.alloc (.cells (bL c) 55)):=(ah.refl _ w).alloc _;have HT:=hd0 (h.keep dE);have HW:=hd0 hw;have He:=hd0 (he.keep dE);have lE:=hd0 h;have sF:Hid (World.blk (w.alloc (.cells (bL c) 55)) w.heap.size (bL c) 55):=hd0 (aw _ _ _);have HKd:=hd0 hk;clear h hw he hc dE hk;go_enter func192,ntmps192;unfold gQ bL;go_wp2_with fail;unfold bL at HT He sF;have dF:Hid (af w (w.alloc (.cells #[.int .i64 c.kind,.string ⟨c.path.toArray⟩,.string ⟨c.dest.toArray⟩,.int .i64 c.pos,.string ⟨c.data.toArray⟩] 55))):=hd0 ((ah.refl _ w).alloc _);generalize w.alloc (.cells #[.int .i64 c.kind,.string ⟨c.path.toArray⟩,.string ⟨c.dest.toArray⟩,.int .i64 c.pos,.string ⟨c.data.toArray⟩] 55)=w0 at*;refine(xn HT.out HW.out He.out c.path HC.out.path).mono ?_;rintro e w1 ⟨rfl,hk⟩;have ms:=hd0 (ab hk sF.out id);have iM:=hd0 (HT.out.keep hk);have bS:=hd0 (dF.out.keep hk);clear hk sF HT He dF
 cases hr:gB T c.path with
 |error e=>
  have dZ:(e==0)=false:=by have:=rQ hr;rw[avv];omega
  have Hv:Hid (gp T c=(T,e)):=hd0 (by rw[gp,hr]);clear hr;unfold xm;go_wp2;go_ret;exact⟨by rw[Hv.out];rfl,by rw[Hv.out];exact bH.same lE.out bS.out⟩
 |ok x=>
  obtain⟨k,s⟩:=x;obtain⟨q,up,hp,pE,cg,hf,Kk,yW,hn,sQ,VY⟩:=pP HW.out hr;have rC:s.length<=16:=by
   simp only[aG,au4,au9]at cg;exact cg.1.1.2
  have j0:=hd0 (And.intro Kk (And.intro yW (And.intro hn sQ)));have c0:w1.cell? ⟨p,0,none⟩=some (.map (some tb)):=aa iM.out.tree 0;have aW:=fun ty=>dH.len (tm:=247) iM.out.of underlying247 ty;have hla:(cm T A).length=T.length:=by simp[cm]
  rw[hla]at aW;have Hr:=hd0 hr;clear hr hp pE cg hf Kk yW hn sQ VY hla;unfold xm;by_cases hb:60<=T.length
  ·have Hv:Hid (gp T c=(T,145)):=hd0 (by rw[gp,Hr.out];simp only[hb,if_true]);have eL:(60:Int)<=T.length:=by omega
   clear hb;go_wp2;go_ret;exact⟨by rw[Hv.out];rfl,by rw[Hv.out];exact bH.same lE.out bS.out⟩
  ·have Hv:Hid (gp T c=((Tr.add ⟨ee T T.length 2,c.kind==1,1,[],[]⟩ T).named k (me s (ee T T.length 2)),0)):=hd0 (by rw[gp,Hr.out];simp only[hb,if_false]);have eL:¬(60:Int)<=T.length:=by omega
   have Hb:=hd0 hb;clear hb;go_wp2_with fail
   go_loop [8] (fun i=>∃(f:Nat) (k:Int),f<=T.length/\i=.int .i64 k/\k=2+(T.length:Int)-f/\Hid (ee T T.length 2=ee T f k)) (fun i=>(2+(T.length:Int)-intOf i).toNat)
   case atStart=>exact⟨T.length,2,auP _,rfl,by omega,hd0 rfl⟩
   case round=>
    obtain⟨f,i,hf,rfl,hi,Hfr⟩:=hrel;have hib:0<=i/\i<=100:=by have:=Hb.out;omega
    have Hi:=hd0 hi;clear hi;have r1:=dH.look1 (tm:=247) iM.out.of underlying247 underlying3 (Ac w1) i (by omega);rw[pX]at r1
    cases hg:T.get i with
    |some n=>
     rw[hg]at r1;simp only[avO]at r1;have hf1:1<=f:=by
      rcases Nat.eq_zero_or_pos f with h0|h0
      ·have:=Ik HW.out Hfr.out h0;rw[hg]at this;cases this
      ·exact h0
     have akv:Hid (ee T T.length 2=ee T (f-1) (i+1)):=hd0 (by
      rw[Hfr.out];obtain⟨g,rfl⟩:∃ g,f=g+1:=⟨f-1,by omega⟩
      show(if(T.get i).isSome=true then ee T g (i+1)else i)=_;rw[hg];rfl)
     clear hg;go_wp2_with fail
     go_round
     case rel=>exact⟨f-1,i+1,by omega,rfl,by have:=Hi.out;omega,akv⟩
     case measure=>have:=Hi.out;simp[intOf];omega
    |none=>
     rw[hg]at r1;simp only[Option.map_none]at r1;have rk:Hid (ee T T.length 2=i):=hd0 (by
      rw[Hfr.out]
      cases f with
      |zero=>rfl
      |succ g=>
       show(if(T.get i).isSome=true then ee T g (i+1)else i)=_;rw[hg];rfl)
     have XK:=hd0 hg;have z0:w1.cell? ⟨w.heap.size,0,none⟩=some (.int .i64 c.kind):=aa ms.out 0;have aku:w.heap.size<w1.heap.size:=ak ms.out;have asW:p<w1.heap.size:=ak iM.out.tree;have I7:=@run_makeMap prog;clear hg hf Hi Hfr aW;rcases HKd.out with dE|hk1
     ·have tP:Hid (gp T c=((Tr.add ⟨i,false,1,[],[]⟩ T).named k (me s i),0)):=hd0 (by
       rw[Hv.out,rk.out,dE];rfl)
      rw[dE]at z0;have Cr:k≠i:=fun e=>by have:=j0.out.1;rw[e,XK.out]at this;cases this
      have TB:=hd0 Cr;have Sz:True:=trivial;clear Cr dE;go_wp2_with (first
       |(at_mapUpdate
         have _t:=Sz;refine iG (iM.out.of.mod ((ah.refl (fun _=>False) w1).alloc _) id) underlying247 underlying3 i (by omega) w1.heap.size (by have:=Hb.out;simp[cm];omega) rfl rfl rfl rfl rfl ?_;intro w2 gX j7;have hnt:w1.heap.size≠tb:=fun e=>by have:=iM.out.of.lt;omega
         have jJ:ah (·=tb) w1 w2:=((ah.refl (fun x=>x=tb) w1).alloc _).trans j7 (fun _ _ h=>h);have ou:World.blk w2 w1.heap.size (jU ⟨i,false,1,[],[]⟩ (w1.heap.size+1)) 246:=ab j7 (aw _ _ _) hnt;have OY:=rY (n0:=⟨i,false,1,[],[]⟩) (a:=w1.heap.size) (m:=w1.heap.size+1) iM.out (jC.1 XK.out) jJ (auP _) (by omega) (by omega) (ak ou) (fun h=>by cases h) gX ou (fun h=>by cases h);have jv:dg (Tr.add ⟨i,false,1,[],[]⟩ T):=kS HW.out.sorted (jC.1 XK.out);have Cv:(Tr.add ⟨i,false,1,[],[]⟩ T).get k=some up:=by rw[u9 HW.out.sorted (jC.1 XK.out),auV TB.out];exact j0.out.1
         have e4:w2.cell? ⟨A k,4,none⟩=some (.map (some (M k))):=by
          have h:=OY.cell jv Cv 4;simp only[auV TB.out]at h;rw[h];show some (Value.map (if up.dir=true then some (M k)else none))=_;rw[auT j0.out.2.1]
         have sC:=OY.names up ((ax jv).1 Cv).1 j0.out.2.1;have Ti:up.num=k:=((ax jv).1 Cv).2;rw[Ti]at sC;simp only[auV TB.out]at sC;have HMN:=hd0 sC;have mZ:=hd0 OY;have yC:=hd0 jv;have SQ:=hd0 Cv;have oD:Hid (ah (fun b=>role b≠.none) w w2):=hd0 ((bS.out.mono (fun _ _ h=>h.elim)).trans jJ (fun j hj e=>by rw[e,lE.out.rof];exact cV.noConfusion));clear Sz gX j7 hnt jJ ou OY jv Cv sC Ti)
       |(at_mapUpdate
         refine ln HMN.out underlying244 underlying9 underlying3 s (by omega) i (by omega) (by have:=j0.out.2.2.2;omega) rfl rfl rfl rfl rfl ?_;intro w3 ly iK;have aa5:=ly;have FB:=gS (f:=me s i) mZ.out yC.out SQ.out j0.out.2.1 (by simp only[auV TB.out];exact iK) (by simp only[auV TB.out];exact ly);have AJ:=hd0 FB;have nT:Hid (ah (fun b=>role b≠.none) w w3):=hd0 (oD.out.trans iK (fun j hj e=>by
          have hr:=lE.out.rnames up ((ax HW.out.sorted).1 j0.out.1).1 j0.out.2.1;rw[((ax HW.out.sorted).1 j0.out.1).2]at hr;rw[e,hr];exact cV.noConfusion))
         clear ly aa5 iK FB e4))
      go_ret;refine⟨by rw[tP.out];rfl,?_⟩;rw[tP.out];refine⟨_,_,_,AJ.out,fun b hb=>?_,nT.out⟩;have cJ:=bS.out.size;by_cases e1:b=w1.heap.size
      ·exact .inr (by omega)
      ·by_cases e2:b=w1.heap.size+1
       ·exact .inr (by omega)
       ·left
        rw[auV e1,auV (fun h=>e2 h.1)]at hb;exact hb
     ·have tP:Hid (gp T c=((Tr.add ⟨i,true,1,[],[]⟩ T).named k (me s i),0)):=hd0 (by
       rw[Hv.out,rk.out,hk1];rfl)
      rw[hk1]at z0;have Cr:k≠i:=fun e=>by have:=j0.out.1;rw[e,XK.out]at this;cases this
      have TB:=hd0 Cr;have Sz:True:=trivial;clear Cr hk1;go_wp2_with (first
       |(at_mapUpdate
         have _t:=Sz;refine iG (iM.out.of.mod (((ah.refl (fun _=>False) w1).alloc _).alloc _) id) underlying247 underlying3 i (by omega) w1.heap.size (by have:=Hb.out;simp[cm];omega) rfl rfl rfl rfl rfl ?_;intro w2 gX j7;have hnt:w1.heap.size≠tb:=fun e=>by have:=iM.out.of.lt;omega
         have jJ:ah (·=tb) w1 w2:=(((ah.refl (fun x=>x=tb) w1).alloc _).alloc _).trans j7 (fun _ _ h=>h);have ou:World.blk w2 w1.heap.size (jU ⟨i,true,1,[],[]⟩ (w1.heap.size+1)) 246:=ab j7 (aH (aw _ _ _) _) hnt;have OY:=rY (n0:=⟨i,true,1,[],[]⟩) (a:=w1.heap.size) (m:=w1.heap.size+1) iM.out (jC.1 XK.out) jJ (auP _) (by omega) (by omega) (ak ou) (fun _=>by have:=j7.size;simp at this;omega) gX ou (fun _=>(fu.made' (by simp) ()).mod j7 (fun e=>by have:=iM.out.of.lt;omega));have jv:dg (Tr.add ⟨i,true,1,[],[]⟩ T):=kS HW.out.sorted (jC.1 XK.out);have Cv:(Tr.add ⟨i,true,1,[],[]⟩ T).get k=some up:=by rw[u9 HW.out.sorted (jC.1 XK.out),auV TB.out];exact j0.out.1
         have e4:w2.cell? ⟨A k,4,none⟩=some (.map (some (M k))):=by
          have h:=OY.cell jv Cv 4;simp only[auV TB.out]at h;rw[h];show some (Value.map (if up.dir=true then some (M k)else none))=_;rw[auT j0.out.2.1]
         have sC:=OY.names up ((ax jv).1 Cv).1 j0.out.2.1;have Ti:up.num=k:=((ax jv).1 Cv).2;rw[Ti]at sC;simp only[auV TB.out]at sC;have HMN:=hd0 sC;have mZ:=hd0 OY;have yC:=hd0 jv;have SQ:=hd0 Cv;have oD:Hid (ah (fun b=>role b≠.none) w w2):=hd0 ((bS.out.mono (fun _ _ h=>h.elim)).trans jJ (fun j hj e=>by rw[e,lE.out.rof];exact cV.noConfusion));clear Sz gX j7 hnt jJ ou OY jv Cv sC Ti)
       |(at_mapUpdate
         refine ln HMN.out underlying244 underlying9 underlying3 s (by omega) i (by omega) (by have:=j0.out.2.2.2;omega) rfl rfl rfl rfl rfl ?_;intro w3 ly iK;have aa5:=ly;have FB:=gS (f:=me s i) mZ.out yC.out SQ.out j0.out.2.1 (by simp only[auV TB.out];exact iK) (by simp only[auV TB.out];exact ly);have AJ:=hd0 FB;have nT:Hid (ah (fun b=>role b≠.none) w w3):=hd0 (oD.out.trans iK (fun j hj e=>by
          have hr:=lE.out.rnames up ((ax HW.out.sorted).1 j0.out.1).1 j0.out.2.1;rw[((ax HW.out.sorted).1 j0.out.1).2]at hr;rw[e,hr];exact cV.noConfusion))
         clear ly aa5 iK FB e4))
      go_ret;refine⟨by rw[tP.out];rfl,?_⟩;rw[tP.out];refine⟨_,_,_,AJ.out,fun b hb=>?_,nT.out⟩;have cJ:=bS.out.size;by_cases e1:b=w1.heap.size
      ·exact .inr (by omega)
      ·by_cases e2:b=w1.heap.size+1
       ·exact .inr (by omega)
       ·left
        rw[auV e1,auV (fun h=>e2 h.1)]at hb;exact hb
end
end
section
open Go.RowKit
section
variable {w:World}{p tb:Nat}{T:Tr}{A M:Int->Nat}{role:Nat->cV}{d:Int->Nat}
theorem xt (h:aJ w p T tb A M role)(hw:WF T d)(he:t8 w)(path:List UInt8)(hp:path.length<4294967281){q:List (List UInt8)}{s:List UInt8}{o:Int}(sH:bo path=some (q++[s]))(hf:bd T 1 q=.ok o):
  Calls prog 247 #[.pointer (some ⟨p,0,none⟩),.string ⟨path.toArray⟩] w fun e w'=>e=.returned (.tuple #[.pointer (some ⟨A o,0,none⟩),.string ⟨s.toArray⟩])/\af w w':=by
 have HT:=hd0 h;have HW:=hd0 hw;have He:=hd0 he;have Hp:=hd0 hp;have Hf:=hd0 hf;have FN:=hd0 sH;clear h hw he hp hf sH;go_enter func247,ntmps247;go_wp2_with fail;refine(mI path w He.out Hp.out).mono ?_;rintro e w1 ⟨v,rfl,ho,hk⟩;have hL:cU path=q++[s]:=by rw[cU,FN.out];rfl
 rw[hL]at ho;have HR:=hd0 (oM ho);have iM:=hd0 (HT.out.keep hk);have HK:=hd0 hk;obtain⟨a,cap,hv⟩:=mJ HR.out;rw[kM]at hv;have zm:(q++[s]).length<=cap:=by rw[hv]at ho;exact J0 ho
 obtain⟨N,hN⟩:∃ N,q.length=N:=⟨_,rfl⟩
 have Oy:v=.slice a (N+1) cap:=by rw[hv];simp[hN]
 subst Oy;obtain⟨VL,b,o',rfl,c0⟩:=Ea HR.out hN;have TU:=hd0 VL;have hcp:N+1<=cap:=by simp[hN]at zm;omega
 have Hl:=hd0 (jF FN.out);have Hq:Hid (q.length=N):=hd0 hN;have hN8:N<=7:=by have:=Hl.out.1;simp at this;omega
 obtain⟨pe,sS⟩:∃ pe,eP path=pe:=⟨_,rfl⟩
 rw[sS];clear sS hL hv VL hN HR zm ho hk;go_wp2_with fail;refine(xl iM.out HW.out _ q TU.out (by have:=Hq.out;omega) (fun x hx=>by have:=Hl.out.2 x (by simp[hx]);omega)).mono ?_;rintro e w2 ⟨rfl,df⟩;have c1:w2.cell? ⟨b,o'+N,none⟩=some (.string ⟨s.toArray⟩):=by rw[df.cell (p:=⟨b,o'+N,none⟩) (am c0) id];exact c0
 have bw:=hd0 (HK.out.keep df);clear df c0;rw[Hf.out];unfold lh;go_wp2_with fail;have q1:IntKind.i64.wrap (N:Int)=(N:Int):=by rw[IntKind.wrap_i64];omega
 have q2:(0:Int)<=N:=by omega
 have q3:(N:Int)<(N:Int)+1:=by omega
 refine gE (by kernel_rfl) (by kernel_rfl) ?_
 repeat (quiet_step (fail))
 refine avE ?_;intro _ cL;obtain⟨nq,rfl⟩:=cL;go_wp2;go_ret2;exact⟨rfl,bw.out.drewN _⟩
theorem QH {T:Tr}{j:Int}{f:Nd->Nd}(hf:∀ n,(f n).num=n.num):(T.upd j f).drop j=T.drop j:=by
 unfold Tr.upd Tr.drop
 induction T with
 |nil=>rfl
 |cons y r ih=>
  rw[auJ,avY,avY,ih];have e:(if(y.num==j)=true then f y else y).num=y.num:=by
   split
   ·exact hf y
   ·rfl
  rw[e];by_cases h:y.num=j
  ·rw[avq.2 h];rfl
  ·rw[av3 h];rfl
theorem Ei (h:aJ w p T tb A M role)(hw:WF T d)(he:t8 w)(c:bU)(hc:c.Small):
  Calls prog 196 #[.pointer (some ⟨p,0,none⟩),gQ c] w fun e w'=>e=.returned (.int .i64 (dL T c).2)/\bH w w' p tb role (dL T c).1:=by
 have HC:=hd0 hc;have dE:af w (w.alloc (.cells (bL c) 55)):=(ah.refl _ w).alloc _;have HT:=hd0 (h.keep dE);have HW:=hd0 hw;have He:=hd0 (he.keep dE);have lE:=hd0 h;have sF:Hid (World.blk (w.alloc (.cells (bL c) 55)) w.heap.size (bL c) 55):=hd0 (aw _ _ _);clear h hw he hc dE;by_cases mT:c.path=[47]
 ·have hq:(c.path==[47])=true:=avq.2 mT;have Hv:Hid (dL T c=(T,144)):=hd0 (by rw[dL,auT mT]);clear mT HT He sF;go_enter func196,ntmps196;unfold gQ bL;go_wp2;go_ret;exact⟨by rw[Hv.out];rfl,by rw[Hv.out];exact bH.same lE.out ((ah.refl _ w).alloc _)⟩
 ·have hq:(c.path==[47])=false:=av3 mT;have ox:=hd0 mT;clear mT;go_enter func196,ntmps196;unfold gQ bL;go_wp2_with fail;unfold bL at HT He sF;have dF:Hid (af w (w.alloc (.cells #[.int .i64 c.kind,.string ⟨c.path.toArray⟩,.string ⟨c.dest.toArray⟩,.int .i64 c.pos,.string ⟨c.data.toArray⟩] 55))):=hd0 ((ah.refl _ w).alloc _);generalize w.alloc (.cells #[.int .i64 c.kind,.string ⟨c.path.toArray⟩,.string ⟨c.dest.toArray⟩,.int .i64 c.pos,.string ⟨c.data.toArray⟩] 55)=w0 at*;refine(Bq HT.out HW.out He.out c.path HC.out.path).mono ?_;rintro e w1 ⟨rfl,hk⟩;have ms:=hd0 (ab hk sF.out id);have iM:=hd0 (HT.out.keep hk);have FV:=hd0 (He.out.keep hk);have bS:=hd0 (dF.out.keep hk);clear hk sF HT He dF
  cases ha:zF T c.path with
  |error e=>
   have dZ:(e==0)=false:=by have:=ww ha;rw[avv];omega
   have Hv:Hid (dL T c=(T,e)):=hd0 (by rw[dL,auV ox.out,ha]);clear ha;unfold lh;go_wp2;go_ret;exact⟨by rw[Hv.out];rfl,by rw[Hv.out];exact bH.same lE.out bS.out⟩
  |ok j=>
   obtain⟨_,n,_,_,hg⟩:=zH HW.out ha;obtain⟨q,s,o,up,sH,hfj,OL,NI,tO,hs⟩:=ve HW.out ha ox.out;have c4:w1.cell? ⟨A j,4,none⟩=some (.map (if n.dir=true then some (M j)else none)):=iM.out.cell HW.out.sorted hg 4;obtain⟨dC,BO⟩:=gG HW.out hg;have hm:=((ax HW.out.sorted).1 hg).1;have aW:∀ ty,(Builtin.len_ #[244] ty #[.map (if n.dir=true then some (M j)else none)]).run prog w1=.ok (.int .i64 (n.names.length:Int)) w1:=fun ty=>by
    by_cases hd:n.dir=true
    ·rw[auT hd];have cw:=iM.out.names n hm hd;rw[dC]at cw;exact fu.len cw underlying244 ty
    ·rw[auV hd];have:n.names=[]:=(HW.out.file n hm (by simpa using hd)).1;rw[this];exact Maps.len_nil underlying244 ty
   have rk:=hd0 dC;have Hg:=hd0 hg;have j0:=hd0 (And.intro NI (And.intro tO hs));have FN:=hd0 sH;have Hfo:=hd0 OL;have rC:s.length<=16:=by
    have:=(jF sH).2 s (by simp);exact this
   have sQ:=(HW.out.names n hm).1;generalize N0:(Value.map (if n.dir=true then some (M j)else none))=mp at*;clear N0;have z1:w1.cell? ⟨w.heap.size,1,none⟩=some (.string ⟨c.path.toArray⟩):=aa ms.out 1;unfold lh;by_cases nU:n.names=[]
   ·have uN:n.names.length=0:=by rw[nU];rfl
    rw[uN]at aW;have Hnm:=hd0 nU;have Hv:Hid (dL T c=(if n.links=1 then(T.named o (fU s)).drop j else(T.named o (fU s)).upd j fun n=>{ n with links:=n.links-1 },0)):=hd0 (by
     rw[dL,auV ox.out,ha];simp[hg,nU,sH,OL])
    clear ha hg hfj sH OL NI tO hs dC hm nU sQ uN;go_wp2_with fail;refine(xt iM.out HW.out FV.out c.path HC.out.path FN.out Hfo.out).mono ?_;rintro e w2 ⟨rfl,hk⟩;have mZ:=hd0 (iM.out.keep hk);have bw:=hd0 (bS.out.keep hk);clear hk c4 z1 aW;obtain⟨We,Jm⟩:=(ax HW.out.sorted).1 j0.out.1;have d4:w2.cell? ⟨A o,4,none⟩=some (.map (if up.dir=true then some (M o)else none)):=mZ.out.cell HW.out.sorted j0.out.1 4;rw[auT j0.out.2.1]at d4;have cw:=mZ.out.names up We j0.out.2.1;rw[Jm]at cw;have hjo:j≠o:=fun e=>by
     have h1:=Hg.out;rw[e,j0.out.1]at h1;have h2:=avR h1;have h3:=j0.out.2.2;rw[h2,Hnm.out]at h3;cases h3
    have Hjo:=hd0 hjo;have VQ:=hd0 (And.intro We Jm);have zn:=hd0 cw;have V4:=hd0 (ul HW.out Hg.out);clear hjo We Jm cw;by_cases vq:n.links=1
    ·have Hl1:=hd0 vq;clear vq;go_wp2_with (
      (at_delete
       refine jW zn.out underlying244 underlying9 s (by omega) rfl rfl rfl rfl ?_;intro w3 ly iK;have FB:=gS (f:=fU s) mZ.out HW.out.sorted j0.out.1 j0.out.2.1 iK ly;have qe:dg (T.named o (fU s)):=jb (fun _=>rfl) HW.out.sorted;have Kg:(T.named o (fU s)).get j=some n:=by rw[eY,auV Hjo.out];exact Hg.out
       have Fm:=FB.node n ((ax qe).1 Kg).1;rw[rk.out]at Fm;have oo:=hd0 Fm;have AJ:=hd0 FB;have AG:=hd0 qe;have HG3:=hd0 Kg;have nT:Hid (ah (fun b=>role b≠.none) w w3):=hd0 ((bw.out.mono (fun _ _ h=>h.elim)).trans iK (fun i hi e=>by
        have hr:=lE.out.rnames up VQ.out.1 j0.out.2.1;rw[VQ.out.2]at hr;rw[e,hr];exact cV.noConfusion))
       have e2:w3.cell? ⟨A j,2,none⟩=some (.int .i64 1):=by rw[<-Hl1.out];exact aa Fm 2
       have e3:w3.frozen? ⟨A j,2,none⟩=false:=ae Fm _ rfl;clear ly iK FB qe Kg Fm d4))
     have ft:ah (·=A j) w3 (w3.setCell ⟨A j,2,none⟩ (.int .i64 0)):=(ah.refl (fun x=>x=A j) w3).setCell (p:=⟨A j,2,none⟩) (.inl rfl) _;have hB4:=ag oo.out 2 (.int .i64 0);have ht4:=mL (f:=fun n=>{ n with links:=0 }) AJ.out AG.out (fun _=>⟨rfl,rfl,rfl⟩) HG3.out ft hB4;have Ji:=lE.out.rnode n ((ax HW.out.sorted).1 Hg.out).1;rw[rk.out]at Ji;have ry:=hd0 (nT.out.trans ft (fun i hi e=>by rw[e,Ji];exact cV.noConfusion));generalize w3.setCell ⟨A j,2,none⟩ (.int .i64 0)=w4 at*;have f0:w4.cell? ⟨p,0,none⟩=some (.map (some tb)):=aa ht4.tree 0;have f1:w4.cell? ⟨A j,0,none⟩=some (.int .i64 j):=by rw[<-rk.out];rw[<-rk.out]at hB4;exact aa hB4 0
     have Tv:=hd0 ht4;clear ht4 hB4 ft Ji e2 e3;refine dD 8 (by kernel_rfl) (by kernel_rfl) ?_;simp only[avz,avA,avB,avC]
     repeat (quiet_step (fail))
     refine avE ?_;intro _ cL;obtain⟨nq,rfl⟩:=cL;have Z3:=Tv.out.keep ((ah.refl (fun _=>False) w4).drewN nq);refine uK Z3.of underlying247 underlying3 j BO rfl rfl rfl rfl ?_;intro w5 yV RX;have ht5:=Mn Z3 RX yV;rw[QH (f:=fun n=>{ n with links:=0 }) (fun _=>rfl)]at ht5;have Wc:=hd0 ht5;have Cs:=hd0 ((ry.out.drewN nq).trans RX (fun i hi e=>by rw[e,lE.out.rof];exact cV.noConfusion));clear ht5 yV RX Z3 f0 f1;go_wp2;go_ret;refine⟨by rw[Hv.out];rfl,?_⟩;rw[Hv.out,auT Hl1.out];exact⟨A,M,role,Wc.out,fun _ hb=>.inl hb,Cs.out⟩
    ·have Hl1:=hd0 vq;have hq3:(n.links-1==0)=false:=by rw[avv];omega
     have AF:=V4.out;clear vq;go_wp2_with (
      (at_delete
       refine jW zn.out underlying244 underlying9 s (by omega) rfl rfl rfl rfl ?_;intro w3 ly iK;have FB:=gS (f:=fU s) mZ.out HW.out.sorted j0.out.1 j0.out.2.1 iK ly;have qe:dg (T.named o (fU s)):=jb (fun _=>rfl) HW.out.sorted;have Kg:(T.named o (fU s)).get j=some n:=by rw[eY,auV Hjo.out];exact Hg.out
       have Fm:=FB.node n ((ax qe).1 Kg).1;rw[rk.out]at Fm;have oo:=hd0 Fm;have AJ:=hd0 FB;have AG:=hd0 qe;have HG3:=hd0 Kg;have nT:Hid (ah (fun b=>role b≠.none) w w3):=hd0 ((bw.out.mono (fun _ _ h=>h.elim)).trans iK (fun i hi e=>by
        have hr:=lE.out.rnames up VQ.out.1 j0.out.2.1;rw[VQ.out.2]at hr;rw[e,hr];exact cV.noConfusion))
       have e2:w3.cell? ⟨A j,2,none⟩=some (.int .i64 n.links):=aa Fm 2;have e3:w3.frozen? ⟨A j,2,none⟩=false:=ae Fm _ rfl;clear ly iK FB qe Kg Fm d4))
     go_ret;refine⟨by rw[Hv.out];rfl,?_⟩;rw[Hv.out,auV Hl1.out];have ft:ah (·=A j) w3 (w3.setCell ⟨A j,2,none⟩ (.int .i64 (n.links-1))):=(ah.refl (fun x=>x=A j) w3).setCell (p:=⟨A j,2,none⟩) (.inl rfl) _;have Ji:=lE.out.rnode n ((ax HW.out.sorted).1 Hg.out).1;rw[rk.out]at Ji;exact⟨A,M,role,mL (f:=fun n=>{ n with links:=n.links-1 }) AJ.out AG.out (fun _=>⟨rfl,rfl,rfl⟩) HG3.out ft (ag oo.out 2 _),fun _ hb=>.inl hb,nT.out.trans ft (fun i hi e=>by rw[e,Ji];exact cV.noConfusion)⟩
   ·have uN:¬((n.names.length:Int)=0):=by
     intro e;exact nU (avj.1 (by omega))
    have vq:(0:Int)<n.names.length:=by omega
    have Hv:Hid (dL T c=(T,144)):=hd0 (by rw[dL,auV ox.out,ha];simp[hg,nU]);clear ha hg hfj sH OL NI tO hs dC hm nU;go_wp2;go_ret;exact⟨by rw[Hv.out];rfl,by rw[Hv.out];exact bH.same lE.out bS.out⟩
end
end
section
open Go.RowKit Go.Maps
theorem U7 {α:Type}(g:α->Nat):∀(l:List α) (m0 m:Nat),m0<=m->(∀ q∈l,g q<=m)->(m=m0\/∃ q∈l,m=g q)->l.foldl (fun m p=>max m (g p)) m0=m:=by
 intro l
 induction l with
 |nil=>
  intro m0 m h0 _ h2;rcases h2 with rfl|⟨q,hq,_⟩
  ·rfl
  ·cases hq
 |cons x r ih=>
  intro m0 m h0 h1 h2;rw[List.foldl_cons];refine ih (max m0 (g x)) m (by have:=h1 x (by simp);omega) (fun q hq=>h1 q (by simp[hq])) ?_;rcases h2 with rfl|⟨q,hq,e⟩
  ·left;have:=h1 x (by simp);omega
  ·rcases au8.1 hq with rfl|hq
   ·left;omega
   ·right;exact⟨q,hq,e⟩
theorem J3 {T:Tr}:∀(f:Nat) (k:Int),fI T f k<=f:=by
 intro f
 induction f with
 |zero=>intro k;exact auP _
 |succ f ih=>
  intro k;have key:∀(l:Nm) (m:Nat),m<=f+1->l.foldl (fun m p=>max m (1+fI T f p.2)) m<=f+1:=by
   intro l
   induction l with
   |nil=>intro m h;exact h
   |cons q r ih2=>
    intro m h;rw[List.foldl_cons];exact ih2 _ (by have:=ih q.2;omega)
  show(match T.get k with|none=>0|some n=>_)<=_;split
  ·omega
  ·exact key _ 0 (by omega)
theorem U8 {l:Nm}{x:List UInt8}{c:Int}{yd:DataW Value}{yp:List MemPlace}{te:TypeId}(he:prog.underlying te=some (.int .i64))(hv:plainElem prog te (.int .i64 c)=some (yd,yp))(ni:∀ zd,(Ot l).atKey (.string x) zd=yd):bE x l=some c:=by
 obtain⟨a,ea,ey,_⟩:=plainElem_int_inv he hv;have ea2:c=a:=by injection ea
 subst ea2;have ey2:yd=oL c:=avZ Prod.fst ey;have h1:=(kL (ef:=oL) jA x l (oL 0)).symm.trans (ni (oL 0));have h2:=(kL (ef:=oL) jA x l (oL 1)).symm.trans (ni (oL 1));rw[ey2]at h1 h2
 cases hg:bE x l with
 |none=>
  rw[hg]at h1 h2;have e1:=AV (a:=0) (b:=c) h1;have e2:=AV (a:=1) (b:=c) h2;omega
 |some b=>
  rw[hg]at h1;exact avZ some (AV h1)
section
variable {w:World}{p tb:Nat}{T:Tr}{A M:Int->Nat}{role:Nat->cV}{d:Int->Nat}
theorem QI (hw:WF T d):∀(f:Nat) (k:Int) (n:Nd) (w:World),aJ w p T tb A M role->T.get k=some n->1<=f->f<=100->(n.dir=true->9<=d k+f)->
  Calls prog 246 #[.pointer (some ⟨p,0,none⟩),.pointer (some ⟨A k,0,none⟩)] w fun e w'=>e=.returned (.int .i64 (fI T f k:Int))/\af w w':=by
 have HW:=hd0 hw;clear hw;intro f
 induction f with
 |zero=>intro k n w _ _ h1 _ _;omega
 |succ f ih=>
  intro k n w h hg h1 arq hd9;have HT:=hd0 h;have Hg:=hd0 hg;have IH:=hd0 ih;have c4:w.cell? ⟨A k,4,none⟩=some (.map (if n.dir=true then some (M k)else none)):=h.cell HW.out.sorted hg 4;obtain⟨hm,hk⟩:=(ax HW.out.sorted).1 hg;have OA:fI T (f+1) k=n.names.foldl (fun m p=>max m (1+fI T f p.2)) 0:=by
   show(match T.get k with|none=>0|some n=>_)=_;rw[hg]
  have Hm:=hd0 (And.intro hm hk);have Hdv:=hd0 OA;have H9:=hd0 hd9;clear h hg ih h1 hm hk OA hd9
  cases hd:n.dir with
  |false=>
   rw[hd]at c4;have nU:=(HW.out.file n Hm.out.1 hd).1;have Hv:Hid (fI T (f+1) k=0):=hd0 (by rw[Hdv.out,nU];rfl);clear nU;have yt:=run_range_nilMap (P:=prog) w _ _ _ underlying244;have tT:=fun ty=>run_next_nilMap (P:=prog) w ty 0 0 #[];go_enter func246,ntmps246;go_wp2_with fail;refine wp_loop_rounds 1 ?_;rw[rounds_succ];go_wp2;go_ret;exact⟨by rw[Hv.out];rfl,(ah.refl _ w).alloc _⟩
  |true=>
   rw[hd,auT rfl]at c4;have cw:=HT.out.names n Hm.out.1 hd;rw[Hm.out.2]at cw;have zn:=hd0 cw;have Hd:=hd0 hd;clear cw hd;go_enter func246,ntmps246;go_wp2_with (at_range;refine wpList_range_own _ rfl _ 244 rfl 9 3 (string_keyed underlying9) underlying244 _ (M k) n.names.length (Ot n.names) rfl zn.out ?_;intro w0 Fz XJ R9)
   go_frame
   have B9:=hd0 Fz;have dF:=hd0 (qH XJ);clear Fz XJ R9 c4
   go_loopw [5] (fun v wr=>∃(left:Lit->Bool) (kg m:Nat),World.ranges wr prog 9 (plainElem prog 3) (M k) w.heap.size n.names.length (Ot n.names) left kg/\v=.int .i64 (m:Int)/\af w wr/\Hid (m<=101/\(∀ q∈n.names,left (.string q.1)=false->1+fI T f q.2<=m)/\(m=0\/∃ q∈n.names,m=1+fI T f q.2))) (fun _ wr=>wr.rangeLeft (M k) w.heap.size)
   case atStart=>
    refine⟨_,_,0,B9.out,rfl,dF.out,hd0 ⟨by omega,fun q hq hl=>?_,.inl rfl⟩⟩;rw[pL jA,(cA (HW.out.snames n Hm.out.1)).2 hq]at hl
    cases hl
   case round=>
    clear B9 dF;obtain⟨left,kg,m,TR,rfl,hK,Hq⟩:=hrel;have Jf:=hd0 TR;have HK:=hd0 hK;clear TR hK;go_wp2_with (at_next;refine wpList_next_ranges wr rfl _ rfl 9 (string_keyed underlying9) (plainElem prog 3) (fun x:List UInt8=>.string ⟨x.toArray⟩) (Value.int .i64) (fun key kl h=>by obtain⟨x,hx,_⟩:=Maps.keyOf_str underlying9 h;exact⟨x,hx⟩) (fun v y h=>by obtain⟨a,ha,_⟩:=plainElem_int_inv underlying3 h;exact⟨a,ha⟩) (M k) w.heap.size _ (Ot n.names) left kg rfl Jf.out ?_ ?_)
    ·intro _ uN;have Hv:Hid (fI T (f+1) k=m):=hd0 (by
      rw[Hdv.out];exact U7 _ _ 0 m (avw _) (fun q hq=>Hq.out.2.1 q hq (uN _)) Hq.out.2.2)
     clear uN;go_wp2;go_ret;exact⟨by rw[Hv.out];rfl,HK.out⟩
    ·intro x c kl yd yp w' sO Jn AF hv ni Fg aK hg1 sT hen;obtain⟨x',ex,rfl,_⟩:=Maps.keyOf_str underlying9 Jn;have ex2:x'=x:=by simpa[Go.Proofs.encStr]using ex.symm
     subst ex2;have TM:=U8 underlying3 hv ni;have Hin:=hd0 ((cA (HW.out.snames n Hm.out.1)).1 TM);obtain⟨_,nc,Ko,T4⟩:=HW.out.closed n Hm.out.1 _ Hin.out;have Hgc:=hd0 ((ax HW.out.sorted).2 ⟨Ko,T4⟩);have Yi:Hid (af w w'):=hd0 (HK.out.grown hg1 (fun i e=>.inr (by injection e with e;omega)));have HT':=hd0 (HT.out.keep Yi.out);have d0:w'.cell? ⟨p,0,none⟩=some (.map (some tb)):=aa HT'.out.tree 0;have KA:=(gG HW.out Hgc.out).2;have r1:=HT'.out.look1 HW.out.sorted Hgc.out KA;have h7:=HW.out.deep n Hm.out.1 (List.ne_nil_of_mem Hin.out);rw[Hm.out.2]at h7;have h9:=H9.out Hd.out;have Hfu:Hid (1<=f/\f<=100/\(nc.dir=true->9<=d c+f)):=hd0 ⟨by omega,by omega,fun hcd=>by
      have:=HW.out.depth n Hm.out.1 _ Hin.out nc Ko T4 hcd;rw[Hm.out.2]at this;simp only at this;omega⟩
     have uO:=hd0 Fg;have Hlt:=hd0 (show sO<kg from aK);have sD:=hd0 (Jf.out.left_eq);clear Jn AF hv ni Fg aK hg1 sT ex TM Ko T4 h7 h9 KA;go_wp2_with fail;refine(IH.out c nc w' HT'.out Hgc.out Hfu.out.1 Hfu.out.2.1 Hfu.out.2.2).mono ?_;rintro e w2 ⟨rfl,df⟩;have bw:=hd0 (Yi.out.keep df);have Sy:=hd0 (uO.out.kept (Gp df) (by simp) (by simp));obtain⟨dv,OA⟩:∃ dv,fI T f c=dv:=⟨_,rfl⟩
     have Hdl:=J3 (T:=T) f c;rw[OA]at Hdl;rw[OA];have mW:=Hq.out.1;have hfb:=Hfu.out.2.1;have aak:max (m:Int) (1+(dv:Int))=((max m (1+dv):Nat):Int):=by omega
     have Hq2:Hid (max m (1+dv)<=101/\(∀ q∈n.names,(left (.string q.1)&&!(Lit.string q.1).sameKey (.string x'))=false->1+fI T f q.2<=max m (1+dv))/\(max m (1+dv)=0\/∃ q∈n.names,max m (1+dv)=1+fI T f q.2)):=hd0 (by
      refine⟨by omega,fun q hq hl=>?_,?_⟩
      ·cases hlq:left (.string q.1)with
       |false=>have:=Hq.out.2.1 q hq hlq;omega
       |true=>
        rw[hlq]at hl;have e:q.1=x':=by simpa[Lit.sameKey]using hl
        have e2:=wi (HW.out.snames n Hm.out.1) hq Hin.out e;rw[e2];show 1+fI T f c<=_;rw[OA];omega
      ·by_cases hge:m<=1+dv
       ·exact .inr ⟨_,Hin.out,by show _=1+fI T f c;rw[OA];omega⟩
       ·rcases Hq.out.2.2 with h0|⟨q,hq,e⟩
        ·omega
        ·exact .inr ⟨q,hq,by omega⟩)
     clear df OA hen d0 r1;go_wp2_with fail;refine⟨⟨_,sO,max m (1+dv),Sy.out,rfl,bw.out,Hq2⟩,?_⟩;rw[Sy.out.left_eq,sD.out];exact Hlt.out
end
end
section
open Go.RowKit Go.Maps
theorem yP (s p:List UInt8)(w:World):
  Calls prog 170 #[.string ⟨s.toArray⟩,.string ⟨p.toArray⟩] w fun e w'=>e=.returned (.bool (Lib.hasPrefix s p))/\w'=w:=
 Tryz.strings_HasPrefix ⟨s.toArray⟩ ⟨p.toArray⟩ w
section
variable {w:World}{p tb:Nat}{T:Tr}{A M:Int->Nat}{role:Nat->cV}{d:Int->Nat}
theorem Ej (h:aJ w p T tb A M role)(hw:WF T d)(he:t8 w)(c:bU)(hc:c.Small):
  Calls prog 195 #[.pointer (some ⟨p,0,none⟩),gQ c] w fun e w'=>e=.returned (.int .i64 (cl T c).2)/\bH w w' p tb role (cl T c).1:=by
 have HC:=hd0 hc;have dE:af w (w.alloc (.cells (bL c) 55)):=(ah.refl _ w).alloc _;have HT:=hd0 (h.keep dE);have HW:=hd0 hw;have He:=hd0 (he.keep dE);have lE:=hd0 h;have sF:Hid (World.blk (w.alloc (.cells (bL c) 55)) w.heap.size (bL c) 55):=hd0 (aw _ _ _);clear h hw he hc dE;by_cases mT:c.path=[47]
 ·have hq:(c.path==[47])=true:=avq.2 mT;have Hv:Hid (cl T c=(T,144)):=hd0 (by rw[cl,auT mT]);clear mT HT He sF;go_enter func195,ntmps195;unfold gQ bL;go_wp2;go_ret;exact⟨by rw[Hv.out];rfl,by rw[Hv.out];exact bH.same lE.out ((ah.refl _ w).alloc _)⟩
 ·have hq:(c.path==[47])=false:=av3 mT;have ox:=hd0 mT;clear mT;go_enter func195,ntmps195;unfold gQ bL;go_wp2_with fail;unfold bL at HT He sF;have dF:Hid (af w (w.alloc (.cells #[.int .i64 c.kind,.string ⟨c.path.toArray⟩,.string ⟨c.dest.toArray⟩,.int .i64 c.pos,.string ⟨c.data.toArray⟩] 55))):=hd0 ((ah.refl _ w).alloc _);generalize w.alloc (.cells #[.int .i64 c.kind,.string ⟨c.path.toArray⟩,.string ⟨c.dest.toArray⟩,.int .i64 c.pos,.string ⟨c.data.toArray⟩] 55)=w0 at*;refine(Bq HT.out HW.out He.out c.path HC.out.path).mono ?_;rintro e w1 ⟨rfl,hk⟩;have ms:=hd0 (ab hk sF.out id);have iM:=hd0 (HT.out.keep hk);have FV:=hd0 (He.out.keep hk);have bS:=hd0 (dF.out.keep hk);clear hk sF HT He dF
  cases ha:zF T c.path with
  |error e=>
   have dZ:(e==0)=false:=by have:=ww ha;rw[avv];omega
   have Hv:Hid (cl T c=(T,e)):=hd0 (by rw[cl,auV ox.out,ha]);clear ha;unfold lh;go_wp2;go_ret;exact⟨by rw[Hv.out];rfl,by rw[Hv.out];exact bH.same lE.out bS.out⟩
  |ok j=>
   obtain⟨_,n,_,_,hg⟩:=zH HW.out ha;obtain⟨q,s,o,up,sH,hfj,OL,NI,tO,hs⟩:=ve HW.out ha ox.out;obtain⟨dC,BO⟩:=gG HW.out hg;have rk:=hd0 dC;have Hg:=hd0 hg;have j0:=hd0 (And.intro NI (And.intro tO hs));have FN:=hd0 sH;have Hfo:=hd0 OL;have Ha:=hd0 ha;have Hsl:=hd0 ((jF sH).2 s (by simp));clear ha hg sH hfj OL NI tO hs dC;have z1:w1.cell? ⟨w.heap.size,1,none⟩=some (.string ⟨c.path.toArray⟩):=aa ms.out 1;have z2:w1.cell? ⟨w.heap.size,2,none⟩=some (.string ⟨c.dest.toArray⟩):=aa ms.out 2;have j8:¬ 9223372036854775807<c.path.length+1:=by have:=HC.out.path;omega
   unfold lh;go_wp2_with fail;refine(yP c.dest (c.path++[47]) w1).mono ?_;rintro e w' ⟨rfl,rfl⟩
   cases Gb:Lib.hasPrefix c.dest (c.path++[47])with
   |true=>
    have Hv:Hid (cl T c=(T,144)):=hd0 (by rw[cl,auV ox.out,Ha.out];simp only[Gb,if_true]);clear Gb;go_wp2;go_ret;exact⟨by rw[Hv.out];rfl,by rw[Hv.out];exact bH.same lE.out bS.out⟩
   |false=>
    have Hpx:=hd0 Gb;clear Gb;go_wp2_with fail;refine(xn iM.out HW.out FV.out c.dest HC.out.dest).mono ?_;rintro e w2 ⟨rfl,hk⟩;have mZ:=hd0 (iM.out.keep hk);have bw:=hd0 (bS.out.keep hk);have VZ:=hd0 (FV.out.keep hk);have Wd:=hd0 (ab hk ms.out id);clear hk z1 z2 ms iM FV bS
    cases hr:gB T c.dest with
    |error e=>
     have dZ:(e==0)=false:=by have:=rQ hr;rw[avv];omega
     have Hv:Hid (cl T c=(T,e)):=hd0 (by rw[cl,auV ox.out,Ha.out];simp only[Hpx.out,hr];rfl);clear hr;unfold xm;go_wp2;go_ret;exact⟨by rw[Hv.out];rfl,by rw[Hv.out];exact bH.same lE.out bw.out⟩
    |ok x=>
     obtain⟨k,s2⟩:=x;obtain⟨q2,up2,Cj,pE,cg,hf2,Kk,yW,AB,sQ,VY⟩:=pP HW.out hr;have OB:Hid (cl T c=if 8<(q2++[s2]).length+fI T 9 j then(T,145)else((T.named o (fU s)).named k (me s2 j),0)):=hd0 (by
      rw[cl,auV ox.out,Ha.out];simp only[Hpx.out,hr,Cj,avm,FN.out,List.dropLast_concat,List.getLastD_concat,Hfo.out];rfl)
     have aro:s2.length<=16:=by
      simp only[aG,au4,au9]at cg;exact cg.1.1.2
     have Z9:=hd0 Cj;have zi:=hd0 (And.intro Kk (And.intro yW (And.intro AB sQ)));have z1:w2.cell? ⟨w.heap.size,1,none⟩=some (.string ⟨c.path.toArray⟩):=aa Wd.out 1;have z2:w2.cell? ⟨w.heap.size,2,none⟩=some (.string ⟨c.dest.toArray⟩):=aa Wd.out 2;clear hr Cj cg hf2 Kk yW AB sQ VY;unfold xm;go_wp2_with fail;refine(mI c.dest w2 VZ.out HC.out.dest).mono ?_;rintro e w3 ⟨v3,rfl,AO,dm⟩;have hL:cU c.dest=q2++[s2]:=by rw[cU,Z9.out];rfl
     rw[hL]at AO;obtain⟨a3,aaA,OV⟩:=mJ (oM AO);rw[kM]at OV;obtain⟨L2,T7⟩:∃ L2,(q2++[s2]).length=L2:=⟨_,rfl⟩
     rw[T7]at OV;subst OV;have T5:=hd0 T7;have hLb:L2<=8:=by rw[<-T7];simp;omega
     obtain⟨pe,sS⟩:∃ pe,eP c.dest=pe:=⟨_,rfl⟩
     rw[sS];have AJ:=hd0 (mZ.out.keep dm);have dJ:=hd0 (bw.out.keep dm);have He3:=hd0 (VZ.out.keep dm);have aeU:=hd0 (ab dm Wd.out id);clear hL sS AO dm z1 z2 mZ bw VZ Wd T7;go_wp2_with fail;refine(QI HW.out 9 j n w3 AJ.out Hg.out (by omega) (by omega) (fun _=>by omega)).mono ?_;rintro e w4 ⟨rfl,jo⟩;have Tv:=hd0 (AJ.out.keep jo);have lZ:=hd0 (dJ.out.keep jo);have He4:=hd0 (He3.out.keep jo);have aeW:=hd0 (ab jo aeU.out id);have Fw:=J3 (T:=T) 9 j;obtain⟨dv,OA⟩:∃ dv,fI T 9 j=dv:=⟨_,rfl⟩
     rw[OA]at Fw OB;rw[OA];clear jo AJ dJ He3 aeU OA;have z1:w4.cell? ⟨w.heap.size,1,none⟩=some (.string ⟨c.path.toArray⟩):=aa aeW.out 1;by_cases h8:8<L2+dv
     ·have Hv:Hid (cl T c=(T,145)):=hd0 (by rw[OB.out,T5.out,auT h8]);have h8':(8:Int)<(L2:Int)+(dv:Int):=by omega
      clear h8;go_wp2;go_ret;exact⟨by rw[Hv.out];rfl,by rw[Hv.out];exact bH.same lE.out lZ.out⟩
     ·have Hv:Hid (cl T c=((T.named o (fU s)).named k (me s2 j),0)):=hd0 (by rw[OB.out,T5.out,auV h8]);have h8':¬(8:Int)<(L2:Int)+(dv:Int):=by omega
      clear h8;go_wp2_with fail;refine(xt Tv.out HW.out He4.out c.path HC.out.path FN.out Hfo.out).mono ?_;rintro e w5 ⟨rfl,hk⟩;have Wc:=hd0 (Tv.out.keep hk);have lz:=hd0 (lZ.out.keep hk);clear hk z1 Tv lZ He4 aeW;have VQ:=hd0 ((ax HW.out.sorted).1 j0.out.1);have d4:w5.cell? ⟨A o,4,none⟩=some (.map (if up.dir=true then some (M o)else none)):=Wc.out.cell HW.out.sorted j0.out.1 4;rw[auT j0.out.2.1]at d4;have cw:=Wc.out.names up VQ.out.1 j0.out.2.1;rw[VQ.out.2]at cw;have zn:=hd0 cw;have Ju:dg (T.named o (fU s)):=jb (fun _=>rfl) HW.out.sorted;have HS6:=hd0 Ju;obtain⟨XX,Kg,Jw,TD,Kh⟩:∃ XX,(T.named o (fU s)).get k=some XX/\XX.dir=true/\jR s2 XX.names=none/\XX.names.length<60:=by
       rw[eY];by_cases e:k=o
       ·rw[auT e,zi.out.1];refine⟨_,rfl,zi.out.2.1,?_,Nat.lt_of_le_of_lt (rJ _ _) zi.out.2.2.2⟩;rw[mC];intro x hx;exact mC.1 zi.out.2.2.1 x (kT.1 hx).1
       ·rw[auV e];exact⟨up2,zi.out.1,zi.out.2.1,zi.out.2.2.1,zi.out.2.2.2⟩
      obtain⟨n3,aeh,aeA⟩:∃ n3,(T.named o (fU s)).get j=some n3/\n3.num=j:=by
       rw[eY];by_cases e:j=o
       ·rw[auT e,Hg.out];exact⟨_,rfl,rk.out⟩
       ·rw[auV e];exact⟨n,Hg.out,rk.out⟩
      have zc:=hd0 (And.intro Kg (And.intro Jw (And.intro TD Kh)));have Hn3:=hd0 (And.intro aeh aeA);clear cw Ju Kg Jw TD Kh aeh aeA;have rC:=Hsl.out;go_wp2_with (
       (at_delete
        refine jW zn.out underlying244 underlying9 s (by omega) rfl rfl rfl rfl ?_;intro w6 rB R7;have Jb:=gS (f:=fU s) Wc.out HW.out.sorted j0.out.1 j0.out.2.1 R7 rB;have HT6:=hd0 Jb;have OD:Hid (ah (fun b=>role b≠.none) w w6):=hd0 ((lz.out.mono (fun _ _ h=>h.elim)).trans R7 (fun i hi e=>by
         have hr:=lE.out.rnames up VQ.out.1 j0.out.2.1;rw[VQ.out.2]at hr;rw[e,hr];exact cV.noConfusion))
        have e4:w6.cell? ⟨A k,4,none⟩=some (.map (if XX.dir=true then some (M k)else none)):=Jb.cell HS6.out zc.out.1 4;rw[auT zc.out.2.1]at e4;have e0:w6.cell? ⟨A j,0,none⟩=some (.int .i64 n3.num):=Jb.cell HS6.out Hn3.out.1 0;rw[Hn3.out.2]at e0;clear rB R7 Jb d4))
      refine dD 9 (by kernel_rfl) (by kernel_rfl) ?_;simp only[avz,avA,avB,avC]
      repeat (quiet_step (fail))
      refine avE ?_;intro _ cL;obtain⟨nq,rfl⟩:=cL;have aaV:=HT6.out.keep ((ah.refl (fun _=>False) w6).drewN nq);have oq:=(ax HS6.out).1 zc.out.1;have So:=aaV.names XX oq.1 zc.out.2.1;rw[oq.2]at So;have Ki:=HT6.out.rnames XX oq.1 zc.out.2.1;rw[oq.2]at Ki;refine ln So underlying244 underlying9 underlying3 s2 (by omega) j BO (by have:=zc.out.2.2.2;omega) rfl rfl rfl rfl rfl ?_;intro w7 hm7 Te;have ht7:=gS (f:=me s2 j) aaV HS6.out zc.out.1 zc.out.2.1 Te hm7;have HT7:=hd0 ht7;have HM7:=hd0 ((OD.out.drewN nq).trans Te (fun i hi e=>by rw[e,Ki];exact cV.noConfusion));clear ht7 hm7 Te aaV oq So Ki e4 e0;go_wp2;go_ret;refine⟨by rw[Hv.out];rfl,?_⟩;rw[Hv.out];exact⟨A,M,role,HT7.out,fun _ hb=>.inl hb,HM7.out⟩
end
end
section
open Go.RowKit
theorem U9 (w:World):Calls prog 102 #[] w fun e w'=>∃ p tb A M role,e=.returned (.pointer (some ⟨p,0,none⟩))/\aJ w' p Tr.new tb A M role/\(∀ b,role b≠.none->w.heap.size<=b)/\af w w':=by
 have I7:=@run_makeMap prog;have dm:af (w.alloc (.map #[] 0)) (((w.alloc (.map #[] 0)).alloc (.map #[] 0)).alloc (.cells #[.int .i64 1,.bool true,.int .i64 1,.string ⟨#[]⟩,.map (some (w.heap.size+1))] 246)):=((ah.refl _ _).alloc _).alloc _;have cw:Mh (((w.alloc (.map #[] 0)).alloc (.map #[] 0)).alloc (.cells #[.int .i64 1,.bool true,.int .i64 1,.string ⟨#[]⟩,.map (some (w.heap.size+1))] 246)) w.heap.size []:=(dH.made w).mod dm id;have nU:If (((w.alloc (.map #[] 0)).alloc (.map #[] 0)).alloc (.cells #[.int .i64 1,.bool true,.int .i64 1,.string ⟨#[]⟩,.map (some (w.heap.size+1))] 246)) (w.heap.size+1) []:=(fu.made' (by simp) ()).mod ((ah.refl (fun _=>False) _).alloc _) id;have ou:World.blk (((w.alloc (.map #[] 0)).alloc (.map #[] 0)).alloc (.cells #[.int .i64 1,.bool true,.int .i64 1,.string ⟨#[]⟩,.map (some (w.heap.size+1))] 246)) (w.heap.size+1+1) #[.int .i64 1,.bool true,.int .i64 1,.string ⟨#[]⟩,.map (some (w.heap.size+1))] 246:=bi (by simp) _ _;obtain⟨w4,bh,AH,ft⟩:=dH.store cw underlying247 underlying3 1 (by decide) (w.heap.size+1+1) (by decide);have cJ:=ft.size;have HN4:=hd0 (nU.mod ft (by omega));have HD4:=hd0 (ab ft ou (by omega));have ry:=hd0 AH;have lZ:Hid (af w w4):=hd0 (((((ah.refl (fun _=>False) w).alloc _).alloc _).alloc _).new ft (auP _));simp at cJ;clear dm cw nU ou AH ft;go_enter func102,ntmps102;go_wp2;go_ret;obtain⟨N,hN⟩:∃ N,w.heap.size=N:=⟨_,rfl⟩
 rw[hN]at HN4 HD4 ry cJ;rw[hN];refine⟨w4.heap.size,N,fun _=>N+2,fun _=>N+1,fun b=>if b=w4.heap.size then .tree else if b=N then .of else if b=N+2 then .node 1 else if b=N+1 then .names 1 else .none,rfl,⟨aw _ _ _,auT rfl,ry.out.mod ((ah.refl (fun _=>False) w4).alloc _) id,?_,?_,?_,?_,?_,?_⟩,?_,lZ.out.alloc _⟩
 ·rw[auV (by omega),auT rfl]
 ·intro n hn;rw[Tr.new,awg]at hn;subst hn;exact aH HD4.out _
 ·intro n hn;rw[Tr.new,awg]at hn;subst hn;show(if N+2=w4.heap.size then _ else _)=_;rw[auV (by omega),auV (by omega),auT rfl]
 ·intro n hn _;rw[Tr.new,awg]at hn;subst hn;exact HN4.out.mod ((ah.refl (fun _=>False) w4).alloc _) id
 ·intro n hn _;rw[Tr.new,awg]at hn;subst hn;show(if N+1=w4.heap.size then _ else _)=_;rw[auV (by omega),auV (by omega),auV (by omega),auT rfl]
 ·intro b hb;simp only[World.alloc,Array.size_push];by_cases h1:b=w4.heap.size
  ·omega
  ·by_cases h2:b=N
   ·omega
   ·by_cases h3:b=N+2
    ·omega
    ·by_cases h4:b=N+1
     ·omega
     ·rw[auV h1,auV h2,auV h3,auV h4]at hb;exact absurd rfl hb
 ·intro b hb;by_cases h1:b=w4.heap.size
  ·omega
  ·by_cases h2:b=N
   ·omega
   ·by_cases h3:b=N+2
    ·omega
    ·by_cases h4:b=N+1
     ·omega
     ·simp only[auV h1,auV h2,auV h3,auV h4]at hb;exact absurd rfl hb
theorem bH.from {w w1 w':World}{p tb:Nat}{role:Nat->cV}{X:Tr}(k:af w w1)(h:bH w1 w' p tb role X):bH w w' p tb role X:=by
 obtain⟨A',M',j9,h1,h2,h3⟩:=h;exact⟨A',M',j9,h1,fun b hb=>(h2 b hb).imp id (fun h=>auI k.size h),(k.mono (fun _ _ h=>h.elim)).trans h3 (fun _ _ h=>h)⟩
section
variable {w:World}{p tb:Nat}{T:Tr}{A M:Int->Nat}{role:Nat->cV}{d:Int->Nat}
theorem Y8 (h:aJ w p T tb A M role)(hw:WF T d)(he:t8 w)(c:bU)(hc:c.Small):
  Calls prog 118 #[.pointer (some ⟨p,0,none⟩),gQ c] w fun e w'=>e=.returned (.int .i64 (qM T c).2)/\bH w w' p tb role (qM T c).1:=by
 have HC:=hd0 hc;have dE:af w (w.alloc (.cells (bL c) 55)):=(ah.refl _ w).alloc _;have HT:=hd0 (h.keep dE);have HW:=hd0 hw;have He:=hd0 (he.keep dE);have lE:=hd0 h;have sF:Hid (World.blk (w.alloc (.cells (bL c) 55)) w.heap.size (bL c) 55):=hd0 (aw _ _ _);clear h hw he hc dE;go_enter func118,ntmps118;unfold gQ bL;go_wp2_with fail;unfold bL at HT He sF;have dF:Hid (af w (w.alloc (.cells #[.int .i64 c.kind,.string ⟨c.path.toArray⟩,.string ⟨c.dest.toArray⟩,.int .i64 c.pos,.string ⟨c.data.toArray⟩] 55))):=hd0 ((ah.refl _ w).alloc _);generalize w.alloc (.cells #[.int .i64 c.kind,.string ⟨c.path.toArray⟩,.string ⟨c.dest.toArray⟩,.int .i64 c.pos,.string ⟨c.data.toArray⟩] 55)=w0 at*;refine(tt c w0 He.out HC.out).mono ?_;rintro e w1 ⟨rfl,hk⟩;have ms:=hd0 (ab hk sF.out id);have iM:=hd0 (HT.out.keep hk);have FV:=hd0 (He.out.keep hk);have bS:=hd0 (dF.out.keep hk);clear hk sF HT He dF
 cases cg:c.ok with
 |false=>
  have Hv:Hid (qM T c=(T,1)):=hd0 (by rw[qM,auT cg]);have hp:lg c=.tuple #[.string ⟨#[]⟩,.int .i64 130]:=by rw[lg,cg];rfl
  rw[hp];clear hp cg;go_wp2;go_ret;exact⟨by rw[Hv.out];rfl,by rw[Hv.out];exact bH.same lE.out bS.out⟩
 |true=>
  have hp:lg c=.tuple #[.string ⟨c.line.toArray⟩,.int .i64 0]:=by rw[lg,cg];rfl
  rw[hp];obtain⟨h9,_,_⟩:=oU cg;have hk:=YT h9;have yU:=hd0 (PK cg);have Wq:=hd0 (JO cg);have OB:Hid (qM T c=if c.kind=0\/c.kind=1 then gp T c else if c.kind=2\/c.kind=3 then dT T c else if c.kind=4 then ja T c else if c.kind=5 then cl T c else if c.kind=6 then dL T c else(T,1)):=hd0 (by rw[qM,auV (by rw[cg];decide)]);have z0:w1.cell? ⟨w.heap.size,0,none⟩=some (.int .i64 c.kind):=aa ms.out 0;have z1:w1.cell? ⟨w.heap.size,1,none⟩=some (.string ⟨c.path.toArray⟩):=aa ms.out 1;have z2:w1.cell? ⟨w.heap.size,2,none⟩=some (.string ⟨c.dest.toArray⟩):=aa ms.out 2;have z3:w1.cell? ⟨w.heap.size,3,none⟩=some (.int .i64 c.pos):=aa ms.out 3;have z4:w1.cell? ⟨w.heap.size,4,none⟩=some (.string ⟨c.data.toArray⟩):=aa ms.out 4;have rm:c.kind=0\/c.kind=1\/c.kind=2\/c.kind=3\/c.kind=4\/c.kind=5\/c.kind=6\/c.kind=7\/c.kind=8:=by omega
  clear hp cg h9 hk;rcases rm with hq|hq|hq|hq|hq|hq|hq|hq|hq
  ·have Hv:Hid (qM T c=gp T c):=hd0 (by rw[OB.out];simp[hq]);have da:=Af iM.out HW.out FV.out c HC.out (.inl hq);unfold gQ bL at da;rw[hq]at da;have I5:=hd0 da;rw[hq]at z0;clear hq da;go_wp2_with fail;refine I5.out.mono ?_;rintro e w2 ⟨rfl,ht⟩;have mZ:=hd0 ht;clear ht;go_wp2;go_ret;exact⟨by rw[Hv.out];rfl,by rw[Hv.out];exact bH.from bS.out mZ.out⟩
  ·have Hv:Hid (qM T c=gp T c):=hd0 (by rw[OB.out];simp[hq]);have da:=Af iM.out HW.out FV.out c HC.out (.inr hq);unfold gQ bL at da;rw[hq]at da;have I5:=hd0 da;rw[hq]at z0;clear hq da;go_wp2_with fail;refine I5.out.mono ?_;rintro e w2 ⟨rfl,ht⟩;have mZ:=hd0 ht;clear ht;go_wp2;go_ret;exact⟨by rw[Hv.out];rfl,by rw[Hv.out];exact bH.from bS.out mZ.out⟩
  ·have Hv:Hid (qM T c=dT T c):=hd0 (by rw[OB.out];simp[hq]);have da:=xr iM.out HW.out FV.out c HC.out yU.out Wq.out.1 Wq.out.2;unfold gQ bL at da;rw[hq]at da;have I5:=hd0 da;rw[hq]at z0;clear hq da;go_wp2_with fail;refine I5.out.mono ?_;rintro e w2 ⟨rfl,ht⟩;have mZ:=hd0 ht;clear ht;go_wp2;go_ret;exact⟨by rw[Hv.out];rfl,by rw[Hv.out];exact bH.from bS.out mZ.out⟩
  ·have Hv:Hid (qM T c=dT T c):=hd0 (by rw[OB.out];simp[hq]);have da:=xr iM.out HW.out FV.out c HC.out yU.out Wq.out.1 Wq.out.2;unfold gQ bL at da;rw[hq]at da;have I5:=hd0 da;rw[hq]at z0;clear hq da;go_wp2_with fail;refine I5.out.mono ?_;rintro e w2 ⟨rfl,ht⟩;have mZ:=hd0 ht;clear ht;go_wp2;go_ret;exact⟨by rw[Hv.out];rfl,by rw[Hv.out];exact bH.from bS.out mZ.out⟩
  ·have Hv:Hid (qM T c=ja T c):=hd0 (by rw[OB.out];simp[hq]);have da:=Mo iM.out HW.out FV.out c HC.out;unfold gQ bL at da;rw[hq]at da;have I5:=hd0 da;rw[hq]at z0;clear hq da;go_wp2_with fail;refine I5.out.mono ?_;rintro e w2 ⟨rfl,ht⟩;have mZ:=hd0 ht;clear ht;go_wp2;go_ret;exact⟨by rw[Hv.out];rfl,by rw[Hv.out];exact bH.from bS.out mZ.out⟩
  ·have Hv:Hid (qM T c=cl T c):=hd0 (by rw[OB.out];simp[hq]);have da:=Ej iM.out HW.out FV.out c HC.out;unfold gQ bL at da;rw[hq]at da;have I5:=hd0 da;rw[hq]at z0;clear hq da;go_wp2_with fail;refine I5.out.mono ?_;rintro e w2 ⟨rfl,ht⟩;have mZ:=hd0 ht;clear ht;go_wp2;go_ret;exact⟨by rw[Hv.out];rfl,by rw[Hv.out];exact bH.from bS.out mZ.out⟩
  ·have Hv:Hid (qM T c=dL T c):=hd0 (by rw[OB.out];simp[hq]);have da:=Ei iM.out HW.out FV.out c HC.out;unfold gQ bL at da;rw[hq]at da;have I5:=hd0 da;rw[hq]at z0;clear hq da;go_wp2_with fail;refine I5.out.mono ?_;rintro e w2 ⟨rfl,ht⟩;have mZ:=hd0 ht;clear ht;go_wp2;go_ret;exact⟨by rw[Hv.out];rfl,by rw[Hv.out];exact bH.from bS.out mZ.out⟩
  all_goals
   have Hv:Hid (qM T c=(T,1)):=hd0 (by rw[OB.out];simp[hq]);rw[hq]at z0;clear hq;go_wp2;go_ret;exact⟨by rw[Hv.out];rfl,by rw[Hv.out];exact bH.same lE.out bS.out⟩
end
end
end
end Go.Proofs.YtkghpdcloaiflaaGreatDoor
