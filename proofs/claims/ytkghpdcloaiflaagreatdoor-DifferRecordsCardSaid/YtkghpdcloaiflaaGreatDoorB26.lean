import Derived.Test.YtkghpdcloaiflaaGreatDoorB25
import Derived.Carry
set_option maxHeartbeats 8000000
set_option maxRecDepth 100000
namespace Go.Proofs.YtkghpdcloaiflaaGreatDoor
open _root_.Go.Proofs.Tryz
section
section
open Go.RowKit
section
variable {w:World}{p tb:Nat}{T:Tr}{A M:Int->Nat}{role:Nat->cW}{d:Int->Nat}
theorem gy (h:WF T d){k:Int}{n:Nd}(hg:T.get k=some n):n.num=k/\-9223372036854775808<=k/\k<=9223372036854775807:=by
 obtain⟨hm,hk⟩:=(aw h.sorted).1 hg;have:=h.nums n hm;omega
theorem Y6 {j:Int}(h:∀ n∈T,n.names.length<=60):j6 T j<=T.length*60:=by
 unfold j6
 induction T with
 |nil=>simp
 |cons y r ih=>
  have h1:=ih fun n hn=>h n (by simp[hn]);have h2:=h y (by simp);have h3:gt y.names j<=y.names.length:=List.countP_le_length;simp only[auY,auZ,au0];omega
theorem ud (h:WF T d){k:Int}{n:Nd}(hg:T.get k=some n):1<=n.links/\n.links<=3600:=by
 obtain⟨hm,hk⟩:=(aw h.sorted).1 hg;by_cases h1:n.num=1
 ·obtain⟨r,hr,e,_,hl⟩:=h.root;have:=lL h.sorted hm hr (by omega);rw[this,hl];omega
 ·have hc:=h.count n hm h1;have h2:=Y6 (T:=T) (j:=n.num) fun m hm=>(h.names m hm).1;have:=h.many;omega
theorem Mk (h:aH w p T tb A M role)(hw:WF T d)(he:tU w)(c:co)(hc:c.Small):
  Calls prog 194 #[.pointer (some ⟨p,0,none⟩),gK c] w fun e w'=>e=.returned (.int .i64 (iZ T c).2)/\bI w w' p tb role (iZ T c).1:=by
 have HC:=hd0 hc;have dt:af w (w.alloc (.cells (bP c) 55)):=(ah.refl _ w).alloc _;have HT:=hd0 (h.keep dt);have HW:=hd0 hw;have He:=hd0 (he.keep dt);have jW:=hd0 h;have sx:Hid (World.blk (w.alloc (.cells (bP c) 55)) w.heap.size (bP c) 55):=hd0 (av _ _ _);clear h hw he hc dt;go_enter func194,ntmps194;unfold gK bP;go_wp2_with fail;unfold bP at HT He sx;have dT:Hid (af w (w.alloc (.cells #[.int .i64 c.kind,.string ⟨c.path.toArray⟩,.string ⟨c.dest.toArray⟩,.int .i64 c.pos,.string ⟨c.data.toArray⟩] 55))):=hd0 ((ah.refl _ w).alloc _);generalize w.alloc (.cells #[.int .i64 c.kind,.string ⟨c.path.toArray⟩,.string ⟨c.dest.toArray⟩,.int .i64 c.pos,.string ⟨c.data.toArray⟩] 55)=w0 at*;refine(Bk HT.out HW.out He.out c.path HC.out.path).mono ?_;rintro e w1 ⟨rfl,hk⟩;have mi:=hd0 (ab hk sx.out id);have iJ:=hd0 (HT.out.keep hk);have FN:=hd0 (He.out.keep hk);have bZ:=hd0 (dT.out.keep hk);clear hk sx HT He dT
 cases ha:zE T c.path with
 |error e=>
  have dV:(e==0)=false:=by have:=wg ha;rw[avK];omega
  have Hv:Hid (iZ T c=(T,e)):=hd0 (by rw[iZ,ha]);clear ha;unfold le;go_wp2;go_ret;exact⟨by rw[Hv.out];rfl,by rw[Hv.out];exact bI.same jW.out bZ.out⟩
 |ok j=>
  obtain⟨l,n,_,_,hg⟩:=zG HW.out ha;have c1:w1.cell? ⟨A j,1,none⟩=some (.bool n.dir):=iJ.out.cell HW.out.sorted hg 1;unfold le
  cases hd:n.dir with
  |true=>
   rw[hd]at c1;have Hv:Hid (iZ T c=(T,143)):=hd0 (by rw[iZ,ha];simp[hg,hd]);clear ha hg hd;go_wp2;go_ret;exact⟨by rw[Hv.out];rfl,by rw[Hv.out];exact bI.same jW.out bZ.out⟩
  |false=>
   rw[hd]at c1;have Hv:Hid (iZ T c=match gq T c.dest with
     | .error e=>(T,e)
     | .ok (k,s)=>((T.named k (l7 s j)).upd j fun n=>{ n with links:=n.links+1 },0)):=hd0 (by rw[iZ,ha];simp only[hg,hd];rfl)
   have Hg:=hd0 hg;have Hd:=hd0 hd;have z2:w1.cell? ⟨w.heap.size,2,none⟩=some (.string ⟨c.dest.toArray⟩):=aa mi.out 2;clear ha hg hd;go_wp2_with fail;refine(xh iJ.out HW.out FN.out c.dest HC.out.dest).mono ?_;rintro e w2 ⟨rfl,hk⟩;have mS:=hd0 (iJ.out.keep hk);have bw:=hd0 (bZ.out.keep hk);clear hk c1 z2
   cases hr:gq T c.dest with
   |error e=>
    have dV:(e==0)=false:=by have:=rN hr;rw[avK];omega
    rw[hr]at Hv;clear hr;unfold xg;go_wp2;go_ret;exact⟨by rw[Hv.out];rfl,by rw[Hv.out];exact bI.same jW.out bw.out⟩
   |ok x=>
    obtain⟨k,s⟩:=x;obtain⟨q,up,hp,pB,bQ,hf,KG,zg,hn,sK,WB⟩:=pM HW.out hr;rw[hr]at Hv;simp only at Hv;have d4:w2.cell? ⟨A k,4,none⟩=some (.map (if up.dir=true then some (M k)else none)):=mS.out.cell HW.out.sorted KG 4;rw[au8 zg]at d4;have d0:w2.cell? ⟨A j,0,none⟩=some (.int .i64 n.num):=mS.out.cell HW.out.sorted Hg.out 0;obtain⟨dA,BP⟩:=gy HW.out Hg.out;rw[dA]at d0;have jV:=hd0 (And.intro KG (And.intro zg (And.intro hn sK)));have su:s.length<=16:=by
     simp only[aK,avj,avo]at bQ;exact bQ.1.1.2
    have rl:=hd0 dA;clear hr hp pB bQ hf KG zg hn sK WB dA;unfold xg;go_wp2_with fail;refine dB 9 (by kernel_rfl) (by kernel_rfl) ?_;simp only[avO,avP,avQ,avR]
    repeat (quiet_step (fail))
    refine avT ?_;intro _ bf;obtain⟨nq,rfl⟩:=bf;have Z3:=(mS.out.keep ((ah.refl (fun _=>False) w2).drewN nq))
    have cr:=Z3.names up ((aw HW.out.sorted).1 jV.out.1).1 jV.out.2.1;rw[((aw HW.out.sorted).1 jV.out.1).2]at cr;obtain⟨w3,bh,lu,iG⟩:=fg.store cr underlying244 underlying9 underlying3 s (by omega) j BP (by have:=jV.out.2.2.2;omega);refine iC bh rfl rfl rfl rfl rfl ?_;have zn:=gL (f:=l7 s j) Z3 HW.out.sorted jV.out.1 jV.out.2.1 iG lu;have yb:j≠k:=fun e=>by
     have h1:=Hg.out;rw[e,jV.out.1]at h1;have h2:=av6 h1;have h3:=jV.out.2.1;rw[h2,Hd.out]at h3;cases h3
    have qu:de (T.named k (l7 s j)):=i1 (fun _=>rfl) HW.out.sorted;have Fe:(T.named k (l7 s j)).get j=some n:=by rw[eR,ava yb];exact Hg.out
    have E9:=zn.node n ((aw qu).1 Fe).1;rw[rl.out]at E9;have oq:=hd0 E9;have AI:=hd0 zn;have JA:=hd0 qu;have HG3:=hd0 Fe;have lq:Hid (ah (fun b=>role b≠.none) w w3):=hd0 (((bw.out.drewN nq).mono (fun _ _ h=>h.elim)).trans iG (fun i hi e=>by
     have hr:=jW.out.rnames up ((aw HW.out.sorted).1 jV.out.1).1 jV.out.2.1;rw[((aw HW.out.sorted).1 jV.out.1).2]at hr;rw[e,hr];exact cW.noConfusion))
    have e2:w3.cell? ⟨A j,2,none⟩=some (.int .i64 n.links):=aa E9 2;have e3:w3.frozen? ⟨A j,2,none⟩=false:=ae E9 _ rfl;have AE:=ud HW.out Hg.out;clear Z3 cr bh lu iG zn yb qu Fe E9 d4 d0;go_wp2;go_ret;refine⟨by rw[Hv.out];rfl,?_⟩;rw[Hv.out];have eZ:ah (·=A j) w3 (w3.setCell ⟨A j,2,none⟩ (.int .i64 (n.links+1))):=(ah.refl (fun x=>x=A j) w3).setCell (p:=⟨A j,2,none⟩) (.inl rfl) _;refine⟨A,M,role,mH (f:=fun n=>{ n with links:=n.links+1 }) AI.out JA.out (fun _=>⟨rfl,rfl,rfl⟩) HG3.out eZ (ag oq.out 2 _),fun _ hb=>.inl hb,lq.out.trans eZ (fun i hi e=>?_)⟩;have hr:=jW.out.rnode n ((aw HW.out.sorted).1 Hg.out).1;rw[rl.out]at hr;rw[e,hr];exact cW.noConfusion
end
end
section
open Go.RowKit
section
variable {w:World}{p tb:Nat}{T:Tr}{A M:Int->Nat}{role:Nat->cW}{d:Int->Nat}
theorem xk (h:aH w p T tb A M role)(hw:WF T d)(he:tU w)(c:co)(hc:c.Small)(Ks:0<=c.pos/\c.pos<=16384)(FA:c.data.length<=512)(ig:c.kind≠2->c.data=[]):
  Calls prog 193 #[.pointer (some ⟨p,0,none⟩),gK c] w fun e w'=>e=.returned (.int .i64 (dN T c).2)/\bI w w' p tb role (dN T c).1:=by
 have HC:=hd0 hc;have dt:af w (w.alloc (.cells (bP c) 55)):=(ah.refl _ w).alloc _;have HT:=hd0 (h.keep dt);have HW:=hd0 hw;have He:=hd0 (he.keep dt);have jW:=hd0 h;have sx:Hid (World.blk (w.alloc (.cells (bP c) 55)) w.heap.size (bP c) 55):=hd0 (av _ _ _);have zc:=hd0 Ks;have Hdl:=hd0 FA;have ar3:=hd0 ig;clear h hw he hc dt Ks FA ig;go_enter func193,ntmps193;unfold gK bP;go_wp2_with fail;unfold bP at HT He sx;have dT:Hid (af w (w.alloc (.cells #[.int .i64 c.kind,.string ⟨c.path.toArray⟩,.string ⟨c.dest.toArray⟩,.int .i64 c.pos,.string ⟨c.data.toArray⟩] 55))):=hd0 ((ah.refl _ w).alloc _);generalize w.alloc (.cells #[.int .i64 c.kind,.string ⟨c.path.toArray⟩,.string ⟨c.dest.toArray⟩,.int .i64 c.pos,.string ⟨c.data.toArray⟩] 55)=w0 at*;refine(Bk HT.out HW.out He.out c.path HC.out.path).mono ?_;rintro e w1 ⟨rfl,hk⟩;have mi:=hd0 (ab hk sx.out id);have iJ:=hd0 (HT.out.keep hk);have FN:=hd0 (He.out.keep hk);have bZ:=hd0 (dT.out.keep hk);clear hk sx HT He dT
 cases ha:zE T c.path with
 |error e=>
  have dV:(e==0)=false:=by have:=wg ha;rw[avK];omega
  have Hv:Hid (dN T c=(T,e)):=hd0 (by rw[dN,ha]);clear ha;unfold le;go_wp2;go_ret;exact⟨by rw[Hv.out];rfl,by rw[Hv.out];exact bI.same jW.out bZ.out⟩
 |ok j=>
  obtain⟨_,n,_,_,hg⟩:=zG HW.out ha;have c1:w1.cell? ⟨A j,1,none⟩=some (.bool n.dir):=iJ.out.cell HW.out.sorted hg 1;have c3:w1.cell? ⟨A j,3,none⟩=some (.string ⟨n.data.toArray⟩):=iJ.out.cell HW.out.sorted hg 3;unfold le
  cases hd:n.dir with
  |true=>
   rw[hd]at c1;have Hv:Hid (dN T c=(T,143)):=hd0 (by rw[dN,ha];simp[hg,hd]);clear ha hg hd;go_wp2;go_ret;exact⟨by rw[Hv.out];rfl,by rw[Hv.out];exact bI.same jW.out bZ.out⟩
  |false=>
   rw[hd]at c1;have Hv:Hid (dN T c=if(n.data.length:Int)<c.pos\/c.kind=2/\16384<c.pos+c.data.length then(T,145)else(T.upd j fun n=>{ n with data:=ox c n.data },0)):=hd0 (by rw[dN,ha];simp[hg,hd]);have yc:=(HW.out.file n ((aw HW.out.sorted).1 hg).1 hd).2;have Hnl:=hd0 yc;have Hg:=hd0 hg;have z0:w1.cell? ⟨w.heap.size,0,none⟩=some (.int .i64 c.kind):=aa mi.out 0;have z3:w1.cell? ⟨w.heap.size,3,none⟩=some (.int .i64 c.pos):=aa mi.out 3;have z4:w1.cell? ⟨w.heap.size,4,none⟩=some (.string ⟨c.data.toArray⟩):=aa mi.out 4;obtain⟨pos,yg⟩:∃ pos:Nat,c.pos=pos:=⟨c.pos.toNat,by have:=zc.out;omega⟩
   have HP:=hd0 yg;rw[yg]at z3;have mV:pos<=16384:=by have:=zc.out;omega
   have Hpb:=hd0 mV;obtain⟨kd,hkd⟩:∃ kd,c.kind=kd:=⟨_,rfl⟩
   rw[hkd]at z0;have HKd:=hd0 hkd;obtain⟨D,hD⟩:∃ D,c.data=D:=⟨_,rfl⟩
   rw[hD]at z4;have HD:=hd0 hD;have hDl:D.length<=512:=by rw[<-hD];exact Hdl.out
   have HDl:=hd0 hDl;clear ha hg hd yc yg hkd hD mV hDl;by_cases hb1:(n.data.length:Int)<pos
   ·have tH:Hid (dN T c=(T,145)):=hd0 (by rw[Hv.out,HP.out,au8 (.inl hb1)]);go_wp2_with fail;refine aJ (by kernel_rfl) (by kernel_rfl) ?_
    repeat (go_big_quiet_step (fail))
    refine avT ?_;intro _ bf;obtain⟨nq,rfl⟩:=bf;go_wp2;go_ret;exact⟨by rw[tH.out];rfl,by rw[tH.out];exact bI.same jW.out (bZ.out.drewN nq)⟩
   ·have Cx:pos<=n.data.length:=by omega
    have Js:decide (n.data.length<pos)=false:=by rw[decide_eq_false_iff_not];omega
    have Oc:IntKind.i64.wrap ((pos:Int)+(D.length:Int))=(pos:Int)+(D.length:Int):=by rw[IntKind.wrap_i64];have:=Hpb.out;have:=HDl.out;omega
    by_cases dd:kd=2
    ·have Ob:(kd==2)=true:=avF.2 dd;by_cases eV:(16384:Int)<(pos:Int)+(D.length:Int)
     ·have tH:Hid (dN T c=(T,145)):=hd0 (by rw[Hv.out,HP.out,HKd.out,HD.out,au8 (.inr ⟨dd,eV⟩)]);have Kv:decide ((16384:Int)<(pos:Int)+(D.length:Int))=true:=by rw[decide_eq_true_iff];exact eV
      clear dd Cx hb1 eV;go_wp2_with fail;refine aJ (by kernel_rfl) (by kernel_rfl) ?_
      repeat (go_big_quiet_step (fail))
      refine avT ?_;intro _ bf;obtain⟨nq,rfl⟩:=bf;go_wp2;go_ret;exact⟨by rw[tH.out];rfl,by rw[tH.out];exact bI.same jW.out (bZ.out.drewN nq)⟩
     ·have tH:Hid (dN T c=(T.upd j fun n=>{ n with data:=ox c n.data },0)):=hd0 (by rw[Hv.out,HP.out,HKd.out,HD.out,ava (by rintro(h|⟨_,h⟩);exact hb1 h;exact eV h)]);have Hle:=hd0 Cx;have nO:(pos:Int)<=n.data.length:=by omega
      have ow:(0:Int)<=pos:=by omega
      have tJ:¬ 9223372036854775807<min pos n.data.length+D.length:=by have:=Hpb.out;have:=HDl.out;omega
      have Kv:decide ((16384:Int)<(pos:Int)+(D.length:Int))=false:=by rw[decide_eq_false_iff_not];exact eV
      clear Cx hb1 eV dd;go_wp2_with fail;refine aJ (by kernel_rfl) (by kernel_rfl) ?_
      repeat (go_big_quiet_step (fail))
      refine avT ?_;intro _ bf;obtain⟨nq,rfl⟩:=bf;go_wp2_with fail;refine bT (by kernel_rfl) (by kernel_rfl) ?_
      repeat (go_big_quiet_step (fail))
      refine avT ?_;intro _ bf;obtain⟨nr,rfl⟩:=bf;have su:(n.data.take pos++D).length<=16896:=by have:=Hpb.out;have:=HDl.out;rw[avi,au7];omega
      obtain⟨s,hs⟩:∃ s,n.data.take pos++D=s:=⟨_,rfl⟩
      rw[hs]at su;rw[hs];have Hs:=hd0 hs;have Hsl:=hd0 su;have hf3:w1.frozen? ⟨A j,3,none⟩=false:=by
       have hB:=iJ.out.node n ((aw HW.out.sorted).1 Hg.out).1;rw[(gy HW.out Hg.out).1]at hB;exact ae hB _ rfl
      clear hs su Js Oc nO ow tJ Kv c1 z3 z4;by_cases aL:s.length<n.data.length
      ·have hX:Hid (s++n.data.drop s.length=ox c n.data):=hd0 (by
        unfold ox;rw[HP.out,avD,HD.out,Hs.out];simp only;rw[au8 ⟨HKd.out.trans (by simpa using Ob),aL⟩])
       have yB:(s.length:Int)<n.data.length:=by omega
       have ls:(s.length:Int)<=n.data.length:=by omega
       have yz:(0:Int)<=s.length:=by omega
       have tJ:¬ 9223372036854775807<s.length+(n.data.length-s.length):=by have:=Hnl.out;omega
       have Kq:s.length<=n.data.length:=by omega
       go_wp2;go_ret;refine⟨by rw[tH.out];rfl,?_⟩;rw[tH.out];have dA:=(gy HW.out Hg.out).1;have hB:=(iJ.out.keep ((ah.refl (fun _=>False) w1).drewN nr)).node n ((aw HW.out.sorted).1 Hg.out).1;rw[dA]at hB;have I3:=jW.out.rnode n ((aw HW.out.sorted).1 Hg.out).1;rw[dA]at I3;have eZ:ah (·=A j) (w1.drewN nr) ((w1.drewN nr).setCell ⟨A j,3,none⟩ (.string ⟨(ox c n.data).toArray⟩)):=(ah.refl (fun x=>x=A j) _).setCell (p:=⟨A j,3,none⟩) (.inl rfl) _;have hX:=hX.out;rw[hX];exact⟨A,M,role,mH (f:=fun n=>{ n with data:=ox c n.data }) (iJ.out.keep ((ah.refl (fun _=>False) w1).drewN nr)) HW.out.sorted (fun _=>⟨rfl,rfl,rfl⟩) Hg.out eZ (ag hB 3 _),fun _ hb=>.inl hb,((bZ.out.drewN nr).mono (fun _ _ h=>h.elim)).trans eZ (fun i hi e=>by rw[e,I3];exact cW.noConfusion)⟩
      ·have hX:Hid (s=ox c n.data):=hd0 (by
        unfold ox;rw[HP.out,avD,HD.out,Hs.out];simp only;rw[ava (fun h=>aL h.2)])
       have yB:¬(s.length:Int)<n.data.length:=by omega
       clear aL;go_wp2;go_ret;refine⟨by rw[tH.out];rfl,?_⟩;rw[tH.out];have dA:=(gy HW.out Hg.out).1;have hB:=(iJ.out.keep ((ah.refl (fun _=>False) w1).drewN nr)).node n ((aw HW.out.sorted).1 Hg.out).1;rw[dA]at hB;have I3:=jW.out.rnode n ((aw HW.out.sorted).1 Hg.out).1;rw[dA]at I3;have eZ:ah (·=A j) (w1.drewN nr) ((w1.drewN nr).setCell ⟨A j,3,none⟩ (.string ⟨(ox c n.data).toArray⟩)):=(ah.refl (fun x=>x=A j) _).setCell (p:=⟨A j,3,none⟩) (.inl rfl) _;have hX:=hX.out;rw[hX];exact⟨A,M,role,mH (f:=fun n=>{ n with data:=ox c n.data }) (iJ.out.keep ((ah.refl (fun _=>False) w1).drewN nr)) HW.out.sorted (fun _=>⟨rfl,rfl,rfl⟩) Hg.out eZ (ag hB 3 _),fun _ hb=>.inl hb,((bZ.out.drewN nr).mono (fun _ _ h=>h.elim)).trans eZ (fun i hi e=>by rw[e,I3];exact cW.noConfusion)⟩
    ·have Ob:(kd==2)=false:=awh dd;have tH:Hid (dN T c=(T.upd j fun n=>{ n with data:=ox c n.data },0)):=hd0 (by rw[Hv.out,HP.out,HKd.out,HD.out,ava (by rintro(h|⟨h,_⟩);exact hb1 h;exact dd h)]);have Hle:=hd0 Cx;have nO:(pos:Int)<=n.data.length:=by omega
     have ow:(0:Int)<=pos:=by omega
     have tJ:¬ 9223372036854775807<min pos n.data.length+D.length:=by have:=Hpb.out;have:=HDl.out;omega
     have VP:=hd0 dd;clear Cx hb1 dd;go_wp2_with fail;refine aJ (by kernel_rfl) (by kernel_rfl) ?_
     repeat (go_big_quiet_step (fail))
     refine avT ?_;intro _ bf;obtain⟨nq,rfl⟩:=bf;go_wp2_with fail;refine bT (by kernel_rfl) (by kernel_rfl) ?_
     repeat (go_big_quiet_step (fail))
     refine avT ?_;intro _ bf;obtain⟨nr,rfl⟩:=bf;have hX:Hid (n.data.take pos++D=ox c n.data):=hd0 (by
      unfold ox;rw[HP.out,avD,HD.out];simp only;rw[ava (fun h=>VP.out (HKd.out.symm.trans h.1))])
     have hf3:w1.frozen? ⟨A j,3,none⟩=false:=by
      have hB:=iJ.out.node n ((aw HW.out.sorted).1 Hg.out).1;rw[(gy HW.out Hg.out).1]at hB;exact ae hB _ rfl
     rw[hX.out];clear Js Oc nO ow tJ c1 z3 z4;go_wp2;go_ret;refine⟨by rw[tH.out];rfl,?_⟩;rw[tH.out];have dA:=(gy HW.out Hg.out).1;have hB:=(iJ.out.keep ((ah.refl (fun _=>False) w1).drewN nr)).node n ((aw HW.out.sorted).1 Hg.out).1;rw[dA]at hB;have I3:=jW.out.rnode n ((aw HW.out.sorted).1 Hg.out).1;rw[dA]at I3;have eZ:ah (·=A j) (w1.drewN nr) ((w1.drewN nr).setCell ⟨A j,3,none⟩ (.string ⟨(ox c n.data).toArray⟩)):=(ah.refl (fun x=>x=A j) _).setCell (p:=⟨A j,3,none⟩) (.inl rfl) _;exact⟨A,M,role,mH (f:=fun n=>{ n with data:=ox c n.data }) (iJ.out.keep ((ah.refl (fun _=>False) w1).drewN nr)) HW.out.sorted (fun _=>⟨rfl,rfl,rfl⟩) Hg.out eZ (ag hB 3 _),fun _ hb=>.inl hb,((bZ.out.drewN nr).mono (fun _ _ h=>h.elim)).trans eZ (fun i hi e=>by rw[e,I3];exact cW.noConfusion)⟩
end
end
section
open Go.RowKit
section
variable {w:World}{p tb:Nat}{T:Tr}{A M:Int->Nat}{role:Nat->cW}{d:Int->Nat}
theorem Ii (h:WF T d){f:Nat}{k:Int}(e:dY T T.length 2=dY T f k):f=0->T.get k=none:=by
 intro h0;subst h0;have:=h.fresh.1;rw[e]at this;exact this
theorem Ae (h:aH w p T tb A M role)(hw:WF T d)(he:tU w)(c:co)(hc:c.Small)(hk:c.kind=0\/c.kind=1):
  Calls prog 192 #[.pointer (some ⟨p,0,none⟩),gK c] w fun e w'=>e=.returned (.int .i64 (gd T c).2)/\bI w w' p tb role (gd T c).1:=by
 have HC:=hd0 hc;have dt:af w (w.alloc (.cells (bP c) 55)):=(ah.refl _ w).alloc _;have HT:=hd0 (h.keep dt);have HW:=hd0 hw;have He:=hd0 (he.keep dt);have jW:=hd0 h;have sx:Hid (World.blk (w.alloc (.cells (bP c) 55)) w.heap.size (bP c) 55):=hd0 (av _ _ _);have HKd:=hd0 hk;clear h hw he hc dt hk;go_enter func192,ntmps192;unfold gK bP;go_wp2_with fail;unfold bP at HT He sx;have dT:Hid (af w (w.alloc (.cells #[.int .i64 c.kind,.string ⟨c.path.toArray⟩,.string ⟨c.dest.toArray⟩,.int .i64 c.pos,.string ⟨c.data.toArray⟩] 55))):=hd0 ((ah.refl _ w).alloc _);generalize w.alloc (.cells #[.int .i64 c.kind,.string ⟨c.path.toArray⟩,.string ⟨c.dest.toArray⟩,.int .i64 c.pos,.string ⟨c.data.toArray⟩] 55)=w0 at*;refine(xh HT.out HW.out He.out c.path HC.out.path).mono ?_;rintro e w1 ⟨rfl,hk⟩;have mi:=hd0 (ab hk sx.out id);have iJ:=hd0 (HT.out.keep hk);have bZ:=hd0 (dT.out.keep hk);clear hk sx HT He dT
 cases hr:gq T c.path with
 |error e=>
  have dV:(e==0)=false:=by have:=rN hr;rw[avK];omega
  have Hv:Hid (gd T c=(T,e)):=hd0 (by rw[gd,hr]);clear hr;unfold xg;go_wp2;go_ret;exact⟨by rw[Hv.out];rfl,by rw[Hv.out];exact bI.same jW.out bZ.out⟩
 |ok x=>
  obtain⟨k,s⟩:=x;obtain⟨q,up,hp,pB,bQ,hf,KG,zg,hn,sK,WB⟩:=pM HW.out hr;have su:s.length<=16:=by
   simp only[aK,avj,avo]at bQ;exact bQ.1.1.2
  have jV:=hd0 (And.intro KG (And.intro zg (And.intro hn sK)));have c0:w1.cell? ⟨p,0,none⟩=some (.map (some tb)):=aa iJ.out.tree 0;have bA:=fun ty=>dD.len (tm:=247) iJ.out.of underlying247 ty;have hla:(cm T A).length=T.length:=by simp[cm]
  rw[hla]at bA;have Hr:=hd0 hr;clear hr hp pB bQ hf KG zg hn sK WB hla;unfold xg;by_cases hb:60<=T.length
  ·have Hv:Hid (gd T c=(T,145)):=hd0 (by rw[gd,Hr.out];simp only[hb,if_true]);have eV:(60:Int)<=T.length:=by omega
   clear hb;go_wp2;go_ret;exact⟨by rw[Hv.out];rfl,by rw[Hv.out];exact bI.same jW.out bZ.out⟩
  ·have Hv:Hid (gd T c=((Tr.add ⟨dY T T.length 2,c.kind==1,1,[],[]⟩ T).named k (l7 s (dY T T.length 2)),0)):=hd0 (by rw[gd,Hr.out];simp only[hb,if_false]);have eV:¬(60:Int)<=T.length:=by omega
   have Hb:=hd0 hb;clear hb;go_wp2_with fail
   go_loop [8] (fun i=>∃(f:Nat) (k:Int),f<=T.length/\i=.int .i64 k/\k=2+(T.length:Int)-f/\Hid (dY T T.length 2=dY T f k)) (fun i=>(2+(T.length:Int)-intOf i).toNat)
   case atStart=>exact⟨T.length,2,au4 _,rfl,by omega,hd0 rfl⟩
   case round=>
    obtain⟨f,i,hf,rfl,hi,Hfr⟩:=hrel;have hib:0<=i/\i<=100:=by have:=Hb.out;omega
    have Hi:=hd0 hi;clear hi;have r1:=dD.look1 (tm:=247) iJ.out.of underlying247 underlying3 (Ab w1) i (by omega);rw[pU]at r1
    cases hg:T.get i with
    |some n=>
     rw[hg]at r1;simp only[av3]at r1;have hf1:1<=f:=by
      rcases Nat.eq_zero_or_pos f with h0|h0
      ·have:=Ii HW.out Hfr.out h0;rw[hg]at this;cases this
      ·exact h0
     have akp:Hid (dY T T.length 2=dY T (f-1) (i+1)):=hd0 (by
      rw[Hfr.out];obtain⟨g,rfl⟩:∃ g,f=g+1:=⟨f-1,by omega⟩
      show(if(T.get i).isSome=true then dY T g (i+1)else i)=_;rw[hg];rfl)
     clear hg;go_wp2_with fail
     go_round
     case rel=>exact⟨f-1,i+1,by omega,rfl,by have:=Hi.out;omega,akp⟩
     case measure=>have:=Hi.out;simp[intOf];omega
    |none=>
     rw[hg]at r1;simp only[Option.map_none]at r1;have rl:Hid (dY T T.length 2=i):=hd0 (by
      rw[Hfr.out]
      cases f with
      |zero=>rfl
      |succ g=>
       show(if(T.get i).isSome=true then dY T g (i+1)else i)=_;rw[hg];rfl)
     have XZ:=hd0 hg;have z0:w1.cell? ⟨w.heap.size,0,none⟩=some (.int .i64 c.kind):=aa mi.out 0;have aiL:w.heap.size<w1.heap.size:=ak mi.out;have ar8:p<w1.heap.size:=ak iJ.out.tree;have To:=@run_makeMap prog;clear hg hf Hi Hfr bA;rcases HKd.out with dt|hk1
     ·have tH:Hid (gd T c=((Tr.add ⟨i,false,1,[],[]⟩ T).named k (l7 s i),0)):=hd0 (by
       rw[Hv.out,rl.out,dt];rfl)
      rw[dt]at z0;have BX:k≠i:=fun e=>by have:=jV.out.1;rw[e,XZ.out]at this;cases this
      have Tt:=hd0 BX;have Tg:True:=trivial;clear BX dt;go_wp2_with (first
       |(at_mapUpdate
         have _t:=Tg;refine iD (iJ.out.of.mod ((ah.refl (fun _=>False) w1).alloc _) id) underlying247 underlying3 i (by omega) w1.heap.size (by have:=Hb.out;simp[cm];omega) rfl rfl rfl rfl rfl ?_;intro w2 df j3;have hnt:w1.heap.size≠tb:=fun e=>by have:=iJ.out.of.lt;omega
         have jG:ah (·=tb) w1 w2:=((ah.refl (fun x=>x=tb) w1).alloc _).trans j3 (fun _ _ h=>h);have ou:World.blk w2 w1.heap.size (jQ ⟨i,false,1,[],[]⟩ (w1.heap.size+1)) 246:=ab j3 (av _ _ _) hnt;have FK:=rS (n0:=⟨i,false,1,[],[]⟩) (a:=w1.heap.size) (m:=w1.heap.size+1) iJ.out (jy.1 XZ.out) jG (au4 _) (by omega) (by omega) (ak ou) (fun h=>by cases h) df ou (fun h=>by cases h);have jH:de (Tr.add ⟨i,false,1,[],[]⟩ T):=kP HW.out.sorted (jy.1 XZ.out);have ye:(Tr.add ⟨i,false,1,[],[]⟩ T).get k=some up:=by rw[uR HW.out.sorted (jy.1 XZ.out),ava Tt.out];exact jV.out.1
         have e4:w2.cell? ⟨A k,4,none⟩=some (.map (some (M k))):=by
          have h:=FK.cell jH ye 4;simp only[ava Tt.out]at h;rw[h];show some (Value.map (if up.dir=true then some (M k)else none))=_;rw[au8 jV.out.2.1]
         have so:=FK.names up ((aw jH).1 ye).1 jV.out.2.1;have SS:up.num=k:=((aw jH).1 ye).2;rw[SS]at so;simp only[ava Tt.out]at so;have HMN:=hd0 so;have mS:=hd0 FK;have Ck:=hd0 jH;have N6:=hd0 ye;have ft:Hid (ah (fun b=>role b≠.none) w w2):=hd0 ((bZ.out.mono (fun _ _ h=>h.elim)).trans jG (fun j hj e=>by rw[e,jW.out.rof];exact cW.noConfusion));clear Tg df j3 hnt jG ou FK jH ye so SS)
       |(at_mapUpdate
         refine lh HMN.out underlying244 underlying9 underlying3 s (by omega) i (by omega) (by have:=jV.out.2.2.2;omega) rfl rfl rfl rfl rfl ?_;intro w3 lu iG;have abm:=lu;have zn:=gL (f:=l7 s i) mS.out Ck.out N6.out jV.out.2.1 (by simp only[ava Tt.out];exact iG) (by simp only[ava Tt.out];exact lu);have AI:=hd0 zn;have lq:Hid (ah (fun b=>role b≠.none) w w3):=hd0 (ft.out.trans iG (fun j hj e=>by
          have hr:=jW.out.rnames up ((aw HW.out.sorted).1 jV.out.1).1 jV.out.2.1;rw[((aw HW.out.sorted).1 jV.out.1).2]at hr;rw[e,hr];exact cW.noConfusion))
         clear lu abm iG zn e4))
      go_ret;refine⟨by rw[tH.out];rfl,?_⟩;rw[tH.out];refine⟨_,_,_,AI.out,fun b hb=>?_,lq.out⟩;have cV:=bZ.out.size;by_cases e1:b=w1.heap.size
      ·exact .inr (by omega)
      ·by_cases e2:b=w1.heap.size+1
       ·exact .inr (by omega)
       ·left
        rw[ava e1,ava (fun h=>e2 h.1)]at hb;exact hb
     ·have tH:Hid (gd T c=((Tr.add ⟨i,true,1,[],[]⟩ T).named k (l7 s i),0)):=hd0 (by
       rw[Hv.out,rl.out,hk1];rfl)
      rw[hk1]at z0;have BX:k≠i:=fun e=>by have:=jV.out.1;rw[e,XZ.out]at this;cases this
      have Tt:=hd0 BX;have Tg:True:=trivial;clear BX hk1;go_wp2_with (first
       |(at_mapUpdate
         have _t:=Tg;refine iD (iJ.out.of.mod (((ah.refl (fun _=>False) w1).alloc _).alloc _) id) underlying247 underlying3 i (by omega) w1.heap.size (by have:=Hb.out;simp[cm];omega) rfl rfl rfl rfl rfl ?_;intro w2 df j3;have hnt:w1.heap.size≠tb:=fun e=>by have:=iJ.out.of.lt;omega
         have jG:ah (·=tb) w1 w2:=(((ah.refl (fun x=>x=tb) w1).alloc _).alloc _).trans j3 (fun _ _ h=>h);have ou:World.blk w2 w1.heap.size (jQ ⟨i,true,1,[],[]⟩ (w1.heap.size+1)) 246:=ab j3 (aF (av _ _ _) _) hnt;have FK:=rS (n0:=⟨i,true,1,[],[]⟩) (a:=w1.heap.size) (m:=w1.heap.size+1) iJ.out (jy.1 XZ.out) jG (au4 _) (by omega) (by omega) (ak ou) (fun _=>by have:=j3.size;simp at this;omega) df ou (fun _=>(fg.made' (by simp) ()).mod j3 (fun e=>by have:=iJ.out.of.lt;omega));have jH:de (Tr.add ⟨i,true,1,[],[]⟩ T):=kP HW.out.sorted (jy.1 XZ.out);have ye:(Tr.add ⟨i,true,1,[],[]⟩ T).get k=some up:=by rw[uR HW.out.sorted (jy.1 XZ.out),ava Tt.out];exact jV.out.1
         have e4:w2.cell? ⟨A k,4,none⟩=some (.map (some (M k))):=by
          have h:=FK.cell jH ye 4;simp only[ava Tt.out]at h;rw[h];show some (Value.map (if up.dir=true then some (M k)else none))=_;rw[au8 jV.out.2.1]
         have so:=FK.names up ((aw jH).1 ye).1 jV.out.2.1;have SS:up.num=k:=((aw jH).1 ye).2;rw[SS]at so;simp only[ava Tt.out]at so;have HMN:=hd0 so;have mS:=hd0 FK;have Ck:=hd0 jH;have N6:=hd0 ye;have ft:Hid (ah (fun b=>role b≠.none) w w2):=hd0 ((bZ.out.mono (fun _ _ h=>h.elim)).trans jG (fun j hj e=>by rw[e,jW.out.rof];exact cW.noConfusion));clear Tg df j3 hnt jG ou FK jH ye so SS)
       |(at_mapUpdate
         refine lh HMN.out underlying244 underlying9 underlying3 s (by omega) i (by omega) (by have:=jV.out.2.2.2;omega) rfl rfl rfl rfl rfl ?_;intro w3 lu iG;have abm:=lu;have zn:=gL (f:=l7 s i) mS.out Ck.out N6.out jV.out.2.1 (by simp only[ava Tt.out];exact iG) (by simp only[ava Tt.out];exact lu);have AI:=hd0 zn;have lq:Hid (ah (fun b=>role b≠.none) w w3):=hd0 (ft.out.trans iG (fun j hj e=>by
          have hr:=jW.out.rnames up ((aw HW.out.sorted).1 jV.out.1).1 jV.out.2.1;rw[((aw HW.out.sorted).1 jV.out.1).2]at hr;rw[e,hr];exact cW.noConfusion))
         clear lu abm iG zn e4))
      go_ret;refine⟨by rw[tH.out];rfl,?_⟩;rw[tH.out];refine⟨_,_,_,AI.out,fun b hb=>?_,lq.out⟩;have cV:=bZ.out.size;by_cases e1:b=w1.heap.size
      ·exact .inr (by omega)
      ·by_cases e2:b=w1.heap.size+1
       ·exact .inr (by omega)
       ·left
        rw[ava e1,ava (fun h=>e2 h.1)]at hb;exact hb
end
end
section
open Go.RowKit
section
variable {w:World}{p tb:Nat}{T:Tr}{A M:Int->Nat}{role:Nat->cW}{d:Int->Nat}
theorem xl (h:aH w p T tb A M role)(hw:WF T d)(he:tU w)(path:List UInt8)(hp:path.length<4294967281){q:List (List UInt8)}{s:List UInt8}{o:Int}(sr:bd path=some (q++[s]))(hf:aX T 1 q=.ok o):
  Calls prog 247 #[.pointer (some ⟨p,0,none⟩),.string ⟨path.toArray⟩] w fun e w'=>e=.returned (.tuple #[.pointer (some ⟨A o,0,none⟩),.string ⟨s.toArray⟩])/\af w w':=by
 have HT:=hd0 h;have HW:=hd0 hw;have He:=hd0 he;have Hp:=hd0 hp;have Hf:=hd0 hf;have Ga:=hd0 sr;clear h hw he hp hf sr;go_enter func247,ntmps247;go_wp2_with fail;refine(mF path w He.out Hp.out).mono ?_;rintro e w1 ⟨v,rfl,ho,hk⟩;have hL:cU path=q++[s]:=by rw[cU,Ga.out];rfl
 rw[hL]at ho;have HR:=hd0 (oH ho);have iJ:=hd0 (HT.out.keep hk);have HK:=hd0 hk;obtain⟨a,cap,hv⟩:=mG HR.out;rw[kK]at hv;have Cd:(q++[s]).length<=cap:=by rw[hv]at ho;exact J3 ho
 obtain⟨N,hN⟩:∃ N,q.length=N:=⟨_,rfl⟩
 have Oo:v=.slice a (N+1) cap:=by rw[hv];simp[hN]
 subst Oo;obtain⟨Ws,b,o',rfl,c0⟩:=D0 HR.out hN;have TU:=hd0 Ws;have hcp:N+1<=cap:=by simp[hN]at Cd;omega
 have Hl:=hd0 (jB Ga.out);have Hq:Hid (q.length=N):=hd0 hN;have hN8:N<=7:=by have:=Hl.out.1;simp at this;omega
 obtain⟨pe,sJ⟩:∃ pe,eL path=pe:=⟨_,rfl⟩
 rw[sJ];clear sJ hL hv Ws hN HR Cd ho hk;go_wp2_with fail;refine(xf iJ.out HW.out _ q TU.out (by have:=Hq.out;omega) (fun x hx=>by have:=Hl.out.2 x (by simp[hx]);omega)).mono ?_;rintro e w2 ⟨rfl,dd⟩;have c1:w2.cell? ⟨b,o'+N,none⟩=some (.string ⟨s.toArray⟩):=by rw[dd.cell (p:=⟨b,o'+N,none⟩) (ai c0) id];exact c0
 have bw:=hd0 (HK.out.keep dd);clear dd c0;rw[Hf.out];unfold le;go_wp2_with fail;have q1:IntKind.i64.wrap (N:Int)=(N:Int):=by rw[IntKind.wrap_i64];omega
 have q2:(0:Int)<=N:=by omega
 have q3:(N:Int)<(N:Int)+1:=by omega
 refine aJ (by kernel_rfl) (by kernel_rfl) ?_
 repeat (quiet_step (fail))
 refine avT ?_;intro _ bf;obtain⟨nq,rfl⟩:=bf;go_wp2;go_ret2;exact⟨rfl,bw.out.drewN _⟩
theorem Qz {T:Tr}{j:Int}{f:Nd->Nd}(hf:∀ n,(f n).num=n.num):(T.upd j f).drop j=T.drop j:=by
 unfold Tr.upd Tr.drop
 induction T with
 |nil=>rfl
 |cons y r ih=>
  rw[auY,awd,awd,ih];have e:(if(y.num==j)=true then f y else y).num=y.num:=by
   split
   ·exact hf y
   ·rfl
  rw[e];by_cases h:y.num=j
  ·rw[avF.2 h];rfl
  ·rw[awh h];rfl
theorem Ec (h:aH w p T tb A M role)(hw:WF T d)(he:tU w)(c:co)(hc:c.Small):
  Calls prog 196 #[.pointer (some ⟨p,0,none⟩),gK c] w fun e w'=>e=.returned (.int .i64 (dH T c).2)/\bI w w' p tb role (dH T c).1:=by
 have HC:=hd0 hc;have dt:af w (w.alloc (.cells (bP c) 55)):=(ah.refl _ w).alloc _;have HT:=hd0 (h.keep dt);have HW:=hd0 hw;have He:=hd0 (he.keep dt);have jW:=hd0 h;have sx:Hid (World.blk (w.alloc (.cells (bP c) 55)) w.heap.size (bP c) 55):=hd0 (av _ _ _);clear h hw he hc dt;by_cases mU:c.path=[47]
 ·have hq:(c.path==[47])=true:=avF.2 mU;have Hv:Hid (dH T c=(T,144)):=hd0 (by rw[dH,au8 mU]);clear mU HT He sx;go_enter func196,ntmps196;unfold gK bP;go_wp2;go_ret;exact⟨by rw[Hv.out];rfl,by rw[Hv.out];exact bI.same jW.out ((ah.refl _ w).alloc _)⟩
 ·have hq:(c.path==[47])=false:=awh mU;have og:=hd0 mU;clear mU;go_enter func196,ntmps196;unfold gK bP;go_wp2_with fail;unfold bP at HT He sx;have dT:Hid (af w (w.alloc (.cells #[.int .i64 c.kind,.string ⟨c.path.toArray⟩,.string ⟨c.dest.toArray⟩,.int .i64 c.pos,.string ⟨c.data.toArray⟩] 55))):=hd0 ((ah.refl _ w).alloc _);generalize w.alloc (.cells #[.int .i64 c.kind,.string ⟨c.path.toArray⟩,.string ⟨c.dest.toArray⟩,.int .i64 c.pos,.string ⟨c.data.toArray⟩] 55)=w0 at*;refine(Bk HT.out HW.out He.out c.path HC.out.path).mono ?_;rintro e w1 ⟨rfl,hk⟩;have mi:=hd0 (ab hk sx.out id);have iJ:=hd0 (HT.out.keep hk);have FN:=hd0 (He.out.keep hk);have bZ:=hd0 (dT.out.keep hk);clear hk sx HT He dT
  cases ha:zE T c.path with
  |error e=>
   have dV:(e==0)=false:=by have:=wg ha;rw[avK];omega
   have Hv:Hid (dH T c=(T,e)):=hd0 (by rw[dH,ava og.out,ha]);clear ha;unfold le;go_wp2;go_ret;exact⟨by rw[Hv.out];rfl,by rw[Hv.out];exact bI.same jW.out bZ.out⟩
  |ok j=>
   obtain⟨_,n,_,_,hg⟩:=zG HW.out ha;obtain⟨q,s,o,up,sr,hfj,Oz,Ft,vg,hs⟩:=uT HW.out ha og.out;have c4:w1.cell? ⟨A j,4,none⟩=some (.map (if n.dir=true then some (M j)else none)):=iJ.out.cell HW.out.sorted hg 4;obtain⟨dA,BP⟩:=gy HW.out hg;have hm:=((aw HW.out.sorted).1 hg).1;have bA:∀ ty,(Builtin.len_ #[244] ty #[.map (if n.dir=true then some (M j)else none)]).run prog w1=.ok (.int .i64 (n.names.length:Int)) w1:=fun ty=>by
    by_cases hd:n.dir=true
    ·rw[au8 hd];have cr:=iJ.out.names n hm hd;rw[dA]at cr;exact fg.len cr underlying244 ty
    ·rw[ava hd];have:n.names=[]:=(HW.out.file n hm (by simpa using hd)).1;rw[this];exact Maps.len_nil underlying244 ty
   have rl:=hd0 dA;have Hg:=hd0 hg;have jV:=hd0 (And.intro Ft (And.intro vg hs));have Ga:=hd0 sr;have Hfo:=hd0 Oz;have su:s.length<=16:=by
    have:=(jB sr).2 s (by simp);exact this
   have sK:=(HW.out.names n hm).1;generalize Ny:(Value.map (if n.dir=true then some (M j)else none))=mp at*;clear Ny;have z1:w1.cell? ⟨w.heap.size,1,none⟩=some (.string ⟨c.path.toArray⟩):=aa mi.out 1;unfold le;by_cases mn:n.names=[]
   ·have yz:n.names.length=0:=by rw[mn];rfl
    rw[yz]at bA;have Hnm:=hd0 mn;have Hv:Hid (dH T c=(if n.links=1 then(T.named o (fO s)).drop j else(T.named o (fO s)).upd j fun n=>{ n with links:=n.links-1 },0)):=hd0 (by
     rw[dH,ava og.out,ha];simp[hg,mn,sr,Oz])
    clear ha hg hfj sr Oz Ft vg hs dA hm mn sK yz;go_wp2_with fail;refine(xl iJ.out HW.out FN.out c.path HC.out.path Ga.out Hfo.out).mono ?_;rintro e w2 ⟨rfl,hk⟩;have mS:=hd0 (iJ.out.keep hk);have bw:=hd0 (bZ.out.keep hk);clear hk c4 z1 bA;obtain⟨VK,Jj⟩:=(aw HW.out.sorted).1 jV.out.1;have d4:w2.cell? ⟨A o,4,none⟩=some (.map (if up.dir=true then some (M o)else none)):=mS.out.cell HW.out.sorted jV.out.1 4;rw[au8 jV.out.2.1]at d4;have cr:=mS.out.names up VK jV.out.2.1;rw[Jj]at cr;have hjo:j≠o:=fun e=>by
     have h1:=Hg.out;rw[e,jV.out.1]at h1;have h2:=av6 h1;have h3:=jV.out.2.2;rw[h2,Hnm.out]at h3;cases h3
    have Hjo:=hd0 hjo;have Wm:=hd0 (And.intro VK Jj);have ze:=hd0 cr;have WJ:=hd0 (ud HW.out Hg.out);clear hjo VK Jj cr;by_cases yB:n.links=1
    ·have Hl1:=hd0 yB;clear yB;go_wp2_with (
      (at_delete
       refine jS ze.out underlying244 underlying9 s (by omega) rfl rfl rfl rfl ?_;intro w3 lu iG;have zn:=gL (f:=fO s) mS.out HW.out.sorted jV.out.1 jV.out.2.1 iG lu;have qu:de (T.named o (fO s)):=i1 (fun _=>rfl) HW.out.sorted;have Fe:(T.named o (fO s)).get j=some n:=by rw[eR,ava Hjo.out];exact Hg.out
       have E9:=zn.node n ((aw qu).1 Fe).1;rw[rl.out]at E9;have oq:=hd0 E9;have AI:=hd0 zn;have JA:=hd0 qu;have HG3:=hd0 Fe;have lq:Hid (ah (fun b=>role b≠.none) w w3):=hd0 ((bw.out.mono (fun _ _ h=>h.elim)).trans iG (fun i hi e=>by
        have hr:=jW.out.rnames up Wm.out.1 jV.out.2.1;rw[Wm.out.2]at hr;rw[e,hr];exact cW.noConfusion))
       have e2:w3.cell? ⟨A j,2,none⟩=some (.int .i64 1):=by rw[<-Hl1.out];exact aa E9 2
       have e3:w3.frozen? ⟨A j,2,none⟩=false:=ae E9 _ rfl;clear lu iG zn qu Fe E9 d4))
     have eZ:ah (·=A j) w3 (w3.setCell ⟨A j,2,none⟩ (.int .i64 0)):=(ah.refl (fun x=>x=A j) w3).setCell (p:=⟨A j,2,none⟩) (.inl rfl) _;have hB4:=ag oq.out 2 (.int .i64 0);have ht4:=mH (f:=fun n=>{ n with links:=0 }) AI.out JA.out (fun _=>⟨rfl,rfl,rfl⟩) HG3.out eZ hB4;have I3:=jW.out.rnode n ((aw HW.out.sorted).1 Hg.out).1;rw[rl.out]at I3;have ne:=hd0 (lq.out.trans eZ (fun i hi e=>by rw[e,I3];exact cW.noConfusion));generalize w3.setCell ⟨A j,2,none⟩ (.int .i64 0)=w4 at*;have f0:w4.cell? ⟨p,0,none⟩=some (.map (some tb)):=aa ht4.tree 0;have f1:w4.cell? ⟨A j,0,none⟩=some (.int .i64 j):=by rw[<-rl.out];rw[<-rl.out]at hB4;exact aa hB4 0
     have Sh:=hd0 ht4;clear ht4 hB4 eZ I3 e2 e3;refine dB 8 (by kernel_rfl) (by kernel_rfl) ?_;simp only[avO,avP,avQ,avR]
     repeat (quiet_step (fail))
     refine avT ?_;intro _ bf;obtain⟨nq,rfl⟩:=bf;have aaz:=Sh.out.keep ((ah.refl (fun _=>False) w4).drewN nq);refine uB aaz.of underlying247 underlying3 j BP rfl rfl rfl rfl ?_;intro w5 yS Te;have ht5:=Mj aaz Te yS;rw[Qz (f:=fun n=>{ n with links:=0 }) (fun _=>rfl)]at ht5;have WO:=hd0 ht5;have sE:=hd0 ((ne.out.drewN nq).trans Te (fun i hi e=>by rw[e,jW.out.rof];exact cW.noConfusion));clear ht5 yS Te aaz f0 f1;go_wp2;go_ret;refine⟨by rw[Hv.out];rfl,?_⟩;rw[Hv.out,au8 Hl1.out];exact⟨A,M,role,WO.out,fun _ hb=>.inl hb,sE.out⟩
    ·have Hl1:=hd0 yB;have hq3:(n.links-1==0)=false:=by rw[avK];omega
     have AE:=WJ.out;clear yB;go_wp2_with (
      (at_delete
       refine jS ze.out underlying244 underlying9 s (by omega) rfl rfl rfl rfl ?_;intro w3 lu iG;have zn:=gL (f:=fO s) mS.out HW.out.sorted jV.out.1 jV.out.2.1 iG lu;have qu:de (T.named o (fO s)):=i1 (fun _=>rfl) HW.out.sorted;have Fe:(T.named o (fO s)).get j=some n:=by rw[eR,ava Hjo.out];exact Hg.out
       have E9:=zn.node n ((aw qu).1 Fe).1;rw[rl.out]at E9;have oq:=hd0 E9;have AI:=hd0 zn;have JA:=hd0 qu;have HG3:=hd0 Fe;have lq:Hid (ah (fun b=>role b≠.none) w w3):=hd0 ((bw.out.mono (fun _ _ h=>h.elim)).trans iG (fun i hi e=>by
        have hr:=jW.out.rnames up Wm.out.1 jV.out.2.1;rw[Wm.out.2]at hr;rw[e,hr];exact cW.noConfusion))
       have e2:w3.cell? ⟨A j,2,none⟩=some (.int .i64 n.links):=aa E9 2;have e3:w3.frozen? ⟨A j,2,none⟩=false:=ae E9 _ rfl;clear lu iG zn qu Fe E9 d4))
     go_ret;refine⟨by rw[Hv.out];rfl,?_⟩;rw[Hv.out,ava Hl1.out];have eZ:ah (·=A j) w3 (w3.setCell ⟨A j,2,none⟩ (.int .i64 (n.links-1))):=(ah.refl (fun x=>x=A j) w3).setCell (p:=⟨A j,2,none⟩) (.inl rfl) _;have I3:=jW.out.rnode n ((aw HW.out.sorted).1 Hg.out).1;rw[rl.out]at I3;exact⟨A,M,role,mH (f:=fun n=>{ n with links:=n.links-1 }) AI.out JA.out (fun _=>⟨rfl,rfl,rfl⟩) HG3.out eZ (ag oq.out 2 _),fun _ hb=>.inl hb,lq.out.trans eZ (fun i hi e=>by rw[e,I3];exact cW.noConfusion)⟩
   ·have yz:¬((n.names.length:Int)=0):=by
     intro e;exact mn (avz.1 (by omega))
    have yB:(0:Int)<n.names.length:=by omega
    have Hv:Hid (dH T c=(T,144)):=hd0 (by rw[dH,ava og.out,ha];simp[hg,mn]);clear ha hg hfj sr Oz Ft vg hs dA hm mn;go_wp2;go_ret;exact⟨by rw[Hv.out];rfl,by rw[Hv.out];exact bI.same jW.out bZ.out⟩
end
end
section
open Go.RowKit Go.Maps
theorem UW {α:Type}(g:α->Nat):∀(l:List α) (m0 m:Nat),m0<=m->(∀ q∈l,g q<=m)->(m=m0\/∃ q∈l,m=g q)->l.foldl (fun m p=>max m (g p)) m0=m:=by
 intro l
 induction l with
 |nil=>
  intro m0 m h0 _ h2;rcases h2 with rfl|⟨q,hq,_⟩
  ·rfl
  ·cases hq
 |cons x r ih=>
  intro m0 m h0 h1 h2;rw[List.foldl_cons];refine ih (max m0 (g x)) m (by have:=h1 x (by simp);omega) (fun q hq=>h1 q (by simp[hq])) ?_;rcases h2 with rfl|⟨q,hq,e⟩
  ·left;have:=h1 x (by simp);omega
  ·rcases avn.1 hq with rfl|hq
   ·left;omega
   ·right;exact⟨q,hq,e⟩
theorem J6 {T:Tr}:∀(f:Nat) (k:Int),fE T f k<=f:=by
 intro f
 induction f with
 |zero=>intro k;exact au4 _
 |succ f ih=>
  intro k;have key:∀(l:Nm) (m:Nat),m<=f+1->l.foldl (fun m p=>max m (1+fE T f p.2)) m<=f+1:=by
   intro l
   induction l with
   |nil=>intro m h;exact h
   |cons q r ih2=>
    intro m h;rw[List.foldl_cons];exact ih2 _ (by have:=ih q.2;omega)
  show(match T.get k with|none=>0|some n=>_)<=_;split
  ·omega
  ·exact key _ 0 (by omega)
theorem UY {l:Nm}{x:List UInt8}{c:Int}{yd:DataW Value}{yp:List MemPlace}{te:TypeId}(he:prog.underlying te=some (.int .i64))(hv:plainElem prog te (.int .i64 c)=some (yd,yp))(qt:∀ zd,(Oh l).atKey (.string x) zd=yd):bF x l=some c:=by
 obtain⟨a,ea,ey,_⟩:=plainElem_int_inv he hv;have ea2:c=a:=by injection ea
 subst ea2;have ey2:yd=oG c:=awe Prod.fst ey;have h1:=(kI (ef:=oG) jw x l (oG 0)).symm.trans (qt (oG 0));have h2:=(kI (ef:=oG) jw x l (oG 1)).symm.trans (qt (oG 1));rw[ey2]at h1 h2
 cases hg:bF x l with
 |none=>
  rw[hg]at h1 h2;have e1:=AQ (a:=0) (b:=c) h1;have e2:=AQ (a:=1) (b:=c) h2;omega
 |some b=>
  rw[hg]at h1;exact awe some (AQ h1)
section
variable {w:World}{p tb:Nat}{T:Tr}{A M:Int->Nat}{role:Nat->cW}{d:Int->Nat}
theorem QA (hw:WF T d):∀(f:Nat) (k:Int) (n:Nd) (w:World),aH w p T tb A M role->T.get k=some n->1<=f->f<=100->(n.dir=true->9<=d k+f)->
  Calls prog 246 #[.pointer (some ⟨p,0,none⟩),.pointer (some ⟨A k,0,none⟩)] w fun e w'=>e=.returned (.int .i64 (fE T f k:Int))/\af w w':=by
 have HW:=hd0 hw;clear hw;intro f
 induction f with
 |zero=>intro k n w _ _ h1 _ _;omega
 |succ f ih=>
  intro k n w h hg h1 asW hd9;have HT:=hd0 h;have Hg:=hd0 hg;have IH:=hd0 ih;have c4:w.cell? ⟨A k,4,none⟩=some (.map (if n.dir=true then some (M k)else none)):=h.cell HW.out.sorted hg 4;obtain⟨hm,hk⟩:=(aw HW.out.sorted).1 hg;have Ox:fE T (f+1) k=n.names.foldl (fun m p=>max m (1+fE T f p.2)) 0:=by
   show(match T.get k with|none=>0|some n=>_)=_;rw[hg]
  have Hm:=hd0 (And.intro hm hk);have Hdv:=hd0 Ox;have H9:=hd0 hd9;clear h hg ih h1 hm hk Ox hd9
  cases hd:n.dir with
  |false=>
   rw[hd]at c4;have mn:=(HW.out.file n Hm.out.1 hd).1;have Hv:Hid (fE T (f+1) k=0):=hd0 (by rw[Hdv.out,mn];rfl);clear mn;have KK:=run_range_nilMap (P:=prog) w _ _ _ underlying244;have ol:=fun ty=>run_next_nilMap (P:=prog) w ty 0 0 #[];go_enter func246,ntmps246;go_wp2_with fail;refine wp_loop_rounds 1 ?_;rw[rounds_succ];go_wp2;go_ret;exact⟨by rw[Hv.out];rfl,(ah.refl _ w).alloc _⟩
  |true=>
   rw[hd,au8 rfl]at c4;have cr:=HT.out.names n Hm.out.1 hd;rw[Hm.out.2]at cr;have ze:=hd0 cr;have Hd:=hd0 hd;clear cr hd;go_enter func246,ntmps246;go_wp2_with (at_range;refine wpList_range_own _ rfl _ 244 rfl 9 3 (string_keyed underlying9) underlying244 _ (M k) n.names.length (Oh n.names) rfl ze.out ?_;intro w0 Fo Ys WE)
   go_frame
   have Cl:=hd0 Fo;have dT:=hd0 (qF Ys);clear Fo Ys WE c4
   go_loopw [5] (fun v wr=>∃(left:Lit->Bool) (j6 m:Nat),World.ranges wr prog 9 (plainElem prog 3) (M k) w.heap.size n.names.length (Oh n.names) left j6/\v=.int .i64 (m:Int)/\af w wr/\Hid (m<=101/\(∀ q∈n.names,left (.string q.1)=false->1+fE T f q.2<=m)/\(m=0\/∃ q∈n.names,m=1+fE T f q.2))) (fun _ wr=>wr.rangeLeft (M k) w.heap.size)
   case atStart=>
    refine⟨_,_,0,Cl.out,rfl,dT.out,hd0 ⟨by omega,fun q hq hl=>?_,.inl rfl⟩⟩;rw[pI jw,(cy (HW.out.snames n Hm.out.1)).2 hq]at hl
    cases hl
   case round=>
    clear Cl dT;obtain⟨left,j6,m,TZ,rfl,hK,Hq⟩:=hrel;have Jg:=hd0 TZ;have HK:=hd0 hK;clear TZ hK;go_wp2_with (at_next;refine wpList_next_ranges wr rfl _ rfl 9 (string_keyed underlying9) (plainElem prog 3) (fun x:List UInt8=>.string ⟨x.toArray⟩) (Value.int .i64) (fun key kl h=>by obtain⟨x,hx,_⟩:=Maps.keyOf_str underlying9 h;exact⟨x,hx⟩) (fun v y h=>by obtain⟨a,ha,_⟩:=plainElem_int_inv underlying3 h;exact⟨a,ha⟩) (M k) w.heap.size _ (Oh n.names) left j6 rfl Jg.out ?_ ?_)
    ·intro _ yz;have Hv:Hid (fE T (f+1) k=m):=hd0 (by
      rw[Hdv.out];exact UW _ _ 0 m (avL _) (fun q hq=>Hq.out.2.1 q hq (yz _)) Hq.out.2.2)
     clear yz;go_wp2;go_ret;exact⟨by rw[Hv.out];rfl,HK.out⟩
    ·intro x c kl yd yp w' sG Je AE hv qt Fs aL RU sM hen;obtain⟨x',ex,rfl,_⟩:=Maps.keyOf_str underlying9 Je;have ex2:x'=x:=by simpa[Go.Proofs.encStr]using ex.symm
     subst ex2;have Yu:=UY underlying3 hv qt;have Hin:=hd0 ((cy (HW.out.snames n Hm.out.1)).1 Yu);obtain⟨_,nc,NA,KF⟩:=HW.out.closed n Hm.out.1 _ Hin.out;have Hgc:=hd0 ((aw HW.out.sorted).2 ⟨NA,KF⟩);have YK:Hid (af w w'):=hd0 (HK.out.grown RU (fun i e=>.inr (by injection e with e;omega)));have HT':=hd0 (HT.out.keep YK.out);have d0:w'.cell? ⟨p,0,none⟩=some (.map (some tb)):=aa HT'.out.tree 0;have KO:=(gy HW.out Hgc.out).2;have r1:=HT'.out.look1 HW.out.sorted Hgc.out KO;have h7:=HW.out.deep n Hm.out.1 (List.ne_nil_of_mem Hin.out);rw[Hm.out.2]at h7;have h9:=H9.out Hd.out;have Hfu:Hid (1<=f/\f<=100/\(nc.dir=true->9<=d c+f)):=hd0 ⟨by omega,by omega,fun hcd=>by
      have:=HW.out.depth n Hm.out.1 _ Hin.out nc NA KF hcd;rw[Hm.out.2]at this;simp only at this;omega⟩
     have uH:=hd0 Fs;have Hlt:=hd0 (show sG<j6 from aL);have sC:=hd0 (Jg.out.left_eq);clear Je AE hv qt Fs aL RU sM ex Yu NA KF h7 h9 KO;go_wp2_with fail;refine(IH.out c nc w' HT'.out Hgc.out Hfu.out.1 Hfu.out.2.1 Hfu.out.2.2).mono ?_;rintro e w2 ⟨rfl,dd⟩;have bw:=hd0 (YK.out.keep dd);have RS:=hd0 (uH.out.kept (Gm dd) (by simp) (by simp));obtain⟨dv,Ox⟩:∃ dv,fE T f c=dv:=⟨_,rfl⟩
     have Hdl:=J6 (T:=T) f c;rw[Ox]at Hdl;rw[Ox];have ik:=Hq.out.1;have hfb:=Hfu.out.2.1;have aas:max (m:Int) (1+(dv:Int))=((max m (1+dv):Nat):Int):=by omega
     have Hq2:Hid (max m (1+dv)<=101/\(∀ q∈n.names,(left (.string q.1)&&!(Lit.string q.1).sameKey (.string x'))=false->1+fE T f q.2<=max m (1+dv))/\(max m (1+dv)=0\/∃ q∈n.names,max m (1+dv)=1+fE T f q.2)):=hd0 (by
      refine⟨by omega,fun q hq hl=>?_,?_⟩
      ·cases hlq:left (.string q.1)with
       |false=>have:=Hq.out.2.1 q hq hlq;omega
       |true=>
        rw[hlq]at hl;have e:q.1=x':=by simpa[Lit.sameKey]using hl
        have e2:=vW (HW.out.snames n Hm.out.1) hq Hin.out e;rw[e2];show 1+fE T f c<=_;rw[Ox];omega
      ·by_cases hge:m<=1+dv
       ·exact .inr ⟨_,Hin.out,by show _=1+fE T f c;rw[Ox];omega⟩
       ·rcases Hq.out.2.2 with h0|⟨q,hq,e⟩
        ·omega
        ·exact .inr ⟨q,hq,by omega⟩)
     clear dd Ox hen d0 r1;go_wp2_with fail;refine⟨⟨_,sG,max m (1+dv),RS.out,rfl,bw.out,Hq2⟩,?_⟩;rw[RS.out.left_eq,sC.out];exact Hlt.out
end
end
section
open Go.RowKit Go.Maps
theorem yO (s p:List UInt8)(w:World):
  Calls prog 170 #[.string ⟨s.toArray⟩,.string ⟨p.toArray⟩] w fun e w'=>e=.returned (.bool (Lib.hasPrefix s p))/\w'=w:=
 Tryz.strings_HasPrefix ⟨s.toArray⟩ ⟨p.toArray⟩ w
section
variable {w:World}{p tb:Nat}{T:Tr}{A M:Int->Nat}{role:Nat->cW}{d:Int->Nat}
theorem Ed (h:aH w p T tb A M role)(hw:WF T d)(he:tU w)(c:co)(hc:c.Small):
  Calls prog 195 #[.pointer (some ⟨p,0,none⟩),gK c] w fun e w'=>e=.returned (.int .i64 (cg T c).2)/\bI w w' p tb role (cg T c).1:=by
 have HC:=hd0 hc;have dt:af w (w.alloc (.cells (bP c) 55)):=(ah.refl _ w).alloc _;have HT:=hd0 (h.keep dt);have HW:=hd0 hw;have He:=hd0 (he.keep dt);have jW:=hd0 h;have sx:Hid (World.blk (w.alloc (.cells (bP c) 55)) w.heap.size (bP c) 55):=hd0 (av _ _ _);clear h hw he hc dt;by_cases mU:c.path=[47]
 ·have hq:(c.path==[47])=true:=avF.2 mU;have Hv:Hid (cg T c=(T,144)):=hd0 (by rw[cg,au8 mU]);clear mU HT He sx;go_enter func195,ntmps195;unfold gK bP;go_wp2;go_ret;exact⟨by rw[Hv.out];rfl,by rw[Hv.out];exact bI.same jW.out ((ah.refl _ w).alloc _)⟩
 ·have hq:(c.path==[47])=false:=awh mU;have og:=hd0 mU;clear mU;go_enter func195,ntmps195;unfold gK bP;go_wp2_with fail;unfold bP at HT He sx;have dT:Hid (af w (w.alloc (.cells #[.int .i64 c.kind,.string ⟨c.path.toArray⟩,.string ⟨c.dest.toArray⟩,.int .i64 c.pos,.string ⟨c.data.toArray⟩] 55))):=hd0 ((ah.refl _ w).alloc _);generalize w.alloc (.cells #[.int .i64 c.kind,.string ⟨c.path.toArray⟩,.string ⟨c.dest.toArray⟩,.int .i64 c.pos,.string ⟨c.data.toArray⟩] 55)=w0 at*;refine(Bk HT.out HW.out He.out c.path HC.out.path).mono ?_;rintro e w1 ⟨rfl,hk⟩;have mi:=hd0 (ab hk sx.out id);have iJ:=hd0 (HT.out.keep hk);have FN:=hd0 (He.out.keep hk);have bZ:=hd0 (dT.out.keep hk);clear hk sx HT He dT
  cases ha:zE T c.path with
  |error e=>
   have dV:(e==0)=false:=by have:=wg ha;rw[avK];omega
   have Hv:Hid (cg T c=(T,e)):=hd0 (by rw[cg,ava og.out,ha]);clear ha;unfold le;go_wp2;go_ret;exact⟨by rw[Hv.out];rfl,by rw[Hv.out];exact bI.same jW.out bZ.out⟩
  |ok j=>
   obtain⟨_,n,_,_,hg⟩:=zG HW.out ha;obtain⟨q,s,o,up,sr,hfj,Oz,Ft,vg,hs⟩:=uT HW.out ha og.out;obtain⟨dA,BP⟩:=gy HW.out hg;have rl:=hd0 dA;have Hg:=hd0 hg;have jV:=hd0 (And.intro Ft (And.intro vg hs));have Ga:=hd0 sr;have Hfo:=hd0 Oz;have Ha:=hd0 ha;have Hsl:=hd0 ((jB sr).2 s (by simp));clear ha hg sr hfj Oz Ft vg hs dA;have z1:w1.cell? ⟨w.heap.size,1,none⟩=some (.string ⟨c.path.toArray⟩):=aa mi.out 1;have z2:w1.cell? ⟨w.heap.size,2,none⟩=some (.string ⟨c.dest.toArray⟩):=aa mi.out 2;have nQ:¬ 9223372036854775807<c.path.length+1:=by have:=HC.out.path;omega
   unfold le;go_wp2_with fail;refine(yO c.dest (c.path++[47]) w1).mono ?_;rintro e w' ⟨rfl,rfl⟩
   cases Ye:Lib.hasPrefix c.dest (c.path++[47])with
   |true=>
    have Hv:Hid (cg T c=(T,144)):=hd0 (by rw[cg,ava og.out,Ha.out];simp only[Ye,if_true]);clear Ye;go_wp2;go_ret;exact⟨by rw[Hv.out];rfl,by rw[Hv.out];exact bI.same jW.out bZ.out⟩
   |false=>
    have Hpx:=hd0 Ye;clear Ye;go_wp2_with fail;refine(xh iJ.out HW.out FN.out c.dest HC.out.dest).mono ?_;rintro e w2 ⟨rfl,hk⟩;have mS:=hd0 (iJ.out.keep hk);have bw:=hd0 (bZ.out.keep hk);have Wd:=hd0 (FN.out.keep hk);have WA:=hd0 (ab hk mi.out id);clear hk z1 z2 mi iJ FN bZ
    cases hr:gq T c.dest with
    |error e=>
     have dV:(e==0)=false:=by have:=rN hr;rw[avK];omega
     have Hv:Hid (cg T c=(T,e)):=hd0 (by rw[cg,ava og.out,Ha.out];simp only[Hpx.out,hr];rfl);clear hr;unfold xg;go_wp2;go_ret;exact⟨by rw[Hv.out];rfl,by rw[Hv.out];exact bI.same jW.out bw.out⟩
    |ok x=>
     obtain⟨k,s2⟩:=x;obtain⟨q2,up2,Co,pB,bQ,hf2,KG,zg,AD,sK,WB⟩:=pM HW.out hr;have OG:Hid (cg T c=if 8<(q2++[s2]).length+fE T 9 j then(T,145)else((T.named o (fO s)).named k (l7 s2 j),0)):=hd0 (by
      rw[cg,ava og.out,Ha.out];simp only[Hpx.out,hr,Co,avC,Ga.out,List.dropLast_concat,List.getLastD_concat,Hfo.out];rfl)
     have ao8:s2.length<=16:=by
      simp only[aK,avj,avo]at bQ;exact bQ.1.1.2
     have Hp2:=hd0 Co;have zj:=hd0 (And.intro KG (And.intro zg (And.intro AD sK)));have z1:w2.cell? ⟨w.heap.size,1,none⟩=some (.string ⟨c.path.toArray⟩):=aa WA.out 1;have z2:w2.cell? ⟨w.heap.size,2,none⟩=some (.string ⟨c.dest.toArray⟩):=aa WA.out 2;clear hr Co bQ hf2 KG zg AD sK WB;unfold xg;go_wp2_with fail;refine(mF c.dest w2 Wd.out HC.out.dest).mono ?_;rintro e w3 ⟨v3,rfl,AC,dg⟩;have hL:cU c.dest=q2++[s2]:=by rw[cU,Hp2.out];rfl
     rw[hL]at AC;obtain⟨a3,Z8,Oy⟩:=mG (oH AC);rw[kK]at Oy;obtain⟨L2,TH⟩:∃ L2,(q2++[s2]).length=L2:=⟨_,rfl⟩
     rw[TH]at Oy;subst Oy;have Om:=hd0 TH;have hLb:L2<=8:=by rw[<-TH];simp;omega
     obtain⟨pe,sJ⟩:∃ pe,eL c.dest=pe:=⟨_,rfl⟩
     rw[sJ];have AI:=hd0 (mS.out.keep dg);have dR:=hd0 (bw.out.keep dg);have He3:=hd0 (Wd.out.keep dg);have afr:=hd0 (ab dg WA.out id);clear hL sJ AC dg z1 z2 mS bw Wd WA TH;go_wp2_with fail;refine(QA HW.out 9 j n w3 AI.out Hg.out (by omega) (by omega) (fun _=>by omega)).mono ?_;rintro e w4 ⟨rfl,jj⟩;have Sh:=hd0 (AI.out.keep jj);have od:=hd0 (dR.out.keep jj);have He4:=hd0 (He3.out.keep jj);have ae4:=hd0 (ab jj afr.out id);have FA:=J6 (T:=T) 9 j;obtain⟨dv,Ox⟩:∃ dv,fE T 9 j=dv:=⟨_,rfl⟩
     rw[Ox]at FA OG;rw[Ox];clear jj AI dR He3 afr Ox;have z1:w4.cell? ⟨w.heap.size,1,none⟩=some (.string ⟨c.path.toArray⟩):=aa ae4.out 1;by_cases h8:8<L2+dv
     ·have Hv:Hid (cg T c=(T,145)):=hd0 (by rw[OG.out,Om.out,au8 h8]);have h8':(8:Int)<(L2:Int)+(dv:Int):=by omega
      clear h8;go_wp2;go_ret;exact⟨by rw[Hv.out];rfl,by rw[Hv.out];exact bI.same jW.out od.out⟩
     ·have Hv:Hid (cg T c=((T.named o (fO s)).named k (l7 s2 j),0)):=hd0 (by rw[OG.out,Om.out,ava h8]);have h8':¬(8:Int)<(L2:Int)+(dv:Int):=by omega
      clear h8;go_wp2_with fail;refine(xl Sh.out HW.out He4.out c.path HC.out.path Ga.out Hfo.out).mono ?_;rintro e w5 ⟨rfl,hk⟩;have WO:=hd0 (Sh.out.keep hk);have mT:=hd0 (od.out.keep hk);clear hk z1 Sh od He4 ae4;have Wm:=hd0 ((aw HW.out.sorted).1 jV.out.1);have d4:w5.cell? ⟨A o,4,none⟩=some (.map (if up.dir=true then some (M o)else none)):=WO.out.cell HW.out.sorted jV.out.1 4;rw[au8 jV.out.2.1]at d4;have cr:=WO.out.names up Wm.out.1 jV.out.2.1;rw[Wm.out.2]at cr;have ze:=hd0 cr;have Ji:de (T.named o (fO s)):=i1 (fun _=>rfl) HW.out.sorted;have HS6:=hd0 Ji;obtain⟨XS,Fe,Jh,SF,Kq⟩:∃ XS,(T.named o (fO s)).get k=some XS/\XS.dir=true/\jN s2 XS.names=none/\XS.names.length<60:=by
       rw[eR];by_cases e:k=o
       ·rw[au8 e,zj.out.1];refine⟨_,rfl,zj.out.2.1,?_,Nat.lt_of_le_of_lt (rG _ _) zj.out.2.2.2⟩;rw[mt];intro x hx;exact mt.1 zj.out.2.2.1 x (kQ.1 hx).1
       ·rw[ava e];exact⟨up2,zj.out.1,zj.out.2.1,zj.out.2.2.1,zj.out.2.2.2⟩
      obtain⟨n3,ade,aff⟩:∃ n3,(T.named o (fO s)).get j=some n3/\n3.num=j:=by
       rw[eR];by_cases e:j=o
       ·rw[au8 e,Hg.out];exact⟨_,rfl,rl.out⟩
       ·rw[ava e];exact⟨n,Hg.out,rl.out⟩
      have zf:=hd0 (And.intro Fe (And.intro Jh (And.intro SF Kq)));have Hn3:=hd0 (And.intro ade aff);clear cr Ji Fe Jh SF Kq ade aff;have su:=Hsl.out;go_wp2_with (
       (at_delete
        refine jS ze.out underlying244 underlying9 s (by omega) rfl rfl rfl rfl ?_;intro w6 ry Su;have Ju:=gL (f:=fO s) WO.out HW.out.sorted jV.out.1 jV.out.2.1 Su ry;have HT6:=hd0 Ju;have Ov:Hid (ah (fun b=>role b≠.none) w w6):=hd0 ((mT.out.mono (fun _ _ h=>h.elim)).trans Su (fun i hi e=>by
         have hr:=jW.out.rnames up Wm.out.1 jV.out.2.1;rw[Wm.out.2]at hr;rw[e,hr];exact cW.noConfusion))
        have e4:w6.cell? ⟨A k,4,none⟩=some (.map (if XS.dir=true then some (M k)else none)):=Ju.cell HS6.out zf.out.1 4;rw[au8 zf.out.2.1]at e4;have e0:w6.cell? ⟨A j,0,none⟩=some (.int .i64 n3.num):=Ju.cell HS6.out Hn3.out.1 0;rw[Hn3.out.2]at e0;clear ry Su Ju d4))
      refine dB 9 (by kernel_rfl) (by kernel_rfl) ?_;simp only[avO,avP,avQ,avR]
      repeat (quiet_step (fail))
      refine avT ?_;intro _ bf;obtain⟨nq,rfl⟩:=bf;have aaa:=HT6.out.keep ((ah.refl (fun _=>False) w6).drewN nq);have oe:=(aw HS6.out).1 zf.out.1;have Sq:=aaa.names XS oe.1 zf.out.2.1;rw[oe.2]at Sq;have vh:=HT6.out.rnames XS oe.1 zf.out.2.1;rw[oe.2]at vh;refine lh Sq underlying244 underlying9 underlying3 s2 (by omega) j BP (by have:=zf.out.2.2.2;omega) rfl rfl rfl rfl rfl ?_;intro w7 hm7 Tq;have ht7:=gL (f:=l7 s2 j) aaa HS6.out zf.out.1 zf.out.2.1 Tq hm7;have HT7:=hd0 ht7;have HM7:=hd0 ((Ov.out.drewN nq).trans Tq (fun i hi e=>by rw[e,vh];exact cW.noConfusion));clear ht7 hm7 Tq aaa oe Sq vh e4 e0;go_wp2;go_ret;refine⟨by rw[Hv.out];rfl,?_⟩;rw[Hv.out];exact⟨A,M,role,HT7.out,fun _ hb=>.inl hb,HM7.out⟩
end
end
section
open Go.RowKit
theorem UZ (w:World):Calls prog 102 #[] w fun e w'=>∃ p tb A M role,e=.returned (.pointer (some ⟨p,0,none⟩))/\aH w' p Tr.new tb A M role/\(∀ b,role b≠.none->w.heap.size<=b)/\af w w':=by
 have To:=@run_makeMap prog;have dg:af (w.alloc (.map #[] 0)) (((w.alloc (.map #[] 0)).alloc (.map #[] 0)).alloc (.cells #[.int .i64 1,.bool true,.int .i64 1,.string ⟨#[]⟩,.map (some (w.heap.size+1))] 246)):=((ah.refl _ _).alloc _).alloc _;have cr:Md (((w.alloc (.map #[] 0)).alloc (.map #[] 0)).alloc (.cells #[.int .i64 1,.bool true,.int .i64 1,.string ⟨#[]⟩,.map (some (w.heap.size+1))] 246)) w.heap.size []:=(dD.made w).mod dg id;have mn:Id (((w.alloc (.map #[] 0)).alloc (.map #[] 0)).alloc (.cells #[.int .i64 1,.bool true,.int .i64 1,.string ⟨#[]⟩,.map (some (w.heap.size+1))] 246)) (w.heap.size+1) []:=(fg.made' (by simp) ()).mod ((ah.refl (fun _=>False) _).alloc _) id;have ou:World.blk (((w.alloc (.map #[] 0)).alloc (.map #[] 0)).alloc (.cells #[.int .i64 1,.bool true,.int .i64 1,.string ⟨#[]⟩,.map (some (w.heap.size+1))] 246)) (w.heap.size+1+1) #[.int .i64 1,.bool true,.int .i64 1,.string ⟨#[]⟩,.map (some (w.heap.size+1))] 246:=aZ (by simp) _ _;obtain⟨w4,bh,AG,eZ⟩:=dD.store cr underlying247 underlying3 1 (by decide) (w.heap.size+1+1) (by decide);have cV:=eZ.size;have HN4:=hd0 (mn.mod eZ (by omega));have HD4:=hd0 (ab eZ ou (by omega));have ne:=hd0 AG;have od:Hid (af w w4):=hd0 (((((ah.refl (fun _=>False) w).alloc _).alloc _).alloc _).new eZ (au4 _));simp at cV;clear dg cr mn ou AG eZ;go_enter func102,ntmps102;go_wp2;go_ret;obtain⟨N,hN⟩:∃ N,w.heap.size=N:=⟨_,rfl⟩
 rw[hN]at HN4 HD4 ne cV;rw[hN];refine⟨w4.heap.size,N,fun _=>N+2,fun _=>N+1,fun b=>if b=w4.heap.size then .tree else if b=N then .of else if b=N+2 then .node 1 else if b=N+1 then .names 1 else .none,rfl,⟨av _ _ _,au8 rfl,ne.out.mod ((ah.refl (fun _=>False) w4).alloc _) id,?_,?_,?_,?_,?_,?_⟩,?_,od.out.alloc _⟩
 ·rw[ava (by omega),au8 rfl]
 ·intro n hn;rw[Tr.new,awu]at hn;subst hn;exact aF HD4.out _
 ·intro n hn;rw[Tr.new,awu]at hn;subst hn;show(if N+2=w4.heap.size then _ else _)=_;rw[ava (by omega),ava (by omega),au8 rfl]
 ·intro n hn _;rw[Tr.new,awu]at hn;subst hn;exact HN4.out.mod ((ah.refl (fun _=>False) w4).alloc _) id
 ·intro n hn _;rw[Tr.new,awu]at hn;subst hn;show(if N+1=w4.heap.size then _ else _)=_;rw[ava (by omega),ava (by omega),ava (by omega),au8 rfl]
 ·intro b hb;simp only[World.alloc,Array.size_push];by_cases h1:b=w4.heap.size
  ·omega
  ·by_cases h2:b=N
   ·omega
   ·by_cases h3:b=N+2
    ·omega
    ·by_cases h4:b=N+1
     ·omega
     ·rw[ava h1,ava h2,ava h3,ava h4]at hb;exact absurd rfl hb
 ·intro b hb;by_cases h1:b=w4.heap.size
  ·omega
  ·by_cases h2:b=N
   ·omega
   ·by_cases h3:b=N+2
    ·omega
    ·by_cases h4:b=N+1
     ·omega
     ·simp only[ava h1,ava h2,ava h3,ava h4]at hb;exact absurd rfl hb
theorem bI.from {w w1 w':World}{p tb:Nat}{role:Nat->cW}{X:Tr}(k:af w w1)(h:bI w1 w' p tb role X):bI w w' p tb role X:=by
 obtain⟨A',M',j0,h1,h2,h3⟩:=h;exact⟨A',M',j0,h1,fun b hb=>(h2 b hb).imp id (fun h=>auX k.size h),(k.mono (fun _ _ h=>h.elim)).trans h3 (fun _ _ h=>h)⟩
section
variable {w:World}{p tb:Nat}{T:Tr}{A M:Int->Nat}{role:Nat->cW}{d:Int->Nat}
theorem Y7 (h:aH w p T tb A M role)(hw:WF T d)(he:tU w)(c:co)(hc:c.Small):
  Calls prog 118 #[.pointer (some ⟨p,0,none⟩),gK c] w fun e w'=>e=.returned (.int .i64 (qK T c).2)/\bI w w' p tb role (qK T c).1:=by
 have HC:=hd0 hc;have dt:af w (w.alloc (.cells (bP c) 55)):=(ah.refl _ w).alloc _;have HT:=hd0 (h.keep dt);have HW:=hd0 hw;have He:=hd0 (he.keep dt);have jW:=hd0 h;have sx:Hid (World.blk (w.alloc (.cells (bP c) 55)) w.heap.size (bP c) 55):=hd0 (av _ _ _);clear h hw he hc dt;go_enter func118,ntmps118;unfold gK bP;go_wp2_with fail;unfold bP at HT He sx;have dT:Hid (af w (w.alloc (.cells #[.int .i64 c.kind,.string ⟨c.path.toArray⟩,.string ⟨c.dest.toArray⟩,.int .i64 c.pos,.string ⟨c.data.toArray⟩] 55))):=hd0 ((ah.refl _ w).alloc _);generalize w.alloc (.cells #[.int .i64 c.kind,.string ⟨c.path.toArray⟩,.string ⟨c.dest.toArray⟩,.int .i64 c.pos,.string ⟨c.data.toArray⟩] 55)=w0 at*;refine(tf c w0 He.out HC.out).mono ?_;rintro e w1 ⟨rfl,hk⟩;have mi:=hd0 (ab hk sx.out id);have iJ:=hd0 (HT.out.keep hk);have FN:=hd0 (He.out.keep hk);have bZ:=hd0 (dT.out.keep hk);clear hk sx HT He dT
 cases bQ:c.ok with
 |false=>
  have Hv:Hid (qK T c=(T,1)):=hd0 (by rw[qK,au8 bQ]);have hp:ld c=.tuple #[.string ⟨#[]⟩,.int .i64 130]:=by rw[ld,bQ];rfl
  rw[hp];clear hp bQ;go_wp2;go_ret;exact⟨by rw[Hv.out];rfl,by rw[Hv.out];exact bI.same jW.out bZ.out⟩
 |true=>
  have hp:ld c=.tuple #[.string ⟨c.line.toArray⟩,.int .i64 0]:=by rw[ld,bQ];rfl
  rw[hp];obtain⟨h9,_,_⟩:=oP bQ;have hk:=YS h9;have zc:=hd0 (Px bQ);have VO:=hd0 (JR bQ);have OG:Hid (qK T c=if c.kind=0\/c.kind=1 then gd T c else if c.kind=2\/c.kind=3 then dN T c else if c.kind=4 then iZ T c else if c.kind=5 then cg T c else if c.kind=6 then dH T c else(T,1)):=hd0 (by rw[qK,ava (by rw[bQ];decide)]);have z0:w1.cell? ⟨w.heap.size,0,none⟩=some (.int .i64 c.kind):=aa mi.out 0;have z1:w1.cell? ⟨w.heap.size,1,none⟩=some (.string ⟨c.path.toArray⟩):=aa mi.out 1;have z2:w1.cell? ⟨w.heap.size,2,none⟩=some (.string ⟨c.dest.toArray⟩):=aa mi.out 2;have z3:w1.cell? ⟨w.heap.size,3,none⟩=some (.int .i64 c.pos):=aa mi.out 3;have z4:w1.cell? ⟨w.heap.size,4,none⟩=some (.string ⟨c.data.toArray⟩):=aa mi.out 4;have rt:c.kind=0\/c.kind=1\/c.kind=2\/c.kind=3\/c.kind=4\/c.kind=5\/c.kind=6\/c.kind=7\/c.kind=8:=by omega
  clear hp bQ h9 hk;rcases rt with hq|hq|hq|hq|hq|hq|hq|hq|hq
  ·have Hv:Hid (qK T c=gd T c):=hd0 (by rw[OG.out];simp[hq]);have cK:=Ae iJ.out HW.out FN.out c HC.out (.inl hq);unfold gK bP at cK;rw[hq]at cK;have Jq:=hd0 cK;rw[hq]at z0;clear hq cK;go_wp2_with fail;refine Jq.out.mono ?_;rintro e w2 ⟨rfl,ht⟩;have mS:=hd0 ht;clear ht;go_wp2;go_ret;exact⟨by rw[Hv.out];rfl,by rw[Hv.out];exact bI.from bZ.out mS.out⟩
  ·have Hv:Hid (qK T c=gd T c):=hd0 (by rw[OG.out];simp[hq]);have cK:=Ae iJ.out HW.out FN.out c HC.out (.inr hq);unfold gK bP at cK;rw[hq]at cK;have Jq:=hd0 cK;rw[hq]at z0;clear hq cK;go_wp2_with fail;refine Jq.out.mono ?_;rintro e w2 ⟨rfl,ht⟩;have mS:=hd0 ht;clear ht;go_wp2;go_ret;exact⟨by rw[Hv.out];rfl,by rw[Hv.out];exact bI.from bZ.out mS.out⟩
  ·have Hv:Hid (qK T c=dN T c):=hd0 (by rw[OG.out];simp[hq]);have cK:=xk iJ.out HW.out FN.out c HC.out zc.out VO.out.1 VO.out.2;unfold gK bP at cK;rw[hq]at cK;have Jq:=hd0 cK;rw[hq]at z0;clear hq cK;go_wp2_with fail;refine Jq.out.mono ?_;rintro e w2 ⟨rfl,ht⟩;have mS:=hd0 ht;clear ht;go_wp2;go_ret;exact⟨by rw[Hv.out];rfl,by rw[Hv.out];exact bI.from bZ.out mS.out⟩
  ·have Hv:Hid (qK T c=dN T c):=hd0 (by rw[OG.out];simp[hq]);have cK:=xk iJ.out HW.out FN.out c HC.out zc.out VO.out.1 VO.out.2;unfold gK bP at cK;rw[hq]at cK;have Jq:=hd0 cK;rw[hq]at z0;clear hq cK;go_wp2_with fail;refine Jq.out.mono ?_;rintro e w2 ⟨rfl,ht⟩;have mS:=hd0 ht;clear ht;go_wp2;go_ret;exact⟨by rw[Hv.out];rfl,by rw[Hv.out];exact bI.from bZ.out mS.out⟩
  ·have Hv:Hid (qK T c=iZ T c):=hd0 (by rw[OG.out];simp[hq]);have cK:=Mk iJ.out HW.out FN.out c HC.out;unfold gK bP at cK;rw[hq]at cK;have Jq:=hd0 cK;rw[hq]at z0;clear hq cK;go_wp2_with fail;refine Jq.out.mono ?_;rintro e w2 ⟨rfl,ht⟩;have mS:=hd0 ht;clear ht;go_wp2;go_ret;exact⟨by rw[Hv.out];rfl,by rw[Hv.out];exact bI.from bZ.out mS.out⟩
  ·have Hv:Hid (qK T c=cg T c):=hd0 (by rw[OG.out];simp[hq]);have cK:=Ed iJ.out HW.out FN.out c HC.out;unfold gK bP at cK;rw[hq]at cK;have Jq:=hd0 cK;rw[hq]at z0;clear hq cK;go_wp2_with fail;refine Jq.out.mono ?_;rintro e w2 ⟨rfl,ht⟩;have mS:=hd0 ht;clear ht;go_wp2;go_ret;exact⟨by rw[Hv.out];rfl,by rw[Hv.out];exact bI.from bZ.out mS.out⟩
  ·have Hv:Hid (qK T c=dH T c):=hd0 (by rw[OG.out];simp[hq]);have cK:=Ec iJ.out HW.out FN.out c HC.out;unfold gK bP at cK;rw[hq]at cK;have Jq:=hd0 cK;rw[hq]at z0;clear hq cK;go_wp2_with fail;refine Jq.out.mono ?_;rintro e w2 ⟨rfl,ht⟩;have mS:=hd0 ht;clear ht;go_wp2;go_ret;exact⟨by rw[Hv.out];rfl,by rw[Hv.out];exact bI.from bZ.out mS.out⟩
  all_goals
   have Hv:Hid (qK T c=(T,1)):=hd0 (by rw[OG.out];simp[hq]);rw[hq]at z0;clear hq;go_wp2;go_ret;exact⟨by rw[Hv.out];rfl,by rw[Hv.out];exact bI.same jW.out bZ.out⟩
end
end
end
end Go.Proofs.YtkghpdcloaiflaaGreatDoor
