import Derived.Test.YtkghpdcloaiflaaGreatDoorE07
set_option maxHeartbeats 4000000
set_option maxRecDepth 100000
namespace Go.Proofs.YtkghpdcloaiflaaGreatDoor
open _root_.Go.Proofs.Tryz
section
open Go.RowKit Go.Shelf
attribute [local go_sem] auv
theorem AX (S:List UInt8)(i j:Nat)(x y:Int)(hx:x=i)(hy:y=j)(hij:i<=j)(hj:j<=S.length)(W:World):(Instr.slice 9 (.string ⟨S.toArray⟩) (some (.int .i64 x)) (some (.int .i64 y)) none).run prog W=.ok (.string ⟨((S.drop i).take (j-i)).toArray⟩) W:=by
 subst hx hy;rw[run_slice_string_if W 9 _ .i64 .i64 _ _ underlying9];have hs:(⟨S.toArray⟩:ByteArray).size=S.length:=by simp[ByteArray.size]
 rw[auI (by rw[hs];omega),auI (by omega),avc,avc]
 congr 2
 apply ByteArray.ext;simp[List.extract_eq_take_drop]
theorem fA {x:Int}(h:-9223372036854775808<=x/\x<=9223372036854775807):IntKind.i64.wrap x=x:=by
 simp only[IntKind.wrap,IntKind.signed,IntKind.bits];simp;omega
theorem wg {w:World}{v pd pc:Nat}{text:List UInt8}{num:Nat}(h:World.blk w v (l9 pd pc text num) 171):
  Calls prog 109 #[aq v,.int .i64 0] w fun e w'=>e=.returned (.int .i64 0)/\World.blk w' v (l9 pd pc text num) 171/\ah (fun b=>b=v) w w':=by
 have c4:w.cell? ⟨v,4,none⟩=some (.bool false):=aa h 4;have f4:=ae h ⟨v,4,none⟩ rfl;have HM:=hd0 ((ah.refl (fun b=>b=v) w).setCell (p:=⟨v,4,none⟩) (.inl rfl) (.bool false));have H:=hd0 (ag h 4 (.bool false));clear h;go_enter func109,ntmps109
 go_wp2
 go_ret;exact⟨rfl,H.out,HM.out⟩
theorem Gw {w:World}{v:Nat}{d:Dk}{text:List UInt8}{num:Nat}{F:Nat->Prop}(h:ic w v d text num F)(n:Nat)(h1:1<=n)(h2:n<d.size/4)(p:List UInt8)(hp:p.length<=240):
  Calls prog 393 #[aq v,.int .i64 (n:Int),.string ⟨p.toArray⟩] w fun e w'=>e=.returned (.int .i64 0)/\∃ F',ic w' v (jM d n (d5 p) 4) text num F'/\d6 F F' w w':=by
 have MY:=hd0 (Dd h n h1 h2);have FR:=hd0 (zz p w hp);have Fy:=ti hp;obtain⟨pd,pc,M,Fd,Fc,h⟩:=h;have cK:=h.many;have H:=hd0 h;clear h;go_enter func393,ntmps393;go_wp2_with fail;refine MY.out.mono ?_;rintro e w0 ⟨rfl,rfl⟩;go_wp2_with fail;refine FR.out.mono ?_;rintro e w1 ⟨rfl,hk1⟩;have H1:=hd0 (H.out.same (hk1.on (fun _ _=>id)) hk1.size);have bU:=hd0 hk1;have c4:w1.cell? ⟨v,4,none⟩=some (.bool false):=aa H1.out.own 4;clear hk1;have FB:=CU (d:=d) h1 h2 hp;generalize hfs:d5 p=s at*;have Hfs:=hd0 hfs;clear hfs;have Hrd:=hd0 FB;clear FB;go_wp2_with fail
 go_loopw [29] (fun i wr=>∃(k:Nat) (uF:Nat->Prop),k<=4/\i=.int .i64 (k:Int)/\World.blk wr v (l9 pd pc text num) 171/\bC wr pd (jM d n s k) uF/\gL wr pc M Fc/\ah F w0 wr/\Hid (∀ b,uF b->Fd b\/w0.heap.size<=b))
  (fun i _=>4-(intOf i).toNat)
 case atStart=>exact⟨0,Fd,by omega,rfl,H1.out.own,H1.out.disk,H1.out.cache,bU.out.mono (fun _ _ h=>h.elim),hd0 (fun _ h=>.inl h)⟩
 case round=>
  obtain⟨k,uF,hk,rfl,ho,zm,hc,hm,HF⟩:=hrel;have hvF:=H.out.fv;have nvd:¬ uF v:=fun hv=>(HF.out v hv).elim H.out.nd (fun hge=>by have:=H.out.lt v hvF;omega);have nvc:=H.out.nc;have ndc:∀ b,uF b->¬ Fc b:=fun b hb Kp=>(HF.out b hb).elim (fun hd=>H.out.apart b hd Kp) (fun hge=>by have:=H.out.lt b (H.out.fc b Kp);omega);have Ho:=hd0 ho;have Hdk:=hd0 zm;have Hc:=hd0 hc;have Hm:=hd0 hm;have Nvd:=hd0 nvd;have Ndc:=hd0 ndc;have e0:wr.cell? ⟨v,0,none⟩=some (aq pd):=aa ho 0;have e2:wr.cell? ⟨v,3,none⟩=some (aq pc):=aa ho 3;have hvl:v<wr.heap.size:=ai ho;clear ho zm hc hm nvd nvc ndc hvF;by_cases aL:k<4
  ·have dN:(k:Int)<4:=by omega
   have aj7:(jM d n s k).size=d.size:=jy d n s k;have ZF:((s.drop (k*64)).take 64).length=64:=by simp;omega
   have VG:(n:Int)<=4096:=by omega
   have hb1:((k:Int)+1)*64<=(s.length:Int):=by omega
   have fi:(k:Int)*64<=((k:Int)+1)*64:=by omega
   have uV:(0:Int)<=(k:Int)*64:=by omega
   have uW:(s.length:Int)=256:=by omega
   have w1:IntKind.i64.wrap (4*(n:Int))=4*(n:Int):=fA (by omega);have w2:IntKind.i64.wrap (4*(n:Int)+(k:Int))=4*(n:Int)+(k:Int):=fA (by omega);have w3:IntKind.i64.wrap ((k:Int)*64)=(k:Int)*64:=fA (by omega);have w4:IntKind.i64.wrap ((k:Int)+1)=(k:Int)+1:=fA (by omega);have w5:IntKind.i64.wrap (((k:Int)+1)*64)=((k:Int)+1)*64:=fA (by omega);have hcut:=fun W=>AX s (k*64) ((k+1)*64) ((k:Int)*64) (((k:Int)+1)*64) (by omega) (by omega) (by omega) (by omega) W;have e64:(k+1)*64-k*64=64:=by omega
   rw[e64]at hcut;have ek:((4*n+k:Nat):Int)=4*(n:Int)+(k:Int):=by omega
   go_wp2_with fail;refine iy 1 16 (by kernel_rfl) (by kernel_rfl) (fun _ o _ _ _ h=>by cases o<;>exact h) ?_;simp only[avn,avo,avq,avr];refine fE (fun L hL=>?_)
   go_simp
   first|refine hL _ ?_|refine⟨_,fun _=>rfl,hL _ ?_⟩
   clear hL L;refine kH ?_
   repeat (quiet_step (fail))
   refine avt ?_;intro _ cf;obtain⟨xq,rfl⟩:=cf;have nY:=ay wr xq;have W:=kP (Hdk.out.mod nY (fun _ _=>id)) (4*n+k) (by rw[aj7];omega) ((s.drop (k*64)).take 64) ZF;rw[ek]at W;have HW:=hd0 W;clear W;go_wp2_with fail;refine HW.out.mono ?_;rintro e w4 ⟨rfl,Ot,Kh,tU⟩;have gV:ah uF wr w4:=(nY.mono (T:=uF) (fun _ _ h=>h.elim)).trans tU.mod (fun _ _ h=>h);have ho2:=ab gV Ho.out Nvd.out;have BM:=Hc.out.same (gV.on (fun b hb hd=>Ndc.out b hd hb)) gV.size;have Th:Hid (∀ b,Ot b->Fd b\/w0.heap.size<=b):=hd0 (fun b hb=>(tU.foot b hb).elim (HF.out b) (fun hge=>.inr (by have:=Hm.out.size;have:=nY.size;omega)));have Hm2:Hid (ah F w0 w4):=hd0 (Hm.out.trans gV (fun i hi hd=>(HF.out i hd).elim (H.out.fd i) (fun hge=>by omega)));have ZA:=hd0 Kh;have Hc2:=hd0 BM;have Tl:=hd0 ho2;clear Kh tU gV ho2 BM nY;go_wp2_with fail;refine(wg Tl.out).mono ?_;rintro e w5 ⟨rfl,NJ,zc⟩;have nv2:¬ Ot v:=fun hv=>(Th.out v hv).elim H.out.nd (fun hge=>by have:=H.out.lt v H.out.fv;omega);have Hd5:=hd0 (ZA.out.mod zc (fun b hb e=>nv2 (e▸hb)));have Hc5:=hd0 (Hc2.out.same (zc.on (fun b hb e=>H.out.nc (e▸hb))) zc.size);have Hm5:Hid (ah F w0 w5):=hd0 (Hm2.out.trans (zc.mono (T:=F) (fun i _ e=>by subst e;exact H.out.fv)) (fun _ _ h=>h));have TU:=hd0 NJ;clear zc NJ;go_wp2_with fail;exact⟨⟨k+1,Ot,by omega,by go_num,TU.out,Hd5.out,Hc5.out,Hm5.out,Th⟩,by simp[intOf];omega⟩
  ·obtain rfl:k=4:=by omega
   go_wp2_with fail;refine(Db Hc.out (n:Int) ⟨by omega,by omega⟩ p).mono ?_;rintro e w4 ⟨⟨u,rfl⟩,M',VL,hc4,iT,hM'⟩;have rG:=Hm.out.size;have X4:qi w4 v pd pc (jM d n s 4) text num M' uF VL (fun b=>F b\/uF b\/VL b):=
    { own:=ab iT.mod Ho.out H.out.nc,disk:=Hdk.out.mod iT.mod Ndc.out,cache:=hc4,
      good:=fun j t hj=>by
       rw[Hrd.out];unfold l8;rcases hM' j t hj with⟨rfl,rfl⟩|⟨dW,h⟩
       ·rw[auI rfl]
       ·rw[auK dW];exact H.out.good j t h
      fv:=.inl H.out.fv,fd:=fun b hb=>.inr (.inl hb),fc:=fun b hb=>.inr (.inr hb),
      apart:=fun b hb hc=>(iT.foot b hc).elim (Ndc.out b hb) (fun hge=>by have:=Hdk.out.lt b hb;omega),
      nd:=Nvd.out,nc:=fun hc=>(iT.foot v hc).elim H.out.nc (fun hge=>by omega),many:=by rw[jy];exact H.out.many,num:=H.out.num,
      lt:=fun b hb=>by
       rcases hb with hb|hb|hb
       ·exact auL (H.out.lt b hb) (aux rG iT.mod.size)
       ·exact auL (Hdk.out.lt b hb) iT.mod.size
       ·exact hc4.lt b hb }
   have B3:=hd0 X4;have HK:Hid (d6 F (fun b=>F b\/uF b\/VL b) w0 w4):=hd0 ⟨Hm.out.trans (iT.mod.mono (T:=F) (fun i _ hi=>H.out.fc i hi)) (fun _ _ h=>h),fun b hb=>by
    rcases hb with hb|hb|hb
    ·exact .inl hb
    ·exact(HF.out b hb).elim (fun h=>.inl (H.out.fd b h)) .inr
    ·exact(iT.foot b hb).elim (fun h=>.inl (H.out.fc b h)) (fun h=>.inr (by omega))⟩
   clear X4 hc4 iT hM';go_wp2;go_ret;exact⟨rfl,_,⟨pd,pc,M',uF,VL,by rw[Hfs.out];exact B3.out⟩,HK.out⟩
end
section
open Go
section
variable {P:Program}{aD:Array Oper}{md:Region.Mode}{C E D1 D2:World->Prop}{D:Array Bool->World->Prop}{Q:Exit->Act->World->Prop}
def gP (P:Program)(md:Region.Mode)(aD:Array Oper)(Q:Exit->Act->World->Prop)(D:Array Bool->World->Prop):Nat->Array Bool->Act->World->Prop
 |0,listed,a,w=>D listed w/\Region.ready md aD listed=[]/\Q .normal a w
 |f+1,listed,a,w=>D listed w/\(Region.ready md aD listed=[]->Q .normal a w)/\∀ i∈Region.ready md aD listed,wpOp P aD Q i (gP P md aD Q D f (listed.setIfInBounds i true)) a w
theorem rS:∀ {f:Nat} {listed:Array Bool} {a:Act} {w:World},gP P md aD Q D f listed a w->wpAny P md aD Q f listed a w
 |0,_,_,_,h=>h.2
 |_+1,_,_,_,h=>⟨h.2.1,fun i hi=>wpOp_mono (fun _ _ h=>rS h) (h.2.2 i hi)⟩
def lO (P:Program)(aD:Array Oper)(E:World->Prop)(o:Oper)(v:Value)(a:Act):Prop:=
 (Region.wanted o (yielded aD a.tmps)=true/\∀ w,E w->(execOp a.eval o).run P w=.ok (.value v) w)\/(Region.wanted o (yielded aD a.tmps)=false/\v=undef)
theorem lO.same {o:Oper}{v:Value}{a a':Act}(h:lO P aD E o v a)(he:execOp a'.eval o=execOp a.eval o)(hw:Region.wanted o (yielded aD a'.tmps)=Region.wanted o (yielded aD a.tmps)):lO P aD E o v a':=by
 unfold lO at*;rw[he,hw];exact h
theorem lO.op {i:Nat}{o:Oper}{v:Value}{a:Act}(hi:aD[i]?=some o)(hy:lO P aD E o v a){K:Act->World->Prop}{w:World}(hw:E w)(h:K (a.put o.dst v) w):wpOp P aD Q i K a w:=by
 unfold wpOp;simp only[hi];rcases hy with⟨h1,h2⟩|⟨h1,rfl⟩
 ·rw[auI h1];left;unfold Oper.wp;rw[h2 w hw];exact h
 ·rw[auK (by simp[h1])];exact h
theorem Ln {j:Nat}{oi oj:Oper}{v:Value}{Y:Act->Prop}(hj:aD[j]?=some oj)(nT:oi.apart aD oj=true)(hsj:∀ cs b,oj.op≠.select cs b)
  (hQ:∀ c a w,Q (.panic c) (a.put oi.dst v) w->Q (.panic c) a w) (NQ:∀ a u,Y a->Y (a.put oj.dst u)) (ajO:∀(a:Act) d,Y a->Y { a with defers:=d::a.defers }) {K:Act->World->Prop} {a:Act} {w:World}
  (hy:Y a) (h:wpOp P aD Q j K (a.put oi.dst v) w):wpOp P aD Q j (fun a' w'=>Y a'/\K (a'.put oi.dst v) w') a w:=by
 obtain⟨h1,h2,_⟩:=Oper.apart_spec nT;unfold wpOp at*;simp only[hj]at*;rw[wanted_put oj a oi.dst v h1]at h;by_cases hw:Region.wanted oj (yielded aD a.tmps)=true
 ·rw[auI hw]at h ⊢;rcases h with h|⟨Yh,ae7⟩
  ·left
   unfold Oper.wp at*;rw[execOp_put oj hsj a oi.dst v h1]at h;generalize (execOp a.eval oj).run P w=r at*;have sw:∀(u:Value),(a.put oi.dst v).put oj.dst u=(a.put oj.dst u).put oi.dst v:=fun u=>(Act.put_comm a v u h2)
   cases r with
   |ok n w'=>
    cases n<;>simp only[Oper.upon]at h ⊢
    case value u=>exact⟨NQ a u hy,sw u▸h⟩
    case skip=>exact⟨NQ a _ hy,sw undef▸h⟩
    case defer d=>
     refine⟨NQ _ _ (ajO a d hy),?_⟩;rw[<-Act.put_comm _ v undef h2,<-Act.put_defers];exact h
    case enter f args=>
     refine auN h fun e w'' he=>?_
     cases e with
     |returned u=>exact⟨NQ a u hy,sw u▸he⟩
     |panicked c=>exact hQ _ _ _ he
     |outgrown=>exact he
    case row row args=>exact Rows.mono h fun u w'' he=>⟨NQ a u hy,sw u▸he⟩
   |halt x w'=>
    cases x<;>simp only[Oper.upon]at h ⊢
    case panic u=>exact hQ _ _ _ h
  ·exact .inr ⟨by unfold Oper.asks at *;rw[execOp_put oj hsj a oi.dst v h1]at Yh;exact Yh,ae7⟩
 ·rw[auK hw]at h ⊢;exact⟨NQ a _ hy,by rw[<-Act.put_comm a v undef h2];exact h⟩
def ma (md:Region.Mode)(aD:Array Oper)(listed:Array Bool):Prop:=∀ j o,aD[j]?=some o->listed.getD j false=true->∀ e∈o.after,Region.binds md e=true->listed.getD e.on false=true
theorem ma.set {listed:Array Bool}{k:Nat}(h:ma md aD listed)(hk:k∈Region.ready md aD listed):ma md aD (listed.setIfInBounds k true):=by
 intro j o hj hl e he hb;by_cases yo:j=k
 ·subst yo;obtain⟨_,o',Fe,nV⟩:=mem_ready.1 hk;obtain rfl:o=o':=avG (hj.symm.trans Fe);exact getD_set_true (nV e he hb)
 ·rw[getD_set_ne false (fun e=>yo e.symm)]at hl;exact getD_set_true (h j o hj hl e he hb)
theorem fS {i:Nat}{oi:Oper}{v:Value}(hi:aD[i]?=some oi)(fO:∀(j:Nat) (o:Oper) cs b,aD[j]?=some o->o.op≠.select cs b)(hQ:∀ c a w,Q (.panic c) (a.put oi.dst v) w->Q (.panic c) a w)
  (hE:∀ listed w,ma md aD listed->listed.getD i true=false->D (listed.setIfInBounds i true) w->E w/\D listed w) (f:Nat):
  ∀(listed:Array Bool) (a:Act) (w:World),ma md aD listed->(∀ j oj,aD[j]?=some oj->j≠i->listed.getD j true=false->(∀ e∈oj.after,Region.binds md e=true->e.on≠i)->oi.apart aD oj=true)->
   i∈Region.ready md aD listed->lO P aD E oi v a->gP P md aD Q D f (listed.setIfInBounds i true) (a.put oi.dst v) w->gP P md aD Q D (f+1) listed a w:=by
 induction f with
 |zero=>
  intro listed a w sH _ hr hy H;obtain⟨hE1,We⟩:=hE listed w sH (mem_ready.1 hr).1 H.1;refine⟨We,fun h=>(by rw[h]at hr;cases hr),fun j hj=>?_⟩;by_cases sG:j=i
  ·subst sG;exact hy.op hi hE1 H
  ·have:=ready_mono hj sG;rw[H.2.1]at this
   cases this
 |succ f ih=>
  intro listed a w sH qz hr hy H;obtain⟨hE1,We⟩:=hE listed w sH (mem_ready.1 hr).1 H.1;refine⟨We,fun h=>(by rw[h]at hr;cases hr),fun j hj=>?_⟩;by_cases sG:j=i
  ·subst sG;exact hy.op hi hE1 H
  ·have h1:=H.2.2 j (ready_mono hj sG);obtain⟨Ft,oj,Ky,nV⟩:=mem_ready.1 hj;have Tg:∀ e∈oj.after,Region.binds md e=true->e.on≠i:=fun e he hb heq=>by
    have h1:=nV e he hb;have h0:=(mem_ready.1 hr).1;rw[heq,getD_both h0]at h1;exact absurd h1 (by simp)
   have nT:=qz j oj Ky sG Ft Tg;obtain⟨_,_,h3⟩:=Oper.apart_spec nT;have h2:=Ln (Y:=lO P aD E oi v) Ky nT (fun cs b=>fO j oj cs b Ky) hQ
    (fun a u hy=>hy.same (execOp_put oi (fun cs b=>fO i oi cs b hi) a oj.dst u h3) (wanted_put oi a oj.dst u h3)) (fun a d hy=>hy.same rfl rfl) hy h1
   refine wpOp_mono (fun a' w' hh=>ih (listed.setIfInBounds j true) a' w' (sH.set hj) ?_ (ready_mono hr (Ne.symm sG)) hh.1 ?_) h2
   ·intro k ok hk Cx RK lH;refine qz k ok hk Cx ?_ lH;by_cases yo:j=k
    ·subst yo;exact Ft
    ·rwa [getD_set_ne true yo]at RK
   ·rw[Array.setIfInBounds_comm _ _ sG];exact hh.2
def DP (p:Nat)(D1 D2:World->Prop)(listed:Array Bool)(w:World):Prop:=D1 w/\(listed.getD p false=true\/D2 w)
theorem vd {p i:Nat}(ZM:i≠p)(listed:Array Bool)(w:World)(_:ma md aD listed)(_:listed.getD i true=false)(h:DP p D1 D2 (listed.setIfInBounds i true) w):D1 w/\DP p D1 D2 listed w:=by
 unfold DP at*;rw[getD_set_ne false ZM]at h;exact⟨h.1,h⟩
theorem Df {p i:Nat}(ZM:i≠p)(hw:Region.waitsFor md aD p i=true)(listed:Array Bool)(w:World)(sH:ma md aD listed)(hi:listed.getD i true=false)(h:DP p D1 D2 (listed.setIfInBounds i true) w):(D1 w/\D2 w)/\DP p D1 D2 listed w:=by
 unfold DP at*;rw[getD_set_ne false ZM]at h;refine⟨⟨h.1,?_⟩,h⟩;rcases h.2 with h2|h2
 ·obtain⟨o,ho,e,he,hb,Jj⟩:=Region.waitsFor_spec hw;have:=sH p o ho h2 e he hb;rw[Jj,getD_both hi]at this;exact absurd this (by simp)
 ·exact h2
def i7 (P:Program)(md:Region.Mode)(aD:Array Oper)(p:Nat)(D1 D2:World->Prop)(K:Act->Prop):Nat->List Oper->Act->Prop
 |_,[],a=>K a
 |k,o::rest,a=>if Region.wanted o (yielded aD a.tmps)then ∃ v,((∀ w,D1 w->(execOp a.eval o).run P w=.ok (.value v) w)\/(Region.waitsFor md aD p k=true/\∀ w,D1 w->D2 w->(execOp a.eval o).run P w=.ok (.value v) w))/\i7 P md aD p D1 D2 K (k+1) rest (a.put o.dst v)else i7 P md aD p D1 D2 K (k+1) rest (a.put o.dst undef)
theorem qL {K:Act->Prop}{p k:Nat}{a:Act}(h:K a):i7 P md aD p D1 D2 K k [] a:=h
theorem oT {K:Act->Prop}{p k:Nat}{a:Act}{o:Oper}{rest:List Oper}
  (h:∀ L:Act->Prop,(∀ a,i7 P md aD p D1 D2 K (k+1) rest a->L a)->if Region.wanted o (yielded aD a.tmps)then ∃ v,(∀ w,D1 w->(execOp a.eval o).run P w=.ok (.value v) w)/\L (a.put o.dst v)else L (a.put o.dst undef)):i7 P md aD p D1 D2 K k (o::rest) a:=by
 have:=h _ (fun _ h=>h);unfold i7;split
 ·rename_i hw
  rw[auI hw]at this;obtain⟨v,h1,h2⟩:=this;exact⟨v,.inl h1,h2⟩
 ·rename_i hw
  rw[auK hw]at this;exact this
theorem AY {K:Act->Prop}{p k:Nat}{a:Act}{o:Oper}{rest:List Oper}(hp:Region.waitsFor md aD p k=true)
  (h:∀ L:Act->Prop,(∀ a,i7 P md aD p D1 D2 K (k+1) rest a->L a)->if Region.wanted o (yielded aD a.tmps)then ∃ v,(∀ w,D1 w->D2 w->(execOp a.eval o).run P w=.ok (.value v) w)/\L (a.put o.dst v)else L (a.put o.dst undef)):i7 P md aD p D1 D2 K k (o::rest) a:=by
 have:=h _ (fun _ h=>h);unfold i7;split
 ·rename_i hw
  rw[auI hw]at this;obtain⟨v,h1,h2⟩:=this;exact⟨v,.inr ⟨hp,h1⟩,h2⟩
 ·rename_i hw
  rw[auK hw]at this;exact this
theorem AZ {K:Act->Prop}{n p:Nat}(fO:Region.noSelect aD=true)(hQ:∀ c o v a w,Q (.panic c) (Act.put a o v) w->Q (.panic c) a w)(hnp:n<=p)(g:Nat)(w:World)(l:List Oper):
  ∀(k:Nat) (listed:Array Bool) (a:Act),(∀ j,j<l.length->l[j]?=aD[k+j]?)->k+l.length<=n->HeadInv md aD n listed->ma md aD listed->(∀ i,i<k->listed.getD i false=true)->
  (ir md aD (k+l.length) n (Region.markFirst l.length k listed)->∀ a',K a'->gP P md aD Q (DP p D1 D2) g (Region.markFirst l.length k listed) a' w)->
  Region.pureB md aD l.length k listed=true->i7 P md aD p D1 D2 K k l a->gP P md aD Q (DP p D1 D2) (l.length+g) listed a w:=by
 induction l with
 |nil=>
  intro k listed a _ _ inv _ hf lG _ h;have:=lG ⟨by simpa[Region.markFirst]using inv,fun i hi=>by simpa[Region.markFirst]using hf i (by simpa using hi)⟩ a h;simpa[Region.markFirst]using this
 |cons o l ih=>
  intro k listed a hl hk inv sH hf lG hB h;have h0:aD[k]?=some o:=by simpa using(hl 0 (by simp)).symm
  simp only[auA,Region.pureB,auT]at hB;obtain⟨⟨hr,Ou⟩,VU⟩:=hB;have zj:k∈Region.ready md aD listed:=by simpa using hr
  have rl:k<n:=by simp only[auA]at hk;omega
  have next:∀ v,i7 P md aD p D1 D2 K (k+1) l (a.put o.dst v)->gP P md aD Q (DP p D1 D2) (l.length+g) (listed.setIfInBounds k true) (a.put o.dst v) w:=fun v hK=>by
   refine ih (k+1) _ _ (fun j hj=>?_) ?_ (inv.set zj rl) (sH.set zj) (fun i hi=>?_) ?_ VU hK
   ·have:=hl (j+1) (by simp;omega);simpa[auQ,Nat.add_comm 1 j]using this
   ·simp only[auA]at hk;omega
   ·by_cases hik:i=k
    ·subst hik;have aL:i<listed.size:=by rw[inv.size];exact(auW.1 h0).1
     simp[aL]
    ·exact getD_set_true (hf i (by omega))
   ·intro hh a' FS;have e:k+1+l.length=k+(o::l).length:=by simp;omega
    rw[e]at hh;have:=lG hh a' FS;simpa[Region.markFirst]using this
  rw[show(o::l).length+g=(l.length+g)+1 by simp;omega];unfold i7 at h;by_cases hw:Region.wanted o (yielded aD a.tmps)=true
  ·rw[auI hw]at h;obtain⟨v,h1|⟨hp,h1⟩,h2⟩:=h
   ·exact fS (E:=D1) h0 (avH fO) (fun c a w=>hQ c _ _ a w) (vd (by omega)) (l.length+g) listed a w sH (avI h0 Ou) zj (.inl ⟨hw,h1⟩) (next v h2)
   ·exact fS (E:=fun w=>D1 w/\D2 w) h0 (avH fO) (fun c a w=>hQ c _ _ a w) (Df (by omega) hp) (l.length+g) listed a w sH (avI h0 Ou) zj (.inl ⟨hw,fun w hd=>h1 w hd.1 hd.2⟩) (next v h2)
  ·rw[auK hw]at h;exact fS (E:=D1) h0 (avH fO) (fun c a w=>hQ c _ _ a w) (vd (by omega)) (l.length+g) listed a w sH (avI h0 Ou) zj (.inr ⟨by simpa using hw,rfl⟩) (next undef h)
theorem wh {n:Nat}{L:Array Bool->Act->Prop}:∀ {f:Nat} {listed:Array Bool} {a:Act},iq P md aD C n L f listed a->listed.size=aD.size->iq P md aD C n (fun l a=>L l a/\l.size=aD.size) f listed a
 |0,_,_,h,hs=>⟨h,hs⟩
 |_+1,_,_,h,hs=>⟨h.1,fun i hi=>⟨(h.2 i hi).1,qOp_mono (fun _ h=>wh h (by simpa using hs)) (h.2 i hi).2⟩⟩
theorem A0 {n g:Nat}{L:Array Bool->Act->Prop}(hCD:∀ listed w,C w->D listed w)(hL:∀ listed a w,C w->L listed a->gP P md aD Q D g listed a w)(f:Nat):
  ∀(listed:Array Bool) (a:Act) (w:World),C w->iq P md aD C n L f listed a->gP P md aD Q D (f+g) listed a w:=by
 induction f with
 |zero=>intro listed a w hw h;rw[avm];exact hL _ _ _ hw h
 |succ f ih=>
  intro listed a w hw h;rw[show f+1+g=(f+g)+1 by omega];exact⟨hCD listed w hw,fun h0=>absurd h0 h.1,fun i hi=>wpOp_of_qOp hw (fun a' w' cf h'=>ih _ a' w' cf h') (h.2 i hi).2⟩
def wi (P:Program)(aD:Array Oper)(Q:Exit->Act->World->Prop)(p:Nat)(D1 D2:World->Prop):Nat->List Oper->Act->World->Prop
 |k,[],a,w=>(D1 w/\(p<k\/D2 w))/\Q .normal a w
 |k,o::rest,a,w=>(D1 w/\(p<k\/D2 w))/\wpList P aD (fun e a' w'=>match e with | .normal=>wi P aD Q p D1 D2 (k+1) rest a' w'|e=>Q e a' w') [o] a w
theorem oU {o:Oper}{a:Act}{w:World}{K:Act->World->Prop}{R:Act->World->Prop}(h:o.wp P a w K (fun e a' w'=>match e with | .normal=>R a' w'|e=>Q e a' w')):o.wp P a w K Q:=by
 unfold Oper.wp at*;generalize (execOp a.eval o).run P w=r at*
 cases r with
 |ok n w'=>
  cases n<;>simp only[Oper.upon]at h ⊢
  case value=>exact h
  case skip=>exact h
  case defer=>exact h
  case row=>exact h
  case enter f args=>
   refine auN h fun e w'' he=>?_
   cases e with
   |returned u=>exact he
   |panicked c=>exact he
   |outgrown=>exact he
 |halt x w'=>
  cases x<;>simp only[Oper.upon]at h ⊢
  case panic u=>exact h
theorem rT {p:Nat}:∀(l:List Oper) (k:Nat) (listed:Array Bool) (a:Act) (w:World),(∀ j,l[j]?=aD[k+j]?)->Region.seqB md aD l.length k listed=true->(∀ t,t<k->t=p->listed.getD t false=true)->k+l.length=aD.size->listed.size=aD.size->wi P aD Q p D1 D2 k l a w->gP P md aD Q (DP p D1 D2) l.length listed a w
 |[],_,_,_,_,_,hB,hp,_,_,h=>⟨⟨h.1.1,h.1.2.imp (fun h=>hp _ h rfl) id⟩,by simpa[Region.seqB]using hB,h.2⟩
 |o::l,k,listed,a,w,hl,hB,hp,cK,hls,h=>by
  have h0:aD[k]?=some o:=by simpa using(hl 0).symm
  simp only[auA,Region.seqB,auT,auY]at hB;refine⟨⟨h.1.1,h.1.2.imp (fun h=>hp _ h rfl) id⟩,fun h1=>(by rw[hB.1]at h1;cases h1),fun i hi=>?_⟩;rw[hB.1]at hi;have hik:i=k:=by simpa using hi
  subst hik;have hw:wpOp P aD Q i (wi P aD Q p D1 D2 (i+1) l) a w:=by
   have h2:=h.2;unfold wpOp;simp only[h0];unfold wpList at h2;split
   ·rename_i hwt
    rw[auI hwt]at h2;rcases h2 with h2|⟨h2,h3⟩
    ·exact .inl (oU h2)
    ·exact .inr ⟨h2,h3⟩
   ·rename_i hwt
    rw[auK hwt]at h2;exact h2
  refine wpOp_mono (fun a' w' h'=>rT l (i+1) _ a' w' (fun j=>by have:=hl (j+1);simpa[auQ,Nat.add_comm 1 j]using this) hB.2 (fun t ht e=>?_) (by simp at cK;omega) (by simpa using hls) h') hw;by_cases hti:t=i
  ·subst hti;have aL:t<listed.size:=by rw[hls];exact(auW.1 h0).1
   simp[aL]
  ·exact getD_set_true (hp t (by omega) e)
theorem kS {P:Program}{id:Nat}{Q:Exit->Act->World->Prop}{a:Act}{w:World}{l:List Oper}(m n p:Nat)(C D1 D2:World->Prop)(hm:P.follows .mixedOrders=true)(hB:Region.lexMidB .any l.toArray m n=true)
  (hnp:n<=p) (hQ:∀ c o v a w,Q (.panic c) (Act.put a o v) w->Q (.panic c) a w) (hC:C { w with drawn:=w.drawn+1 }) (hCD:∀ w,C w->D1 w/\D2 w)
  (h:i7 P .any l.toArray p D1 D2 (wpQuiet P l.toArray C (fun a'=>∀ w',C w'->wi P l.toArray Q p D1 D2 n (l.drop n) a' w') ((l.take n).drop m)) 0 (l.take m) a):(Code.region id l.toArray true).wp P Q a w:=by
 simp only[Region.lexMidB,auT,auY]at hB;obtain⟨⟨⟨⟨⟨⟨fO,hn⟩,Kx⟩,hs⟩,hc⟩,Sc⟩,SA⟩:=hB;have Wf:n<l.length:=by simpa using hn
 have yw:(l.take m).length=m:=by simp;omega
 have Cw:((l.take n).drop m).length=n-m:=by simp;omega
 have Fz:(l.drop n).length=l.toArray.size-n:=by simp
 have Ta:HeadInv .any l.toArray n (Array.replicate l.toArray.size false):=
  ⟨by simp,fun j oj _ hl=>by rw[auZ]at hl;simp at hl,fun t _ ht=>getD_in (by simpa using ht) (auZ _ _)⟩
 have cl0:ma .any l.toArray (Array.replicate l.toArray.size false):=fun j oj _ hl=>by rw[auZ]at hl;simp at hl
 refine wp_region_any hm ?_;have H:=AZ (D1:=D1) (D2:=D2) (p:=p) (md:=.any) (n:=n) (Q:=Q) fO hQ hnp ((n-m)+(l.toArray.size-n)) { w with drawn:=w.drawn+1 } (l.take m) 0 (Array.replicate l.toArray.size false) a
  (fun j hj=>by rw[yw]at hj;simp[hj]) (by omega) Ta cl0 (fun i hi=>by omega) (fun hh a' FS=>?_) (by rw[yw];exact Sc) h
 ·rw[yw]at H;rw[show m+(n-m+(l.toArray.size-n))=l.toArray.size by omega]at H;exact rS H
 ·rw[yw]at hh ⊢;rw[avm]at hh;have H2:=rI (md:=.any) (g:=l.toArray.size-n) fO hs hc hn ((l.take n).drop m) m _ a' (fun j hj=>by
   rw[Cw]at hj;simp only[avJ,List.getElem?_take,List.getElem?_toArray];rw[auI (by omega)]) (by rw[Cw];omega) hh (by rw[Cw];exact SA) FS
  have:=A0 (Q:=Q) (D:=DP p D1 D2) (g:=l.toArray.size-n) (L:=fun l6 a'=>(Region.seqB .any l.toArray (l.toArray.size-n) n l6=true/\∀ w',C w'->wi P l.toArray Q p D1 D2 n (l.drop n) a' w')/\l6.size=l.toArray.size) (fun listed w hw=>⟨(hCD w hw).1,.inr (hCD w hw).2⟩) (fun listed a' w' cf hL=>by
   have:=rT (D1:=D1) (D2:=D2) (p:=p) (md:=.any) (Q:=Q) (l.drop n) n listed a' w' (fun j=>by simp) (by rw[Fz];exact hL.1.1) (fun t ht e=>by omega) (by rw[Fz];omega) hL.2 (hL.1.2 w' cf)
   rwa [Fz]at this) _ _ _ _ hC (wh H2 (by rw[hh.base.size]))
  rwa [Cw]at this
end
end
section
open Go
section
variable {P:Program}{aD:Array Oper}{md:Region.Mode}{D1 D2:World->Prop}{Q:Exit->Act->World->Prop}
def lP (P:Program)(md:Region.Mode)(aD:Array Oper)(p:Nat)(D1 D2:World->Prop)(K:Act->Prop):List Nat->Act->Prop
 |[],a=>K a
 |i::r,a=>match aD[i]? with
  |none=>False
  |some o=>if Region.wanted o (yielded aD a.tmps)then ∃ v,((∀ w,D1 w->(execOp a.eval o).run P w=.ok (.value v) w)\/(Region.waitsFor md aD p i=true/\∀ w,D1 w->D2 w->(execOp a.eval o).run P w=.ok (.value v) w))/\lP P md aD p D1 D2 K r (a.put o.dst v)else lP P md aD p D1 D2 K r (a.put o.dst undef)
def Dg (md:Region.Mode)(aD:Array Oper)(p:Nat):List Nat->Array Bool->Bool
 |[],_=>true
 |i::r,listed=>(Region.ready md aD listed).contains i&&Region.free md aD listed i&&(i != p)&&Dg md aD p r (listed.setIfInBounds i true)
def wj:List Nat->Array Bool->Array Bool
 |[],listed=>listed
 |i::r,listed=>wj r (listed.setIfInBounds i true)
def uh (P:Program)(aD:Array Oper)(Q:Exit->Act->World->Prop)(p:Nat)(D1 D2:World->Prop):Bool->List Nat->Act->World->Prop
 |pl,[],a,w=>(D1 w/\(pl=true\/D2 w))/\Q .normal a w
 |pl,i::r,a,w=>(D1 w/\(pl=true\/D2 w))/\match aD[i]? with
  |none=>False
  |some o=>wpList P aD (fun e a' w'=>match e with | .normal=>uh P aD Q p D1 D2 (pl||i==p) r a' w'|e=>Q e a' w') [o] a w
def Pj (md:Region.Mode)(aD:Array Oper):List Nat->Array Bool->Bool
 |[],listed=>(Region.ready md aD listed).isEmpty
 |i::r,listed=>decide (Region.ready md aD listed=[i])&&Pj md aD r (listed.setIfInBounds i true)
theorem mc {K:Act->Prop}{p g:Nat}(fO:Region.noSelect aD=true)(hQ:∀ c o v a w,Q (.panic c) (Act.put a o v) w->Q (.panic c) a w)(w:World):∀(js:List Nat) (listed:Array Bool) (a:Act),ma md aD listed->
  (∀ a',K a'->gP P md aD Q (DP p D1 D2) g (wj js listed) a' w)->Dg md aD p js listed=true->lP P md aD p D1 D2 K js a->gP P md aD Q (DP p D1 D2) (js.length+g) listed a w
 |[],listed,a,_,lG,_,h=>by rw[avK,avm];exact lG a h
 |i::r,listed,a,sH,lG,hB,h=>by
  simp only[Dg,auT,bne_iff_ne,ne_eq]at hB;obtain⟨⟨⟨hr,Ou⟩,ZM⟩,VU⟩:=hB;have zj:i∈Region.ready md aD listed:=by simpa using hr
  unfold lP at h
  cases h0:aD[i]? with
  |none=>rw[h0]at h;exact h.elim
  |some o=>
   rw[h0]at h;simp only at h;have next:∀ v,lP P md aD p D1 D2 K r (a.put o.dst v)->gP P md aD Q (DP p D1 D2) (r.length+g) (listed.setIfInBounds i true) (a.put o.dst v) w:=fun v hK=>mc fO hQ w r _ _ (sH.set zj) lG VU hK;rw[show(i::r).length+g=(r.length+g)+1 by simp;omega];by_cases hw:Region.wanted o (yielded aD a.tmps)=true
   ·rw[auI hw]at h;obtain⟨v,h1|⟨hp,h1⟩,h2⟩:=h
    ·exact fS (E:=D1) h0 (avH fO) (fun c a w=>hQ c _ _ a w) (vd ZM) (r.length+g) listed a w sH (avI h0 Ou) zj (.inl ⟨hw,h1⟩) (next v h2)
    ·exact fS (E:=fun w=>D1 w/\D2 w) h0 (avH fO) (fun c a w=>hQ c _ _ a w) (Df ZM hp) (r.length+g) listed a w sH (avI h0 Ou) zj (.inl ⟨hw,fun w hd=>h1 w hd.1 hd.2⟩) (next v h2)
   ·rw[auK hw]at h;exact fS (E:=D1) h0 (avH fO) (fun c a w=>hQ c _ _ a w) (vd ZM) (r.length+g) listed a w sH (avI h0 Ou) zj (.inr ⟨by simpa using hw,rfl⟩) (next undef h)
theorem qo {p:Nat}:∀(ts:List Nat) (pl:Bool) (listed:Array Bool) (a:Act) (w:World),Pj md aD ts listed=true->(pl=true->listed.getD p false=true)->listed.size=aD.size->uh P aD Q p D1 D2 pl ts a w->gP P md aD Q (DP p D1 D2) ts.length listed a w
 |[],pl,listed,a,w,hB,hp,_,h=>⟨⟨h.1.1,h.1.2.imp hp id⟩,by simpa[Pj]using hB,h.2⟩
 |i::r,pl,listed,a,w,hB,hp,hls,h=>by
  simp only[Pj,auT,auY]at hB;refine⟨⟨h.1.1,h.1.2.imp hp id⟩,fun h1=>(by rw[hB.1]at h1;cases h1),fun k hk=>?_⟩;rw[hB.1]at hk;have Cx:k=i:=by simpa using hk
  subst Cx;have h2:=h.2
  cases h0:aD[k]? with
  |none=>rw[h0]at h2;exact h2.elim
  |some o=>
   rw[h0]at h2;simp only at h2;have hw:wpOp P aD Q k (uh P aD Q p D1 D2 (pl||k==p) r) a w:=by
    unfold wpOp;simp only[h0];unfold wpList at h2;split
    ·rename_i hwt
     rw[auI hwt]at h2;rcases h2 with h2|⟨h2,h3⟩
     ·exact .inl (oU h2)
     ·exact .inr ⟨h2,h3⟩
    ·rename_i hwt
     rw[auK hwt]at h2;exact h2
   refine wpOp_mono (fun a' w' h'=>qo r (pl||k==p) _ a' w' hB.2 (fun e=>?_) (by simpa using hls) h') hw;rw[auV]at e;by_cases TB:k=p
   ·subst TB;have aL:k<listed.size:=by rw[hls];exact(auW.1 h0).1
    simp[aL]
   ·exact getD_set_true (hp (e.resolve_right (by simpa using TB)))
theorem ja {K:Act->Prop}{p:Nat}{a:Act}(h:K a):lP P md aD p D1 D2 K [] a:=h
theorem fH {K:Act->Prop}{p i:Nat}{r:List Nat}{a:Act}{o:Oper}(h0:aD[i]?=some o)
  (h:∀ L:Act->Prop,(∀ a,lP P md aD p D1 D2 K r a->L a)->if Region.wanted o (yielded aD a.tmps)then ∃ v,(∀ w,D1 w->(execOp a.eval o).run P w=.ok (.value v) w)/\L (a.put o.dst v)else L (a.put o.dst undef)):lP P md aD p D1 D2 K (i::r) a:=by
 have:=h _ (fun _ h=>h);unfold lP;rw[h0];simp only;split
 ·rename_i hw
  rw[auI hw]at this;obtain⟨v,h1,h2⟩:=this;exact⟨v,.inl h1,h2⟩
 ·rename_i hw
  rw[auK hw]at this;exact this
theorem Dh {K:Act->Prop}{p i:Nat}{r:List Nat}{a:Act}{o:Oper}(h0:aD[i]?=some o)(hp:Region.waitsFor md aD p i=true)
  (h:∀ L:Act->Prop,(∀ a,lP P md aD p D1 D2 K r a->L a)->if Region.wanted o (yielded aD a.tmps)then ∃ v,(∀ w,D1 w->D2 w->(execOp a.eval o).run P w=.ok (.value v) w)/\L (a.put o.dst v)else L (a.put o.dst undef)):lP P md aD p D1 D2 K (i::r) a:=by
 have:=h _ (fun _ h=>h);unfold lP;rw[h0];simp only;split
 ·rename_i hw
  rw[auI hw]at this;obtain⟨v,h1,h2⟩:=this;exact⟨v,.inr ⟨hp,h1⟩,h2⟩
 ·rename_i hw
  rw[auK hw]at this;exact this
theorem bS {p i:Nat}{pl:Bool}{r:List Nat}{a:Act}{w:World}{o:Oper}(h0:aD[i]?=some o)(hd:D1 w/\(pl=true\/D2 w))
  (h:wpList P aD (fun e a' w'=>match e with | .normal=>uh P aD Q p D1 D2 (pl||i==p) r a' w'|e=>Q e a' w') [o] a w):uh P aD Q p D1 D2 pl (i::r) a w:=by
 unfold uh;rw[h0];exact⟨hd,h⟩
theorem pP {p:Nat}{pl:Bool}{a:Act}{w:World}(hd:D1 w/\(pl=true\/D2 w))(h:Q .normal a w):uh P aD Q p D1 D2 pl [] a w:=⟨hd,h⟩
theorem qM:∀(js:List Nat) (listed:Array Bool),(wj js listed).size=listed.size
 |[],_=>rfl
 |i::r,listed=>by rw[wj,qM r];simp
def Pk (md:Region.Mode)(aD:Array Oper)(p:Nat)(js ts:List Nat):Bool:=
 Region.noSelect aD&&decide (js.length+ts.length=aD.size)&&Dg md aD p js (Array.replicate aD.size false)&&Pj md aD ts (wj js (Array.replicate aD.size false))
theorem gM {P:Program}{id:Nat}{Q:Exit->Act->World->Prop}{a:Act}{w:World}{l:List Oper}(p:Nat)(js ts:List Nat)(D1 D2:World->Prop)(hm:P.follows .mixedOrders=true)(hB:Pk .any l.toArray p js ts=true)
  (hQ:∀ c o v a w,Q (.panic c) (Act.put a o v) w->Q (.panic c) a w)
  (h:lP P .any l.toArray p D1 D2 (fun a'=>uh P l.toArray Q p D1 D2 false ts a' { w with drawn:=w.drawn+1 }) js a):(Code.region id l.toArray true).wp P Q a w:=by
 simp only[Pk,auT,auY]at hB;obtain⟨⟨⟨fO,aV⟩,dg⟩,Jr⟩:=hB;refine wp_region_any hm ?_;have H:=mc (md:=.any) (Q:=Q) (g:=ts.length) fO hQ { w with drawn:=w.drawn+1 } js (Array.replicate l.toArray.size false) a (fun j oj _ hl=>by rw[auZ]at hl;simp at hl)
  (fun a' FS=>qo ts false _ a' _ Jr (fun e=>by cases e) (by rw[qM];simp) FS) dg h
 rw[aV]at H;exact rS H
end
end
end Go.Proofs.YtkghpdcloaiflaaGreatDoor
