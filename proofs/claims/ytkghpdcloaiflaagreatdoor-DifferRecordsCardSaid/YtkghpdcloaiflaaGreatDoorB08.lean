import Derived.Test.YtkghpdcloaiflaaGreatDoorB07
set_option maxHeartbeats 4000000
set_option maxRecDepth 100000
namespace Go.Proofs.YtkghpdcloaiflaaGreatDoor
open _root_.Go.Proofs.Tryz
section
open Go.RowKit Go.Shelf
attribute [local go_sem] auV
theorem AV (S:List UInt8)(i j:Nat)(x y:Int)(hx:x=i)(hy:y=j)(hij:i<=j)(hj:j<=S.length)(W:World):(Instr.slice 9 (.string ⟨S.toArray⟩) (some (.int .i64 x)) (some (.int .i64 y)) none).run prog W=.ok (.string ⟨((S.drop i).take (j-i)).toArray⟩) W:=by
 subst hx hy;rw[run_slice_string_if W 9 _ .i64 .i64 _ _ underlying9];have hs:(⟨S.toArray⟩:ByteArray).size=S.length:=by simp[ByteArray.size]
 rw[au8 (by rw[hs];omega),au8 (by omega),avD,avD]
 congr 2
 apply ByteArray.ext;simp[List.extract_eq_take_drop]
theorem fi {x:Int}(h:-9223372036854775808<=x/\x<=9223372036854775807):IntKind.i64.wrap x=x:=by
 simp only[IntKind.wrap,IntKind.signed,IntKind.bits];simp;omega
theorem vQ {w:World}{v pd pc:Nat}{text:List UInt8}{num:Nat}(h:World.blk w v (l4 pd pc text num) 171):
  Calls prog 109 #[aq v,.int .i64 0] w fun e w'=>e=.returned (.int .i64 0)/\World.blk w' v (l4 pd pc text num) 171/\ah (fun b=>b=v) w w':=by
 have c4:w.cell? ⟨v,4,none⟩=some (.bool false):=aa h 4;have f4:=ae h ⟨v,4,none⟩ rfl;have HM:=hd0 ((ah.refl (fun b=>b=v) w).setCell (p:=⟨v,4,none⟩) (.inl rfl) (.bool false));have H:=hd0 (ag h 4 (.bool false));clear h;go_enter func109,ntmps109
 go_wp2
 go_ret;exact⟨rfl,H.out,HM.out⟩
theorem Gx {w:World}{v:Nat}{d:Dk}{text:List UInt8}{num:Nat}{F:Nat->Prop}(h:gW w v d text num F)(n:Nat)(h1:1<=n)(h2:n<d.size/4)(p:List UInt8)(hp:p.length<=240):
  Calls prog 393 #[aq v,.int .i64 (n:Int),.string ⟨p.toArray⟩] w fun e w'=>e=.returned (.int .i64 0)/\∃ F',gW w' v (jK d n (dW p) 4) text num F'/\dX F F' w w':=by
 have MY:=hd0 (C7 h n h1 h2);have FR:=hd0 (zy p w hp);have Fh:=sR hp;obtain⟨pd,pc,M,Fd,Fc,h⟩:=h;have cV:=h.many;have H:=hd0 h;clear h;go_enter func393,ntmps393;go_wp2_with fail;refine MY.out.mono ?_;rintro e w0 ⟨rfl,rfl⟩;go_wp2_with fail;refine FR.out.mono ?_;rintro e w1 ⟨rfl,hk1⟩;have H1:=hd0 (H.out.same (hk1.on (fun _ _=>id)) hk1.size);have bZ:=hd0 hk1;have c4:w1.cell? ⟨v,4,none⟩=some (.bool false):=aa H1.out.own 4;clear hk1;have Fr:=CK (d:=d) h1 h2 hp;generalize hfs:dW p=s at*;have Hfs:=hd0 hfs;clear hfs;have Hrd:=hd0 Fr;clear Fr;go_wp2_with fail
 go_loopw [29] (fun i wr=>∃(k:Nat) (uv:Nat->Prop),k<=4/\i=.int .i64 (k:Int)/\World.blk wr v (l4 pd pc text num) 171/\bC wr pd (jK d n s k) uv/\gD wr pc M Fc/\ah F w0 wr/\Hid (∀ b,uv b->Fd b\/w0.heap.size<=b))
  (fun i _=>4-(intOf i).toNat)
 case atStart=>exact⟨0,Fd,by omega,rfl,H1.out.own,H1.out.disk,H1.out.cache,bZ.out.mono (fun _ _ h=>h.elim),hd0 (fun _ h=>.inl h)⟩
 case round=>
  obtain⟨k,uv,hk,rfl,ho,zg,hc,hm,HF⟩:=hrel;have hvF:=H.out.fv;have nvd:¬ uv v:=fun hv=>(HF.out v hv).elim H.out.nd (fun hge=>by have:=H.out.lt v hvF;omega);have nvc:=H.out.nc;have ndc:∀ b,uv b->¬ Fc b:=fun b hb KO=>(HF.out b hb).elim (fun hd=>H.out.apart b hd KO) (fun hge=>by have:=H.out.lt b (H.out.fc b KO);omega);have Ho:=hd0 ho;have Hdk:=hd0 zg;have Hc:=hd0 hc;have Hm:=hd0 hm;have Nvd:=hd0 nvd;have Ndc:=hd0 ndc;have e0:wr.cell? ⟨v,0,none⟩=some (aq pd):=aa ho 0;have e2:wr.cell? ⟨v,3,none⟩=some (aq pc):=aa ho 3;have hvl:v<wr.heap.size:=ak ho;clear ho zg hc hm nvd nvc ndc hvF;by_cases aL:k<4
  ·have dU:(k:Int)<4:=by omega
   have aiy:(jK d n s k).size=d.size:=jv d n s k;have hpc:((s.drop (k*64)).take 64).length=64:=by simp;omega
   have Wj:(n:Int)<=4096:=by omega
   have hb1:((k:Int)+1)*64<=(s.length:Int):=by omega
   have eV:(k:Int)*64<=((k:Int)+1)*64:=by omega
   have uJ:(0:Int)<=(k:Int)*64:=by omega
   have su:(s.length:Int)=256:=by omega
   have w1:IntKind.i64.wrap (4*(n:Int))=4*(n:Int):=fi (by omega);have w2:IntKind.i64.wrap (4*(n:Int)+(k:Int))=4*(n:Int)+(k:Int):=fi (by omega);have w3:IntKind.i64.wrap ((k:Int)*64)=(k:Int)*64:=fi (by omega);have w4:IntKind.i64.wrap ((k:Int)+1)=(k:Int)+1:=fi (by omega);have w5:IntKind.i64.wrap (((k:Int)+1)*64)=((k:Int)+1)*64:=fi (by omega);have ig:=fun W=>AV s (k*64) ((k+1)*64) ((k:Int)*64) (((k:Int)+1)*64) (by omega) (by omega) (by omega) (by omega) W;have e64:(k+1)*64-k*64=64:=by omega
   rw[e64]at ig;have ek:((4*n+k:Nat):Int)=4*(n:Int)+(k:Int):=by omega
   go_wp2_with fail;refine ir 1 16 (by kernel_rfl) (by kernel_rfl) (fun _ o _ _ _ h=>by cases o<;>exact h) ?_;simp only[avO,avP,avQ,avR];refine fy (fun L hL=>?_)
   go_simp
   first|refine hL _ ?_|refine⟨_,fun _=>rfl,hL _ ?_⟩
   clear hL L;refine kD ?_
   repeat (quiet_step (fail))
   refine avT ?_;intro _ bf;obtain⟨xq,rfl⟩:=bf;have nS:=aC wr xq;have W:=kL (Hdk.out.mod nS (fun _ _=>id)) (4*n+k) (by rw[aiy];omega) ((s.drop (k*64)).take 64) hpc;rw[ek]at W;have HW:=hd0 W;clear W;go_wp2_with fail;refine HW.out.mono ?_;rintro e w4 ⟨rfl,OK,Kv,tI⟩;have df:ah uv wr w4:=(nS.mono (T:=uv) (fun _ _ h=>h.elim)).trans tI.mod (fun _ _ h=>h);have ho2:=ab df Ho.out Nvd.out;have BJ:=Hc.out.same (df.on (fun b hb hd=>Ndc.out b hd hb)) df.size;have Sy:Hid (∀ b,OK b->Fd b\/w0.heap.size<=b):=hd0 (fun b hb=>(tI.foot b hb).elim (HF.out b) (fun hge=>.inr (by have:=Hm.out.size;have:=nS.size;omega)));have Hm2:Hid (ah F w0 w4):=hd0 (Hm.out.trans df (fun i hi hd=>(HF.out i hd).elim (H.out.fd i) (fun hge=>by omega)));have Hd2:=hd0 Kv;have Hc2:=hd0 BJ;have Ts:=hd0 ho2;clear Kv tI df ho2 BJ nS;go_wp2_with fail;refine(vQ Ts.out).mono ?_;rintro e w5 ⟨rfl,Nu,yS⟩;have nv2:¬ OK v:=fun hv=>(Sy.out v hv).elim H.out.nd (fun hge=>by have:=H.out.lt v H.out.fv;omega);have Hd5:=hd0 (Hd2.out.mod yS (fun b hb e=>nv2 (e▸hb)));have Hc5:=hd0 (Hc2.out.same (yS.on (fun b hb e=>H.out.nc (e▸hb))) yS.size);have Hm5:Hid (ah F w0 w5):=hd0 (Hm2.out.trans (yS.mono (T:=F) (fun i _ e=>by subst e;exact H.out.fv)) (fun _ _ h=>h));have TM:=hd0 Nu;clear yS Nu;go_wp2_with fail;exact⟨⟨k+1,OK,by omega,by go_num,TM.out,Hd5.out,Hc5.out,Hm5.out,Sy⟩,by simp[intOf];omega⟩
  ·obtain rfl:k=4:=by omega
   go_wp2_with fail;refine(C4 Hc.out (n:Int) ⟨by omega,by omega⟩ p).mono ?_;rintro e w4 ⟨⟨u,rfl⟩,M',VV,hc4,jj,hM'⟩;have qu:=Hm.out.size;have X4:qc w4 v pd pc (jK d n s 4) text num M' uv VV (fun b=>F b\/uv b\/VV b):=
    { own:=ab jj.mod Ho.out H.out.nc,disk:=Hdk.out.mod jj.mod Ndc.out,cache:=hc4,
      good:=fun j t hj=>by
       rw[Hrd.out];unfold lZ;rcases hM' j t hj with⟨rfl,rfl⟩|⟨dV,h⟩
       ·rw[au8 rfl]
       ·rw[ava dV];exact H.out.good j t h
      fv:=.inl H.out.fv,fd:=fun b hb=>.inr (.inl hb),fc:=fun b hb=>.inr (.inr hb),
      apart:=fun b hb hc=>(jj.foot b hc).elim (Ndc.out b hb) (fun hge=>by have:=Hdk.out.lt b hb;omega),
      nd:=Nvd.out,nc:=fun hc=>(jj.foot v hc).elim H.out.nc (fun hge=>by omega),many:=by rw[jv];exact H.out.many,num:=H.out.num,
      lt:=fun b hb=>by
       rcases hb with hb|hb|hb
       ·exact avb (H.out.lt b hb) (auX qu jj.mod.size)
       ·exact avb (Hdk.out.lt b hb) jj.mod.size
       ·exact hc4.lt b hb }
   have BQ:=hd0 X4;have HK:Hid (dX F (fun b=>F b\/uv b\/VV b) w0 w4):=hd0 ⟨Hm.out.trans (jj.mod.mono (T:=F) (fun i _ hi=>H.out.fc i hi)) (fun _ _ h=>h),fun b hb=>by
    rcases hb with hb|hb|hb
    ·exact .inl hb
    ·exact(HF.out b hb).elim (fun h=>.inl (H.out.fd b h)) .inr
    ·exact(jj.foot b hb).elim (fun h=>.inl (H.out.fc b h)) (fun h=>.inr (by omega))⟩
   clear X4 hc4 jj hM';go_wp2;go_ret;exact⟨rfl,_,⟨pd,pc,M',uv,VV,by rw[Hfs.out];exact BQ.out⟩,HK.out⟩
end
section
open Go
section
variable {P:Program}{aB:Array Oper}{md:Region.Mode}{C E D1 D2:World->Prop}{D:Array Bool->World->Prop}{Q:Exit->Act->World->Prop}
def gI (P:Program)(md:Region.Mode)(aB:Array Oper)(Q:Exit->Act->World->Prop)(D:Array Bool->World->Prop):Nat->Array Bool->Act->World->Prop
 |0,listed,a,w=>D listed w/\Region.ready md aB listed=[]/\Q .normal a w
 |f+1,listed,a,w=>D listed w/\(Region.ready md aB listed=[]->Q .normal a w)/\∀ i∈Region.ready md aB listed,wpOp P aB Q i (gI P md aB Q D f (listed.setIfInBounds i true)) a w
theorem rK:∀ {f:Nat} {listed:Array Bool} {a:Act} {w:World},gI P md aB Q D f listed a w->wpAny P md aB Q f listed a w
 |0,_,_,_,h=>h.2
 |_+1,_,_,_,h=>⟨h.2.1,fun i hi=>wpOp_mono (fun _ _ h=>rK h) (h.2.2 i hi)⟩
def lI (P:Program)(aB:Array Oper)(E:World->Prop)(o:Oper)(v:Value)(a:Act):Prop:=
 (Region.wanted o (yielded aB a.tmps)=true/\∀ w,E w->(execOp a.eval o).run P w=.ok (.value v) w)\/(Region.wanted o (yielded aB a.tmps)=false/\v=undef)
theorem lI.same {o:Oper}{v:Value}{a a':Act}(h:lI P aB E o v a)(he:execOp a'.eval o=execOp a.eval o)(hw:Region.wanted o (yielded aB a'.tmps)=Region.wanted o (yielded aB a.tmps)):lI P aB E o v a':=by
 unfold lI at*;rw[he,hw];exact h
theorem lI.op {i:Nat}{o:Oper}{v:Value}{a:Act}(hi:aB[i]?=some o)(hy:lI P aB E o v a){K:Act->World->Prop}{w:World}(hw:E w)(h:K (a.put o.dst v) w):wpOp P aB Q i K a w:=by
 unfold wpOp;simp only[hi];rcases hy with⟨h1,h2⟩|⟨h1,rfl⟩
 ·rw[au8 h1];left;unfold Oper.wp;rw[h2 w hw];exact h
 ·rw[ava (by simp[h1])];exact h
theorem Li {j:Nat}{oi oj:Oper}{v:Value}{Y:Act->Prop}(hj:aB[j]?=some oj)(nP:oi.apart aB oj=true)(hsj:∀ cs b,oj.op≠.select cs b)
  (hQ:∀ c a w,Q (.panic c) (a.put oi.dst v) w->Q (.panic c) a w) (N4:∀ a u,Y a->Y (a.put oj.dst u)) (ajG:∀(a:Act) d,Y a->Y { a with defers:=d::a.defers }) {K:Act->World->Prop} {a:Act} {w:World}
  (hy:Y a) (h:wpOp P aB Q j K (a.put oi.dst v) w):wpOp P aB Q j (fun a' w'=>Y a'/\K (a'.put oi.dst v) w') a w:=by
 obtain⟨h1,h2,_⟩:=Oper.apart_spec nP;unfold wpOp at*;simp only[hj]at*;rw[wanted_put oj a oi.dst v h1]at h;by_cases hw:Region.wanted oj (yielded aB a.tmps)=true
 ·rw[au8 hw]at h ⊢;rcases h with h|⟨XG,ady⟩
  ·left
   unfold Oper.wp at*;rw[execOp_put oj hsj a oi.dst v h1]at h;generalize (execOp a.eval oj).run P w=r at*;have sw:∀(u:Value),(a.put oi.dst v).put oj.dst u=(a.put oj.dst u).put oi.dst v:=fun u=>(Act.put_comm a v u h2)
   cases r with
   |ok n w'=>
    cases n<;>simp only[Oper.upon]at h ⊢
    case value u=>exact⟨N4 a u hy,sw u▸h⟩
    case skip=>exact⟨N4 a _ hy,sw undef▸h⟩
    case defer d=>
     refine⟨N4 _ _ (ajG a d hy),?_⟩;rw[<-Act.put_comm _ v undef h2,<-Act.put_defers];exact h
    case enter f args=>
     refine avd h fun e w'' he=>?_
     cases e with
     |returned u=>exact⟨N4 a u hy,sw u▸he⟩
     |panicked c=>exact hQ _ _ _ he
     |outgrown=>exact he
    case row row args=>exact Rows.mono h fun u w'' he=>⟨N4 a u hy,sw u▸he⟩
   |halt x w'=>
    cases x<;>simp only[Oper.upon]at h ⊢
    case panic u=>exact hQ _ _ _ h
  ·exact .inr ⟨by unfold Oper.asks at *;rw[execOp_put oj hsj a oi.dst v h1]at XG;exact XG,ady⟩
 ·rw[ava hw]at h ⊢;exact⟨N4 a _ hy,by rw[<-Act.put_comm a v undef h2];exact h⟩
def l5 (md:Region.Mode)(aB:Array Oper)(listed:Array Bool):Prop:=∀ j o,aB[j]?=some o->listed.getD j false=true->∀ e∈o.after,Region.binds md e=true->listed.getD e.on false=true
theorem l5.set {listed:Array Bool}{k:Nat}(h:l5 md aB listed)(hk:k∈Region.ready md aB listed):l5 md aB (listed.setIfInBounds k true):=by
 intro j o hj hl e he hb;by_cases yb:j=k
 ·subst yb;obtain⟨_,o',Ff,nR⟩:=mem_ready.1 hk;obtain rfl:o=o':=av6 (hj.symm.trans Ff);exact getD_set_true (nR e he hb)
 ·rw[getD_set_ne false (fun e=>yb e.symm)]at hl;exact getD_set_true (h j o hj hl e he hb)
theorem fN {i:Nat}{oi:Oper}{v:Value}(hi:aB[i]?=some oi)(fL:∀(j:Nat) (o:Oper) cs b,aB[j]?=some o->o.op≠.select cs b)(hQ:∀ c a w,Q (.panic c) (a.put oi.dst v) w->Q (.panic c) a w)
  (hE:∀ listed w,l5 md aB listed->listed.getD i true=false->D (listed.setIfInBounds i true) w->E w/\D listed w) (f:Nat):
  ∀(listed:Array Bool) (a:Act) (w:World),l5 md aB listed->(∀ j oj,aB[j]?=some oj->j≠i->listed.getD j true=false->(∀ e∈oj.after,Region.binds md e=true->e.on≠i)->oi.apart aB oj=true)->
   i∈Region.ready md aB listed->lI P aB E oi v a->gI P md aB Q D f (listed.setIfInBounds i true) (a.put oi.dst v) w->gI P md aB Q D (f+1) listed a w:=by
 induction f with
 |zero=>
  intro listed a w uZ _ hr hy H;obtain⟨hE1,WI⟩:=hE listed w uZ (mem_ready.1 hr).1 H.1;refine⟨WI,fun h=>(by rw[h]at hr;cases hr),fun j hj=>?_⟩;by_cases sq:j=i
  ·subst sq;exact hy.op hi hE1 H
  ·have:=ready_mono hj sq;rw[H.2.1]at this
   cases this
 |succ f ih=>
  intro listed a w uZ qw hr hy H;obtain⟨hE1,WI⟩:=hE listed w uZ (mem_ready.1 hr).1 H.1;refine⟨WI,fun h=>(by rw[h]at hr;cases hr),fun j hj=>?_⟩;by_cases sq:j=i
  ·subst sq;exact hy.op hi hE1 H
  ·have h1:=H.2.2 j (ready_mono hj sq);obtain⟨Fu,oj,Kg,nR⟩:=mem_ready.1 hj;have SQ:∀ e∈oj.after,Region.binds md e=true->e.on≠i:=fun e he hb heq=>by
    have h1:=nR e he hb;have h0:=(mem_ready.1 hr).1;rw[heq,getD_both h0]at h1;exact absurd h1 (by simp)
   have nP:=qw j oj Kg sq Fu SQ;obtain⟨_,_,h3⟩:=Oper.apart_spec nP;have h2:=Li (Y:=lI P aB E oi v) Kg nP (fun cs b=>fL j oj cs b Kg) hQ
    (fun a u hy=>hy.same (execOp_put oi (fun cs b=>fL i oi cs b hi) a oj.dst u h3) (wanted_put oi a oj.dst u h3)) (fun a d hy=>hy.same rfl rfl) hy h1
   refine wpOp_mono (fun a' w' hh=>ih (listed.setIfInBounds j true) a' w' (uZ.set hj) ?_ (ready_mono hr (Ne.symm sq)) hh.1 ?_) h2
   ·intro k ok hk BX SR lD;refine qw k ok hk BX ?_ lD;by_cases yb:j=k
    ·subst yb;exact Fu
    ·rwa [getD_set_ne true yb]at SR
   ·rw[Array.setIfInBounds_comm _ _ sq];exact hh.2
def DP (p:Nat)(D1 D2:World->Prop)(listed:Array Bool)(w:World):Prop:=D1 w/\(listed.getD p false=true\/D2 w)
theorem uO {p i:Nat}(Z6:i≠p)(listed:Array Bool)(w:World)(_:l5 md aB listed)(_:listed.getD i true=false)(h:DP p D1 D2 (listed.setIfInBounds i true) w):D1 w/\DP p D1 D2 listed w:=by
 unfold DP at*;rw[getD_set_ne false Z6]at h;exact⟨h.1,h⟩
theorem C9 {p i:Nat}(Z6:i≠p)(hw:Region.waitsFor md aB p i=true)(listed:Array Bool)(w:World)(uZ:l5 md aB listed)(hi:listed.getD i true=false)(h:DP p D1 D2 (listed.setIfInBounds i true) w):(D1 w/\D2 w)/\DP p D1 D2 listed w:=by
 unfold DP at*;rw[getD_set_ne false Z6]at h;refine⟨⟨h.1,?_⟩,h⟩;rcases h.2 with h2|h2
 ·obtain⟨o,ho,e,he,hb,Jj⟩:=Region.waitsFor_spec hw;have:=uZ p o ho h2 e he hb;rw[Jj,getD_both hi]at this;exact absurd this (by simp)
 ·exact h2
def iW (P:Program)(md:Region.Mode)(aB:Array Oper)(p:Nat)(D1 D2:World->Prop)(K:Act->Prop):Nat->List Oper->Act->Prop
 |_,[],a=>K a
 |k,o::rest,a=>if Region.wanted o (yielded aB a.tmps)then ∃ v,((∀ w,D1 w->(execOp a.eval o).run P w=.ok (.value v) w)\/(Region.waitsFor md aB p k=true/\∀ w,D1 w->D2 w->(execOp a.eval o).run P w=.ok (.value v) w))/\iW P md aB p D1 D2 K (k+1) rest (a.put o.dst v)else iW P md aB p D1 D2 K (k+1) rest (a.put o.dst undef)
theorem qI {K:Act->Prop}{p k:Nat}{a:Act}(h:K a):iW P md aB p D1 D2 K k [] a:=h
theorem oM {K:Act->Prop}{p k:Nat}{a:Act}{o:Oper}{rest:List Oper}
  (h:∀ L:Act->Prop,(∀ a,iW P md aB p D1 D2 K (k+1) rest a->L a)->if Region.wanted o (yielded aB a.tmps)then ∃ v,(∀ w,D1 w->(execOp a.eval o).run P w=.ok (.value v) w)/\L (a.put o.dst v)else L (a.put o.dst undef)):iW P md aB p D1 D2 K k (o::rest) a:=by
 have:=h _ (fun _ h=>h);unfold iW;split
 ·rename_i hw
  rw[au8 hw]at this;obtain⟨v,h1,h2⟩:=this;exact⟨v,.inl h1,h2⟩
 ·rename_i hw
  rw[ava hw]at this;exact this
theorem AW {K:Act->Prop}{p k:Nat}{a:Act}{o:Oper}{rest:List Oper}(hp:Region.waitsFor md aB p k=true)
  (h:∀ L:Act->Prop,(∀ a,iW P md aB p D1 D2 K (k+1) rest a->L a)->if Region.wanted o (yielded aB a.tmps)then ∃ v,(∀ w,D1 w->D2 w->(execOp a.eval o).run P w=.ok (.value v) w)/\L (a.put o.dst v)else L (a.put o.dst undef)):iW P md aB p D1 D2 K k (o::rest) a:=by
 have:=h _ (fun _ h=>h);unfold iW;split
 ·rename_i hw
  rw[au8 hw]at this;obtain⟨v,h1,h2⟩:=this;exact⟨v,.inr ⟨hp,h1⟩,h2⟩
 ·rename_i hw
  rw[ava hw]at this;exact this
theorem AX {K:Act->Prop}{n p:Nat}(fL:Region.noSelect aB=true)(hQ:∀ c o v a w,Q (.panic c) (Act.put a o v) w->Q (.panic c) a w)(hnp:n<=p)(g:Nat)(w:World)(l:List Oper):
  ∀(k:Nat) (listed:Array Bool) (a:Act),(∀ j,j<l.length->l[j]?=aB[k+j]?)->k+l.length<=n->HeadInv md aB n listed->l5 md aB listed->(∀ i,i<k->listed.getD i false=true)->
  (im md aB (k+l.length) n (Region.markFirst l.length k listed)->∀ a',K a'->gI P md aB Q (DP p D1 D2) g (Region.markFirst l.length k listed) a' w)->
  Region.pureB md aB l.length k listed=true->iW P md aB p D1 D2 K k l a->gI P md aB Q (DP p D1 D2) (l.length+g) listed a w:=by
 induction l with
 |nil=>
  intro k listed a _ _ inv _ hf gQ _ h;have:=gQ ⟨by simpa[Region.markFirst]using inv,fun i hi=>by simpa[Region.markFirst]using hf i (by simpa using hi)⟩ a h;simpa[Region.markFirst]using this
 |cons o l ih=>
  intro k listed a hl hk inv uZ hf gQ hB h;have h0:aB[k]?=some o:=by simpa using(hl 0 (by simp)).symm
  simp only[au0,Region.pureB,avj]at hB;obtain⟨⟨hr,Ol⟩,VT⟩:=hB;have zl:k∈Region.ready md aB listed:=by simpa using hr
  have rt:k<n:=by simp only[au0]at hk;omega
  have next:∀ v,iW P md aB p D1 D2 K (k+1) l (a.put o.dst v)->gI P md aB Q (DP p D1 D2) (l.length+g) (listed.setIfInBounds k true) (a.put o.dst v) w:=fun v hK=>by
   refine ih (k+1) _ _ (fun j hj=>?_) ?_ (inv.set zl rt) (uZ.set zl) (fun i hi=>?_) ?_ VT hK
   ·have:=hl (j+1) (by simp;omega);simpa[avg,Nat.add_comm 1 j]using this
   ·simp only[au0]at hk;omega
   ·by_cases hik:i=k
    ·subst hik;have aL:i<listed.size:=by rw[inv.size];exact(avm.1 h0).1
     simp[aL]
    ·exact getD_set_true (hf i (by omega))
   ·intro hh a' FJ;have e:k+1+l.length=k+(o::l).length:=by simp;omega
    rw[e]at hh;have:=gQ hh a' FJ;simpa[Region.markFirst]using this
  rw[show(o::l).length+g=(l.length+g)+1 by simp;omega];unfold iW at h;by_cases hw:Region.wanted o (yielded aB a.tmps)=true
  ·rw[au8 hw]at h;obtain⟨v,h1|⟨hp,h1⟩,h2⟩:=h
   ·exact fN (E:=D1) h0 (av7 fL) (fun c a w=>hQ c _ _ a w) (uO (by omega)) (l.length+g) listed a w uZ (av8 h0 Ol) zl (.inl ⟨hw,h1⟩) (next v h2)
   ·exact fN (E:=fun w=>D1 w/\D2 w) h0 (av7 fL) (fun c a w=>hQ c _ _ a w) (C9 (by omega) hp) (l.length+g) listed a w uZ (av8 h0 Ol) zl (.inl ⟨hw,fun w hd=>h1 w hd.1 hd.2⟩) (next v h2)
  ·rw[ava hw]at h;exact fN (E:=D1) h0 (av7 fL) (fun c a w=>hQ c _ _ a w) (uO (by omega)) (l.length+g) listed a w uZ (av8 h0 Ol) zl (.inr ⟨by simpa using hw,rfl⟩) (next undef h)
theorem vR {n:Nat}{L:Array Bool->Act->Prop}:∀ {f:Nat} {listed:Array Bool} {a:Act},il P md aB C n L f listed a->listed.size=aB.size->il P md aB C n (fun l a=>L l a/\l.size=aB.size) f listed a
 |0,_,_,h,hs=>⟨h,hs⟩
 |_+1,_,_,h,hs=>⟨h.1,fun i hi=>⟨(h.2 i hi).1,qOp_mono (fun _ h=>vR h (by simpa using hs)) (h.2 i hi).2⟩⟩
theorem AY {n g:Nat}{L:Array Bool->Act->Prop}(hCD:∀ listed w,C w->D listed w)(hL:∀ listed a w,C w->L listed a->gI P md aB Q D g listed a w)(f:Nat):
  ∀(listed:Array Bool) (a:Act) (w:World),C w->il P md aB C n L f listed a->gI P md aB Q D (f+g) listed a w:=by
 induction f with
 |zero=>intro listed a w hw h;rw[avN];exact hL _ _ _ hw h
 |succ f ih=>
  intro listed a w hw h;rw[show f+1+g=(f+g)+1 by omega];exact⟨hCD listed w hw,fun h0=>absurd h0 h.1,fun i hi=>wpOp_of_qOp hw (fun a' w' bf h'=>ih _ a' w' bf h') (h.2 i hi).2⟩
def vS (P:Program)(aB:Array Oper)(Q:Exit->Act->World->Prop)(p:Nat)(D1 D2:World->Prop):Nat->List Oper->Act->World->Prop
 |k,[],a,w=>(D1 w/\(p<k\/D2 w))/\Q .normal a w
 |k,o::rest,a,w=>(D1 w/\(p<k\/D2 w))/\wpList P aB (fun e a' w'=>match e with | .normal=>vS P aB Q p D1 D2 (k+1) rest a' w'|e=>Q e a' w') [o] a w
theorem oN {o:Oper}{a:Act}{w:World}{K:Act->World->Prop}{R:Act->World->Prop}(h:o.wp P a w K (fun e a' w'=>match e with | .normal=>R a' w'|e=>Q e a' w')):o.wp P a w K Q:=by
 unfold Oper.wp at*;generalize (execOp a.eval o).run P w=r at*
 cases r with
 |ok n w'=>
  cases n<;>simp only[Oper.upon]at h ⊢
  case value=>exact h
  case skip=>exact h
  case defer=>exact h
  case row=>exact h
  case enter f args=>
   refine avd h fun e w'' he=>?_
   cases e with
   |returned u=>exact he
   |panicked c=>exact he
   |outgrown=>exact he
 |halt x w'=>
  cases x<;>simp only[Oper.upon]at h ⊢
  case panic u=>exact h
theorem rL {p:Nat}:∀(l:List Oper) (k:Nat) (listed:Array Bool) (a:Act) (w:World),(∀ j,l[j]?=aB[k+j]?)->Region.seqB md aB l.length k listed=true->(∀ t,t<k->t=p->listed.getD t false=true)->k+l.length=aB.size->listed.size=aB.size->vS P aB Q p D1 D2 k l a w->gI P md aB Q (DP p D1 D2) l.length listed a w
 |[],_,_,_,_,_,hB,hp,_,_,h=>⟨⟨h.1.1,h.1.2.imp (fun h=>hp _ h rfl) id⟩,by simpa[Region.seqB]using hB,h.2⟩
 |o::l,k,listed,a,w,hl,hB,hp,cV,hls,h=>by
  have h0:aB[k]?=some o:=by simpa using(hl 0).symm
  simp only[au0,Region.seqB,avj,avo]at hB;refine⟨⟨h.1.1,h.1.2.imp (fun h=>hp _ h rfl) id⟩,fun h1=>(by rw[hB.1]at h1;cases h1),fun i hi=>?_⟩;rw[hB.1]at hi;have hik:i=k:=by simpa using hi
  subst hik;have hw:wpOp P aB Q i (vS P aB Q p D1 D2 (i+1) l) a w:=by
   have h2:=h.2;unfold wpOp;simp only[h0];unfold wpList at h2;split
   ·rename_i hwt
    rw[au8 hwt]at h2;rcases h2 with h2|⟨h2,h3⟩
    ·exact .inl (oN h2)
    ·exact .inr ⟨h2,h3⟩
   ·rename_i hwt
    rw[ava hwt]at h2;exact h2
  refine wpOp_mono (fun a' w' h'=>rL l (i+1) _ a' w' (fun j=>by have:=hl (j+1);simpa[avg,Nat.add_comm 1 j]using this) hB.2 (fun t ht e=>?_) (by simp at cV;omega) (by simpa using hls) h') hw;by_cases hti:t=i
  ·subst hti;have aL:t<listed.size:=by rw[hls];exact(avm.1 h0).1
   simp[aL]
  ·exact getD_set_true (hp t (by omega) e)
theorem kO {P:Program}{id:Nat}{Q:Exit->Act->World->Prop}{a:Act}{w:World}{l:List Oper}(m n p:Nat)(C D1 D2:World->Prop)(hm:P.follows .mixedOrders=true)(hB:Region.lexMidB .any l.toArray m n=true)
  (hnp:n<=p) (hQ:∀ c o v a w,Q (.panic c) (Act.put a o v) w->Q (.panic c) a w) (hC:C { w with drawn:=w.drawn+1 }) (hCD:∀ w,C w->D1 w/\D2 w)
  (h:iW P .any l.toArray p D1 D2 (wpQuiet P l.toArray C (fun a'=>∀ w',C w'->vS P l.toArray Q p D1 D2 n (l.drop n) a' w') ((l.take n).drop m)) 0 (l.take m) a):(Code.region id l.toArray true).wp P Q a w:=by
 simp only[Region.lexMidB,avj,avo]at hB;obtain⟨⟨⟨⟨⟨⟨fL,hn⟩,KD⟩,hs⟩,hc⟩,R6⟩,RK⟩:=hB;have Xt:n<l.length:=by simpa using hn
 have uw:(l.take m).length=m:=by simp;omega
 have Cs:((l.take n).drop m).length=n-m:=by simp;omega
 have FA:(l.drop n).length=l.toArray.size-n:=by simp
 have RR:HeadInv .any l.toArray n (Array.replicate l.toArray.size false):=
  ⟨by simp,fun j oj _ hl=>by rw[avq]at hl;simp at hl,fun t _ ht=>getD_in (by simpa using ht) (avq _ _)⟩
 have cl0:l5 .any l.toArray (Array.replicate l.toArray.size false):=fun j oj _ hl=>by rw[avq]at hl;simp at hl
 refine wp_region_any hm ?_;have H:=AX (D1:=D1) (D2:=D2) (p:=p) (md:=.any) (n:=n) (Q:=Q) fL hQ hnp ((n-m)+(l.toArray.size-n)) { w with drawn:=w.drawn+1 } (l.take m) 0 (Array.replicate l.toArray.size false) a
  (fun j hj=>by rw[uw]at hj;simp[hj]) (by omega) RR cl0 (fun i hi=>by omega) (fun hh a' FJ=>?_) (by rw[uw];exact R6) h
 ·rw[uw]at H;rw[show m+(n-m+(l.toArray.size-n))=l.toArray.size by omega]at H;exact rK H
 ·rw[uw]at hh ⊢;rw[avN]at hh;have H2:=rA (md:=.any) (g:=l.toArray.size-n) fL hs hc hn ((l.take n).drop m) m _ a' (fun j hj=>by
   rw[Cs]at hj;simp only[av9,List.getElem?_take,List.getElem?_toArray];rw[au8 (by omega)]) (by rw[Cs];omega) hh (by rw[Cs];exact RK) FJ
  have:=AY (Q:=Q) (D:=DP p D1 D2) (g:=l.toArray.size-n) (L:=fun lT a'=>(Region.seqB .any l.toArray (l.toArray.size-n) n lT=true/\∀ w',C w'->vS P l.toArray Q p D1 D2 n (l.drop n) a' w')/\lT.size=l.toArray.size) (fun listed w hw=>⟨(hCD w hw).1,.inr (hCD w hw).2⟩) (fun listed a' w' bf hL=>by
   have:=rL (D1:=D1) (D2:=D2) (p:=p) (md:=.any) (Q:=Q) (l.drop n) n listed a' w' (fun j=>by simp) (by rw[FA];exact hL.1.1) (fun t ht e=>by omega) (by rw[FA];omega) hL.2 (hL.1.2 w' bf)
   rwa [FA]at this) _ _ _ _ hC (vR H2 (by rw[hh.base.size]))
  rwa [Cs]at this
end
end
section
open Go
section
variable {P:Program}{aB:Array Oper}{md:Region.Mode}{D1 D2:World->Prop}{Q:Exit->Act->World->Prop}
def lJ (P:Program)(md:Region.Mode)(aB:Array Oper)(p:Nat)(D1 D2:World->Prop)(K:Act->Prop):List Nat->Act->Prop
 |[],a=>K a
 |i::r,a=>match aB[i]? with
  |none=>False
  |some o=>if Region.wanted o (yielded aB a.tmps)then ∃ v,((∀ w,D1 w->(execOp a.eval o).run P w=.ok (.value v) w)\/(Region.waitsFor md aB p i=true/\∀ w,D1 w->D2 w->(execOp a.eval o).run P w=.ok (.value v) w))/\lJ P md aB p D1 D2 K r (a.put o.dst v)else lJ P md aB p D1 D2 K r (a.put o.dst undef)
def Db (md:Region.Mode)(aB:Array Oper)(p:Nat):List Nat->Array Bool->Bool
 |[],_=>true
 |i::r,listed=>(Region.ready md aB listed).contains i&&Region.free md aB listed i&&(i != p)&&Db md aB p r (listed.setIfInBounds i true)
def vT:List Nat->Array Bool->Array Bool
 |[],listed=>listed
 |i::r,listed=>vT r (listed.setIfInBounds i true)
def tX (P:Program)(aB:Array Oper)(Q:Exit->Act->World->Prop)(p:Nat)(D1 D2:World->Prop):Bool->List Nat->Act->World->Prop
 |pl,[],a,w=>(D1 w/\(pl=true\/D2 w))/\Q .normal a w
 |pl,i::r,a,w=>(D1 w/\(pl=true\/D2 w))/\match aB[i]? with
  |none=>False
  |some o=>wpList P aB (fun e a' w'=>match e with | .normal=>tX P aB Q p D1 D2 (pl||i==p) r a' w'|e=>Q e a' w') [o] a w
def Ph (md:Region.Mode)(aB:Array Oper):List Nat->Array Bool->Bool
 |[],listed=>(Region.ready md aB listed).isEmpty
 |i::r,listed=>decide (Region.ready md aB listed=[i])&&Ph md aB r (listed.setIfInBounds i true)
theorem l6 {K:Act->Prop}{p g:Nat}(fL:Region.noSelect aB=true)(hQ:∀ c o v a w,Q (.panic c) (Act.put a o v) w->Q (.panic c) a w)(w:World):∀(js:List Nat) (listed:Array Bool) (a:Act),l5 md aB listed->
  (∀ a',K a'->gI P md aB Q (DP p D1 D2) g (vT js listed) a' w)->Db md aB p js listed=true->lJ P md aB p D1 D2 K js a->gI P md aB Q (DP p D1 D2) (js.length+g) listed a w
 |[],listed,a,_,gQ,_,h=>by rw[awa,avN];exact gQ a h
 |i::r,listed,a,uZ,gQ,hB,h=>by
  simp only[Db,avj,bne_iff_ne,ne_eq]at hB;obtain⟨⟨⟨hr,Ol⟩,Z6⟩,VT⟩:=hB;have zl:i∈Region.ready md aB listed:=by simpa using hr
  unfold lJ at h
  cases h0:aB[i]? with
  |none=>rw[h0]at h;exact h.elim
  |some o=>
   rw[h0]at h;simp only at h;have next:∀ v,lJ P md aB p D1 D2 K r (a.put o.dst v)->gI P md aB Q (DP p D1 D2) (r.length+g) (listed.setIfInBounds i true) (a.put o.dst v) w:=fun v hK=>l6 fL hQ w r _ _ (uZ.set zl) gQ VT hK;rw[show(i::r).length+g=(r.length+g)+1 by simp;omega];by_cases hw:Region.wanted o (yielded aB a.tmps)=true
   ·rw[au8 hw]at h;obtain⟨v,h1|⟨hp,h1⟩,h2⟩:=h
    ·exact fN (E:=D1) h0 (av7 fL) (fun c a w=>hQ c _ _ a w) (uO Z6) (r.length+g) listed a w uZ (av8 h0 Ol) zl (.inl ⟨hw,h1⟩) (next v h2)
    ·exact fN (E:=fun w=>D1 w/\D2 w) h0 (av7 fL) (fun c a w=>hQ c _ _ a w) (C9 Z6 hp) (r.length+g) listed a w uZ (av8 h0 Ol) zl (.inl ⟨hw,fun w hd=>h1 w hd.1 hd.2⟩) (next v h2)
   ·rw[ava hw]at h;exact fN (E:=D1) h0 (av7 fL) (fun c a w=>hQ c _ _ a w) (uO Z6) (r.length+g) listed a w uZ (av8 h0 Ol) zl (.inr ⟨by simpa using hw,rfl⟩) (next undef h)
theorem qh {p:Nat}:∀(ts:List Nat) (pl:Bool) (listed:Array Bool) (a:Act) (w:World),Ph md aB ts listed=true->(pl=true->listed.getD p false=true)->listed.size=aB.size->tX P aB Q p D1 D2 pl ts a w->gI P md aB Q (DP p D1 D2) ts.length listed a w
 |[],pl,listed,a,w,hB,hp,_,h=>⟨⟨h.1.1,h.1.2.imp hp id⟩,by simpa[Ph]using hB,h.2⟩
 |i::r,pl,listed,a,w,hB,hp,hls,h=>by
  simp only[Ph,avj,avo]at hB;refine⟨⟨h.1.1,h.1.2.imp hp id⟩,fun h1=>(by rw[hB.1]at h1;cases h1),fun k hk=>?_⟩;rw[hB.1]at hk;have BX:k=i:=by simpa using hk
  subst BX;have h2:=h.2
  cases h0:aB[k]? with
  |none=>rw[h0]at h2;exact h2.elim
  |some o=>
   rw[h0]at h2;simp only at h2;have hw:wpOp P aB Q k (tX P aB Q p D1 D2 (pl||k==p) r) a w:=by
    unfold wpOp;simp only[h0];unfold wpList at h2;split
    ·rename_i hwt
     rw[au8 hwt]at h2;rcases h2 with h2|⟨h2,h3⟩
     ·exact .inl (oN h2)
     ·exact .inr ⟨h2,h3⟩
    ·rename_i hwt
     rw[ava hwt]at h2;exact h2
   refine wpOp_mono (fun a' w' h'=>qh r (pl||k==p) _ a' w' hB.2 (fun e=>?_) (by simpa using hls) h') hw;rw[avl]at e;by_cases TD:k=p
   ·subst TD;have aL:k<listed.size:=by rw[hls];exact(avm.1 h0).1
    simp[aL]
   ·exact getD_set_true (hp (e.resolve_right (by simpa using TD)))
theorem iX {K:Act->Prop}{p:Nat}{a:Act}(h:K a):lJ P md aB p D1 D2 K [] a:=h
theorem fD {K:Act->Prop}{p i:Nat}{r:List Nat}{a:Act}{o:Oper}(h0:aB[i]?=some o)
  (h:∀ L:Act->Prop,(∀ a,lJ P md aB p D1 D2 K r a->L a)->if Region.wanted o (yielded aB a.tmps)then ∃ v,(∀ w,D1 w->(execOp a.eval o).run P w=.ok (.value v) w)/\L (a.put o.dst v)else L (a.put o.dst undef)):lJ P md aB p D1 D2 K (i::r) a:=by
 have:=h _ (fun _ h=>h);unfold lJ;rw[h0];simp only;split
 ·rename_i hw
  rw[au8 hw]at this;obtain⟨v,h1,h2⟩:=this;exact⟨v,.inl h1,h2⟩
 ·rename_i hw
  rw[ava hw]at this;exact this
theorem Dc {K:Act->Prop}{p i:Nat}{r:List Nat}{a:Act}{o:Oper}(h0:aB[i]?=some o)(hp:Region.waitsFor md aB p i=true)
  (h:∀ L:Act->Prop,(∀ a,lJ P md aB p D1 D2 K r a->L a)->if Region.wanted o (yielded aB a.tmps)then ∃ v,(∀ w,D1 w->D2 w->(execOp a.eval o).run P w=.ok (.value v) w)/\L (a.put o.dst v)else L (a.put o.dst undef)):lJ P md aB p D1 D2 K (i::r) a:=by
 have:=h _ (fun _ h=>h);unfold lJ;rw[h0];simp only;split
 ·rename_i hw
  rw[au8 hw]at this;obtain⟨v,h1,h2⟩:=this;exact⟨v,.inr ⟨hp,h1⟩,h2⟩
 ·rename_i hw
  rw[ava hw]at this;exact this
theorem bS {p i:Nat}{pl:Bool}{r:List Nat}{a:Act}{w:World}{o:Oper}(h0:aB[i]?=some o)(hd:D1 w/\(pl=true\/D2 w))
  (h:wpList P aB (fun e a' w'=>match e with | .normal=>tX P aB Q p D1 D2 (pl||i==p) r a' w'|e=>Q e a' w') [o] a w):tX P aB Q p D1 D2 pl (i::r) a w:=by
 unfold tX;rw[h0];exact⟨hd,h⟩
theorem pL {p:Nat}{pl:Bool}{a:Act}{w:World}(hd:D1 w/\(pl=true\/D2 w))(h:Q .normal a w):tX P aB Q p D1 D2 pl [] a w:=⟨hd,h⟩
theorem qJ:∀(js:List Nat) (listed:Array Bool),(vT js listed).size=listed.size
 |[],_=>rfl
 |i::r,listed=>by rw[vT,qJ r];simp
def Pi (md:Region.Mode)(aB:Array Oper)(p:Nat)(js ts:List Nat):Bool:=
 Region.noSelect aB&&decide (js.length+ts.length=aB.size)&&Db md aB p js (Array.replicate aB.size false)&&Ph md aB ts (vT js (Array.replicate aB.size false))
theorem gE {P:Program}{id:Nat}{Q:Exit->Act->World->Prop}{a:Act}{w:World}{l:List Oper}(p:Nat)(js ts:List Nat)(D1 D2:World->Prop)(hm:P.follows .mixedOrders=true)(hB:Pi .any l.toArray p js ts=true)
  (hQ:∀ c o v a w,Q (.panic c) (Act.put a o v) w->Q (.panic c) a w)
  (h:lJ P .any l.toArray p D1 D2 (fun a'=>tX P l.toArray Q p D1 D2 false ts a' { w with drawn:=w.drawn+1 }) js a):(Code.region id l.toArray true).wp P Q a w:=by
 simp only[Pi,avj,avo]at hB;obtain⟨⟨⟨fL,bA⟩,dr⟩,Jz⟩:=hB;refine wp_region_any hm ?_;have H:=l6 (md:=.any) (Q:=Q) (g:=ts.length) fL hQ { w with drawn:=w.drawn+1 } js (Array.replicate l.toArray.size false) a (fun j oj _ hl=>by rw[avq]at hl;simp at hl)
  (fun a' FJ=>qh ts false _ a' _ Jz (fun e=>by cases e) (by rw[qJ];simp) FJ) dr h
 rw[bA]at H;exact rK H
end
end
end Go.Proofs.YtkghpdcloaiflaaGreatDoor
