import Derived.Test.YtkghpdcloaiflaaGreatDoorH07
set_option maxHeartbeats 4000000
set_option maxRecDepth 100000
namespace Go.Proofs.YtkghpdcloaiflaaGreatDoor
open _root_.Go.Proofs.Tryz
variable {K:Act->Prop}{P:Program}{Q:Exit->Act->World->Prop}{a:Act}{i id k n num p:Nat}{l rest:List Oper}{o oi:Oper}{pl:Bool}{r:List Nat}{text:List UInt8}{v:Value}{w:World}
section
open Go.RowKit Go.Shelf
attribute [local go_sem] av0
theorem AX (S:List UInt8)(i j:Nat)(x y:Int)(hx:x=i)(hy:y=j)(hij:i<=j)(hj:j<=S.length)(W:World):(Instr.slice 9 (.string ⟨S.toArray⟩) (some (.int .i64 x)) (some (.int .i64 y)) none).run prog W=.ok (.string ⟨((S.drop i).take (j-i)).toArray⟩) W:=by
 subst hx hy;rw[run_slice_string_if W 9 _ .i64 .i64 _ _ underlying9];have hs:(⟨S.toArray⟩:ByteArray).size=S.length:=by simp[ByteArray.size]
 rw[awd (by rw[hs];omega),awd J,awH,awH]
 congr 2
 apply ByteArray.ext;simp[List.extract_eq_take_drop]
theorem eZ {x:Int}(h:-9223372036854775808<=x/\x<=9223372036854775807):IntKind.i64.wrap x=x:=by
 simp only[IntKind.wrap,IntKind.signed,IntKind.bits];simp;omega
theorem vT {v pd pc:Nat}(h:World.blk w v (lN pd pc text num) 171):
  Calls prog 109 #[au v,.int .i64 0] w λe w'=>e=.returned (.int .i64 0)/\World.blk w' v (lN pd pc text num) 171/\ai (λb=>b=v) w w':=by
 have c4:w.cell? ⟨v,4,none⟩=some (.bool false):=aa h 4;have f4:=ae h ⟨v,4,none⟩ rfl;obtain⟨HM,H⟩:=K2 ((ai.refl (λb=>b=v) w).setCell (p:=⟨v,4,none⟩) (.inl rfl) (.bool false)) (ah h 4 (.bool false));clear h;go_enter func109,ntmps109
 go_wp2
 go_ret;exact⟨rfl,H.o,HM.o⟩
theorem GJ {v:Nat}{d:Dk}{F:Nat->Prop}(h:gS w v d text num F)(n:Nat)(h1:1<=n)(h2:n<d.size/4)(p:List UInt8)(hp:p.length<=240):
  Calls prog 393 #[au v,.int .i64 (n:Int),.string ⟨p.toArray⟩] w λe w'=>e=.returned (.int .i64 0)/\∃ F',gS w' v (jG d n (dN p) 4) text num F'/\dO F F' w w':=by
 obtain⟨MY,FR⟩:=K2 (Dj h n h1 h2) (zy p w hp);have FJ:=sO hp;obtain⟨pd,pc,M,Fd,Fc,h⟩:=h;have cJ:=h.many;have H:=Z h;clear h;go_enter func393,ntmps393;go_wp2_with fail;refine MY.mono ?_;rintro e w0 ⟨rfl,rfl⟩;go_wp2_with fail;refine FR.mono ?_;rintro e w1 ⟨rfl,hk1⟩;obtain⟨H1,cC⟩:=K2 (H.same (hk1.on (λ_ _=>id)) hk1.size) hk1;have c4:w1.cell? ⟨v,4,none⟩=some (.bool false):=aa H1.own 4;clear hk1;have yX:=CX (d:=d) h1 h2 hp;generalize hfs:dN p=s at*;have Hfs:=Z hfs;clear hfs;have Hrd:=Z yX;clear yX;go_wp2_with fail
 go_loopw [29] (λi wr=>∃(k:Nat) (uC:Nat->Prop),k<=4/\i=.int .i64 (k:Int)/\World.blk wr v (lN pd pc text num) 171/\bE wr pd (jG d n s k) uC/\gz wr pc M Fc/\ai F w0 wr/\Hid (∀ b,uC b->Fd b\/w0.heap.size<=b))
  (λi _=>4-(intOf i).toNat)
 case atStart=>exact⟨0,Fd,J,rfl,H1.own,H1.disk,H1.cache,cC.mono (λ_ _ h=>h.elim),Z (λ_ h=>.inl h)⟩
 case round=>
  obtain⟨k,uC,hk,rfl,ho,KN,hc,hm,HF⟩:=hrel;have hvF:=H.fv;have nvd:¬ uC v:=λhv=>(HF.o v hv).elim H.nd (λhge=>by have:=H.lt v hvF;omega);have nvc:=H.nc;have ndc:∀ b,uC b->¬ Fc b:=λb hb SS=>(HF.o b hb).elim (λhd=>H.apart b hd SS) (λhge=>by have:=H.lt b (H.fc b SS);omega);obtain⟨Ho,Hdk,Hc,Hm,Nvd,Ndc⟩:=K6 ho KN hc hm nvd ndc;have e0:wr.cell? ⟨v,0,none⟩=some (au pd):=aa ho 0;have e2:wr.cell? ⟨v,3,none⟩=some (au pc):=aa ho 3;have hvl:v<wr.heap.size:=ak ho;clear ho KN hc hm nvd nvc ndc hvF;by_cases aP:k<4
  ·have dL:(k:Int)<4:=J
   have akq:(jG d n s k).size=d.size:=jr d n s k;have Oy:((s.drop (k*64)).take 64).length=64:=by simp;omega
   have Xu:(n:Int)<=4096:=J
   have hb1:((k:Int)+1)*64<=(s.length:Int):=J
   have fh:(k:Int)*64<=((k:Int)+1)*64:=J
   have sK:(0:Int)<=(k:Int)*64:=J
   have CG:(s.length:Int)=256:=J
   have w1:IntKind.i64.wrap (4*(n:Int))=4*(n:Int):=eZ J;have w2:IntKind.i64.wrap (4*(n:Int)+(k:Int))=4*(n:Int)+(k:Int):=eZ J;have w3:IntKind.i64.wrap ((k:Int)*64)=(k:Int)*64:=eZ J;have w4:IntKind.i64.wrap ((k:Int)+1)=(k:Int)+1:=eZ J;have w5:IntKind.i64.wrap (((k:Int)+1)*64)=((k:Int)+1)*64:=eZ J;have hcut:=λW=>AX s (k*64) ((k+1)*64) ((k:Int)*64) (((k:Int)+1)*64) J J J J W;have e64:(k+1)*64-k*64=64:=J
   rw[e64]at hcut;have ek:((4*n+k:Nat):Int)=4*(n:Int)+(k:Int):=J
   go_wp2_with fail;refine im 1 16 kr7 kr7 (λ_ o _ _ _ h=>by cases o<;>exact h) ?_;simp only[awS,awT,awU,awV];refine fq (λL hL=>?_)
   go_simp
   first|refine hL _ ?_|refine⟨_,λ_=>rfl,hL _ ?_⟩
   clear hL L;refine ko ?_
   repeat (quiet_step (fail))
   refine awX ?_;intro _ bD;obtain⟨xq,rfl⟩:=bD;have nG:=aC wr xq;have W:=kw (Hdk.mod nG (λ_ _=>id)) (4*n+k) (by rw[akq];omega) ((s.drop (k*64)).take 64) Oy;rw[ek]at W;have HW:=Z W;clear W;go_wp2_with fail;refine HW.mono ?_;rintro e w4 ⟨rfl,O6,SM,tH⟩;have db:ai uC wr w4:=(nG.mono (T:=uC) (λ_ _ h=>h.elim)).trans tH.mod (λ_ _ h=>h);have ho2:=ab db Ho.o Nvd.o;have Ch:=Hc.same (db.on (λb hb hd=>Ndc.o b hd hb)) db.size;have Tf:Hid (∀ b,O6 b->Fd b\/w0.heap.size<=b):=Z (λb hb=>(tH.foot b hb).elim (HF.o b) (λhge=>.inr (by have:=Hm.size;have:=nG.size;omega)));have Hm2:Hid (ai F w0 w4):=Z (Hm.trans db (λi hi hd=>(HF.o i hd).elim (H.fd i) (λhge=>J)));obtain⟨Sd,Hc2,SV⟩:=K3 SM Ch ho2;clear SM tH db ho2 Ch nG;go_wp2_with fail;refine(vT SV.o).mono ?_;rintro e w5 ⟨rfl,N9,CC⟩;have nv2:¬ O6 v:=λhv=>(Tf.o v hv).elim H.nd (λhge=>by have:=H.lt v H.fv;omega);obtain⟨Hd5,Hc5⟩:=K2 (Sd.mod CC (λb hb e=>nv2 (e▸hb))) (Hc2.same (CC.on (λb hb e=>H.nc (e▸hb))) CC.size);have Hm5:Hid (ai F w0 w5):=Z (Hm2.trans (CC.mono (T:=F) (λi _ e=>by subst e;exact H.fv)) (λ_ _ h=>h));have UE:=Z N9;clear CC N9;go_wp2_with fail;exact⟨⟨k+1,O6,J,by go_num,UE.o,Hd5.o,Hc5.o,Hm5.o,Tf⟩,by simp[intOf];omega⟩
  ·obtain rfl:k=4:=J
   go_wp2_with fail;refine(Dg Hc.o (n:Int) ⟨by omega,J⟩ p).mono ?_;rintro e w4 ⟨⟨u,rfl⟩,M',Wv,hc4,jE,hM'⟩;have Cx:=Hm.size;have X4:pS w4 v pd pc (jG d n s 4) text num M' uC Wv (λb=>F b\/uC b\/Wv b):=
    { own:=ab jE.mod Ho.o H.nc,disk:=Hdk.mod jE.mod Ndc.o,cache:=hc4,
      good:=λj t hj=>by
       rw[Hrd.o];unfold lM;rcases hM' j t hj with⟨rfl,rfl⟩|⟨eG,h⟩
       ·rw[awd rfl]
       ·rw[awf eG];exact H.good j t h
      fv:=.inl H.fv,fd:=λb hb=>.inr (.inl hb),fc:=λb hb=>.inr (.inr hb),
      apart:=λb hb hc=>(jE.foot b hc).elim (Ndc.o b hb) (λhge=>by have:=Hdk.lt b hb;omega),
      nd:=Nvd.o,nc:=λhc=>(jE.foot v hc).elim H.nc (λhge=>J),many:=by rw[jr];exact H.many,num:=H.num,
      lt:=λb hb=>by
       rcases hb with hb|hb|hb
       ·exact awg (H.lt b hb) (av2 Cx jE.mod.size)
       ·exact awg (Hdk.lt b hb) jE.mod.size
       ·exact hc4.lt b hb }
   have Cp:=Z X4;have HK:Hid (dO F (λb=>F b\/uC b\/Wv b) w0 w4):=Z ⟨Hm.trans (jE.mod.mono (T:=F) (λi _ hi=>H.fc i hi)) (λ_ _ h=>h),λb hb=>by
    rcases hb with hb|hb|hb
    ·exact .inl hb
    ·exact(HF.o b hb).elim (λh=>.inl (H.fd b h)) .inr
    ·exact(jE.foot b hb).elim (λh=>.inl (H.fc b h)) (λh=>.inr J)⟩
   clear X4 hc4 jE hM';go_wp2;go_ret;exact⟨rfl,_,⟨pd,pc,M',uC,Wv,by rw[Hfs.o];exact Cp.o⟩,HK.o⟩
end
section
open Go
section
variable {P:Program}{aF:Array Oper}{md:Region.Mode}{C E D1 D2:World->Prop}{D:Array Bool->World->Prop}{Q:Exit->Act->World->Prop}
def gG (P:Program)(md:Region.Mode)(aF:Array Oper)(Q:Exit->Act->World->Prop)(D:Array Bool->World->Prop):Nat->Array Bool->Act->World->Prop
 |0,listed,a,w=>D listed w/\Region.ready md aF listed=[]/\Q .normal a w
 |f+1,listed,a,w=>D listed w/\(Region.ready md aF listed=[]->Q .normal a w)/\∀ i∈Region.ready md aF listed,wpOp P aF Q i (gG P md aF Q D f (listed.setIfInBounds i true)) a w
theorem rJ:∀ {f:Nat} {listed:Array Bool} {a:Act} {w:World},gG P md aF Q D f listed a w->wpAny P md aF Q f listed a w
 |0,_,_,_,h=>h.2
 |_+1,_,_,_,h=>⟨h.2.1,λi hi=>wpOp_mono (λ_ _ h=>rJ h) (h.2.2 i hi)⟩
def lu (P:Program)(aF:Array Oper)(E:World->Prop)(o:Oper)(v:Value)(a:Act):Prop:=
 (Region.wanted o (yielded aF a.tmps)=true/\∀ w,E w->(execOp a.eval o).run P w=.ok (.value v) w)\/(Region.wanted o (yielded aF a.tmps)=false/\v=undef)
theorem lu.same {a':Act}(h:lu P aF E o v a)(he:execOp a'.eval o=execOp a.eval o)(hw:Region.wanted o (yielded aF a'.tmps)=Region.wanted o (yielded aF a.tmps)):lu P aF E o v a':=by
 unfold lu at*;rw[he,hw];exact h
theorem lu.op (hi:aF[i]?=some o)(hy:lu P aF E o v a){K:Act->World->Prop}(hw:E w)(h:K (a.put o.dst v) w):wpOp P aF Q i K a w:=by
 unfold wpOp;simp only[hi];rcases hy with⟨h1,h2⟩|⟨h1,rfl⟩
 ·rw[awd h1];left;unfold Oper.wp;rw[h2 w hw];exact h
 ·rw[awf (by simp[h1])];exact h
theorem Lu {j:Nat}{oj:Oper}{Y:Act->Prop}(hj:aF[j]?=some oj)(nI:oi.apart aF oj=true)(hsj:∀ cs b,oj.op≠.select cs b)
  (hQ:∀ c a w,Q (.panic c) (a.put oi.dst v) w->Q (.panic c) a w) (NR:∀ a u,Y a->Y (a.put oj.dst u)) (Jw:∀(a:Act) d,Y a->Y { a with defers:=d::a.defers }) {K:Act->World->Prop} {a:Act} {w:World}
  (hy:Y a) (h:wpOp P aF Q j K (a.put oi.dst v) w):wpOp P aF Q j (λa' w'=>Y a'/\K (a'.put oi.dst v) w') a w:=by
 obtain⟨h1,h2,_⟩:=Oper.apart_spec nI;unfold wpOp at*;simp only[hj]at*;rw[wanted_put oj a oi.dst v h1]at h;by_cases hw:Region.wanted oj (yielded aF a.tmps)=true
 ·rw[awd hw]at h ⊢;rcases h with h|⟨Yp,afD⟩
  ·left
   unfold Oper.wp at*;rw[execOp_put oj hsj a oi.dst v h1]at h;generalize (execOp a.eval oj).run P w=r at*;have sw:∀(u:Value),(a.put oi.dst v).put oj.dst u=(a.put oj.dst u).put oi.dst v:=λu=>(Act.put_comm a v u h2)
   cases r with
   |ok n w'=>
    cases n<;>simp only[Oper.upon]at h ⊢
    case value u=>exact⟨NR a u hy,sw u▸h⟩
    case skip=>exact⟨NR a _ hy,sw undef▸h⟩
    case defer d=>
     refine⟨NR _ _ (Jw a d hy),?_⟩;rw[<-Act.put_comm _ v undef h2,<-Act.put_defers];exact h
    case enter f args=>
     refine awi h λe w'' he=>?_
     cases e with
     |returned u=>exact⟨NR a u hy,sw u▸he⟩
     |panicked c=>exact hQ _ _ _ he
     |outgrown=>exact he
    case row row args=>exact Rows.mono h λu w'' he=>⟨NR a u hy,sw u▸he⟩
   |halt x w'=>
    cases x<;>simp only[Oper.upon]at h ⊢
    case panic u=>exact hQ _ _ _ h
  ·exact .inr ⟨by unfold Oper.asks at *;rw[execOp_put oj hsj a oi.dst v h1]at Yp;exact Yp,afD⟩
 ·rw[awf hw]at h ⊢;exact⟨NR a _ hy,by rw[<-Act.put_comm a v undef h2];exact h⟩
def lO (md:Region.Mode)(aF:Array Oper)(listed:Array Bool):Prop:=∀ j o,aF[j]?=some o->listed.getD j false=true->∀ e∈o.after,Region.binds md e=true->listed.getD e.on false=true
theorem lO.set {listed:Array Bool}(h:lO md aF listed)(hk:k∈Region.ready md aF listed):lO md aF (listed.setIfInBounds k true):=by
 intro j o hj hl e he hb;by_cases AF:j=k
 ·subst AF;obtain⟨_,o',FG,nC⟩:=mem_ready.1 hk;obtain rfl:o=o':=axa (hj.symm.trans FG);exact getD_set_true (nC e he hb)
 ·rw[getD_set_ne false (λe=>AF e.symm)]at hl;exact getD_set_true (h j o hj hl e he hb)
theorem fL (hi:aF[i]?=some oi)(fH:∀(j:Nat) (o:Oper) cs b,aF[j]?=some o->o.op≠.select cs b)(hQ:∀ c a w,Q (.panic c) (a.put oi.dst v) w->Q (.panic c) a w)
  (hE:∀ listed w,lO md aF listed->listed.getD i true=false->D (listed.setIfInBounds i true) w->E w/\D listed w) (f:Nat):
  ∀(listed:Array Bool) (a:Act) (w:World),lO md aF listed->(∀ j oj,aF[j]?=some oj->j≠i->listed.getD j true=false->(∀ e∈oj.after,Region.binds md e=true->e.on≠i)->oi.apart aF oj=true)->
   i∈Region.ready md aF listed->lu P aF E oi v a->gG P md aF Q D f (listed.setIfInBounds i true) (a.put oi.dst v) w->gG P md aF Q D (f+1) listed a w:=by
 induction f with
 |zero=>
  intro listed a w vh _ hr hy H;obtain⟨hE1,WT⟩:=hE listed w vh (mem_ready.1 hr).1 H.1;refine⟨WT,λh=>(by rw[h]at hr;cases hr),λj hj=>?_⟩;by_cases sy:j=i
  ·subst sy;exact hy.op hi hE1 H
  ·have:=ready_mono hj sy;rw[H.2.1]at this
   cases this
 |succ f ih=>
  intro listed a w vh qu hr hy H;obtain⟨hE1,WT⟩:=hE listed w vh (mem_ready.1 hr).1 H.1;refine⟨WT,λh=>(by rw[h]at hr;cases hr),λj hj=>?_⟩;by_cases sy:j=i
  ·subst sy;exact hy.op hi hE1 H
  ·have h1:=H.2.2 j (ready_mono hj sy);obtain⟨Fz,oj,K0,nC⟩:=mem_ready.1 hj;have TQ:∀ e∈oj.after,Region.binds md e=true->e.on≠i:=λe he hb heq=>by
    have h1:=nC e he hb;have h0:=(mem_ready.1 hr).1;rw[heq,getD_both h0]at h1;exact absurd h1 sp7
   have nI:=qu j oj K0 sy Fz TQ;obtain⟨_,_,h3⟩:=Oper.apart_spec nI;have h2:=Lu (Y:=lu P aF E oi v) K0 nI (λcs b=>fH j oj cs b K0) hQ
    (λa u hy=>hy.same (execOp_put oi (λcs b=>fH i oi cs b hi) a oj.dst u h3) (wanted_put oi a oj.dst u h3)) (λa d hy=>hy.same rfl rfl) hy h1
   refine wpOp_mono (λa' w' hh=>ih (listed.setIfInBounds j true) a' w' (vh.set hj) ?_ (ready_mono hr (Ne.symm sy)) hh.1 ?_) h2
   ·intro k ok hk B9 Tp lh;refine qu k ok hk B9 ?_ lh;by_cases AF:j=k
    ·subst AF;exact Fz
    ·rwa [getD_set_ne true AF]at Tp
   ·rw[Array.setIfInBounds_comm _ _ sy];exact hh.2
def DP (p:Nat)(D1 D2:World->Prop)(listed:Array Bool)(w:World):Prop:=D1 w/\(listed.getD p false=true\/D2 w)
theorem uQ (hip:i≠p)(listed:Array Bool)(w:World)(_:lO md aF listed)(_:listed.getD i true=false)(h:DP p D1 D2 (listed.setIfInBounds i true) w):D1 w/\DP p D1 D2 listed w:=by
 unfold DP at*;rw[getD_set_ne false hip]at h;exact⟨h.1,h⟩
theorem Dm (hip:i≠p)(hw:Region.waitsFor md aF p i=true)(listed:Array Bool)(w:World)(vh:lO md aF listed)(hi:listed.getD i true=false)(h:DP p D1 D2 (listed.setIfInBounds i true) w):(D1 w/\D2 w)/\DP p D1 D2 listed w:=by
 unfold DP at*;rw[getD_set_ne false hip]at h;refine⟨⟨h.1,?_⟩,h⟩;rcases h.2 with h2|h2
 ·obtain⟨o,ho,e,he,hb,Tc⟩:=Region.waitsFor_spec hw;have:=vh p o ho h2 e he hb;rw[Tc,getD_both hi]at this;exact absurd this sp7
 ·exact h2
def iU (P:Program)(md:Region.Mode)(aF:Array Oper)(p:Nat)(D1 D2:World->Prop)(K:Act->Prop):Nat->List Oper->Act->Prop
 |_,[],a=>K a
 |k,o::rest,a=>if Region.wanted o (yielded aF a.tmps)then ∃ v,((∀ w,D1 w->(execOp a.eval o).run P w=.ok (.value v) w)\/(Region.waitsFor md aF p k=true/\∀ w,D1 w->D2 w->(execOp a.eval o).run P w=.ok (.value v) w))/\iU P md aF p D1 D2 K (k+1) rest (a.put o.dst v)else iU P md aF p D1 D2 K (k+1) rest (a.put o.dst undef)
theorem qE (h:K a):iU P md aF p D1 D2 K k [] a:=h
theorem oz 
  (h:∀ L:Act->Prop,(∀ a,iU P md aF p D1 D2 K (k+1) rest a->L a)->if Region.wanted o (yielded aF a.tmps)then ∃ v,(∀ w,D1 w->(execOp a.eval o).run P w=.ok (.value v) w)/\L (a.put o.dst v)else L (a.put o.dst undef)):iU P md aF p D1 D2 K k (o::rest) a:=by
 have:=h _ (λ_ h=>h);unfold iU;split
 ·rename_i hw
  rw[awd hw]at this;obtain⟨v,h1,h2⟩:=this;exact⟨v,.inl h1,h2⟩
 ·rename_i hw
  rw[awf hw]at this;exact this
theorem AY (hp:Region.waitsFor md aF p k=true)
  (h:∀ L:Act->Prop,(∀ a,iU P md aF p D1 D2 K (k+1) rest a->L a)->if Region.wanted o (yielded aF a.tmps)then ∃ v,(∀ w,D1 w->D2 w->(execOp a.eval o).run P w=.ok (.value v) w)/\L (a.put o.dst v)else L (a.put o.dst undef)):iU P md aF p D1 D2 K k (o::rest) a:=by
 have:=h _ (λ_ h=>h);unfold iU;split
 ·rename_i hw
  rw[awd hw]at this;obtain⟨v,h1,h2⟩:=this;exact⟨v,.inr ⟨hp,h1⟩,h2⟩
 ·rename_i hw
  rw[awf hw]at this;exact this
theorem AZ (fH:Region.noSelect aF=true)(hQ:∀ c o v a w,Q (.panic c) (Act.put a o v) w->Q (.panic c) a w)(hnp:n<=p)(g:Nat)(w:World)(l:List Oper):
  ∀(k:Nat) (listed:Array Bool) (a:Act),(∀ j,j<l.length->l[j]?=aF[k+j]?)->k+l.length<=n->HeadInv md aF n listed->lO md aF listed->(∀ i,i<k->listed.getD i false=true)->
  (ig md aF (k+l.length) n (Region.markFirst l.length k listed)->∀ a',K a'->gG P md aF Q (DP p D1 D2) g (Region.markFirst l.length k listed) a' w)->
  Region.pureB md aF l.length k listed=true->iU P md aF p D1 D2 K k l a->gG P md aF Q (DP p D1 D2) (l.length+g) listed a w:=by
 induction l with
 |nil=>
  intro k listed a _ _ inv _ hf gN _ h;have:=gN ⟨by simpa[Region.markFirst]using inv,λi hi=>by simpa[Region.markFirst]using hf i (by simpa using hi)⟩ a h;simpa[Region.markFirst]using this
 |cons o l ih=>
  intro k listed a hl hk inv vh hf gN hB h;have h0:aF[k]?=some o:=by simpa using(hl 0 sp7).symm
  simp only[av5,Region.pureB,awo]at hB;obtain⟨⟨hr,OW⟩,WL⟩:=hB;have zg:k∈Region.ready md aF listed:=by simpa using hr
  have rq:k<n:=by simp only[av5]at hk;omega
  have next:∀ v,iU P md aF p D1 D2 K (k+1) l (a.put o.dst v)->gG P md aF Q (DP p D1 D2) (l.length+g) (listed.setIfInBounds k true) (a.put o.dst v) w:=λv hK=>by
   refine ih (k+1) _ _ (λj hj=>?_) ?_ (inv.set zg rq) (vh.set zg) (λi hi=>?_) ?_ WL hK
   ·have:=hl (j+1) (by simp;omega);simpa[awl,Nat.add_comm 1 j]using this
   ·simp only[av5]at hk;omega
   ·by_cases hik:i=k
    ·subst hik;have aP:i<listed.size:=by rw[inv.size];exact(awr.1 h0).1
     simp[aP]
    ·exact getD_set_true (hf i J)
   ·intro hh a' Gn;have e:k+1+l.length=k+(o::l).length:=by simp;omega
    rw[e]at hh;have:=gN hh a' Gn;simpa[Region.markFirst]using this
  rw[show(o::l).length+g=(l.length+g)+1 by simp;omega];unfold iU at h;by_cases hw:Region.wanted o (yielded aF a.tmps)=true
  ·rw[awd hw]at h;obtain⟨v,h1|⟨hp,h1⟩,h2⟩:=h
   ·exact fL (E:=D1) h0 (axb fH) (λc a w=>hQ c _ _ a w) (uQ J) (l.length+g) listed a w vh (axc h0 OW) zg (.inl ⟨hw,h1⟩) (next v h2)
   ·exact fL (E:=λw=>D1 w/\D2 w) h0 (axb fH) (λc a w=>hQ c _ _ a w) (Dm J hp) (l.length+g) listed a w vh (axc h0 OW) zg (.inl ⟨hw,λw hd=>h1 w hd.1 hd.2⟩) (next v h2)
  ·rw[awf hw]at h;exact fL (E:=D1) h0 (axb fH) (λc a w=>hQ c _ _ a w) (uQ J) (l.length+g) listed a w vh (axc h0 OW) zg (.inr ⟨by simpa using hw,rfl⟩) (next undef h)
theorem vU {n:Nat}{L:Array Bool->Act->Prop}:∀ {f:Nat} {listed:Array Bool} {a:Act},ie P md aF C n L f listed a->listed.size=aF.size->ie P md aF C n (λl a=>L l a/\l.size=aF.size) f listed a
 |0,_,_,h,hs=>⟨h,hs⟩
 |_+1,_,_,h,hs=>⟨h.1,λi hi=>⟨(h.2 i hi).1,qOp_mono (λ_ h=>vU h (by simpa using hs)) (h.2 i hi).2⟩⟩
theorem A0 {g:Nat}{L:Array Bool->Act->Prop}(hCD:∀ listed w,C w->D listed w)(hL:∀ listed a w,C w->L listed a->gG P md aF Q D g listed a w)(f:Nat):
  ∀(listed:Array Bool) (a:Act) (w:World),C w->ie P md aF C n L f listed a->gG P md aF Q D (f+g) listed a w:=by
 induction f with
 |zero=>intro listed a w hw h;rw[awR];exact hL _ _ _ hw h
 |succ f ih=>
  intro listed a w hw h;rw[show f+1+g=(f+g)+1 by omega];exact⟨hCD listed w hw,λh0=>absurd h0 h.1,λi hi=>wpOp_of_qOp hw (λa' w' bD h'=>ih _ a' w' bD h') (h.2 i hi).2⟩
def vV (P:Program)(aF:Array Oper)(Q:Exit->Act->World->Prop)(p:Nat)(D1 D2:World->Prop):Nat->List Oper->Act->World->Prop
 |k,[],a,w=>(D1 w/\(p<k\/D2 w))/\Q .normal a w
 |k,o::rest,a,w=>(D1 w/\(p<k\/D2 w))/\wpList P aF (λe a' w'=>match e with | .normal=>vV P aF Q p D1 D2 (k+1) rest a' w'|e=>Q e a' w') [o] a w
theorem oA {K:Act->World->Prop}{R:Act->World->Prop}(h:o.wp P a w K (λe a' w'=>match e with | .normal=>R a' w'|e=>Q e a' w')):o.wp P a w K Q:=by
 unfold Oper.wp at*;generalize (execOp a.eval o).run P w=r at*
 cases r with
 |ok n w'=>
  cases n<;>simp only[Oper.upon]at h ⊢
  case value=>exact h
  case skip=>exact h
  case defer=>exact h
  case row=>exact h
  case enter f args=>
   refine awi h λe w'' he=>?_
   cases e with
   |returned u=>exact he
   |panicked c=>exact he
   |outgrown=>exact he
 |halt x w'=>
  cases x<;>simp only[Oper.upon]at h ⊢
  case panic u=>exact h
theorem rK {p:Nat}:∀(l:List Oper) (k:Nat) (listed:Array Bool) (a:Act) (w:World),(∀ j,l[j]?=aF[k+j]?)->Region.seqB md aF l.length k listed=true->(∀ t,t<k->t=p->listed.getD t false=true)->k+l.length=aF.size->listed.size=aF.size->vV P aF Q p D1 D2 k l a w->gG P md aF Q (DP p D1 D2) l.length listed a w
 |[],_,_,_,_,_,hB,hp,_,_,h=>⟨⟨h.1.1,h.1.2.imp (λh=>hp _ h rfl) id⟩,by simpa[Region.seqB]using hB,h.2⟩
 |o::l,k,listed,a,w,hl,hB,hp,cJ,hls,h=>by
  have h0:aF[k]?=some o:=by simpa using(hl 0).symm
  simp only[av5,Region.seqB,awo,awt]at hB;refine⟨⟨h.1.1,h.1.2.imp (λh=>hp _ h rfl) id⟩,λh1=>(by rw[hB.1]at h1;cases h1),λi hi=>?_⟩;rw[hB.1]at hi;have hik:i=k:=by simpa using hi
  subst hik;have hw:wpOp P aF Q i (vV P aF Q p D1 D2 (i+1) l) a w:=by
   have h2:=h.2;unfold wpOp;simp only[h0];unfold wpList at h2;split
   ·rename_i hwt
    rw[awd hwt]at h2;rcases h2 with h2|⟨h2,h3⟩
    ·exact .inl (oA h2)
    ·exact .inr ⟨h2,h3⟩
   ·rename_i hwt
    rw[awf hwt]at h2;exact h2
  refine wpOp_mono (λa' w' h'=>rK l (i+1) _ a' w' (λj=>by have:=hl (j+1);simpa[awl,Nat.add_comm 1 j]using this) hB.2 (λt ht e=>?_) (by simp at cJ;omega) (by simpa using hls) h') hw;by_cases hti:t=i
  ·subst hti;have aP:t<listed.size:=by rw[hls];exact(awr.1 h0).1
   simp[aP]
  ·exact getD_set_true (hp t J e)
theorem ky (m n p:Nat)(C D1 D2:World->Prop)(hm:P.follows .mixedOrders=true)(hB:Region.lexMidB .any l.toArray m n=true)
  (hnp:n<=p) (hQ:∀ c o v a w,Q (.panic c) (Act.put a o v) w->Q (.panic c) a w) (hC:C { w with drawn:=w.drawn+1 }) (hCD:∀ w,C w->D1 w/\D2 w)
  (h:iU P .any l.toArray p D1 D2 (wpQuiet P l.toArray C (λa'=>∀ w',C w'->vV P l.toArray Q p D1 D2 n (l.drop n) a' w') ((l.take n).drop m)) 0 (l.take m) a):(Code.region id l.toArray true).wp P Q a w:=by
 simp only[Region.lexMidB,awo,awt]at hB;obtain⟨⟨⟨⟨⟨⟨fH,hn⟩,Kw⟩,hs⟩,hc⟩,Sa⟩,SR⟩:=hB;have Zu:n<l.length:=by simpa using hn
 have sJ:(l.take m).length=m:=by simp;omega
 have CM:((l.take n).drop m).length=n-m:=by simp;omega
 have yw:(l.drop n).length=l.toArray.size-n:=by simp
 have TC:HeadInv .any l.toArray n (Array.replicate l.toArray.size false):=
  ⟨by simp,λj oj _ hl=>by rw[awu]at hl;simp at hl,λt _ ht=>getD_in (by simpa using ht) (awu _ _)⟩
 have cl0:lO .any l.toArray (Array.replicate l.toArray.size false):=λj oj _ hl=>by rw[awu]at hl;simp at hl
 refine wp_region_any hm ?_;have H:=AZ (D1:=D1) (D2:=D2) (p:=p) (md:=.any) (n:=n) (Q:=Q) fH hQ hnp ((n-m)+(l.toArray.size-n)) { w with drawn:=w.drawn+1 } (l.take m) 0 (Array.replicate l.toArray.size false) a
  (λj hj=>by rw[sJ]at hj;simp[hj]) J TC cl0 (λi hi=>J) (λhh a' Gn=>?_) (by rw[sJ];exact Sa) h
 ·rw[sJ]at H;rw[show m+(n-m+(l.toArray.size-n))=l.toArray.size by omega]at H;exact rJ H
 ·rw[sJ]at hh ⊢;rw[awR]at hh;have H2:=ry (md:=.any) (g:=l.toArray.size-n) fH hs hc hn ((l.take n).drop m) m _ a' (λj hj=>by
   rw[CM]at hj;simp only[axd,List.getElem?_take,List.getElem?_toArray];rw[awd J]) (by rw[CM];omega) hh (by rw[CM];exact SR) Gn
  have:=A0 (Q:=Q) (D:=DP p D1 D2) (g:=l.toArray.size-n) (L:=λlK a'=>(Region.seqB .any l.toArray (l.toArray.size-n) n lK=true/\∀ w',C w'->vV P l.toArray Q p D1 D2 n (l.drop n) a' w')/\lK.size=l.toArray.size) (λlisted w hw=>⟨(hCD w hw).1,.inr (hCD w hw).2⟩) (λlisted a' w' bD hL=>by
   have:=rK (D1:=D1) (D2:=D2) (p:=p) (md:=.any) (Q:=Q) (l.drop n) n listed a' w' (λj=>by simp) (by rw[yw];exact hL.1.1) (λt ht e=>J) (by rw[yw];omega) hL.2 (hL.1.2 w' bD)
   rwa [yw]at this) _ _ _ _ hC (vU H2 (by rw[hh.base.size]))
  rwa [CM]at this
end
section
variable {P:Program}{aF:Array Oper}{md:Region.Mode}{D1 D2:World->Prop}{Q:Exit->Act->World->Prop}
def lw (P:Program)(md:Region.Mode)(aF:Array Oper)(p:Nat)(D1 D2:World->Prop)(K:Act->Prop):List Nat->Act->Prop
 |[],a=>K a
 |i::r,a=>match aF[i]? with
  |none=>False
  |some o=>if Region.wanted o (yielded aF a.tmps)then ∃ v,((∀ w,D1 w->(execOp a.eval o).run P w=.ok (.value v) w)\/(Region.waitsFor md aF p i=true/\∀ w,D1 w->D2 w->(execOp a.eval o).run P w=.ok (.value v) w))/\lw P md aF p D1 D2 K r (a.put o.dst v)else lw P md aF p D1 D2 K r (a.put o.dst undef)
def Dn (md:Region.Mode)(aF:Array Oper)(p:Nat):List Nat->Array Bool->Bool
 |[],_=>true
 |i::r,listed=>(Region.ready md aF listed).contains i&&Region.free md aF listed i&&(i != p)&&Dn md aF p r (listed.setIfInBounds i true)
def vW:List Nat->Array Bool->Array Bool
 |[],listed=>listed
 |i::r,listed=>vW r (listed.setIfInBounds i true)
def ua (P:Program)(aF:Array Oper)(Q:Exit->Act->World->Prop)(p:Nat)(D1 D2:World->Prop):Bool->List Nat->Act->World->Prop
 |pl,[],a,w=>(D1 w/\(pl=true\/D2 w))/\Q .normal a w
 |pl,i::r,a,w=>(D1 w/\(pl=true\/D2 w))/\match aF[i]? with
  |none=>False
  |some o=>wpList P aF (λe a' w'=>match e with | .normal=>ua P aF Q p D1 D2 (pl||i==p) r a' w'|e=>Q e a' w') [o] a w
def Pz (md:Region.Mode)(aF:Array Oper):List Nat->Array Bool->Bool
 |[],listed=>(Region.ready md aF listed).isEmpty
 |i::r,listed=>decide (Region.ready md aF listed=[i])&&Pz md aF r (listed.setIfInBounds i true)
theorem lP {K:Act->Prop}{p g:Nat}(fH:Region.noSelect aF=true)(hQ:∀ c o v a w,Q (.panic c) (Act.put a o v) w->Q (.panic c) a w)(w:World):∀(js:List Nat) (listed:Array Bool) (a:Act),lO md aF listed->
  (∀ a',K a'->gG P md aF Q (DP p D1 D2) g (vW js listed) a' w)->Dn md aF p js listed=true->lw P md aF p D1 D2 K js a->gG P md aF Q (DP p D1 D2) (js.length+g) listed a w
 |[],listed,a,_,gN,_,h=>by rw[axe,awR];exact gN a h
 |i::r,listed,a,vh,gN,hB,h=>by
  simp only[Dn,awo,bne_iff_ne,ne_eq]at hB;obtain⟨⟨⟨hr,OW⟩,hip⟩,WL⟩:=hB;have zg:i∈Region.ready md aF listed:=by simpa using hr
  unfold lw at h
  cases h0:aF[i]? with
  |none=>rw[h0]at h;exact h.elim
  |some o=>
   rw[h0]at h;simp only at h;have next:∀ v,lw P md aF p D1 D2 K r (a.put o.dst v)->gG P md aF Q (DP p D1 D2) (r.length+g) (listed.setIfInBounds i true) (a.put o.dst v) w:=λv hK=>lP fH hQ w r _ _ (vh.set zg) gN WL hK;rw[show(i::r).length+g=(r.length+g)+1 by simp;omega];by_cases hw:Region.wanted o (yielded aF a.tmps)=true
   ·rw[awd hw]at h;obtain⟨v,h1|⟨hp,h1⟩,h2⟩:=h
    ·exact fL (E:=D1) h0 (axb fH) (λc a w=>hQ c _ _ a w) (uQ hip) (r.length+g) listed a w vh (axc h0 OW) zg (.inl ⟨hw,h1⟩) (next v h2)
    ·exact fL (E:=λw=>D1 w/\D2 w) h0 (axb fH) (λc a w=>hQ c _ _ a w) (Dm hip hp) (r.length+g) listed a w vh (axc h0 OW) zg (.inl ⟨hw,λw hd=>h1 w hd.1 hd.2⟩) (next v h2)
   ·rw[awf hw]at h;exact fL (E:=D1) h0 (axb fH) (λc a w=>hQ c _ _ a w) (uQ hip) (r.length+g) listed a w vh (axc h0 OW) zg (.inr ⟨by simpa using hw,rfl⟩) (next undef h)
theorem pZ {p:Nat}:∀(ts:List Nat) (pl:Bool) (listed:Array Bool) (a:Act) (w:World),Pz md aF ts listed=true->(pl=true->listed.getD p false=true)->listed.size=aF.size->ua P aF Q p D1 D2 pl ts a w->gG P md aF Q (DP p D1 D2) ts.length listed a w
 |[],pl,listed,a,w,hB,hp,_,h=>⟨⟨h.1.1,h.1.2.imp hp id⟩,by simpa[Pz]using hB,h.2⟩
 |i::r,pl,listed,a,w,hB,hp,hls,h=>by
  simp only[Pz,awo,awt]at hB;refine⟨⟨h.1.1,h.1.2.imp hp id⟩,λh1=>(by rw[hB.1]at h1;cases h1),λk hk=>?_⟩;rw[hB.1]at hk;have B9:k=i:=by simpa using hk
  subst B9;have h2:=h.2
  cases h0:aF[k]? with
  |none=>rw[h0]at h2;exact h2.elim
  |some o=>
   rw[h0]at h2;simp only at h2;have hw:wpOp P aF Q k (ua P aF Q p D1 D2 (pl||k==p) r) a w:=by
    unfold wpOp;simp only[h0];unfold wpList at h2;split
    ·rename_i hwt
     rw[awd hwt]at h2;rcases h2 with h2|⟨h2,h3⟩
     ·exact .inl (oA h2)
     ·exact .inr ⟨h2,h3⟩
    ·rename_i hwt
     rw[awf hwt]at h2;exact h2
   refine wpOp_mono (λa' w' h'=>pZ r (pl||k==p) _ a' w' hB.2 (λe=>?_) (by simpa using hls) h') hw;rw[awq]at e;by_cases UC:k=p
   ·subst UC;have aP:k<listed.size:=by rw[hls];exact(awr.1 h0).1
    simp[aP]
   ·exact getD_set_true (hp (e.resolve_right (by simpa using UC)))
theorem gT (h:K a):lw P md aF p D1 D2 K [] a:=h
theorem eJ (h0:aF[i]?=some o)
  (h:∀ L:Act->Prop,(∀ a,lw P md aF p D1 D2 K r a->L a)->if Region.wanted o (yielded aF a.tmps)then ∃ v,(∀ w,D1 w->(execOp a.eval o).run P w=.ok (.value v) w)/\L (a.put o.dst v)else L (a.put o.dst undef)):lw P md aF p D1 D2 K (i::r) a:=by
 have:=h _ (λ_ h=>h);unfold lw;rw[h0];simp only;split
 ·rename_i hw
  rw[awd hw]at this;obtain⟨v,h1,h2⟩:=this;exact⟨v,.inl h1,h2⟩
 ·rename_i hw
  rw[awf hw]at this;exact this
theorem Do (h0:aF[i]?=some o)(hp:Region.waitsFor md aF p i=true)
  (h:∀ L:Act->Prop,(∀ a,lw P md aF p D1 D2 K r a->L a)->if Region.wanted o (yielded aF a.tmps)then ∃ v,(∀ w,D1 w->D2 w->(execOp a.eval o).run P w=.ok (.value v) w)/\L (a.put o.dst v)else L (a.put o.dst undef)):lw P md aF p D1 D2 K (i::r) a:=by
 have:=h _ (λ_ h=>h);unfold lw;rw[h0];simp only;split
 ·rename_i hw
  rw[awd hw]at this;obtain⟨v,h1,h2⟩:=this;exact⟨v,.inr ⟨hp,h1⟩,h2⟩
 ·rename_i hw
  rw[awf hw]at this;exact this
theorem bS (h0:aF[i]?=some o)(hd:D1 w/\(pl=true\/D2 w))
  (h:wpList P aF (λe a' w'=>match e with | .normal=>ua P aF Q p D1 D2 (pl||i==p) r a' w'|e=>Q e a' w') [o] a w):ua P aF Q p D1 D2 pl (i::r) a w:=by
 unfold ua;rw[h0];exact⟨hd,h⟩
theorem pA (hd:D1 w/\(pl=true\/D2 w))(h:Q .normal a w):ua P aF Q p D1 D2 pl [] a w:=⟨hd,h⟩
theorem qF:∀(js:List Nat) (listed:Array Bool),(vW js listed).size=listed.size
 |[],_=>rfl
 |i::r,listed=>by rw[vW,qF r];simp
def PA (md:Region.Mode)(aF:Array Oper)(p:Nat)(js ts:List Nat):Bool:=
 Region.noSelect aF&&decide (js.length+ts.length=aF.size)&&Dn md aF p js (Array.replicate aF.size false)&&Pz md aF ts (vW js (Array.replicate aF.size false))
theorem gA (p:Nat)(js ts:List Nat)(D1 D2:World->Prop)(hm:P.follows .mixedOrders=true)(hB:PA .any l.toArray p js ts=true)
  (hQ:∀ c o v a w,Q (.panic c) (Act.put a o v) w->Q (.panic c) a w)
  (h:lw P .any l.toArray p D1 D2 (λa'=>ua P l.toArray Q p D1 D2 false ts a' { w with drawn:=w.drawn+1 }) js a):(Code.region id l.toArray true).wp P Q a w:=by
 simp only[PA,awo,awt]at hB;obtain⟨⟨⟨fH,bt⟩,dh⟩,Jy⟩:=hB;refine wp_region_any hm ?_;have H:=lP (md:=.any) (Q:=Q) (g:=ts.length) fH hQ { w with drawn:=w.drawn+1 } js (Array.replicate l.toArray.size false) a (λj oj _ hl=>by rw[awu]at hl;simp at hl)
  (λa' Gn=>pZ ts false _ a' _ Jy (λe=>by cases e) (by rw[qF];simp) Gn) dh h
 rw[bt]at H;exact rJ H
end
end
end Go.Proofs.YtkghpdcloaiflaaGreatDoor
