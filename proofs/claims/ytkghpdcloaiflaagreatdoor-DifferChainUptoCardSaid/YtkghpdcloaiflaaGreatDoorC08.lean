import Derived.Test.YtkghpdcloaiflaaGreatDoorC07
set_option maxHeartbeats 4000000
set_option maxRecDepth 100000
namespace Go.Proofs.YtkghpdcloaiflaaGreatDoor
open _root_.Go.Proofs.Tryz
section
open Go.RowKit Go.Shelf
attribute [local go_sem] atC
theorem AB (S:List UInt8)(i j:Nat)(x y:Int)(hx:x=i)(hy:y=j)(hij:i<=j)(hj:j<=S.length)(W:World):(Instr.slice 9 (.string ⟨S.toArray⟩) (some (.int .i64 x)) (some (.int .i64 y)) none).run prog W=.ok (.string ⟨((S.drop i).take (j-i)).toArray⟩) W:=by
 subst hx hy;rw[run_slice_string_if W 9 _ .i64 .i64 _ _ underlying9];have hs:(⟨S.toArray⟩:ByteArray).size=S.length:=by simp[ByteArray.size]
 rw[atP (by rw[hs];omega),atP (by omega),auo,auo]
 congr 2
 apply ByteArray.ext;simp[List.extract_eq_take_drop]
theorem fh {x:Int}(h:-9223372036854775808<=x/\x<=9223372036854775807):IntKind.i64.wrap x=x:=by
 simp only[IntKind.wrap,IntKind.signed,IntKind.bits];simp;omega
theorem vH {w:World}{v pd pc:Nat}{text:List UInt8}{num:Nat}(h:World.blk w v (lX pd pc text num) 171):
  Calls prog 109 #[aq v,.int .i64 0] w fun e w'=>e=.returned (.int .i64 0)/\World.blk w' v (lX pd pc text num) 171/\ah (fun b=>b=v) w w':=by
 have c4:w.cell? ⟨v,4,none⟩=some (.bool false):=aa h 4;have f4:=ae h ⟨v,4,none⟩ rfl;have HM:=hd0 ((ah.refl (fun b=>b=v) w).setCell (p:=⟨v,4,none⟩) (.inl rfl) (.bool false));have H:=hd0 (ag h 4 (.bool false));clear h;go_enter func109,ntmps109
 go_wp2
 go_ret;exact⟨rfl,H.out,HM.out⟩
theorem F0 {w:World}{v:Nat}{d:Dk}{text:List UInt8}{num:Nat}{F:Nat->Prop}(h:gU w v d text num F)(n:Nat)(h1:1<=n)(h2:n<d.size/4)(p:List UInt8)(hp:p.length<=240):
  Calls prog 393 #[aq v,.int .i64 (n:Int),.string ⟨p.toArray⟩] w fun e w'=>e=.returned (.int .i64 0)/\∃ F',gU w' v (jA d n (dU p) 4) text num F'/\dV F F' w w':=by
 have MY:=hd0 (CG h n h1 h2);have FR:=hd0 (zf p w hp);have EO:=sI hp;obtain⟨pd,pc,M,Fd,Fc,h⟩:=h;have cA:=h.many;have H:=hd0 h;clear h;go_enter func393,ntmps393;go_wp2_with fail;refine MY.out.mono ?_;rintro e w0 ⟨rfl,rfl⟩;go_wp2_with fail;refine FR.out.mono ?_;rintro e w1 ⟨rfl,hk1⟩;have H1:=hd0 (H.out.same (hk1.on (fun _ _=>id)) hk1.size);have bU:=hd0 hk1;have c4:w1.cell? ⟨v,4,none⟩=some (.bool false):=aa H1.out.own 4;clear hk1;have EM:=Cn (d:=d) h1 h2 hp;generalize hfs:dU p=s at*;have Hfs:=hd0 hfs;clear hfs;have Hrd:=hd0 EM;clear EM;go_wp2_with fail
 go_loopw [29] (fun i wr=>∃(k:Nat) (uj:Nat->Prop),k<=4/\i=.int .i64 (k:Int)/\World.blk wr v (lX pd pc text num) 171/\bA wr pd (jA d n s k) uj/\gB wr pc M Fc/\ah F w0 wr/\Hid (∀ b,uj b->Fd b\/w0.heap.size<=b))
  (fun i _=>4-(intOf i).toNat)
 case atStart=>exact⟨0,Fd,by omega,rfl,H1.out.own,H1.out.disk,H1.out.cache,bU.out.mono (fun _ _ h=>h.elim),hd0 (fun _ h=>.inl h)⟩
 case round=>
  obtain⟨k,uj,hk,rfl,ho,yR,hc,hm,HF⟩:=hrel;have hvF:=H.out.fv;have nvd:¬ uj v:=fun hv=>(HF.out v hv).elim H.out.nd (fun hge=>by have:=H.out.lt v hvF;omega);have nvc:=H.out.nc;have ndc:∀ b,uj b->¬ Fc b:=fun b hb J5=>(HF.out b hb).elim (fun hd=>H.out.apart b hd J5) (fun hge=>by have:=H.out.lt b (H.out.fc b J5);omega);have Ho:=hd0 ho;have Hdk:=hd0 yR;have Hc:=hd0 hc;have Hm:=hd0 hm;have Nvd:=hd0 nvd;have Ndc:=hd0 ndc;have e0:wr.cell? ⟨v,0,none⟩=some (aq pd):=aa ho 0;have e2:wr.cell? ⟨v,3,none⟩=some (aq pc):=aa ho 3;have hvl:v<wr.heap.size:=ai ho;clear ho yR hc hm nvd nvc ndc hvF;by_cases aM:k<4
  ·have dS:(k:Int)<4:=by omega
   have ag8:(jA d n s k).size=d.size:=jn d n s k;have Zw:((s.drop (k*64)).take 64).length=64:=by simp;omega
   have VE:(n:Int)<=4096:=by omega
   have hb1:((k:Int)+1)*64<=(s.length:Int):=by omega
   have eS:(k:Int)*64<=((k:Int)+1)*64:=by omega
   have us:(0:Int)<=(k:Int)*64:=by omega
   have uw:(s.length:Int)=256:=by omega
   have w1:IntKind.i64.wrap (4*(n:Int))=4*(n:Int):=fh (by omega);have w2:IntKind.i64.wrap (4*(n:Int)+(k:Int))=4*(n:Int)+(k:Int):=fh (by omega);have w3:IntKind.i64.wrap ((k:Int)*64)=(k:Int)*64:=fh (by omega);have w4:IntKind.i64.wrap ((k:Int)+1)=(k:Int)+1:=fh (by omega);have w5:IntKind.i64.wrap (((k:Int)+1)*64)=((k:Int)+1)*64:=fh (by omega);have hcut:=fun W=>AB s (k*64) ((k+1)*64) ((k:Int)*64) (((k:Int)+1)*64) (by omega) (by omega) (by omega) (by omega) W;have e64:(k+1)*64-k*64=64:=by omega
   rw[e64]at hcut;have ek:((4*n+k:Nat):Int)=4*(n:Int)+(k:Int):=by omega
   go_wp2_with fail;refine il 1 16 (by kernel_rfl) (by kernel_rfl) (fun _ o _ _ _ h=>by cases o<;>exact h) ?_;simp only[auz,auA,auB,auC];refine ft (fun L hL=>?_)
   go_simp
   first|refine hL _ ?_|refine⟨_,fun _=>rfl,hL _ ?_⟩
   clear hL L;refine kq ?_
   repeat (quiet_step (fail))
   refine auE ?_;intro _ cJ;obtain⟨xq,rfl⟩:=cJ;have nH:=aD wr xq;have W:=kD (Hdk.out.mod nH (fun _ _=>id)) (4*n+k) (by rw[ag8];omega) ((s.drop (k*64)).take 64) Zw;rw[ek]at W;have HW:=hd0 W;clear W;go_wp2_with fail;refine HW.out.mono ?_;rintro e w4 ⟨rfl,Ot,J6,tv⟩;have gO:ah uj wr w4:=(nH.mono (T:=uj) (fun _ _ h=>h.elim)).trans tv.mod (fun _ _ h=>h);have ho2:=ab gO Ho.out Nvd.out;have BO:=Hc.out.same (gO.on (fun b hb hd=>Ndc.out b hd hb)) gO.size;have Sc:Hid (∀ b,Ot b->Fd b\/w0.heap.size<=b):=hd0 (fun b hb=>(tv.foot b hb).elim (HF.out b) (fun hge=>.inr (by have:=Hm.out.size;have:=nH.size;omega)));have Hm2:Hid (ah F w0 w4):=hd0 (Hm.out.trans gO (fun i hi hd=>(HF.out i hd).elim (H.out.fd i) (fun hge=>by omega)));have Hd2:=hd0 J6;have Hc2:=hd0 BO;have Rc:=hd0 ho2;clear J6 tv gO ho2 BO nH;go_wp2_with fail;refine(vH Rc.out).mono ?_;rintro e w5 ⟨rfl,M9,yM⟩;have nv2:¬ Ot v:=fun hv=>(Sc.out v hv).elim H.out.nd (fun hge=>by have:=H.out.lt v H.out.fv;omega);have Hd5:=hd0 (Hd2.out.mod yM (fun b hb e=>nv2 (e▸hb)));have Hc5:=hd0 (Hc2.out.same (yM.on (fun b hb e=>H.out.nc (e▸hb))) yM.size);have Hm5:Hid (ah F w0 w5):=hd0 (Hm2.out.trans (yM.mono (T:=F) (fun i _ e=>by subst e;exact H.out.fv)) (fun _ _ h=>h));have SS:=hd0 M9;clear yM M9;go_wp2_with fail;exact⟨⟨k+1,Ot,by omega,by go_num,SS.out,Hd5.out,Hc5.out,Hm5.out,Sc⟩,by simp[intOf];omega⟩
  ·obtain rfl:k=4:=by omega
   go_wp2_with fail;refine(CD Hc.out (n:Int) ⟨by omega,by omega⟩ p).mono ?_;rintro e w4 ⟨⟨u,rfl⟩,M',Vw,hc4,je,hM'⟩;have rh:=Hm.out.size;have X4:pR w4 v pd pc (jA d n s 4) text num M' uj Vw (fun b=>F b\/uj b\/Vw b):=
    { own:=ab je.mod Ho.out H.out.nc,disk:=Hdk.out.mod je.mod Ndc.out,cache:=hc4,
      good:=fun j t hj=>by
       rw[Hrd.out];unfold lW;rcases hM' j t hj with⟨rfl,rfl⟩|⟨dZ,h⟩
       ·rw[atP rfl]
       ·rw[atR dZ];exact H.out.good j t h
      fv:=.inl H.out.fv,fd:=fun b hb=>.inr (.inl hb),fc:=fun b hb=>.inr (.inr hb),
      apart:=fun b hb hc=>(je.foot b hc).elim (Ndc.out b hb) (fun hge=>by have:=Hdk.out.lt b hb;omega),
      nd:=Nvd.out,nc:=fun hc=>(je.foot v hc).elim H.out.nc (fun hge=>by omega),many:=by rw[jn];exact H.out.many,num:=H.out.num,
      lt:=fun b hb=>by
       rcases hb with hb|hb|hb
       ·exact atS (H.out.lt b hb) (atE rh je.mod.size)
       ·exact atS (Hdk.out.lt b hb) je.mod.size
       ·exact hc4.lt b hb }
   have Bp:=hd0 X4;have HK:Hid (dV F (fun b=>F b\/uj b\/Vw b) w0 w4):=hd0 ⟨Hm.out.trans (je.mod.mono (T:=F) (fun i _ hi=>H.out.fc i hi)) (fun _ _ h=>h),fun b hb=>by
    rcases hb with hb|hb|hb
    ·exact .inl hb
    ·exact(HF.out b hb).elim (fun h=>.inl (H.out.fd b h)) .inr
    ·exact(je.foot b hb).elim (fun h=>.inl (H.out.fc b h)) (fun h=>.inr (by omega))⟩
   clear X4 hc4 je hM';go_wp2;go_ret;exact⟨rfl,_,⟨pd,pc,M',uj,Vw,by rw[Hfs.out];exact Bp.out⟩,HK.out⟩
end
section
open Go
section
variable {P:Program}{aC:Array Oper}{md:Region.Mode}{C E D1 D2:World->Prop}{D:Array Bool->World->Prop}{Q:Exit->Act->World->Prop}
def gH (P:Program)(md:Region.Mode)(aC:Array Oper)(Q:Exit->Act->World->Prop)(D:Array Bool->World->Prop):Nat->Array Bool->Act->World->Prop
 |0,listed,a,w=>D listed w/\Region.ready md aC listed=[]/\Q .normal a w
 |f+1,listed,a,w=>D listed w/\(Region.ready md aC listed=[]->Q .normal a w)/\∀ i∈Region.ready md aC listed,wpOp P aC Q i (gH P md aC Q D f (listed.setIfInBounds i true)) a w
theorem rz:∀ {f:Nat} {listed:Array Bool} {a:Act} {w:World},gH P md aC Q D f listed a w->wpAny P md aC Q f listed a w
 |0,_,_,_,h=>h.2
 |_+1,_,_,_,h=>⟨h.2.1,fun i hi=>wpOp_mono (fun _ _ h=>rz h) (h.2.2 i hi)⟩
def lI (P:Program)(aC:Array Oper)(E:World->Prop)(o:Oper)(v:Value)(a:Act):Prop:=
 (Region.wanted o (yielded aC a.tmps)=true/\∀ w,E w->(execOp a.eval o).run P w=.ok (.value v) w)\/(Region.wanted o (yielded aC a.tmps)=false/\v=undef)
theorem lI.same {o:Oper}{v:Value}{a a':Act}(h:lI P aC E o v a)(he:execOp a'.eval o=execOp a.eval o)(hw:Region.wanted o (yielded aC a'.tmps)=Region.wanted o (yielded aC a.tmps)):lI P aC E o v a':=by
 unfold lI at*;rw[he,hw];exact h
theorem lI.op {i:Nat}{o:Oper}{v:Value}{a:Act}(hi:aC[i]?=some o)(hy:lI P aC E o v a){K:Act->World->Prop}{w:World}(hw:E w)(h:K (a.put o.dst v) w):wpOp P aC Q i K a w:=by
 unfold wpOp;simp only[hi];rcases hy with⟨h1,h2⟩|⟨h1,rfl⟩
 ·rw[atP h1];left;unfold Oper.wp;rw[h2 w hw];exact h
 ·rw[atR (by simp[h1])];exact h
theorem KP {j:Nat}{oi oj:Oper}{v:Value}{Y:Act->Prop}(hj:aC[j]?=some oj)(nJ:oi.apart aC oj=true)(hsj:∀ cs b,oj.op≠.select cs b)
  (hQ:∀ c a w,Q (.panic c) (a.put oi.dst v) w->Q (.panic c) a w) (Nu:∀ a u,Y a->Y (a.put oj.dst u)) (aiE:∀(a:Act) d,Y a->Y { a with defers:=d::a.defers }) {K:Act->World->Prop} {a:Act} {w:World}
  (hy:Y a) (h:wpOp P aC Q j K (a.put oi.dst v) w):wpOp P aC Q j (fun a' w'=>Y a'/\K (a'.put oi.dst v) w') a w:=by
 obtain⟨h1,h2,_⟩:=Oper.apart_spec nJ;unfold wpOp at*;simp only[hj]at*;rw[wanted_put oj a oi.dst v h1]at h;by_cases hw:Region.wanted oj (yielded aC a.tmps)=true
 ·rw[atP hw]at h ⊢;rcases h with h|⟨Xn,ae9⟩
  ·left
   unfold Oper.wp at*;rw[execOp_put oj hsj a oi.dst v h1]at h;generalize (execOp a.eval oj).run P w=r at*;have sw:∀(u:Value),(a.put oi.dst v).put oj.dst u=(a.put oj.dst u).put oi.dst v:=fun u=>(Act.put_comm a v u h2)
   cases r with
   |ok n w'=>
    cases n<;>simp only[Oper.upon]at h ⊢
    case value u=>exact⟨Nu a u hy,sw u▸h⟩
    case skip=>exact⟨Nu a _ hy,sw undef▸h⟩
    case defer d=>
     refine⟨Nu _ _ (aiE a d hy),?_⟩;rw[<-Act.put_comm _ v undef h2,<-Act.put_defers];exact h
    case enter f args=>
     refine atV h fun e w'' he=>?_
     cases e with
     |returned u=>exact⟨Nu a u hy,sw u▸he⟩
     |panicked c=>exact hQ _ _ _ he
     |outgrown=>exact he
    case row row args=>exact Rows.mono h fun u w'' he=>⟨Nu a u hy,sw u▸he⟩
   |halt x w'=>
    cases x<;>simp only[Oper.upon]at h ⊢
    case panic u=>exact hQ _ _ _ h
  ·exact .inr ⟨by unfold Oper.asks at *;rw[execOp_put oj hsj a oi.dst v h1]at Xn;exact Xn,ae9⟩
 ·rw[atR hw]at h ⊢;exact⟨Nu a _ hy,by rw[<-Act.put_comm a v undef h2];exact h⟩
def lY (md:Region.Mode)(aC:Array Oper)(listed:Array Bool):Prop:=∀ j o,aC[j]?=some o->listed.getD j false=true->∀ e∈o.after,Region.binds md e=true->listed.getD e.on false=true
theorem lY.set {listed:Array Bool}{k:Nat}(h:lY md aC listed)(hk:k∈Region.ready md aC listed):lY md aC (listed.setIfInBounds k true):=by
 intro j o hj hl e he hb;by_cases yc:j=k
 ·subst yc;obtain⟨_,o',E6,nM⟩:=mem_ready.1 hk;obtain rfl:o=o':=auR (hj.symm.trans E6);exact getD_set_true (nM e he hb)
 ·rw[getD_set_ne false (fun e=>yc e.symm)]at hl;exact getD_set_true (h j o hj hl e he hb)
theorem fM {i:Nat}{oi:Oper}{v:Value}(hi:aC[i]?=some oi)(fI:∀(j:Nat) (o:Oper) cs b,aC[j]?=some o->o.op≠.select cs b)(hQ:∀ c a w,Q (.panic c) (a.put oi.dst v) w->Q (.panic c) a w)
  (hE:∀ listed w,lY md aC listed->listed.getD i true=false->D (listed.setIfInBounds i true) w->E w/\D listed w) (f:Nat):
  ∀(listed:Array Bool) (a:Act) (w:World),lY md aC listed->(∀ j oj,aC[j]?=some oj->j≠i->listed.getD j true=false->(∀ e∈oj.after,Region.binds md e=true->e.on≠i)->oi.apart aC oj=true)->
   i∈Region.ready md aC listed->lI P aC E oi v a->gH P md aC Q D f (listed.setIfInBounds i true) (a.put oi.dst v) w->gH P md aC Q D (f+1) listed a w:=by
 induction f with
 |zero=>
  intro listed a w sr _ hr hy H;obtain⟨hE1,Vh⟩:=hE listed w sr (mem_ready.1 hr).1 H.1;refine⟨Vh,fun h=>(by rw[h]at hr;cases hr),fun j hj=>?_⟩;by_cases rS:j=i
  ·subst rS;exact hy.op hi hE1 H
  ·have:=ready_mono hj rS;rw[H.2.1]at this
   cases this
 |succ f ih=>
  intro listed a w sr qh hr hy H;obtain⟨hE1,Vh⟩:=hE listed w sr (mem_ready.1 hr).1 H.1;refine⟨Vh,fun h=>(by rw[h]at hr;cases hr),fun j hj=>?_⟩;by_cases rS:j=i
  ·subst rS;exact hy.op hi hE1 H
  ·have h1:=H.2.2 j (ready_mono hj rS);obtain⟨EE,oj,Kh,nM⟩:=mem_ready.1 hj;have Ra:∀ e∈oj.after,Region.binds md e=true->e.on≠i:=fun e he hb heq=>by
    have h1:=nM e he hb;have h0:=(mem_ready.1 hr).1;rw[heq,getD_both h0]at h1;exact absurd h1 (by simp)
   have nJ:=qh j oj Kh rS EE Ra;obtain⟨_,_,h3⟩:=Oper.apart_spec nJ;have h2:=KP (Y:=lI P aC E oi v) Kh nJ (fun cs b=>fI j oj cs b Kh) hQ
    (fun a u hy=>hy.same (execOp_put oi (fun cs b=>fI i oi cs b hi) a oj.dst u h3) (wanted_put oi a oj.dst u h3)) (fun a d hy=>hy.same rfl rfl) hy h1
   refine wpOp_mono (fun a' w' hh=>ih (listed.setIfInBounds j true) a' w' (sr.set hj) ?_ (ready_mono hr (Ne.symm rS)) hh.1 ?_) h2
   ·intro k ok hk BV Sq lB;refine qh k ok hk BV ?_ lB;by_cases yc:j=k
    ·subst yc;exact EE
    ·rwa [getD_set_ne true yc]at Sq
   ·rw[Array.setIfInBounds_comm _ _ rS];exact hh.2
def DP (p:Nat)(D1 D2:World->Prop)(listed:Array Bool)(w:World):Prop:=D1 w/\(listed.getD p false=true\/D2 w)
theorem uG {p i:Nat}(hip:i≠p)(listed:Array Bool)(w:World)(_:lY md aC listed)(_:listed.getD i true=false)(h:DP p D1 D2 (listed.setIfInBounds i true) w):D1 w/\DP p D1 D2 listed w:=by
 unfold DP at*;rw[getD_set_ne false hip]at h;exact⟨h.1,h⟩
theorem CJ {p i:Nat}(hip:i≠p)(hw:Region.waitsFor md aC p i=true)(listed:Array Bool)(w:World)(sr:lY md aC listed)(hi:listed.getD i true=false)(h:DP p D1 D2 (listed.setIfInBounds i true) w):(D1 w/\D2 w)/\DP p D1 D2 listed w:=by
 unfold DP at*;rw[getD_set_ne false hip]at h;refine⟨⟨h.1,?_⟩,h⟩;rcases h.2 with h2|h2
 ·obtain⟨o,ho,e,he,hb,IL⟩:=Region.waitsFor_spec hw;have:=sr p o ho h2 e he hb;rw[IL,getD_both hi]at this;exact absurd this (by simp)
 ·exact h2
def iR (P:Program)(md:Region.Mode)(aC:Array Oper)(p:Nat)(D1 D2:World->Prop)(K:Act->Prop):Nat->List Oper->Act->Prop
 |_,[],a=>K a
 |k,o::rest,a=>if Region.wanted o (yielded aC a.tmps)then ∃ v,((∀ w,D1 w->(execOp a.eval o).run P w=.ok (.value v) w)\/(Region.waitsFor md aC p k=true/\∀ w,D1 w->D2 w->(execOp a.eval o).run P w=.ok (.value v) w))/\iR P md aC p D1 D2 K (k+1) rest (a.put o.dst v)else iR P md aC p D1 D2 K (k+1) rest (a.put o.dst undef)
theorem qw {K:Act->Prop}{p k:Nat}{a:Act}(h:K a):iR P md aC p D1 D2 K k [] a:=h
theorem oE {K:Act->Prop}{p k:Nat}{a:Act}{o:Oper}{rest:List Oper}
  (h:∀ L:Act->Prop,(∀ a,iR P md aC p D1 D2 K (k+1) rest a->L a)->if Region.wanted o (yielded aC a.tmps)then ∃ v,(∀ w,D1 w->(execOp a.eval o).run P w=.ok (.value v) w)/\L (a.put o.dst v)else L (a.put o.dst undef)):iR P md aC p D1 D2 K k (o::rest) a:=by
 have:=h _ (fun _ h=>h);unfold iR;split
 ·rename_i hw
  rw[atP hw]at this;obtain⟨v,h1,h2⟩:=this;exact⟨v,.inl h1,h2⟩
 ·rename_i hw
  rw[atR hw]at this;exact this
theorem AC {K:Act->Prop}{p k:Nat}{a:Act}{o:Oper}{rest:List Oper}(hp:Region.waitsFor md aC p k=true)
  (h:∀ L:Act->Prop,(∀ a,iR P md aC p D1 D2 K (k+1) rest a->L a)->if Region.wanted o (yielded aC a.tmps)then ∃ v,(∀ w,D1 w->D2 w->(execOp a.eval o).run P w=.ok (.value v) w)/\L (a.put o.dst v)else L (a.put o.dst undef)):iR P md aC p D1 D2 K k (o::rest) a:=by
 have:=h _ (fun _ h=>h);unfold iR;split
 ·rename_i hw
  rw[atP hw]at this;obtain⟨v,h1,h2⟩:=this;exact⟨v,.inr ⟨hp,h1⟩,h2⟩
 ·rename_i hw
  rw[atR hw]at this;exact this
theorem AD {K:Act->Prop}{n p:Nat}(fI:Region.noSelect aC=true)(hQ:∀ c o v a w,Q (.panic c) (Act.put a o v) w->Q (.panic c) a w)(hnp:n<=p)(g:Nat)(w:World)(l:List Oper):
  ∀(k:Nat) (listed:Array Bool) (a:Act),(∀ j,j<l.length->l[j]?=aC[k+j]?)->k+l.length<=n->HeadInv md aC n listed->lY md aC listed->(∀ i,i<k->listed.getD i false=true)->
  (ig md aC (k+l.length) n (Region.markFirst l.length k listed)->∀ a',K a'->gH P md aC Q (DP p D1 D2) g (Region.markFirst l.length k listed) a' w)->
  Region.pureB md aC l.length k listed=true->iR P md aC p D1 D2 K k l a->gH P md aC Q (DP p D1 D2) (l.length+g) listed a w:=by
 induction l with
 |nil=>
  intro k listed a _ _ inv _ hf lz _ h;have:=lz ⟨by simpa[Region.markFirst]using inv,fun i hi=>by simpa[Region.markFirst]using hf i (by simpa using hi)⟩ a h;simpa[Region.markFirst]using this
 |cons o l ih=>
  intro k listed a hl hk inv sr hf lz hB h;have h0:aC[k]?=some o:=by simpa using(hl 0 (by simp)).symm
  simp only[atH,Region.pureB,at2]at hB;obtain⟨⟨hr,On⟩,VH⟩:=hB;have yO:k∈Region.ready md aC listed:=by simpa using hr
  have qX:k<n:=by simp only[atH]at hk;omega
  have next:∀ v,iR P md aC p D1 D2 K (k+1) l (a.put o.dst v)->gH P md aC Q (DP p D1 D2) (l.length+g) (listed.setIfInBounds k true) (a.put o.dst v) w:=fun v hK=>by
   refine ih (k+1) _ _ (fun j hj=>?_) ?_ (inv.set yO qX) (sr.set yO) (fun i hi=>?_) ?_ VH hK
   ·have:=hl (j+1) (by simp;omega);simpa[atY,Nat.add_comm 1 j]using this
   ·simp only[atH]at hk;omega
   ·by_cases hik:i=k
    ·subst hik;have aM:i<listed.size:=by rw[inv.size];exact(at7.1 h0).1
     simp[aM]
    ·exact getD_set_true (hf i (by omega))
   ·intro hh a' Fh;have e:k+1+l.length=k+(o::l).length:=by simp;omega
    rw[e]at hh;have:=lz hh a' Fh;simpa[Region.markFirst]using this
  rw[show(o::l).length+g=(l.length+g)+1 by simp;omega];unfold iR at h;by_cases hw:Region.wanted o (yielded aC a.tmps)=true
  ·rw[atP hw]at h;obtain⟨v,h1|⟨hp,h1⟩,h2⟩:=h
   ·exact fM (E:=D1) h0 (auS fI) (fun c a w=>hQ c _ _ a w) (uG (by omega)) (l.length+g) listed a w sr (auT h0 On) yO (.inl ⟨hw,h1⟩) (next v h2)
   ·exact fM (E:=fun w=>D1 w/\D2 w) h0 (auS fI) (fun c a w=>hQ c _ _ a w) (CJ (by omega) hp) (l.length+g) listed a w sr (auT h0 On) yO (.inl ⟨hw,fun w hd=>h1 w hd.1 hd.2⟩) (next v h2)
  ·rw[atR hw]at h;exact fM (E:=D1) h0 (auS fI) (fun c a w=>hQ c _ _ a w) (uG (by omega)) (l.length+g) listed a w sr (auT h0 On) yO (.inr ⟨by simpa using hw,rfl⟩) (next undef h)
theorem vI {n:Nat}{L:Array Bool->Act->Prop}:∀ {f:Nat} {listed:Array Bool} {a:Act},ie P md aC C n L f listed a->listed.size=aC.size->ie P md aC C n (fun l a=>L l a/\l.size=aC.size) f listed a
 |0,_,_,h,hs=>⟨h,hs⟩
 |_+1,_,_,h,hs=>⟨h.1,fun i hi=>⟨(h.2 i hi).1,qOp_mono (fun _ h=>vI h (by simpa using hs)) (h.2 i hi).2⟩⟩
theorem AE {n g:Nat}{L:Array Bool->Act->Prop}(hCD:∀ listed w,C w->D listed w)(hL:∀ listed a w,C w->L listed a->gH P md aC Q D g listed a w)(f:Nat):
  ∀(listed:Array Bool) (a:Act) (w:World),C w->ie P md aC C n L f listed a->gH P md aC Q D (f+g) listed a w:=by
 induction f with
 |zero=>intro listed a w hw h;rw[auy];exact hL _ _ _ hw h
 |succ f ih=>
  intro listed a w hw h;rw[show f+1+g=(f+g)+1 by omega];exact⟨hCD listed w hw,fun h0=>absurd h0 h.1,fun i hi=>wpOp_of_qOp hw (fun a' w' cJ h'=>ih _ a' w' cJ h') (h.2 i hi).2⟩
def vJ (P:Program)(aC:Array Oper)(Q:Exit->Act->World->Prop)(p:Nat)(D1 D2:World->Prop):Nat->List Oper->Act->World->Prop
 |k,[],a,w=>(D1 w/\(p<k\/D2 w))/\Q .normal a w
 |k,o::rest,a,w=>(D1 w/\(p<k\/D2 w))/\wpList P aC (fun e a' w'=>match e with | .normal=>vJ P aC Q p D1 D2 (k+1) rest a' w'|e=>Q e a' w') [o] a w
theorem oF {o:Oper}{a:Act}{w:World}{K:Act->World->Prop}{R:Act->World->Prop}(h:o.wp P a w K (fun e a' w'=>match e with | .normal=>R a' w'|e=>Q e a' w')):o.wp P a w K Q:=by
 unfold Oper.wp at*;generalize (execOp a.eval o).run P w=r at*
 cases r with
 |ok n w'=>
  cases n<;>simp only[Oper.upon]at h ⊢
  case value=>exact h
  case skip=>exact h
  case defer=>exact h
  case row=>exact h
  case enter f args=>
   refine atV h fun e w'' he=>?_
   cases e with
   |returned u=>exact he
   |panicked c=>exact he
   |outgrown=>exact he
 |halt x w'=>
  cases x<;>simp only[Oper.upon]at h ⊢
  case panic u=>exact h
theorem rA {p:Nat}:∀(l:List Oper) (k:Nat) (listed:Array Bool) (a:Act) (w:World),(∀ j,l[j]?=aC[k+j]?)->Region.seqB md aC l.length k listed=true->(∀ t,t<k->t=p->listed.getD t false=true)->k+l.length=aC.size->listed.size=aC.size->vJ P aC Q p D1 D2 k l a w->gH P md aC Q (DP p D1 D2) l.length listed a w
 |[],_,_,_,_,_,hB,hp,_,_,h=>⟨⟨h.1.1,h.1.2.imp (fun h=>hp _ h rfl) id⟩,by simpa[Region.seqB]using hB,h.2⟩
 |o::l,k,listed,a,w,hl,hB,hp,cA,hls,h=>by
  have h0:aC[k]?=some o:=by simpa using(hl 0).symm
  simp only[atH,Region.seqB,at2,aua]at hB;refine⟨⟨h.1.1,h.1.2.imp (fun h=>hp _ h rfl) id⟩,fun h1=>(by rw[hB.1]at h1;cases h1),fun i hi=>?_⟩;rw[hB.1]at hi;have hik:i=k:=by simpa using hi
  subst hik;have hw:wpOp P aC Q i (vJ P aC Q p D1 D2 (i+1) l) a w:=by
   have h2:=h.2;unfold wpOp;simp only[h0];unfold wpList at h2;split
   ·rename_i hwt
    rw[atP hwt]at h2;rcases h2 with h2|⟨h2,h3⟩
    ·exact .inl (oF h2)
    ·exact .inr ⟨h2,h3⟩
   ·rename_i hwt
    rw[atR hwt]at h2;exact h2
  refine wpOp_mono (fun a' w' h'=>rA l (i+1) _ a' w' (fun j=>by have:=hl (j+1);simpa[atY,Nat.add_comm 1 j]using this) hB.2 (fun t ht e=>?_) (by simp at cA;omega) (by simpa using hls) h') hw;by_cases hti:t=i
  ·subst hti;have aM:t<listed.size:=by rw[hls];exact(at7.1 h0).1
   simp[aM]
  ·exact getD_set_true (hp t (by omega) e)
theorem kG {P:Program}{id:Nat}{Q:Exit->Act->World->Prop}{a:Act}{w:World}{l:List Oper}(m n p:Nat)(C D1 D2:World->Prop)(hm:P.follows .mixedOrders=true)(hB:Region.lexMidB .any l.toArray m n=true)
  (hnp:n<=p) (hQ:∀ c o v a w,Q (.panic c) (Act.put a o v) w->Q (.panic c) a w) (hC:C { w with drawn:=w.drawn+1 }) (hCD:∀ w,C w->D1 w/\D2 w)
  (h:iR P .any l.toArray p D1 D2 (wpQuiet P l.toArray C (fun a'=>∀ w',C w'->vJ P l.toArray Q p D1 D2 n (l.drop n) a' w') ((l.take n).drop m)) 0 (l.take m) a):(Code.region id l.toArray true).wp P Q a w:=by
 simp only[Region.lexMidB,at2,aua]at hB;obtain⟨⟨⟨⟨⟨⟨fI,hn⟩,Ff⟩,hs⟩,hc⟩,R5⟩,RQ⟩:=hB;have UZ:n<l.length:=by simpa using hn
 have xR:(l.take m).length=m:=by simp;omega
 have BQ:((l.take n).drop m).length=n-m:=by simp;omega
 have EV:(l.drop n).length=l.toArray.size-n:=by simp
 have RC:HeadInv .any l.toArray n (Array.replicate l.toArray.size false):=
  ⟨by simp,fun j oj _ hl=>by rw[aub]at hl;simp at hl,fun t _ ht=>getD_in (by simpa using ht) (aub _ _)⟩
 have cl0:lY .any l.toArray (Array.replicate l.toArray.size false):=fun j oj _ hl=>by rw[aub]at hl;simp at hl
 refine wp_region_any hm ?_;have H:=AD (D1:=D1) (D2:=D2) (p:=p) (md:=.any) (n:=n) (Q:=Q) fI hQ hnp ((n-m)+(l.toArray.size-n)) { w with drawn:=w.drawn+1 } (l.take m) 0 (Array.replicate l.toArray.size false) a
  (fun j hj=>by rw[xR]at hj;simp[hj]) (by omega) RC cl0 (fun i hi=>by omega) (fun hh a' Fh=>?_) (by rw[xR];exact R5) h
 ·rw[xR]at H;rw[show m+(n-m+(l.toArray.size-n))=l.toArray.size by omega]at H;exact rz H
 ·rw[xR]at hh ⊢;rw[auy]at hh;have H2:=rk (md:=.any) (g:=l.toArray.size-n) fI hs hc hn ((l.take n).drop m) m _ a' (fun j hj=>by
   rw[BQ]at hj;simp only[auU,List.getElem?_take,List.getElem?_toArray];rw[atP (by omega)]) (by rw[BQ];omega) hh (by rw[BQ];exact RQ) Fh
  have:=AE (Q:=Q) (D:=DP p D1 D2) (g:=l.toArray.size-n) (L:=fun lS a'=>(Region.seqB .any l.toArray (l.toArray.size-n) n lS=true/\∀ w',C w'->vJ P l.toArray Q p D1 D2 n (l.drop n) a' w')/\lS.size=l.toArray.size) (fun listed w hw=>⟨(hCD w hw).1,.inr (hCD w hw).2⟩) (fun listed a' w' cJ hL=>by
   have:=rA (D1:=D1) (D2:=D2) (p:=p) (md:=.any) (Q:=Q) (l.drop n) n listed a' w' (fun j=>by simp) (by rw[EV];exact hL.1.1) (fun t ht e=>by omega) (by rw[EV];omega) hL.2 (hL.1.2 w' cJ)
   rwa [EV]at this) _ _ _ _ hC (vI H2 (by rw[hh.base.size]))
  rwa [BQ]at this
end
end
section
open Go
section
variable {P:Program}{aC:Array Oper}{md:Region.Mode}{D1 D2:World->Prop}{Q:Exit->Act->World->Prop}
def lJ (P:Program)(md:Region.Mode)(aC:Array Oper)(p:Nat)(D1 D2:World->Prop)(K:Act->Prop):List Nat->Act->Prop
 |[],a=>K a
 |i::r,a=>match aC[i]? with
  |none=>False
  |some o=>if Region.wanted o (yielded aC a.tmps)then ∃ v,((∀ w,D1 w->(execOp a.eval o).run P w=.ok (.value v) w)\/(Region.waitsFor md aC p i=true/\∀ w,D1 w->D2 w->(execOp a.eval o).run P w=.ok (.value v) w))/\lJ P md aC p D1 D2 K r (a.put o.dst v)else lJ P md aC p D1 D2 K r (a.put o.dst undef)
def CK (md:Region.Mode)(aC:Array Oper)(p:Nat):List Nat->Array Bool->Bool
 |[],_=>true
 |i::r,listed=>(Region.ready md aC listed).contains i&&Region.free md aC listed i&&(i != p)&&CK md aC p r (listed.setIfInBounds i true)
def vK:List Nat->Array Bool->Array Bool
 |[],listed=>listed
 |i::r,listed=>vK r (listed.setIfInBounds i true)
def tO (P:Program)(aC:Array Oper)(Q:Exit->Act->World->Prop)(p:Nat)(D1 D2:World->Prop):Bool->List Nat->Act->World->Prop
 |pl,[],a,w=>(D1 w/\(pl=true\/D2 w))/\Q .normal a w
 |pl,i::r,a,w=>(D1 w/\(pl=true\/D2 w))/\match aC[i]? with
  |none=>False
  |some o=>wpList P aC (fun e a' w'=>match e with | .normal=>tO P aC Q p D1 D2 (pl||i==p) r a' w'|e=>Q e a' w') [o] a w
def OU (md:Region.Mode)(aC:Array Oper):List Nat->Array Bool->Bool
 |[],listed=>(Region.ready md aC listed).isEmpty
 |i::r,listed=>decide (Region.ready md aC listed=[i])&&OU md aC r (listed.setIfInBounds i true)
theorem lZ {K:Act->Prop}{p g:Nat}(fI:Region.noSelect aC=true)(hQ:∀ c o v a w,Q (.panic c) (Act.put a o v) w->Q (.panic c) a w)(w:World):∀(js:List Nat) (listed:Array Bool) (a:Act),lY md aC listed->
  (∀ a',K a'->gH P md aC Q (DP p D1 D2) g (vK js listed) a' w)->CK md aC p js listed=true->lJ P md aC p D1 D2 K js a->gH P md aC Q (DP p D1 D2) (js.length+g) listed a w
 |[],listed,a,_,lz,_,h=>by rw[auV,auy];exact lz a h
 |i::r,listed,a,sr,lz,hB,h=>by
  simp only[CK,at2,bne_iff_ne,ne_eq]at hB;obtain⟨⟨⟨hr,On⟩,hip⟩,VH⟩:=hB;have yO:i∈Region.ready md aC listed:=by simpa using hr
  unfold lJ at h
  cases h0:aC[i]? with
  |none=>rw[h0]at h;exact h.elim
  |some o=>
   rw[h0]at h;simp only at h;have next:∀ v,lJ P md aC p D1 D2 K r (a.put o.dst v)->gH P md aC Q (DP p D1 D2) (r.length+g) (listed.setIfInBounds i true) (a.put o.dst v) w:=fun v hK=>lZ fI hQ w r _ _ (sr.set yO) lz VH hK;rw[show(i::r).length+g=(r.length+g)+1 by simp;omega];by_cases hw:Region.wanted o (yielded aC a.tmps)=true
   ·rw[atP hw]at h;obtain⟨v,h1|⟨hp,h1⟩,h2⟩:=h
    ·exact fM (E:=D1) h0 (auS fI) (fun c a w=>hQ c _ _ a w) (uG hip) (r.length+g) listed a w sr (auT h0 On) yO (.inl ⟨hw,h1⟩) (next v h2)
    ·exact fM (E:=fun w=>D1 w/\D2 w) h0 (auS fI) (fun c a w=>hQ c _ _ a w) (CJ hip hp) (r.length+g) listed a w sr (auT h0 On) yO (.inl ⟨hw,fun w hd=>h1 w hd.1 hd.2⟩) (next v h2)
   ·rw[atR hw]at h;exact fM (E:=D1) h0 (auS fI) (fun c a w=>hQ c _ _ a w) (uG hip) (r.length+g) listed a w sr (auT h0 On) yO (.inr ⟨by simpa using hw,rfl⟩) (next undef h)
theorem pW {p:Nat}:∀(ts:List Nat) (pl:Bool) (listed:Array Bool) (a:Act) (w:World),OU md aC ts listed=true->(pl=true->listed.getD p false=true)->listed.size=aC.size->tO P aC Q p D1 D2 pl ts a w->gH P md aC Q (DP p D1 D2) ts.length listed a w
 |[],pl,listed,a,w,hB,hp,_,h=>⟨⟨h.1.1,h.1.2.imp hp id⟩,by simpa[OU]using hB,h.2⟩
 |i::r,pl,listed,a,w,hB,hp,hls,h=>by
  simp only[OU,at2,aua]at hB;refine⟨⟨h.1.1,h.1.2.imp hp id⟩,fun h1=>(by rw[hB.1]at h1;cases h1),fun k hk=>?_⟩;rw[hB.1]at hk;have BV:k=i:=by simpa using hk
  subst BV;have h2:=h.2
  cases h0:aC[k]? with
  |none=>rw[h0]at h2;exact h2.elim
  |some o=>
   rw[h0]at h2;simp only at h2;have hw:wpOp P aC Q k (tO P aC Q p D1 D2 (pl||k==p) r) a w:=by
    unfold wpOp;simp only[h0];unfold wpList at h2;split
    ·rename_i hwt
     rw[atP hwt]at h2;rcases h2 with h2|⟨h2,h3⟩
     ·exact .inl (oF h2)
     ·exact .inr ⟨h2,h3⟩
    ·rename_i hwt
     rw[atR hwt]at h2;exact h2
   refine wpOp_mono (fun a' w' h'=>pW r (pl||k==p) _ a' w' hB.2 (fun e=>?_) (by simpa using hls) h') hw;rw[at5]at e;by_cases Th:k=p
   ·subst Th;have aM:k<listed.size:=by rw[hls];exact(at7.1 h0).1
    simp[aM]
   ·exact getD_set_true (hp (e.resolve_right (by simpa using Th)))
theorem iS {K:Act->Prop}{p:Nat}{a:Act}(h:K a):lJ P md aC p D1 D2 K [] a:=h
theorem fA {K:Act->Prop}{p i:Nat}{r:List Nat}{a:Act}{o:Oper}(h0:aC[i]?=some o)
  (h:∀ L:Act->Prop,(∀ a,lJ P md aC p D1 D2 K r a->L a)->if Region.wanted o (yielded aC a.tmps)then ∃ v,(∀ w,D1 w->(execOp a.eval o).run P w=.ok (.value v) w)/\L (a.put o.dst v)else L (a.put o.dst undef)):lJ P md aC p D1 D2 K (i::r) a:=by
 have:=h _ (fun _ h=>h);unfold lJ;rw[h0];simp only;split
 ·rename_i hw
  rw[atP hw]at this;obtain⟨v,h1,h2⟩:=this;exact⟨v,.inl h1,h2⟩
 ·rename_i hw
  rw[atR hw]at this;exact this
theorem CM {K:Act->Prop}{p i:Nat}{r:List Nat}{a:Act}{o:Oper}(h0:aC[i]?=some o)(hp:Region.waitsFor md aC p i=true)
  (h:∀ L:Act->Prop,(∀ a,lJ P md aC p D1 D2 K r a->L a)->if Region.wanted o (yielded aC a.tmps)then ∃ v,(∀ w,D1 w->D2 w->(execOp a.eval o).run P w=.ok (.value v) w)/\L (a.put o.dst v)else L (a.put o.dst undef)):lJ P md aC p D1 D2 K (i::r) a:=by
 have:=h _ (fun _ h=>h);unfold lJ;rw[h0];simp only;split
 ·rename_i hw
  rw[atP hw]at this;obtain⟨v,h1,h2⟩:=this;exact⟨v,.inr ⟨hp,h1⟩,h2⟩
 ·rename_i hw
  rw[atR hw]at this;exact this
theorem bQ {p i:Nat}{pl:Bool}{r:List Nat}{a:Act}{w:World}{o:Oper}(h0:aC[i]?=some o)(hd:D1 w/\(pl=true\/D2 w))
  (h:wpList P aC (fun e a' w'=>match e with | .normal=>tO P aC Q p D1 D2 (pl||i==p) r a' w'|e=>Q e a' w') [o] a w):tO P aC Q p D1 D2 pl (i::r) a w:=by
 unfold tO;rw[h0];exact⟨hd,h⟩
theorem pB {p:Nat}{pl:Bool}{a:Act}{w:World}(hd:D1 w/\(pl=true\/D2 w))(h:Q .normal a w):tO P aC Q p D1 D2 pl [] a w:=⟨hd,h⟩
theorem qx:∀(js:List Nat) (listed:Array Bool),(vK js listed).size=listed.size
 |[],_=>rfl
 |i::r,listed=>by rw[vK,qx r];simp
def OV (md:Region.Mode)(aC:Array Oper)(p:Nat)(js ts:List Nat):Bool:=
 Region.noSelect aC&&decide (js.length+ts.length=aC.size)&&CK md aC p js (Array.replicate aC.size false)&&OU md aC ts (vK js (Array.replicate aC.size false))
theorem gC {P:Program}{id:Nat}{Q:Exit->Act->World->Prop}{a:Act}{w:World}{l:List Oper}(p:Nat)(js ts:List Nat)(D1 D2:World->Prop)(hm:P.follows .mixedOrders=true)(hB:OV .any l.toArray p js ts=true)
  (hQ:∀ c o v a w,Q (.panic c) (Act.put a o v) w->Q (.panic c) a w)
  (h:lJ P .any l.toArray p D1 D2 (fun a'=>tO P l.toArray Q p D1 D2 false ts a' { w with drawn:=w.drawn+1 }) js a):(Code.region id l.toArray true).wp P Q a w:=by
 simp only[OV,at2,aua]at hB;obtain⟨⟨⟨fI,aU⟩,dr⟩,Iz⟩:=hB;refine wp_region_any hm ?_;have H:=lZ (md:=.any) (Q:=Q) (g:=ts.length) fI hQ { w with drawn:=w.drawn+1 } js (Array.replicate l.toArray.size false) a (fun j oj _ hl=>by rw[aub]at hl;simp at hl)
  (fun a' Fh=>pW ts false _ a' _ Iz (fun e=>by cases e) (by rw[qx];simp) Fh) dr h
 rw[aU]at H;exact rz H
end
end
end Go.Proofs.YtkghpdcloaiflaaGreatDoor
