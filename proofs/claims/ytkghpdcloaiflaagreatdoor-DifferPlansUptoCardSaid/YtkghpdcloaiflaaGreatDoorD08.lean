import Derived.Test.YtkghpdcloaiflaaGreatDoorD07
set_option maxHeartbeats 4000000
set_option maxRecDepth 100000
namespace Go.Proofs.YtkghpdcloaiflaaGreatDoor
open _root_.Go.Proofs.Tryz
section
open Go.RowKit Go.Shelf
attribute [local go_sem] auG
theorem AZ (S:List UInt8)(i j:Nat)(x y:Int)(hx:x=i)(hy:y=j)(hij:i<=j)(hj:j<=S.length)(W:World):(Instr.slice 9 (.string ⟨S.toArray⟩) (some (.int .i64 x)) (some (.int .i64 y)) none).run prog W=.ok (.string ⟨((S.drop i).take (j-i)).toArray⟩) W:=by
 subst hx hy;rw[run_slice_string_if W 9 _ .i64 .i64 _ _ underlying9];have hs:(⟨S.toArray⟩:ByteArray).size=S.length:=by simp[ByteArray.size]
 rw[auT (by rw[hs];omega),auT (by omega),avn,avn]
 congr 2
 apply ByteArray.ext;simp[List.extract_eq_take_drop]
theorem fA {x:Int}(h:-9223372036854775808<=x/\x<=9223372036854775807):IntKind.i64.wrap x=x:=by
 simp only[IntKind.wrap,IntKind.signed,IntKind.bits];simp;omega
theorem vX {w:World}{v pd pc:Nat}{text:List UInt8}{num:Nat}(h:World.blk w v (l9 pd pc text num) 171):
  Calls prog 109 #[aq v,.int .i64 0] w fun e w'=>e=.returned (.int .i64 0)/\World.blk w' v (l9 pd pc text num) 171/\ah (fun b=>b=v) w w':=by
 have c4:w.cell? ⟨v,4,none⟩=some (.bool false):=aa h 4;have f4:=ae h ⟨v,4,none⟩ rfl;have HM:=hd0 ((ah.refl (fun b=>b=v) w).setCell (p:=⟨v,4,none⟩) (.inl rfl) (.bool false));have H:=hd0 (ag h 4 (.bool false));clear h;go_enter func109,ntmps109
 go_wp2
 go_ret;exact⟨rfl,H.out,HM.out⟩
theorem Gz {w:World}{v:Nat}{d:Dk}{text:List UInt8}{num:Nat}{F:Nat->Prop}(h:ig w v d text num F)(n:Nat)(h1:1<=n)(h2:n<d.size/4)(p:List UInt8)(hp:p.length<=240):
  Calls prog 393 #[aq v,.int .i64 (n:Int),.string ⟨p.toArray⟩] w fun e w'=>e=.returned (.int .i64 0)/\∃ F',ig w' v (jO d n (d7 p) 4) text num F'/\ec F F' w w':=by
 have MY:=hd0 (Dd h n h1 h2);have FR:=hd0 (zz p w hp);have Fr:=sY hp;obtain⟨pd,pc,M,Fd,Fc,h⟩:=h;have cJ:=h.many;have H:=hd0 h;clear h;go_enter func393,ntmps393;go_wp2_with fail;refine MY.out.mono ?_;rintro e w0 ⟨rfl,rfl⟩;go_wp2_with fail;refine FR.out.mono ?_;rintro e w1 ⟨rfl,hk1⟩;have H1:=hd0 (H.out.same (hk1.on (fun _ _=>id)) hk1.size);have bS:=hd0 hk1;have c4:w1.cell? ⟨v,4,none⟩=some (.bool false):=aa H1.out.own 4;clear hk1;have Fu:=CT (d:=d) h1 h2 hp;generalize hfs:d7 p=s at*;have Hfs:=hd0 hfs;clear hfs;have Hrd:=hd0 Fu;clear Fu;go_wp2_with fail
 go_loopw [29] (fun i wr=>∃(k:Nat) (uG:Nat->Prop),k<=4/\i=.int .i64 (k:Int)/\World.blk wr v (l9 pd pc text num) 171/\bB wr pd (jO d n s k) uG/\gK wr pc M Fc/\ah F w0 wr/\Hid (∀ b,uG b->Fd b\/w0.heap.size<=b))
  (fun i _=>4-(intOf i).toNat)
 case atStart=>exact⟨0,Fd,by omega,rfl,H1.out.own,H1.out.disk,H1.out.cache,bS.out.mono (fun _ _ h=>h.elim),hd0 (fun _ h=>.inl h)⟩
 case round=>
  obtain⟨k,uG,hk,rfl,ho,yW,hc,hm,HF⟩:=hrel;have hvF:=H.out.fv;have nvd:¬ uG v:=fun hv=>(HF.out v hv).elim H.out.nd (fun hge=>by have:=H.out.lt v hvF;omega);have nvc:=H.out.nc;have ndc:∀ b,uG b->¬ Fc b:=fun b hb KA=>(HF.out b hb).elim (fun hd=>H.out.apart b hd KA) (fun hge=>by have:=H.out.lt b (H.out.fc b KA);omega);have Ho:=hd0 ho;have Hdk:=hd0 yW;have Hc:=hd0 hc;have Hm:=hd0 hm;have Nvd:=hd0 nvd;have Ndc:=hd0 ndc;have e0:wr.cell? ⟨v,0,none⟩=some (aq pd):=aa ho 0;have e2:wr.cell? ⟨v,3,none⟩=some (aq pc):=aa ho 3;have hvl:v<wr.heap.size:=ak ho;clear ho yW hc hm nvd nvc ndc hvF;by_cases aK:k<4
  ·have dR:(k:Int)<4:=by omega
   have ain:(jO d n s k).size=d.size:=jz d n s k;have hpc:((s.drop (k*64)).take 64).length=64:=by simp;omega
   have VX:(n:Int)<=4096:=by omega
   have hb1:((k:Int)+1)*64<=(s.length:Int):=by omega
   have eL:(k:Int)*64<=((k:Int)+1)*64:=by omega
   have uM:(0:Int)<=(k:Int)*64:=by omega
   have rC:(s.length:Int)=256:=by omega
   have w1:IntKind.i64.wrap (4*(n:Int))=4*(n:Int):=fA (by omega);have w2:IntKind.i64.wrap (4*(n:Int)+(k:Int))=4*(n:Int)+(k:Int):=fA (by omega);have w3:IntKind.i64.wrap ((k:Int)*64)=(k:Int)*64:=fA (by omega);have w4:IntKind.i64.wrap ((k:Int)+1)=(k:Int)+1:=fA (by omega);have w5:IntKind.i64.wrap (((k:Int)+1)*64)=((k:Int)+1)*64:=fA (by omega);have hcut:=fun W=>AZ s (k*64) ((k+1)*64) ((k:Int)*64) (((k:Int)+1)*64) (by omega) (by omega) (by omega) (by omega) W;have e64:(k+1)*64-k*64=64:=by omega
   rw[e64]at hcut;have ek:((4*n+k:Nat):Int)=4*(n:Int)+(k:Int):=by omega
   go_wp2_with fail;refine iz 1 16 (by kernel_rfl) (by kernel_rfl) (fun _ o _ _ _ h=>by cases o<;>exact h) ?_;simp only[avz,avA,avB,avC];refine fE (fun L hL=>?_)
   go_simp
   first|refine hL _ ?_|refine⟨_,fun _=>rfl,hL _ ?_⟩
   clear hL L;refine kH ?_
   repeat (quiet_step (fail))
   refine avE ?_;intro _ cL;obtain⟨xq,rfl⟩:=cL;have nX:=aD wr xq;have W:=kO (Hdk.out.mod nX (fun _ _=>id)) (4*n+k) (by rw[ain];omega) ((s.drop (k*64)).take 64) hpc;rw[ek]at W;have HW:=hd0 W;clear W;go_wp2_with fail;refine HW.out.mono ?_;rintro e w4 ⟨rfl,OG,Kw,tS⟩;have gX:ah uG wr w4:=(nX.mono (T:=uG) (fun _ _ h=>h.elim)).trans tS.mod (fun _ _ h=>h);have ho2:=ab gX Ho.out Nvd.out;have Cm:=Hc.out.same (gX.on (fun b hb hd=>Ndc.out b hd hb)) gX.size;have Sh:Hid (∀ b,OG b->Fd b\/w0.heap.size<=b):=hd0 (fun b hb=>(tS.foot b hb).elim (HF.out b) (fun hge=>.inr (by have:=Hm.out.size;have:=nX.size;omega)));have Hm2:Hid (ah F w0 w4):=hd0 (Hm.out.trans gX (fun i hi hd=>(HF.out i hd).elim (H.out.fd i) (fun hge=>by omega)));have R3:=hd0 Kw;have Hc2:=hd0 Cm;have SP:=hd0 ho2;clear Kw tS gX ho2 Cm nX;go_wp2_with fail;refine(vX SP.out).mono ?_;rintro e w5 ⟨rfl,N9,yV⟩;have nv2:¬ OG v:=fun hv=>(Sh.out v hv).elim H.out.nd (fun hge=>by have:=H.out.lt v H.out.fv;omega);have Hd5:=hd0 (R3.out.mod yV (fun b hb e=>nv2 (e▸hb)));have Hc5:=hd0 (Hc2.out.same (yV.on (fun b hb e=>H.out.nc (e▸hb))) yV.size);have Hm5:Hid (ah F w0 w5):=hd0 (Hm2.out.trans (yV.mono (T:=F) (fun i _ e=>by subst e;exact H.out.fv)) (fun _ _ h=>h));have TP:=hd0 N9;clear yV N9;go_wp2_with fail;exact⟨⟨k+1,OG,by omega,by go_num,TP.out,Hd5.out,Hc5.out,Hm5.out,Sh⟩,by simp[intOf];omega⟩
  ·obtain rfl:k=4:=by omega
   go_wp2_with fail;refine(C9 Hc.out (n:Int) ⟨by omega,by omega⟩ p).mono ?_;rintro e w4 ⟨⟨u,rfl⟩,M',WM,hc4,jo,hM'⟩;have qe:=Hm.out.size;have X4:qi w4 v pd pc (jO d n s 4) text num M' uG WM (fun b=>F b\/uG b\/WM b):=
    { own:=ab jo.mod Ho.out H.out.nc,disk:=Hdk.out.mod jo.mod Ndc.out,cache:=hc4,
      good:=fun j t hj=>by
       rw[Hrd.out];unfold l8;rcases hM' j t hj with⟨rfl,rfl⟩|⟨dZ,h⟩
       ·rw[auT rfl]
       ·rw[auV dZ];exact H.out.good j t h
      fv:=.inl H.out.fv,fd:=fun b hb=>.inr (.inl hb),fc:=fun b hb=>.inr (.inr hb),
      apart:=fun b hb hc=>(jo.foot b hc).elim (Ndc.out b hb) (fun hge=>by have:=Hdk.out.lt b hb;omega),
      nd:=Nvd.out,nc:=fun hc=>(jo.foot v hc).elim H.out.nc (fun hge=>by omega),many:=by rw[jz];exact H.out.many,num:=H.out.num,
      lt:=fun b hb=>by
       rcases hb with hb|hb|hb
       ·exact auW (H.out.lt b hb) (auI qe jo.mod.size)
       ·exact auW (Hdk.out.lt b hb) jo.mod.size
       ·exact hc4.lt b hb }
   have BQ:=hd0 X4;have HK:Hid (ec F (fun b=>F b\/uG b\/WM b) w0 w4):=hd0 ⟨Hm.out.trans (jo.mod.mono (T:=F) (fun i _ hi=>H.out.fc i hi)) (fun _ _ h=>h),fun b hb=>by
    rcases hb with hb|hb|hb
    ·exact .inl hb
    ·exact(HF.out b hb).elim (fun h=>.inl (H.out.fd b h)) .inr
    ·exact(jo.foot b hb).elim (fun h=>.inl (H.out.fc b h)) (fun h=>.inr (by omega))⟩
   clear X4 hc4 jo hM';go_wp2;go_ret;exact⟨rfl,_,⟨pd,pc,M',uG,WM,by rw[Hfs.out];exact BQ.out⟩,HK.out⟩
end
section
open Go
section
variable {P:Program}{aC:Array Oper}{md:Region.Mode}{C E D1 D2:World->Prop}{D:Array Bool->World->Prop}{Q:Exit->Act->World->Prop}
def gO (P:Program)(md:Region.Mode)(aC:Array Oper)(Q:Exit->Act->World->Prop)(D:Array Bool->World->Prop):Nat->Array Bool->Act->World->Prop
 |0,listed,a,w=>D listed w/\Region.ready md aC listed=[]/\Q .normal a w
 |f+1,listed,a,w=>D listed w/\(Region.ready md aC listed=[]->Q .normal a w)/\∀ i∈Region.ready md aC listed,wpOp P aC Q i (gO P md aC Q D f (listed.setIfInBounds i true)) a w
theorem rN:∀ {f:Nat} {listed:Array Bool} {a:Act} {w:World},gO P md aC Q D f listed a w->wpAny P md aC Q f listed a w
 |0,_,_,_,h=>h.2
 |_+1,_,_,_,h=>⟨h.2.1,fun i hi=>wpOp_mono (fun _ _ h=>rN h) (h.2.2 i hi)⟩
def lO (P:Program)(aC:Array Oper)(E:World->Prop)(o:Oper)(v:Value)(a:Act):Prop:=
 (Region.wanted o (yielded aC a.tmps)=true/\∀ w,E w->(execOp a.eval o).run P w=.ok (.value v) w)\/(Region.wanted o (yielded aC a.tmps)=false/\v=undef)
theorem lO.same {o:Oper}{v:Value}{a a':Act}(h:lO P aC E o v a)(he:execOp a'.eval o=execOp a.eval o)(hw:Region.wanted o (yielded aC a'.tmps)=Region.wanted o (yielded aC a.tmps)):lO P aC E o v a':=by
 unfold lO at*;rw[he,hw];exact h
theorem lO.op {i:Nat}{o:Oper}{v:Value}{a:Act}(hi:aC[i]?=some o)(hy:lO P aC E o v a){K:Act->World->Prop}{w:World}(hw:E w)(h:K (a.put o.dst v) w):wpOp P aC Q i K a w:=by
 unfold wpOp;simp only[hi];rcases hy with⟨h1,h2⟩|⟨h1,rfl⟩
 ·rw[auT h1];left;unfold Oper.wp;rw[h2 w hw];exact h
 ·rw[auV (by simp[h1])];exact h
theorem Ll {j:Nat}{oi oj:Oper}{v:Value}{Y:Act->Prop}(hj:aC[j]?=some oj)(nW:oi.apart aC oj=true)(hsj:∀ cs b,oj.op≠.select cs b)
  (hQ:∀ c a w,Q (.panic c) (a.put oi.dst v) w->Q (.panic c) a w) (NR:∀ a u,Y a->Y (a.put oj.dst u)) (ajK:∀(a:Act) d,Y a->Y { a with defers:=d::a.defers }) {K:Act->World->Prop} {a:Act} {w:World}
  (hy:Y a) (h:wpOp P aC Q j K (a.put oi.dst v) w):wpOp P aC Q j (fun a' w'=>Y a'/\K (a'.put oi.dst v) w') a w:=by
 obtain⟨h1,h2,_⟩:=Oper.apart_spec nW;unfold wpOp at*;simp only[hj]at*;rw[wanted_put oj a oi.dst v h1]at h;by_cases hw:Region.wanted oj (yielded aC a.tmps)=true
 ·rw[auT hw]at h ⊢;rcases h with h|⟨YD,aeG⟩
  ·left
   unfold Oper.wp at*;rw[execOp_put oj hsj a oi.dst v h1]at h;generalize (execOp a.eval oj).run P w=r at*;have sw:∀(u:Value),(a.put oi.dst v).put oj.dst u=(a.put oj.dst u).put oi.dst v:=fun u=>(Act.put_comm a v u h2)
   cases r with
   |ok n w'=>
    cases n<;>simp only[Oper.upon]at h ⊢
    case value u=>exact⟨NR a u hy,sw u▸h⟩
    case skip=>exact⟨NR a _ hy,sw undef▸h⟩
    case defer d=>
     refine⟨NR _ _ (ajK a d hy),?_⟩;rw[<-Act.put_comm _ v undef h2,<-Act.put_defers];exact h
    case enter f args=>
     refine auY h fun e w'' he=>?_
     cases e with
     |returned u=>exact⟨NR a u hy,sw u▸he⟩
     |panicked c=>exact hQ _ _ _ he
     |outgrown=>exact he
    case row row args=>exact Rows.mono h fun u w'' he=>⟨NR a u hy,sw u▸he⟩
   |halt x w'=>
    cases x<;>simp only[Oper.upon]at h ⊢
    case panic u=>exact hQ _ _ _ h
  ·exact .inr ⟨by unfold Oper.asks at *;rw[execOp_put oj hsj a oi.dst v h1]at YD;exact YD,aeG⟩
 ·rw[auV hw]at h ⊢;exact⟨NR a _ hy,by rw[<-Act.put_comm a v undef h2];exact h⟩
def ma (md:Region.Mode)(aC:Array Oper)(listed:Array Bool):Prop:=∀ j o,aC[j]?=some o->listed.getD j false=true->∀ e∈o.after,Region.binds md e=true->listed.getD e.on false=true
theorem ma.set {listed:Array Bool}{k:Nat}(h:ma md aC listed)(hk:k∈Region.ready md aC listed):ma md aC (listed.setIfInBounds k true):=by
 intro j o hj hl e he hb;by_cases yg:j=k
 ·subst yg;obtain⟨_,o',Fs,nV⟩:=mem_ready.1 hk;obtain rfl:o=o':=avR (hj.symm.trans Fs);exact getD_set_true (nV e he hb)
 ·rw[getD_set_ne false (fun e=>yg e.symm)]at hl;exact getD_set_true (h j o hj hl e he hb)
theorem fT {i:Nat}{oi:Oper}{v:Value}(hi:aC[i]?=some oi)(fP:∀(j:Nat) (o:Oper) cs b,aC[j]?=some o->o.op≠.select cs b)(hQ:∀ c a w,Q (.panic c) (a.put oi.dst v) w->Q (.panic c) a w)
  (hE:∀ listed w,ma md aC listed->listed.getD i true=false->D (listed.setIfInBounds i true) w->E w/\D listed w) (f:Nat):
  ∀(listed:Array Bool) (a:Act) (w:World),ma md aC listed->(∀ j oj,aC[j]?=some oj->j≠i->listed.getD j true=false->(∀ e∈oj.after,Region.binds md e=true->e.on≠i)->oi.apart aC oj=true)->
   i∈Region.ready md aC listed->lO P aC E oi v a->gO P md aC Q D f (listed.setIfInBounds i true) (a.put oi.dst v) w->gO P md aC Q D (f+1) listed a w:=by
 induction f with
 |zero=>
  intro listed a w rp _ hr hy H;obtain⟨hE1,WP⟩:=hE listed w rp (mem_ready.1 hr).1 H.1;refine⟨WP,fun h=>(by rw[h]at hr;cases hr),fun j hj=>?_⟩;by_cases sA:j=i
  ·subst sA;exact hy.op hi hE1 H
  ·have:=ready_mono hj sA;rw[H.2.1]at this
   cases this
 |succ f ih=>
  intro listed a w rp qz hr hy H;obtain⟨hE1,WP⟩:=hE listed w rp (mem_ready.1 hr).1 H.1;refine⟨WP,fun h=>(by rw[h]at hr;cases hr),fun j hj=>?_⟩;by_cases sA:j=i
  ·subst sA;exact hy.op hi hE1 H
  ·have h1:=H.2.2 j (ready_mono hj sA);obtain⟨Fh,oj,KJ,nV⟩:=mem_ready.1 hj;have SX:∀ e∈oj.after,Region.binds md e=true->e.on≠i:=fun e he hb heq=>by
    have h1:=nV e he hb;have h0:=(mem_ready.1 hr).1;rw[heq,getD_both h0]at h1;exact absurd h1 (by simp)
   have nW:=qz j oj KJ sA Fh SX;obtain⟨_,_,h3⟩:=Oper.apart_spec nW;have h2:=Ll (Y:=lO P aC E oi v) KJ nW (fun cs b=>fP j oj cs b KJ) hQ
    (fun a u hy=>hy.same (execOp_put oi (fun cs b=>fP i oi cs b hi) a oj.dst u h3) (wanted_put oi a oj.dst u h3)) (fun a d hy=>hy.same rfl rfl) hy h1
   refine wpOp_mono (fun a' w' hh=>ih (listed.setIfInBounds j true) a' w' (rp.set hj) ?_ (ready_mono hr (Ne.symm sA)) hh.1 ?_) h2
   ·intro k ok hk Cr Ta lJ;refine qz k ok hk Cr ?_ lJ;by_cases yg:j=k
    ·subst yg;exact Fh
    ·rwa [getD_set_ne true yg]at Ta
   ·rw[Array.setIfInBounds_comm _ _ sA];exact hh.2
def DP (p:Nat)(D1 D2:World->Prop)(listed:Array Bool)(w:World):Prop:=D1 w/\(listed.getD p false=true\/D2 w)
theorem uX {p i:Nat}(hip:i≠p)(listed:Array Bool)(w:World)(_:ma md aC listed)(_:listed.getD i true=false)(h:DP p D1 D2 (listed.setIfInBounds i true) w):D1 w/\DP p D1 D2 listed w:=by
 unfold DP at*;rw[getD_set_ne false hip]at h;exact⟨h.1,h⟩
theorem Df {p i:Nat}(hip:i≠p)(hw:Region.waitsFor md aC p i=true)(listed:Array Bool)(w:World)(rp:ma md aC listed)(hi:listed.getD i true=false)(h:DP p D1 D2 (listed.setIfInBounds i true) w):(D1 w/\D2 w)/\DP p D1 D2 listed w:=by
 unfold DP at*;rw[getD_set_ne false hip]at h;refine⟨⟨h.1,?_⟩,h⟩;rcases h.2 with h2|h2
 ·obtain⟨o,ho,e,he,hb,Jm⟩:=Region.waitsFor_spec hw;have:=rp p o ho h2 e he hb;rw[Jm,getD_both hi]at this;exact absurd this (by simp)
 ·exact h2
def i1 (P:Program)(md:Region.Mode)(aC:Array Oper)(p:Nat)(D1 D2:World->Prop)(K:Act->Prop):Nat->List Oper->Act->Prop
 |_,[],a=>K a
 |k,o::rest,a=>if Region.wanted o (yielded aC a.tmps)then ∃ v,((∀ w,D1 w->(execOp a.eval o).run P w=.ok (.value v) w)\/(Region.waitsFor md aC p k=true/\∀ w,D1 w->D2 w->(execOp a.eval o).run P w=.ok (.value v) w))/\i1 P md aC p D1 D2 K (k+1) rest (a.put o.dst v)else i1 P md aC p D1 D2 K (k+1) rest (a.put o.dst undef)
theorem qK {K:Act->Prop}{p k:Nat}{a:Act}(h:K a):i1 P md aC p D1 D2 K k [] a:=h
theorem oR {K:Act->Prop}{p k:Nat}{a:Act}{o:Oper}{rest:List Oper}
  (h:∀ L:Act->Prop,(∀ a,i1 P md aC p D1 D2 K (k+1) rest a->L a)->if Region.wanted o (yielded aC a.tmps)then ∃ v,(∀ w,D1 w->(execOp a.eval o).run P w=.ok (.value v) w)/\L (a.put o.dst v)else L (a.put o.dst undef)):i1 P md aC p D1 D2 K k (o::rest) a:=by
 have:=h _ (fun _ h=>h);unfold i1;split
 ·rename_i hw
  rw[auT hw]at this;obtain⟨v,h1,h2⟩:=this;exact⟨v,.inl h1,h2⟩
 ·rename_i hw
  rw[auV hw]at this;exact this
theorem A0 {K:Act->Prop}{p k:Nat}{a:Act}{o:Oper}{rest:List Oper}(hp:Region.waitsFor md aC p k=true)
  (h:∀ L:Act->Prop,(∀ a,i1 P md aC p D1 D2 K (k+1) rest a->L a)->if Region.wanted o (yielded aC a.tmps)then ∃ v,(∀ w,D1 w->D2 w->(execOp a.eval o).run P w=.ok (.value v) w)/\L (a.put o.dst v)else L (a.put o.dst undef)):i1 P md aC p D1 D2 K k (o::rest) a:=by
 have:=h _ (fun _ h=>h);unfold i1;split
 ·rename_i hw
  rw[auT hw]at this;obtain⟨v,h1,h2⟩:=this;exact⟨v,.inr ⟨hp,h1⟩,h2⟩
 ·rename_i hw
  rw[auV hw]at this;exact this
theorem A1 {K:Act->Prop}{n p:Nat}(fP:Region.noSelect aC=true)(hQ:∀ c o v a w,Q (.panic c) (Act.put a o v) w->Q (.panic c) a w)(hnp:n<=p)(g:Nat)(w:World)(l:List Oper):
  ∀(k:Nat) (listed:Array Bool) (a:Act),(∀ j,j<l.length->l[j]?=aC[k+j]?)->k+l.length<=n->HeadInv md aC n listed->ma md aC listed->(∀ i,i<k->listed.getD i false=true)->
  (iu md aC (k+l.length) n (Region.markFirst l.length k listed)->∀ a',K a'->gO P md aC Q (DP p D1 D2) g (Region.markFirst l.length k listed) a' w)->
  Region.pureB md aC l.length k listed=true->i1 P md aC p D1 D2 K k l a->gO P md aC Q (DP p D1 D2) (l.length+g) listed a w:=by
 induction l with
 |nil=>
  intro k listed a _ _ inv _ hf lF _ h;have:=lF ⟨by simpa[Region.markFirst]using inv,fun i hi=>by simpa[Region.markFirst]using hf i (by simpa using hi)⟩ a h;simpa[Region.markFirst]using this
 |cons o l ih=>
  intro k listed a hl hk inv rp hf lF hB h;have h0:aC[k]?=some o:=by simpa using(hl 0 (by simp)).symm
  simp only[auL,Region.pureB,au4]at hB;obtain⟨⟨hr,OQ⟩,Wg⟩:=hB;have zf:k∈Region.ready md aC listed:=by simpa using hr
  have rm:k<n:=by simp only[auL]at hk;omega
  have next:∀ v,i1 P md aC p D1 D2 K (k+1) l (a.put o.dst v)->gO P md aC Q (DP p D1 D2) (l.length+g) (listed.setIfInBounds k true) (a.put o.dst v) w:=fun v hK=>by
   refine ih (k+1) _ _ (fun j hj=>?_) ?_ (inv.set zf rm) (rp.set zf) (fun i hi=>?_) ?_ Wg hK
   ·have:=hl (j+1) (by simp;omega);simpa[au1,Nat.add_comm 1 j]using this
   ·simp only[auL]at hk;omega
   ·by_cases hik:i=k
    ·subst hik;have aK:i<listed.size:=by rw[inv.size];exact(au7.1 h0).1
     simp[aK]
    ·exact getD_set_true (hf i (by omega))
   ·intro hh a' FQ;have e:k+1+l.length=k+(o::l).length:=by simp;omega
    rw[e]at hh;have:=lF hh a' FQ;simpa[Region.markFirst]using this
  rw[show(o::l).length+g=(l.length+g)+1 by simp;omega];unfold i1 at h;by_cases hw:Region.wanted o (yielded aC a.tmps)=true
  ·rw[auT hw]at h;obtain⟨v,h1|⟨hp,h1⟩,h2⟩:=h
   ·exact fT (E:=D1) h0 (avS fP) (fun c a w=>hQ c _ _ a w) (uX (by omega)) (l.length+g) listed a w rp (avT h0 OQ) zf (.inl ⟨hw,h1⟩) (next v h2)
   ·exact fT (E:=fun w=>D1 w/\D2 w) h0 (avS fP) (fun c a w=>hQ c _ _ a w) (Df (by omega) hp) (l.length+g) listed a w rp (avT h0 OQ) zf (.inl ⟨hw,fun w hd=>h1 w hd.1 hd.2⟩) (next v h2)
  ·rw[auV hw]at h;exact fT (E:=D1) h0 (avS fP) (fun c a w=>hQ c _ _ a w) (uX (by omega)) (l.length+g) listed a w rp (avT h0 OQ) zf (.inr ⟨by simpa using hw,rfl⟩) (next undef h)
theorem vY {n:Nat}{L:Array Bool->Act->Prop}:∀ {f:Nat} {listed:Array Bool} {a:Act},ir P md aC C n L f listed a->listed.size=aC.size->ir P md aC C n (fun l a=>L l a/\l.size=aC.size) f listed a
 |0,_,_,h,hs=>⟨h,hs⟩
 |_+1,_,_,h,hs=>⟨h.1,fun i hi=>⟨(h.2 i hi).1,qOp_mono (fun _ h=>vY h (by simpa using hs)) (h.2 i hi).2⟩⟩
theorem A3 {n g:Nat}{L:Array Bool->Act->Prop}(hCD:∀ listed w,C w->D listed w)(hL:∀ listed a w,C w->L listed a->gO P md aC Q D g listed a w)(f:Nat):
  ∀(listed:Array Bool) (a:Act) (w:World),C w->ir P md aC C n L f listed a->gO P md aC Q D (f+g) listed a w:=by
 induction f with
 |zero=>intro listed a w hw h;rw[avy];exact hL _ _ _ hw h
 |succ f ih=>
  intro listed a w hw h;rw[show f+1+g=(f+g)+1 by omega];exact⟨hCD listed w hw,fun h0=>absurd h0 h.1,fun i hi=>wpOp_of_qOp hw (fun a' w' cL h'=>ih _ a' w' cL h') (h.2 i hi).2⟩
def vZ (P:Program)(aC:Array Oper)(Q:Exit->Act->World->Prop)(p:Nat)(D1 D2:World->Prop):Nat->List Oper->Act->World->Prop
 |k,[],a,w=>(D1 w/\(p<k\/D2 w))/\Q .normal a w
 |k,o::rest,a,w=>(D1 w/\(p<k\/D2 w))/\wpList P aC (fun e a' w'=>match e with | .normal=>vZ P aC Q p D1 D2 (k+1) rest a' w'|e=>Q e a' w') [o] a w
theorem oS {o:Oper}{a:Act}{w:World}{K:Act->World->Prop}{R:Act->World->Prop}(h:o.wp P a w K (fun e a' w'=>match e with | .normal=>R a' w'|e=>Q e a' w')):o.wp P a w K Q:=by
 unfold Oper.wp at*;generalize (execOp a.eval o).run P w=r at*
 cases r with
 |ok n w'=>
  cases n<;>simp only[Oper.upon]at h ⊢
  case value=>exact h
  case skip=>exact h
  case defer=>exact h
  case row=>exact h
  case enter f args=>
   refine auY h fun e w'' he=>?_
   cases e with
   |returned u=>exact he
   |panicked c=>exact he
   |outgrown=>exact he
 |halt x w'=>
  cases x<;>simp only[Oper.upon]at h ⊢
  case panic u=>exact h
theorem rO {p:Nat}:∀(l:List Oper) (k:Nat) (listed:Array Bool) (a:Act) (w:World),(∀ j,l[j]?=aC[k+j]?)->Region.seqB md aC l.length k listed=true->(∀ t,t<k->t=p->listed.getD t false=true)->k+l.length=aC.size->listed.size=aC.size->vZ P aC Q p D1 D2 k l a w->gO P md aC Q (DP p D1 D2) l.length listed a w
 |[],_,_,_,_,_,hB,hp,_,_,h=>⟨⟨h.1.1,h.1.2.imp (fun h=>hp _ h rfl) id⟩,by simpa[Region.seqB]using hB,h.2⟩
 |o::l,k,listed,a,w,hl,hB,hp,cJ,hls,h=>by
  have h0:aC[k]?=some o:=by simpa using(hl 0).symm
  simp only[auL,Region.seqB,au4,au9]at hB;refine⟨⟨h.1.1,h.1.2.imp (fun h=>hp _ h rfl) id⟩,fun h1=>(by rw[hB.1]at h1;cases h1),fun i hi=>?_⟩;rw[hB.1]at hi;have hik:i=k:=by simpa using hi
  subst hik;have hw:wpOp P aC Q i (vZ P aC Q p D1 D2 (i+1) l) a w:=by
   have h2:=h.2;unfold wpOp;simp only[h0];unfold wpList at h2;split
   ·rename_i hwt
    rw[auT hwt]at h2;rcases h2 with h2|⟨h2,h3⟩
    ·exact .inl (oS h2)
    ·exact .inr ⟨h2,h3⟩
   ·rename_i hwt
    rw[auV hwt]at h2;exact h2
  refine wpOp_mono (fun a' w' h'=>rO l (i+1) _ a' w' (fun j=>by have:=hl (j+1);simpa[au1,Nat.add_comm 1 j]using this) hB.2 (fun t ht e=>?_) (by simp at cJ;omega) (by simpa using hls) h') hw;by_cases hti:t=i
  ·subst hti;have aK:t<listed.size:=by rw[hls];exact(au7.1 h0).1
   simp[aK]
  ·exact getD_set_true (hp t (by omega) e)
theorem kQ {P:Program}{id:Nat}{Q:Exit->Act->World->Prop}{a:Act}{w:World}{l:List Oper}(m n p:Nat)(C D1 D2:World->Prop)(hm:P.follows .mixedOrders=true)(hB:Region.lexMidB .any l.toArray m n=true)
  (hnp:n<=p) (hQ:∀ c o v a w,Q (.panic c) (Act.put a o v) w->Q (.panic c) a w) (hC:C { w with drawn:=w.drawn+1 }) (hCD:∀ w,C w->D1 w/\D2 w)
  (h:i1 P .any l.toArray p D1 D2 (wpQuiet P l.toArray C (fun a'=>∀ w',C w'->vZ P l.toArray Q p D1 D2 n (l.drop n) a' w') ((l.take n).drop m)) 0 (l.take m) a):(Code.region id l.toArray true).wp P Q a w:=by
 simp only[Region.lexMidB,au4,au9]at hB;obtain⟨⟨⟨⟨⟨⟨fP,hn⟩,KO⟩,hs⟩,hc⟩,R2⟩,Tz⟩:=hB;have Wm:n<l.length:=by simpa using hn
 have yq:(l.take m).length=m:=by simp;omega
 have CC:((l.take n).drop m).length=n-m:=by simp;omega
 have Fw:(l.drop n).length=l.toArray.size-n:=by simp
 have Tn:HeadInv .any l.toArray n (Array.replicate l.toArray.size false):=
  ⟨by simp,fun j oj _ hl=>by rw[ava]at hl;simp at hl,fun t _ ht=>getD_in (by simpa using ht) (ava _ _)⟩
 have cl0:ma .any l.toArray (Array.replicate l.toArray.size false):=fun j oj _ hl=>by rw[ava]at hl;simp at hl
 refine wp_region_any hm ?_;have H:=A1 (D1:=D1) (D2:=D2) (p:=p) (md:=.any) (n:=n) (Q:=Q) fP hQ hnp ((n-m)+(l.toArray.size-n)) { w with drawn:=w.drawn+1 } (l.take m) 0 (Array.replicate l.toArray.size false) a
  (fun j hj=>by rw[yq]at hj;simp[hj]) (by omega) Tn cl0 (fun i hi=>by omega) (fun hh a' FQ=>?_) (by rw[yq];exact R2) h
 ·rw[yq]at H;rw[show m+(n-m+(l.toArray.size-n))=l.toArray.size by omega]at H;exact rN H
 ·rw[yq]at hh ⊢;rw[avy]at hh;have H2:=rE (md:=.any) (g:=l.toArray.size-n) fP hs hc hn ((l.take n).drop m) m _ a' (fun j hj=>by
   rw[CC]at hj;simp only[avU,List.getElem?_take,List.getElem?_toArray];rw[auT (by omega)]) (by rw[CC];omega) hh (by rw[CC];exact Tz) FQ
  have:=A3 (Q:=Q) (D:=DP p D1 D2) (g:=l.toArray.size-n) (L:=fun l5 a'=>(Region.seqB .any l.toArray (l.toArray.size-n) n l5=true/\∀ w',C w'->vZ P l.toArray Q p D1 D2 n (l.drop n) a' w')/\l5.size=l.toArray.size) (fun listed w hw=>⟨(hCD w hw).1,.inr (hCD w hw).2⟩) (fun listed a' w' cL hL=>by
   have:=rO (D1:=D1) (D2:=D2) (p:=p) (md:=.any) (Q:=Q) (l.drop n) n listed a' w' (fun j=>by simp) (by rw[Fw];exact hL.1.1) (fun t ht e=>by omega) (by rw[Fw];omega) hL.2 (hL.1.2 w' cL)
   rwa [Fw]at this) _ _ _ _ hC (vY H2 (by rw[hh.base.size]))
  rwa [CC]at this
end
end
section
open Go
section
variable {P:Program}{aC:Array Oper}{md:Region.Mode}{D1 D2:World->Prop}{Q:Exit->Act->World->Prop}
def lP (P:Program)(md:Region.Mode)(aC:Array Oper)(p:Nat)(D1 D2:World->Prop)(K:Act->Prop):List Nat->Act->Prop
 |[],a=>K a
 |i::r,a=>match aC[i]? with
  |none=>False
  |some o=>if Region.wanted o (yielded aC a.tmps)then ∃ v,((∀ w,D1 w->(execOp a.eval o).run P w=.ok (.value v) w)\/(Region.waitsFor md aC p i=true/\∀ w,D1 w->D2 w->(execOp a.eval o).run P w=.ok (.value v) w))/\lP P md aC p D1 D2 K r (a.put o.dst v)else lP P md aC p D1 D2 K r (a.put o.dst undef)
def Dg (md:Region.Mode)(aC:Array Oper)(p:Nat):List Nat->Array Bool->Bool
 |[],_=>true
 |i::r,listed=>(Region.ready md aC listed).contains i&&Region.free md aC listed i&&(i != p)&&Dg md aC p r (listed.setIfInBounds i true)
def we:List Nat->Array Bool->Array Bool
 |[],listed=>listed
 |i::r,listed=>we r (listed.setIfInBounds i true)
def uc (P:Program)(aC:Array Oper)(Q:Exit->Act->World->Prop)(p:Nat)(D1 D2:World->Prop):Bool->List Nat->Act->World->Prop
 |pl,[],a,w=>(D1 w/\(pl=true\/D2 w))/\Q .normal a w
 |pl,i::r,a,w=>(D1 w/\(pl=true\/D2 w))/\match aC[i]? with
  |none=>False
  |some o=>wpList P aC (fun e a' w'=>match e with | .normal=>uc P aC Q p D1 D2 (pl||i==p) r a' w'|e=>Q e a' w') [o] a w
def Pq (md:Region.Mode)(aC:Array Oper):List Nat->Array Bool->Bool
 |[],listed=>(Region.ready md aC listed).isEmpty
 |i::r,listed=>decide (Region.ready md aC listed=[i])&&Pq md aC r (listed.setIfInBounds i true)
theorem mc {K:Act->Prop}{p g:Nat}(fP:Region.noSelect aC=true)(hQ:∀ c o v a w,Q (.panic c) (Act.put a o v) w->Q (.panic c) a w)(w:World):∀(js:List Nat) (listed:Array Bool) (a:Act),ma md aC listed->
  (∀ a',K a'->gO P md aC Q (DP p D1 D2) g (we js listed) a' w)->Dg md aC p js listed=true->lP P md aC p D1 D2 K js a->gO P md aC Q (DP p D1 D2) (js.length+g) listed a w
 |[],listed,a,_,lF,_,h=>by rw[avV,avy];exact lF a h
 |i::r,listed,a,rp,lF,hB,h=>by
  simp only[Dg,au4,bne_iff_ne,ne_eq]at hB;obtain⟨⟨⟨hr,OQ⟩,hip⟩,Wg⟩:=hB;have zf:i∈Region.ready md aC listed:=by simpa using hr
  unfold lP at h
  cases h0:aC[i]? with
  |none=>rw[h0]at h;exact h.elim
  |some o=>
   rw[h0]at h;simp only at h;have next:∀ v,lP P md aC p D1 D2 K r (a.put o.dst v)->gO P md aC Q (DP p D1 D2) (r.length+g) (listed.setIfInBounds i true) (a.put o.dst v) w:=fun v hK=>mc fP hQ w r _ _ (rp.set zf) lF Wg hK;rw[show(i::r).length+g=(r.length+g)+1 by simp;omega];by_cases hw:Region.wanted o (yielded aC a.tmps)=true
   ·rw[auT hw]at h;obtain⟨v,h1|⟨hp,h1⟩,h2⟩:=h
    ·exact fT (E:=D1) h0 (avS fP) (fun c a w=>hQ c _ _ a w) (uX hip) (r.length+g) listed a w rp (avT h0 OQ) zf (.inl ⟨hw,h1⟩) (next v h2)
    ·exact fT (E:=fun w=>D1 w/\D2 w) h0 (avS fP) (fun c a w=>hQ c _ _ a w) (Df hip hp) (r.length+g) listed a w rp (avT h0 OQ) zf (.inl ⟨hw,fun w hd=>h1 w hd.1 hd.2⟩) (next v h2)
   ·rw[auV hw]at h;exact fT (E:=D1) h0 (avS fP) (fun c a w=>hQ c _ _ a w) (uX hip) (r.length+g) listed a w rp (avT h0 OQ) zf (.inr ⟨by simpa using hw,rfl⟩) (next undef h)
theorem qn {p:Nat}:∀(ts:List Nat) (pl:Bool) (listed:Array Bool) (a:Act) (w:World),Pq md aC ts listed=true->(pl=true->listed.getD p false=true)->listed.size=aC.size->uc P aC Q p D1 D2 pl ts a w->gO P md aC Q (DP p D1 D2) ts.length listed a w
 |[],pl,listed,a,w,hB,hp,_,h=>⟨⟨h.1.1,h.1.2.imp hp id⟩,by simpa[Pq]using hB,h.2⟩
 |i::r,pl,listed,a,w,hB,hp,hls,h=>by
  simp only[Pq,au4,au9]at hB;refine⟨⟨h.1.1,h.1.2.imp hp id⟩,fun h1=>(by rw[hB.1]at h1;cases h1),fun k hk=>?_⟩;rw[hB.1]at hk;have Cr:k=i:=by simpa using hk
  subst Cr;have h2:=h.2
  cases h0:aC[k]? with
  |none=>rw[h0]at h2;exact h2.elim
  |some o=>
   rw[h0]at h2;simp only at h2;have hw:wpOp P aC Q k (uc P aC Q p D1 D2 (pl||k==p) r) a w:=by
    unfold wpOp;simp only[h0];unfold wpList at h2;split
    ·rename_i hwt
     rw[auT hwt]at h2;rcases h2 with h2|⟨h2,h3⟩
     ·exact .inl (oS h2)
     ·exact .inr ⟨h2,h3⟩
    ·rename_i hwt
     rw[auV hwt]at h2;exact h2
   refine wpOp_mono (fun a' w' h'=>qn r (pl||k==p) _ a' w' hB.2 (fun e=>?_) (by simpa using hls) h') hw;rw[au6]at e;by_cases TZ:k=p
   ·subst TZ;have aK:k<listed.size:=by rw[hls];exact(au7.1 h0).1
    simp[aK]
   ·exact getD_set_true (hp (e.resolve_right (by simpa using TZ)))
theorem i6 {K:Act->Prop}{p:Nat}{a:Act}(h:K a):lP P md aC p D1 D2 K [] a:=h
theorem fH {K:Act->Prop}{p i:Nat}{r:List Nat}{a:Act}{o:Oper}(h0:aC[i]?=some o)
  (h:∀ L:Act->Prop,(∀ a,lP P md aC p D1 D2 K r a->L a)->if Region.wanted o (yielded aC a.tmps)then ∃ v,(∀ w,D1 w->(execOp a.eval o).run P w=.ok (.value v) w)/\L (a.put o.dst v)else L (a.put o.dst undef)):lP P md aC p D1 D2 K (i::r) a:=by
 have:=h _ (fun _ h=>h);unfold lP;rw[h0];simp only;split
 ·rename_i hw
  rw[auT hw]at this;obtain⟨v,h1,h2⟩:=this;exact⟨v,.inl h1,h2⟩
 ·rename_i hw
  rw[auV hw]at this;exact this
theorem Dh {K:Act->Prop}{p i:Nat}{r:List Nat}{a:Act}{o:Oper}(h0:aC[i]?=some o)(hp:Region.waitsFor md aC p i=true)
  (h:∀ L:Act->Prop,(∀ a,lP P md aC p D1 D2 K r a->L a)->if Region.wanted o (yielded aC a.tmps)then ∃ v,(∀ w,D1 w->D2 w->(execOp a.eval o).run P w=.ok (.value v) w)/\L (a.put o.dst v)else L (a.put o.dst undef)):lP P md aC p D1 D2 K (i::r) a:=by
 have:=h _ (fun _ h=>h);unfold lP;rw[h0];simp only;split
 ·rename_i hw
  rw[auT hw]at this;obtain⟨v,h1,h2⟩:=this;exact⟨v,.inr ⟨hp,h1⟩,h2⟩
 ·rename_i hw
  rw[auV hw]at this;exact this
theorem bQ {p i:Nat}{pl:Bool}{r:List Nat}{a:Act}{w:World}{o:Oper}(h0:aC[i]?=some o)(hd:D1 w/\(pl=true\/D2 w))
  (h:wpList P aC (fun e a' w'=>match e with | .normal=>uc P aC Q p D1 D2 (pl||i==p) r a' w'|e=>Q e a' w') [o] a w):uc P aC Q p D1 D2 pl (i::r) a w:=by
 unfold uc;rw[h0];exact⟨hd,h⟩
theorem pO {p:Nat}{pl:Bool}{a:Act}{w:World}(hd:D1 w/\(pl=true\/D2 w))(h:Q .normal a w):uc P aC Q p D1 D2 pl [] a w:=⟨hd,h⟩
theorem qL:∀(js:List Nat) (listed:Array Bool),(we js listed).size=listed.size
 |[],_=>rfl
 |i::r,listed=>by rw[we,qL r];simp
def Pr (md:Region.Mode)(aC:Array Oper)(p:Nat)(js ts:List Nat):Bool:=
 Region.noSelect aC&&decide (js.length+ts.length=aC.size)&&Dg md aC p js (Array.replicate aC.size false)&&Pq md aC ts (we js (Array.replicate aC.size false))
theorem gL {P:Program}{id:Nat}{Q:Exit->Act->World->Prop}{a:Act}{w:World}{l:List Oper}(p:Nat)(js ts:List Nat)(D1 D2:World->Prop)(hm:P.follows .mixedOrders=true)(hB:Pr .any l.toArray p js ts=true)
  (hQ:∀ c o v a w,Q (.panic c) (Act.put a o v) w->Q (.panic c) a w)
  (h:lP P .any l.toArray p D1 D2 (fun a'=>uc P l.toArray Q p D1 D2 false ts a' { w with drawn:=w.drawn+1 }) js a):(Code.region id l.toArray true).wp P Q a w:=by
 simp only[Pr,au4,au9]at hB;obtain⟨⟨⟨fP,aW⟩,dj⟩,Jt⟩:=hB;refine wp_region_any hm ?_;have H:=mc (md:=.any) (Q:=Q) (g:=ts.length) fP hQ { w with drawn:=w.drawn+1 } js (Array.replicate l.toArray.size false) a (fun j oj _ hl=>by rw[ava]at hl;simp at hl)
  (fun a' FQ=>qn ts false _ a' _ Jt (fun e=>by cases e) (by rw[qL];simp) FQ) dj h
 rw[aW]at H;exact rN H
end
end
end Go.Proofs.YtkghpdcloaiflaaGreatDoor
