import Derived.Test.YtkghpdcloaiflaaGreatDoorD19
set_option maxHeartbeats 4000000
set_option maxRecDepth 100000
namespace Go.Proofs.YtkghpdcloaiflaaGreatDoor
open _root_.Go.Proofs.Tryz
section
open Go.RowKit Go.Shelf
attribute [local go_sem] auG
theorem Ia:(prog.info? 46).map (fun i=>(i.zero,i.size,i.bytes))=some (some (.slice none 0 0),1,24):=by kernel_rfl
theorem yN (r:Nat)(hr:r<=100000)(W:World):
  (Instr.makeSlice 300 (.int .i64 r) (.int .i64 r)).run prog W=.ok (.slice (some ⟨W.heap.size,0,none⟩) r r) (W.alloc (.cells (Array.replicate r (Value.slice none 0 0)) 46)):=by
 obtain⟨i0,hi,nY,mU,oE⟩:=auZ Ia;have h:=run_make (P:=prog) W 300 46 i0 (.slice none 0 0) underlying300 hi nY .i64 .i64 (r:Int) (r:Int) (by omega) (Int.le_refl _) (by rw[oE];omega) (by omega)
 rwa [avn,mU,Nat.mul_one,rF _ rfl]at h
def de (b:fQ):Value:=.agg #[.int .i64 b.root,.int .i64 b.size]
def JY (nb:Nat)(lv:Value)(L:List Nat)(size b:Nat):Ov:=
 ⟨nb,List.replicate L.length (.slice none 0 0),.slice none 0 0,.pointer none,.slice none 0 0,lv,L.length,fun _=>[],[],[],size,fun j=>L.getD j 0,fun g=>if g=b then .walk else if g=nb then .nums else if lv.ownBlock=some g then .below else .none⟩
theorem Y2 {w:World}{b nb:Nat}{iv:Value}{ch:Bool}{lv:Value}{L:List Nat}{size:Nat}(own:World.blk w b (kn iv (.bool ch) (.slice (some ⟨nb,0,none⟩) L.length L.length) (.slice none 0 0) (.pointer none) (.slice none 0 0) (.int .i64 (size:Int)) lv) 302)
  (nums:World.blk w nb (Array.replicate L.length (Value.slice none 0 0)) 46) (below:aI w 0 lv (eU L)) (dZ:nb≠b) (h1:∀ g,lv.ownBlock=some g->g≠b/\g≠nb):ui w b iv ch (JY nb lv L size b) where
 own:=own
 nums:=by
  have e:Array.replicate L.length (Value.slice none 0 0)=(List.replicate L.length (Value.slice none 0 0)).toArray:=by simp
  rw[e]at nums;exact nums
 rlen:=by simp[JY]
 row l v hv:=by
  simp only[JY,List.getElem?_replicate]at hv;split at hv
  ·injection hv with hv;subst hv;exact⟨rfl,.inl ⟨rfl,rfl⟩⟩
  ·cases hv
 order:=⟨rfl,.inl ⟨rfl,rfl⟩⟩
 data:=.inl ⟨rfl,rfl,rfl⟩
 below:=by
  have e:(List.range L.length).map (fun j=>L.getD j 0)=L:=by
   apply List.ext_getElem
   ·simp
   ·intro i h1 h2;simp[h2]
  show aI w 0 lv (eU ((List.range L.length).map fun j=>L.getD j 0));rw[e];exact below
 rb:=by simp[JY]
 rnb:=by simp[JY,dZ]
 rrow l v g hv hg:=by
  simp only[JY,List.getElem?_replicate]at hv;split at hv
  ·injection hv with hv;subst hv;cases hg
  ·cases hv
 rorder g hg:=by cases hg
 rdata g hg:=by cases hg
 rbelow g hg:=by
  obtain⟨a1,a2⟩:=h1 g hg;have hg':lv.ownBlock=some g:=hg;simp[JY,a1,a2,hg']
 lt g hg:=by
  simp only[JY]at hg;split at hg
  ·rename_i e;subst e;exact ak own
  ·split at hg
   ·rename_i e;subst e;exact ak nums
   ·split at hg
    ·rename_i e;exact aU below e
    ·exact absurd rfl hg
def ph (w:World)(iv:Value)(ch:Bool)(I:World->(Nat->Prop)->Prop)(F:Nat->Prop)(n:Nat)(o:rx)(e:Ending)(w':World):Prop:=
 ∃ b s' F',e=.returned (.tuple #[.pointer (some ⟨b,0,none⟩),.int .i64 0])/\I w' F'/\ui w' b iv ch s'/\s'.n=n/\(∀ l,s'.N l=bJ o.1 l)/\s'.O=dS o.1/\s'.D=o.2/\(∀ g,s'.role g≠.none->w.heap.size<=g)/\(∀ g,F' g->F g\/w.heap.size<=g)/\(∀ g,s'.role g≠.none->¬ F' g)/\ah F w w'
theorem uj {ty:TypeId}{rv:Value}{f:FuncId}{I:World->(Nat->Prop)->Prop}{rd:Rd}(S:qq ty rv f I rd){w:World}{F:Nat->Prop}(hI:I w F)(bl:fQ)(ch:Bool)(hm:bl.may=true)(o:rx)(ho:em rd bl ch=.ok o):
  Calls prog 224 #[.iface ty rv,de bl,.bool ch] w (ph w (.iface ty rv) ch I F (au bl.size.toNat).length o):=by
 obtain⟨root,sz⟩:=bl;have IY:0<=sz/\sz<=16384/\(root=0↔sz=0):=by
  unfold fQ.may at hm;simp only[au4,au9,avq]at hm;exact⟨hm.1.1,hm.1.2,by simpa using hm.2⟩
 obtain⟨size,rfl⟩:=Int.eq_ofNat_of_zero_le IY.1;have cJ:size<=16384:=by omega
 have Wb:(size:Int)<=16384:=by omega
 obtain⟨bz,V3⟩:∃ bz,((size:Int)==0)=bz:=⟨_,rfl⟩
 have hbr:(root==0)=bz:=by
  rw[<-V3,avt];simp only[avq];exact IY.2.2
 have TY:(bz != bz)=false:=by simp
 have HS:=hd0 S;have HI:=hd0 hI;have Ho:=hd0 ho;have Og:=hd0 IY;have dE:af w (w.alloc (.cells #[.int .i64 root,.int .i64 (size:Int)] 42)):=(ah.refl _ w).alloc _;have iJ:World.blk (w.alloc (.cells #[.int .i64 root,.int .i64 (size:Int)] 42)) w.heap.size #[.int .i64 root,.int .i64 (size:Int)] 42:=aw _ _ _;obtain⟨W0,uC⟩:∃ W0,w.alloc (.cells #[.int .i64 root,.int .i64 (size:Int)] 42)=W0:=⟨_,rfl⟩
 obtain⟨bb,adQ⟩:∃ bb,w.heap.size=bb:=⟨_,rfl⟩
 rw[uC]at dE iJ;rw[adQ]at iJ;have c0:W0.cell? ⟨bb,0,none⟩=some (.int .i64 root):=aa iJ 0;have c1:W0.cell? ⟨bb,1,none⟩=some (.int .i64 (size:Int)):=aa iJ 1;have LV:=hd0 (qS size W0 cJ);have Hsz:=hd0 cJ;have dF:=hd0 dE;have nS:=hd0 iJ;have R4:=hd0 (rU size);clear hm IY hI ho dE iJ cJ;unfold de;go_enter func224,ntmps224;go_wp2_with fail;refine LV.out.mono ?_;rintro e w1 ⟨lv,rfl,Tl,hk1⟩;have jp:=hd0 (ab hk1 nS.out id);have HO1:=hd0 Tl;have bS:=hd0 (dF.out.keep hk1);have d1:w1.cell? ⟨bb,1,none⟩=some (.int .i64 (size:Int)):=aa jp.out 1;obtain⟨a1,ye,e1,_⟩:=aY Tl;obtain⟨L,hL⟩:∃ L,au size=L:=⟨_,rfl⟩
 have e1':lv=.slice a1 L.length ye:=by rw[e1];simp[ba,eU,hL]
 rw[hL]at HO1 R4;have HL:=hd0 hL;have oq:=yN L.length (by have:=R4.out;omega);have Kh:(L.length:Int)<=3:=by have:=R4.out;omega
 have aiM:bb<w1.heap.size:=ak jp.out;subst e1';clear LV Tl hk1 uC adQ c0 c1 e1 hL;go_wp2_with fail
 go_region
 obtain⟨nb,BO⟩:∃ nb,w1.heap.size=nb:=⟨_,rfl⟩
 have m5:af w1 (((w1.alloc (.cells (Array.replicate L.length (Value.slice none 0 0)) 46)).alloc (.cells #[.iface ty rv,.bool ch,.slice (some ⟨w1.heap.size,0,none⟩) L.length L.length,.slice none 0 0,.pointer none,.slice none 0 0,.int .i64 (size:Int),.slice a1 L.length ye] 302)).drew):=(((ah.refl _ w1).alloc _).alloc _).drew;have n5:World.blk (((w1.alloc (.cells (Array.replicate L.length (Value.slice none 0 0)) 46)).alloc (.cells #[.iface ty rv,.bool ch,.slice (some ⟨w1.heap.size,0,none⟩) L.length L.length,.slice none 0 0,.pointer none,.slice none 0 0,.int .i64 (size:Int),.slice a1 L.length ye] 302)).drew) w1.heap.size (Array.replicate L.length (Value.slice none 0 0)) 46:=aH (aw w1 _ _) _;have o5:World.blk (((w1.alloc (.cells (Array.replicate L.length (Value.slice none 0 0)) 46)).alloc (.cells #[.iface ty rv,.bool ch,.slice (some ⟨w1.heap.size,0,none⟩) L.length L.length,.slice none 0 0,.pointer none,.slice none 0 0,.int .i64 (size:Int),.slice a1 L.length ye] 302)).drew) (w1.heap.size+1) (kn (.iface ty rv) (.bool ch) (.slice (some ⟨w1.heap.size,0,none⟩) L.length L.length) (.slice none 0 0) (.pointer none) (.slice none 0 0) (.int .i64 (size:Int)) (.slice a1 L.length ye)) 302:=bi (w:=w1.alloc _) (by simp) _ _;obtain⟨W5,BZ⟩:∃ W5,((w1.alloc (.cells (Array.replicate L.length (Value.slice none 0 0)) 46)).alloc (.cells #[.iface ty rv,.bool ch,.slice (some ⟨w1.heap.size,0,none⟩) L.length L.length,.slice none 0 0,.pointer none,.slice none 0 0,.int .i64 (size:Int),.slice a1 L.length ye] 302)).drew=W5:=⟨_,rfl⟩
 rw[BZ]at m5 n5 o5 ⊢;rw[BO]at n5 o5 ⊢;have X5:ui W5 (nb+1) (.iface ty rv) ch (JY nb (.slice a1 L.length ye) L size (nb+1)):=Y2 o5 n5 (eX (iB HO1.out m5) (avw _)) (by omega) (fun g hg=>by have:=aU HO1.out hg;omega);have aoC:w.heap.size<=W0.heap.size:=dF.out.size;have kw:∀ g,(JY nb (.slice a1 L.length ye) L size (nb+1)).role g≠.none->w.heap.size<=g:=fun g hg=>by
  have Cg:w.heap.size<=nb:=by have:=bS.out.size;omega
  simp only[JY]at hg;split at hg
  ·omega
  ·split at hg
   ·omega
   ·split at hg
    ·rename_i e
     have:=(HO1.out.lt g e).1;omega
    ·exact absurd rfl hg
 have lz:Hid (af w W5):=hd0 (bS.out.keep m5);have hI5:I W5 F:=HS.out.same HI.out (lz.out.on fun _ _=>id) lz.out.size;have adK:∀ g,(JY nb (.slice a1 L.length ye) L size (nb+1)).role g≠.none->¬ F g:=fun g hg hf=>by have:=kw g hg;have:=HS.out.lt HI.out g hf;omega
 have uP:=hd0 X5;have aaF:=hd0 kw;have HI5:=hd0 hI5;have aea:=hd0 adK;have r0:W5.cell? ⟨bb,0,none⟩=some (.int .i64 root):=aa (ab m5 jp.out id) 0;clear X5 kw hI5 adK m5 n5 o5 BZ oq d1 aiM;by_cases hz:size=0
 ·have TQ:L=[]:=by rw[<-HL.out,hz];rfl
  have Tq:o=([],[]):=by
   have h:=Ho.out;unfold em at h;rw[auV (by unfold fQ.may;simp only[au4,au9,avq,Bool.not_eq_false];exact⟨⟨Og.out.1,Og.out.2.1⟩,by simpa using Og.out.2.2⟩),auT (by simp[hz])]at h;injection h with h;exact h.symm
  have uN:((L.length:Nat):Int)=0:=by rw[TQ];rfl
  have Ho0:=hd0 Tq;have HL0:=hd0 TQ;clear TQ Tq hz;go_wp2;go_ret2;unfold ph;rw[Ho0.out];exact⟨nb+1,_,F,rfl,HI5.out,uP.out,by rw[avn,HL.out];rfl,fun l=>rfl,rfl,rfl,aaF.out,fun g hg=>.inl hg,aea.out,lz.out.mono fun _ _ h=>h.elim⟩
 ·have R9:0<size:=by omega
  obtain⟨t1,t2⟩:=JQ size R9 Hsz.out;rw[HL.out]at t1 t2;have Jm:oa rd ch size (L.length-1) 0 root=.ok o:=by
   have h:=Ho.out;unfold em at h;rw[auV (by unfold fQ.may;simp only[au4,au9,avq,Bool.not_eq_false];exact⟨⟨Og.out.1,Og.out.2.1⟩,by simpa using Og.out.2.2⟩),auV (by show ¬((size:Int)=0);omega)]at h;simp only[avn]at h;rw[HL.out]at h;exact h
  have N4:=xe _ _ _ _ Jm;have hp:60 ^ (L.length-1)<=3600:=by
   have h3:=R4.out;rcases(by omega:L.length-1=0\/L.length-1=1\/L.length-1=2)with e|e|e<;>rw[e]<;>decide
  have V:=hd0 (zZ HS.out size Hsz.out (nb+1) ch (L.length-1) 0 root o W5 F _ HI5.out uP.out aea.out (by rw[HL.out];rfl) (by simp[JY]) (fun j hj=>by rw[HL.out];simp[JY]) (by rw[HL.out];omega) (by rw[HL.out,t2];omega) (by show 0+_<=_;omega) (fun k=>by show 0+_<=_;omega) (by show 0+_<=_;omega) Jm);have vq:((L.length-1:Nat):Int)=(L.length:Int)-1:=by have:=t1;omega
  rw[vq]at V;have hlz:(((L.length:Nat):Int)==0)=false:=by
   rw[avv];omega
  have hlp:(1:Int)<=(L.length:Int):=by omega
  clear N4 hp Jm t1 t2 hz;go_wp2_with fail;refine V.out.mono ?_;rintro e w7 ⟨rfl,s7,F7,V7⟩;have yo:=hd0 V7;clear V7 V;go_wp2;go_ret2;unfold ph;refine⟨nb+1,s7,F7,rfl,yo.out.src,yo.out.wk,by rw[yo.out.n,avn,HL.out];rfl,fun l=>by rw[yo.out.N];rfl,by rw[yo.out.O];rfl,by rw[yo.out.D];rfl,fun g hg=>?_,fun g hg=>?_,yo.out.apart,?_⟩
  ·exact(yo.out.grow.new g hg).elim (aaF.out g) (fun h=>auI lz.out.size h)
  ·exact(yo.out.foot g hg).imp id (fun h=>auI lz.out.size h)
  ·exact(lz.out.mono (T:=F) (fun _ _ h=>h.elim)).trans yo.out.mod (fun g hg hh=>hh.elim (fun hr=>by have:=aaF.out g hr;omega) id)
theorem LW {ty:TypeId}{rv:Value}{f:FuncId}{I:World->(Nat->Prop)->Prop}{rd:Rd}(S:qq ty rv f I rd){w:World}{F:Nat->Prop}(hI:I w F)(bl:fQ)(hm:bl.may=true)(l:List Int)(hd:oK rd bl=.ok l):
  Calls prog 161 #[.iface ty rv,de bl] w fun e w'=>∃ v,e=.returned (.tuple #[v,.int .i64 0])/\aI w' w.heap.size v l/\∃ F',I w' F'/\ec F F' w w'/\(∀ g,v.ownBlock=some g->¬ F' g):=by
 obtain⟨o,ho,rfl⟩:∃ o,em rd bl false=.ok o/\dS o.1=l:=by
  unfold oK at hd
  cases h:em rd bl false with
  |error e=>rw[h]at hd;cases hd
  |ok o=>rw[h]at hd;exact⟨o,rfl,by injection hd⟩
 have dE:af w (w.alloc (.cells #[.int .i64 bl.root,.int .i64 bl.size] 42)):=(ah.refl _ w).alloc _;have T:=hd0 (uj S (S.same hI (dE.on fun _ _=>id) dE.size) bl false hm o ho);have dF:=hd0 dE;have HS:=hd0 S;clear hI hd ho dE;unfold de at T ⊢;go_enter func161,ntmps161;go_wp2_with fail;refine T.out.mono ?_;rintro e w1 ⟨b,s1,F1,rfl,NL,TV,_,_,hO,_,kw,qy,nW,dp⟩;have c3:w1.cell? ⟨b,3,none⟩=some s1.ov:=aa TV.own 3;have HO:Hid (aI w1 w.heap.size s1.ov (dS o.1)):=hd0 (by
  have h:=TV.order;rw[hO]at h;obtain⟨h1,h2⟩:=h;refine⟨h1,h2.imp id ?_⟩;rintro⟨g,cap,dz,e,_,r⟩;exact⟨g,cap,dz,e,auI dF.out.size (kw g (by rw[TV.rorder g (by rw[e];rfl)];exact aE.noConfusion)),r⟩)
 have Hro:Hid (∀ g,s1.ov.ownBlock=some g->¬ F1 g):=hd0 (fun g hg=>nW g (by rw[TV.rorder g hg];exact aE.noConfusion));have Yb:=hd0 NL;have HM:=hd0 ((dF.out.mono (T:=F) (fun _ _ h=>h.elim)).trans dp (fun _ _ h=>h));have aft:Hid (∀ g,F1 g->F g\/w.heap.size<=g):=hd0 (fun g hg=>(qy g hg).imp id (fun h=>auI dF.out.size h));clear NL TV nW dp kw qy hO T;go_wp2;go_ret2;exact⟨s1.ov,rfl,HO.out,F1,Yb.out,⟨HM.out,aft.out⟩,Hro.out⟩
end
section
open Go.RowKit Go.Shelf
attribute [local go_sem] auG
theorem iE {w:World}{b:Nat}{p:Pl}(h:jT w b p):w.cell? ⟨b,0,none⟩=some (.string ⟨p.used.toArray⟩)/\w.cell? ⟨b,1,none⟩=some (.string ⟨p.taken.toArray⟩)/\w.cell? ⟨b,2,none⟩=some (.int .i64 (p.blocks:Int))/\w.cell? ⟨b,3,none⟩=some (.int .i64 (p.next:Int))/\w.cell? ⟨b,4,none⟩=some (.int .i64 (p.left:Int)):=
 ⟨aa h.own 0,aa h.own 1,aa h.own 2,aa h.own 3,aa h.own 4⟩
theorem Ib {p:Pl}(h:cG p)(hl:0<p.left):(∃ n,gl p.used p.next p.blocks=some n/\p.seek=n)\/(gl p.used p.next p.blocks=none/\∃ n,gl p.used 1 p.blocks=some n/\p.seek=n):=by
 cases h1:gl p.used p.next p.blocks with
 |some n=>exact .inl ⟨n,rfl,by simp[Pl.seek,h1]⟩
 |none=>
  right
  refine⟨rfl,?_⟩
  cases h2:gl p.used 1 p.blocks with
  |some n=>exact⟨n,rfl,by simp[Pl.seek,h1,h2]⟩
  |none=>
   exfalso;rw[h.left]at hl;obtain⟨n,n1,n2,n3⟩:=Dt hl;have:=vG h2 n n1 n2;rw[this]at n3;cases n3
def Pl.took (p:Pl):Pl:={ p with used:=eG p.used (iN [p.seek]),taken:=eG p.taken (iN [p.seek]),next:=p.seek+1,left:=p.left-1 }
theorem tq {p:Pl}(hl:0<p.left):p.take=.ok (p.seek,p.took):=by unfold Pl.take;rw[auV (by omega)];rfl
theorem U2 {p:Pl}(h:cG p)(hl:0<p.left):cG p.took:=by
 obtain⟨n,p',h1,_,_,_,h2,_⟩:=vf h hl;rw[tq hl]at h1;injection h1 with h1;injection h1 with _ h1;rw[h1];exact h2
theorem z7 {w:World}{b:Nat}{p:Pl}(h:jT w b p)(hl:0<p.left):
  Calls prog 216 #[.pointer (some ⟨b,0,none⟩)] w fun e w'=>e=.returned (.tuple #[.int .i64 (p.seek:Int),.int .i64 0])/\jT w' b p.took/\ah (fun g=>g=b) w w':=by
 have HC:=hd0 (Ib h.ok hl);have Ow:=hd0 (U2 h.ok hl);have Hu:=hd0 h.used;have Ht:=hd0 h.taken;have FN:=hd0 h.ok;have Hl:=hd0 hl;have dE:af w (w.alloc (.cells #[.pointer (some ⟨b,0,none⟩)] 200)):=(ah.refl _ w).alloc _;have h0:=h.mod dE id;have sP:World.blk (w.alloc (.cells #[.pointer (some ⟨b,0,none⟩)] 200)) w.heap.size #[.pointer (some ⟨b,0,none⟩)] 200:=aw _ _ _;have rt:w.heap.size≠b:=by have:=ak h.own;omega
 have Cx:((p.left:Nat):Int)≠0:=by omega
 have hlb:((p.left:Nat):Int)<=5000:=by
  have:=h.ok.left;have:=h.ok.most;have:kV p.used p.blocks<=p.blocks:=auI (auX _ _) (by simp);omega
 have vq:(1:Int)<=((p.left:Nat):Int):=by omega
 have cc:=iE h;have Sf:b<w.heap.size:=ak h.own;have dF:=hd0 dE;have H0:=hd0 h0;have Wi:=hd0 sP;clear h h0 sP dE hl;go_enter func216,ntmps216;obtain⟨W0,uC⟩:∃ W0,w.alloc (.cells #[.pointer (some ⟨b,0,none⟩)] 200)=W0:=⟨_,rfl⟩
 obtain⟨bx,aeL⟩:∃ bx,w.heap.size=bx:=⟨_,rfl⟩
 rw[uC]at dF H0 Wi;rw[aeL]at Wi rt;obtain⟨d0,d1,d2,d3,d4⟩:=iE H0.out;have x0:W0.cell? ⟨bx,0,none⟩=some (.pointer (some ⟨b,0,none⟩)):=aa Wi.out 0;clear cc;go_wp2_with fail;clear uC aeL Sf;have pD:(p.next:Int)<=5000:=by have:=FN.out.hi;have:=FN.out.most;omega
 have S1:=hd0 (fun m=>DD (H0.out.mod ((ah.refl (fun _=>False) W0).drewN m) id) (fR Wi.out m) p.next p.blocks (by omega) (by have:=FN.out.most;omega));refine dD 9 (by kernel_rfl) (by kernel_rfl) ?_;simp only[avz,avA,avB,avC]
 repeat (quiet_step (fail))
 refine avE ?_;intro _ cL;obtain⟨nq,rfl⟩:=cL;go_wp2_with fail;refine(S1.out nq).mono ?_;rintro e w1 ⟨rfl,e1⟩;have RS:af W0 (W0.drewN nq):=(ah.refl _ W0).drewN nq;have key:∀ w2:World,w2=(W0.drewN nq).setCell ⟨b,3,none⟩ (.int .i64 ((p.seek+1:Nat):Int))->jT w2 b { p with next:=p.seek+1 }/\World.blk w2 bx #[.pointer (some ⟨b,0,none⟩)] 200/\ah (fun g=>g=b) W0 w2:=by
  rintro w2 rfl;have m:ah (fun g=>g=b) (W0.drewN nq) ((W0.drewN nq).setCell ⟨b,3,none⟩ (.int .i64 ((p.seek+1:Nat):Int))):=(ah.refl (fun g=>g=b) _).setCell (p:=⟨b,3,none⟩) (.inl rfl) _;refine⟨⟨ag (H0.out.mod RS id).own 3 _,⟨Ow.out.lo,Ow.out.hi,FN.out.most,FN.out.left⟩,Hu.out,Ht.out⟩,ab m (fR Wi.out nq) rt,(RS.mono (T:=fun g=>g=b) (fun _ _ h=>h.elim)).trans m (fun _ _ h=>h)⟩
 have Key:=hd0 key;have HP:Hid (∃ p1:Pl,p1={ p with next:=p.seek+1 }):=hd0 ⟨_,rfl⟩;clear key;rcases HC.out with⟨n,g1,g2⟩|⟨g1,n,g3,g2⟩
 ·rw[g1]at e1 ⊢;simp only at e1;have en:((n+1:Nat):Int)=((p.seek+1:Nat):Int):=by rw[g2]
  rw[en]at e1;obtain⟨q1,q2,q3⟩:=Key.out w1 e1;have Q1:=hd0 q1;have Q2:=hd0 q2;have Q3:=hd0 q3;clear q1 q2 q3 e1 en g1 g2 Key RS;have y3:=(iE Q1.out).2.2.2.1;have y0:w1.cell? ⟨bx,0,none⟩=some (.pointer (some ⟨b,0,none⟩)):=aa Q2.out 0;have za:(p.seek:Int)<=4096:=by have:=Ow.out.hi;have:=FN.out.most;have e:p.took.next=p.seek+1:=rfl;have e2:p.took.blocks=p.blocks:=rfl;omega
  have es:((p.seek+1:Nat):Int)=(p.seek:Int)+1:=by omega
  simp only[es]at y3;clear x0 d0 d1 d2 d3 d4;obtain⟨k,hk⟩:∃ k,p.seek=k:=⟨_,rfl⟩
  have OF:=hd0 (fun W v (hv:eI W v (qj [k]))=>Be [k] v W hv (by simp) (by simp;omega));have Hk:=hd0 hk;rw[hk]at y3 za;go_wp2_with fail;have co:eI (w1.alloc (.cells #[.int .i64 (k:Int)] 3)) (.slice (some ⟨w1.heap.size,0,none⟩) 1 1) (qj [k]):=AW 1 (aw w1 #[.int .i64 (k:Int)] 3);refine(OF.out _ _ co).mono ?_;rintro e w5 ⟨rfl,mt⟩;have rD:af w1 w5:=((ah.refl (fun _=>False) _).alloc _).keep mt;have P6:=hd0 (Q1.out.mod rD id);have X6:=hd0 (ab rD Q2.out id);have M6:=hd0 (Q3.out.keep rD);clear co mt rD y3 y0 OF;have z:=iE P6.out;simp only at z;obtain⟨z0,z1,_,_,z4⟩:=z;have zx:w5.cell? ⟨bx,0,none⟩=some (.pointer (some ⟨b,0,none⟩)):=aa X6.out 0;have lb:b<w5.heap.size:=ak P6.out.own;have lx:bx<w5.heap.size:=ak X6.out;have fb0:∀ xq,(w5.ext xq).frozen? ⟨b,0,none⟩=false:=fun xq=>ae (ab (aD w5 xq) P6.out.own id) _ rfl;have KH:(iN [k]).length<=600:=auI (Dy k) (by omega);have hul:=Hu.out;have yq:=Ht.out;obtain⟨one,Ce⟩:∃ one,iN [k]=one:=⟨_,rfl⟩
  rw[Ce]at KH ⊢;have O1:=hd0 (fun W=>lT p.used one W (by omega) (by omega));have O2:=hd0 (fun W=>lT p.taken one W (by omega) (by omega));have Jr:=hd0 Ce;clear Ce;go_wp2_with fail;have Pb:=hd0 P6.out.own;have d1:∀ xq,(w5.ext xq).cell? ⟨bx,0,none⟩=some (.pointer (some ⟨b,0,none⟩)):=fun xq=>aa (ab (aD w5 xq) X6.out id) 0;refine kQ 2 14 100 (fun w'=>∃ x,w'=w5.ext x) (fun w'=>w'.cell? ⟨bx,0,none⟩=some (.pointer (some ⟨b,0,none⟩))) (fun _=>True) (by kernel_rfl) (by kernel_rfl) (by decide) (fun _ o _ _ _ h=>by cases o<;>exact h) (hZ ((ah.refl _ w5).drawn _)) (by rintro _ ⟨x,rfl⟩;exact⟨d1 x,trivial⟩) ?_;simp only[avz,avA,avB,avC]
  iterate 2 (refine oR (fun L hL=>?_);go_simp;(first|refine hL _ ?_|refine⟨_,fun _ _=>rfl,hL _ ?_⟩|refine⟨_,fun W hW=>by simp only[hW];rfl,hL _ ?_⟩);clear hL L)
  refine qK ?_
  repeat (quiet_step (first|with_reducible exact bA (O1.out _)|with_reducible exact bA (O2.out _)))
  refine avE ?_;intro _ cL;obtain⟨xq,rfl⟩:=cL;have Wk:=aD w5 xq;have B5:=ab Wk Pb.out id;have bxn:bx≠b:=rt;have e1:=d1 xq;obtain⟨W5,BZ⟩:∃ W5,w5.ext xq=W5:=⟨_,rfl⟩
  rw[BZ]at B5 e1 Wk ⊢;have Cs:Hid (ah (fun g=>g=b) W0 W5):=hd0 (M6.out.keep Wk);have X5:=hd0 (BZ▸ab (aD w5 xq) X6.out id:World.blk W5 bx #[.pointer (some ⟨b,0,none⟩)] 200);clear BZ d1 O1 O2 z0 z1 z4 zx lb lx fb0 Wk;obtain⟨U,hU⟩:∃ U,eG p.used one=U:=⟨_,rfl⟩
  obtain⟨T,hT⟩:∃ T,eG p.taken one=T:=⟨_,rfl⟩
  rw[hU,hT];have HU:=hd0 hU;have HT:=hd0 hT;have B6:=ag B5 0 (.string ⟨U.toArray⟩);have m6:ah (fun g=>g=b) W5 (W5.setCell ⟨b,0,none⟩ (.string ⟨U.toArray⟩)):=(ah.refl (fun g=>g=b) W5).setCell (p:=⟨b,0,none⟩) (.inl rfl) _;have a0:W5.cell? ⟨b,0,none⟩=some (.string ⟨p.used.toArray⟩):=aa B5 0;have a0f:=ae B5 ⟨b,0,none⟩ rfl;obtain⟨W6,T2⟩:∃ W6,W5.setCell ⟨b,0,none⟩ (.string ⟨U.toArray⟩)=W6:=⟨_,rfl⟩
  rw[T2]at B6 m6;have X6':=ab m6 X5.out rt;have e6:W6.cell? ⟨bx,0,none⟩=some (.pointer (some ⟨b,0,none⟩)):=aa X6' 0;have a1:W6.cell? ⟨b,1,none⟩=some (.string ⟨p.taken.toArray⟩):=aa B6 1;have a1f:=ae B6 ⟨b,1,none⟩ rfl;have B7:=ag B6 1 (.string ⟨T.toArray⟩);have m7:ah (fun g=>g=b) W6 (W6.setCell ⟨b,1,none⟩ (.string ⟨T.toArray⟩)):=(ah.refl (fun g=>g=b) W6).setCell (p:=⟨b,1,none⟩) (.inl rfl) _;obtain⟨W7,WO⟩:∃ W7,W6.setCell ⟨b,1,none⟩ (.string ⟨T.toArray⟩)=W7:=⟨_,rfl⟩
  rw[WO]at B7 m7;have X7':=ab m7 X6' rt;have e7:W7.cell? ⟨bx,0,none⟩=some (.pointer (some ⟨b,0,none⟩)):=aa X7' 0;have a4:W7.cell? ⟨b,4,none⟩=some (.int .i64 (p.left:Int)):=aa B7 4;have a4f:=ae B7 ⟨b,4,none⟩ rfl;have B8:=hd0 (ag B7 4 (.int .i64 ((p.left:Int)-1)));have m8:ah (fun g=>g=b) W7 (W7.setCell ⟨b,4,none⟩ (.int .i64 ((p.left:Int)-1))):=(ah.refl (fun g=>g=b) W7).setCell (p:=⟨b,4,none⟩) (.inl rfl) _;have HM8:=hd0 (((Cs.out.trans m6 (fun _ _ h=>h)).trans m7 (fun _ _ h=>h)).trans m8 (fun _ _ h=>h));have hpw:p.left<=5000:=by omega
  clear B5 B6 B7 m6 m7 m8 X6' X7' hU hT bxn Q1 Q2 Q3 HP;refine⟨⟨e1,.inr trivial⟩,?_⟩;go_wp2_with fail;refine⟨⟨e1,.inr trivial⟩,?_⟩;go_wp2_with fail;refine⟨⟨e1,.inr trivial⟩,?_⟩;go_wp2_with fail;refine⟨⟨e6,.inr trivial⟩,?_⟩;go_wp2_with fail;refine⟨⟨e6,.inr trivial⟩,?_⟩;go_wp2_with fail;refine⟨⟨e6,.inr trivial⟩,?_⟩;go_wp2_with fail;refine⟨⟨e7,.inr trivial⟩,?_⟩;clear e1 e6 a0 a0f a1 a1f T2 WO;go_wp2;go_ret2;have hBk:(p.seek:Int)=(k:Int):=by rw[Hk.out]
  refine⟨by rw[hBk];rfl,⟨?_,Ow.out,?_,?_⟩,((dF.out.mono (T:=fun g=>g=b) (fun _ _ h=>h.elim)).trans HM8.out (fun _ _ h=>h))⟩
  ·have e:qR p.took=#[.string ⟨U.toArray⟩,.string ⟨T.toArray⟩,.int .i64 (p.blocks:Int),.int .i64 ((p.seek+1:Nat):Int),.int .i64 ((p.left:Int)-1)]:=by
    have h1:((p.left-1:Nat):Int)=(p.left:Int)-1:=by have:=Hl.out;omega
    unfold qR Pl.took;simp only[h1];rw[Hk.out,Jr.out,HU.out,HT.out]
   rw[e];exact B8.out
  ·show(eG p.used (iN [p.seek])).length<=600;have:=lS p.used (iN [p.seek]);have h2:(iN [p.seek]).length<=600:=by rw[Hk.out,Jr.out];exact KH
   omega
  ·show(eG p.taken (iN [p.seek])).length<=600;have:=lS p.taken (iN [p.seek]);have h2:(iN [p.seek]).length<=600:=by rw[Hk.out,Jr.out];exact KH
   omega
 ·rw[g1]at e1 ⊢;simp only at e1;have e1':W0.drewN nq=w1:=e1.symm;have hd:=H0.out.mod RS id;have nk:=ab RS Wi.out id;rw[e1']at hd nk;have S2:=hd0 (DD hd nk 1 p.blocks (by omega) (by have:=FN.out.most;omega));have y2:=(iE hd).2.2.1;have yx:w1.cell? ⟨bx,0,none⟩=some (.pointer (some ⟨b,0,none⟩)):=aa nk 0;rw[e1']at Key;clear x0 d0 d1 d2 d3 d4 hd nk e1 S1;go_wp2_with fail;refine S2.out.mono ?_;rintro e w2 ⟨rfl,e2⟩;rw[g3]at e2 ⊢;simp only at e2;have en:((n+1:Nat):Int)=((p.seek+1:Nat):Int):=by rw[g2]
  rw[en]at e2;clear y2 yx S2;obtain⟨q1,q2,q3⟩:=Key.out w2 e2;have Q1:=hd0 q1;have Q2:=hd0 q2;have Q3:=hd0 q3;clear q1 q2 q3 e2 en g1 g2 g3 Key RS e1';have y3:=(iE Q1.out).2.2.2.1;have y0:w2.cell? ⟨bx,0,none⟩=some (.pointer (some ⟨b,0,none⟩)):=aa Q2.out 0;have za:(p.seek:Int)<=4096:=by have:=Ow.out.hi;have:=FN.out.most;have e:p.took.next=p.seek+1:=rfl;have e2:p.took.blocks=p.blocks:=rfl;omega
  have es:((p.seek+1:Nat):Int)=(p.seek:Int)+1:=by omega
  simp only[es]at y3;obtain⟨k,hk⟩:∃ k,p.seek=k:=⟨_,rfl⟩
  have OF:=hd0 (fun W v (hv:eI W v (qj [k]))=>Be [k] v W hv (by simp) (by simp;omega));have Hk:=hd0 hk;rw[hk]at y3 za;go_wp2_with fail;have co:eI (w2.alloc (.cells #[.int .i64 (k:Int)] 3)) (.slice (some ⟨w2.heap.size,0,none⟩) 1 1) (qj [k]):=AW 1 (aw w2 #[.int .i64 (k:Int)] 3);refine(OF.out _ _ co).mono ?_;rintro e w5 ⟨rfl,mt⟩;have rD:af w2 w5:=((ah.refl (fun _=>False) _).alloc _).keep mt;have P6:=hd0 (Q1.out.mod rD id);have X6:=hd0 (ab rD Q2.out id);have M6:=hd0 (Q3.out.keep rD);clear co mt rD y3 y0 OF;have z:=iE P6.out;simp only at z;obtain⟨z0,z1,_,_,z4⟩:=z;have zx:w5.cell? ⟨bx,0,none⟩=some (.pointer (some ⟨b,0,none⟩)):=aa X6.out 0;have lb:b<w5.heap.size:=ak P6.out.own;have lx:bx<w5.heap.size:=ak X6.out;have fb0:∀ xq,(w5.ext xq).frozen? ⟨b,0,none⟩=false:=fun xq=>ae (ab (aD w5 xq) P6.out.own id) _ rfl;have KH:(iN [k]).length<=600:=auI (Dy k) (by omega);have hul:=Hu.out;have yq:=Ht.out;obtain⟨one,Ce⟩:∃ one,iN [k]=one:=⟨_,rfl⟩
  rw[Ce]at KH ⊢;have O1:=hd0 (fun W=>lT p.used one W (by omega) (by omega));have O2:=hd0 (fun W=>lT p.taken one W (by omega) (by omega));have Jr:=hd0 Ce;clear Ce;go_wp2_with fail;have Pb:=hd0 P6.out.own;have d1:∀ xq,(w5.ext xq).cell? ⟨bx,0,none⟩=some (.pointer (some ⟨b,0,none⟩)):=fun xq=>aa (ab (aD w5 xq) X6.out id) 0;refine kQ 2 14 100 (fun w'=>∃ x,w'=w5.ext x) (fun w'=>w'.cell? ⟨bx,0,none⟩=some (.pointer (some ⟨b,0,none⟩))) (fun _=>True) (by kernel_rfl) (by kernel_rfl) (by decide) (fun _ o _ _ _ h=>by cases o<;>exact h) (hZ ((ah.refl _ w5).drawn _)) (by rintro _ ⟨x,rfl⟩;exact⟨d1 x,trivial⟩) ?_;simp only[avz,avA,avB,avC]
  iterate 2 (refine oR (fun L hL=>?_);go_simp;(first|refine hL _ ?_|refine⟨_,fun _ _=>rfl,hL _ ?_⟩|refine⟨_,fun W hW=>by simp only[hW];rfl,hL _ ?_⟩);clear hL L)
  refine qK ?_
  repeat (quiet_step (first|with_reducible exact bA (O1.out _)|with_reducible exact bA (O2.out _)))
  refine avE ?_;intro _ cL;obtain⟨xq,rfl⟩:=cL;have Wk:=aD w5 xq;have B5:=ab Wk Pb.out id;have bxn:bx≠b:=rt;have e1:=d1 xq;obtain⟨W5,BZ⟩:∃ W5,w5.ext xq=W5:=⟨_,rfl⟩
  rw[BZ]at B5 e1 Wk ⊢;have Cs:Hid (ah (fun g=>g=b) W0 W5):=hd0 (M6.out.keep Wk);have X5:=hd0 (BZ▸ab (aD w5 xq) X6.out id:World.blk W5 bx #[.pointer (some ⟨b,0,none⟩)] 200);clear BZ d1 O1 O2 z0 z1 z4 zx lb lx fb0 Wk;obtain⟨U,hU⟩:∃ U,eG p.used one=U:=⟨_,rfl⟩
  obtain⟨T,hT⟩:∃ T,eG p.taken one=T:=⟨_,rfl⟩
  rw[hU,hT];have HU:=hd0 hU;have HT:=hd0 hT;have B6:=ag B5 0 (.string ⟨U.toArray⟩);have m6:ah (fun g=>g=b) W5 (W5.setCell ⟨b,0,none⟩ (.string ⟨U.toArray⟩)):=(ah.refl (fun g=>g=b) W5).setCell (p:=⟨b,0,none⟩) (.inl rfl) _;have a0:W5.cell? ⟨b,0,none⟩=some (.string ⟨p.used.toArray⟩):=aa B5 0;have a0f:=ae B5 ⟨b,0,none⟩ rfl;obtain⟨W6,T2⟩:∃ W6,W5.setCell ⟨b,0,none⟩ (.string ⟨U.toArray⟩)=W6:=⟨_,rfl⟩
  rw[T2]at B6 m6;have X6':=ab m6 X5.out rt;have e6:W6.cell? ⟨bx,0,none⟩=some (.pointer (some ⟨b,0,none⟩)):=aa X6' 0;have a1:W6.cell? ⟨b,1,none⟩=some (.string ⟨p.taken.toArray⟩):=aa B6 1;have a1f:=ae B6 ⟨b,1,none⟩ rfl;have B7:=ag B6 1 (.string ⟨T.toArray⟩);have m7:ah (fun g=>g=b) W6 (W6.setCell ⟨b,1,none⟩ (.string ⟨T.toArray⟩)):=(ah.refl (fun g=>g=b) W6).setCell (p:=⟨b,1,none⟩) (.inl rfl) _;obtain⟨W7,WO⟩:∃ W7,W6.setCell ⟨b,1,none⟩ (.string ⟨T.toArray⟩)=W7:=⟨_,rfl⟩
  rw[WO]at B7 m7;have X7':=ab m7 X6' rt;have e7:W7.cell? ⟨bx,0,none⟩=some (.pointer (some ⟨b,0,none⟩)):=aa X7' 0;have a4:W7.cell? ⟨b,4,none⟩=some (.int .i64 (p.left:Int)):=aa B7 4;have a4f:=ae B7 ⟨b,4,none⟩ rfl;have B8:=hd0 (ag B7 4 (.int .i64 ((p.left:Int)-1)));have m8:ah (fun g=>g=b) W7 (W7.setCell ⟨b,4,none⟩ (.int .i64 ((p.left:Int)-1))):=(ah.refl (fun g=>g=b) W7).setCell (p:=⟨b,4,none⟩) (.inl rfl) _;have HM8:=hd0 (((Cs.out.trans m6 (fun _ _ h=>h)).trans m7 (fun _ _ h=>h)).trans m8 (fun _ _ h=>h));have hpw:p.left<=5000:=by omega
  clear B5 B6 B7 m6 m7 m8 X6' X7' hU hT bxn Q1 Q2 Q3 HP;refine⟨⟨e1,.inr trivial⟩,?_⟩;go_wp2_with fail;refine⟨⟨e1,.inr trivial⟩,?_⟩;go_wp2_with fail;refine⟨⟨e1,.inr trivial⟩,?_⟩;go_wp2_with fail;refine⟨⟨e6,.inr trivial⟩,?_⟩;go_wp2_with fail;refine⟨⟨e6,.inr trivial⟩,?_⟩;go_wp2_with fail;refine⟨⟨e6,.inr trivial⟩,?_⟩;go_wp2_with fail;refine⟨⟨e7,.inr trivial⟩,?_⟩;clear e1 e6 a0 a0f a1 a1f T2 WO;go_wp2;go_ret2;have hBk:(p.seek:Int)=(k:Int):=by rw[Hk.out]
  refine⟨by rw[hBk];rfl,⟨?_,Ow.out,?_,?_⟩,((dF.out.mono (T:=fun g=>g=b) (fun _ _ h=>h.elim)).trans HM8.out (fun _ _ h=>h))⟩
  ·have e:qR p.took=#[.string ⟨U.toArray⟩,.string ⟨T.toArray⟩,.int .i64 (p.blocks:Int),.int .i64 ((p.seek+1:Nat):Int),.int .i64 ((p.left:Int)-1)]:=by
    have h1:((p.left-1:Nat):Int)=(p.left:Int)-1:=by have:=Hl.out;omega
    unfold qR Pl.took;simp only[h1];rw[Hk.out,Jr.out,HU.out,HT.out]
   rw[e];exact B8.out
  ·show(eG p.used (iN [p.seek])).length<=600;have:=lS p.used (iN [p.seek]);have h2:(iN [p.seek]).length<=600:=by rw[Hk.out,Jr.out];exact KH
   omega
  ·show(eG p.taken (iN [p.seek])).length<=600;have:=lS p.taken (iN [p.seek]);have h2:(iN [p.seek]).length<=600:=by rw[Hk.out,Jr.out];exact KH
   omega
end
section
open Go.RowKit Go.Shelf
attribute [local go_sem] auG
structure z8 (ty:TypeId)(rv:Value)(fr fw:FuncId)(I:Rd->World->(Nat->Prop)->Prop)(blocks:Nat):Prop where
 src:∀ rd,qq ty rv fr (I rd) rd
 methW:∀ W,(method 583 ty rv "Write").run prog W=.ok (fw,rv) W
 callW:∀(x y:Value) (W:World),(callFunc fw #[rv,x,y]).run prog W=.ok (.enter fw #[rv,x,y]) W
 write:∀ {rd:Rd} {w:World} {F:Nat->Prop} {n:Nat} {p:ay},I rd w F->1<=n->n<blocks->p.length<=240->Calls prog fw #[rv,.int .i64 (n:Int),.string ⟨p.toArray⟩] w fun e w'=>e=.returned (.int .i64 0)/\∃ F',I (l8 rd n p) w' F'/\ec F F' w w'
theorem nH {ty:TypeId}{rv:Value}{fr fw:FuncId}{I:Rd->World->(Nat->Prop)->Prop}{blocks:Nat}(S:z8 ty rv fr fw I blocks){rd:Rd}{w:World}{F:Nat->Prop}{pb:Nat}{p:Pl}(hI:I rd w F)(hp:jT w pb p)(hF:¬ F pb)(hb:p.blocks=blocks)(hl:0<p.left)(s:ay)(hs:s.length<=240):
  Calls prog 269 #[.iface ty rv,.pointer (some ⟨pb,0,none⟩),.string ⟨s.toArray⟩] w fun e w'=>e=.returned (.tuple #[.int .i64 (p.seek:Int),.int .i64 0])/\∃ F',I (l8 rd p.seek s) w' F'/\jT w' pb p.took/\(∀ g,F' g->F g\/w.heap.size<=g)/\¬ F' pb/\ah (fun g=>F g\/g=pb) w w':=by
 obtain⟨k1,k2,_⟩:=pS hp.ok hl;have T:=hd0 (z7 hp hl);have HS:=hd0 S;have HI:=hd0 hI;have HF:=hd0 hF;have j8:=hd0 (ak hp.own);have XN:=S.methW;have da:=S.callW;have Tb:p.seek<blocks:=by rw[<-hb];exact k2
 clear hp hI hF;go_enter func269,ntmps269;go_wp2_with fail;refine T.out.mono ?_;rintro e w1 ⟨rfl,BR,m1⟩;have NL:=(HS.out.src rd).same HI.out (m1.on fun g hg e=>HF.out (e▸hg)) m1.size;have BX:=hd0 BR;have yD:=hd0 m1;have Wr:=hd0 (HS.out.write NL k1 Tb hs);clear BR m1 NL T;go_wp2_with fail;refine Wr.out.mono ?_;rintro e w2 ⟨rfl,F2,hI2,df⟩;have OU:=hd0 hI2;have bw:=hd0 df;clear hI2 df Wr;go_wp2;go_ret2;exact⟨rfl,F2,OU.out,BX.out.mod bw.out.mod HF.out,fun g hg=>(bw.out.foot g hg).imp id (fun h=>auI yD.out.size h),fun hg=>(bw.out.foot pb hg).elim HF.out (fun h=>by have:=j8.out;have:=yD.out.size;omega),
  (yD.out.mono (fun _ _ e=>.inr e)).trans bw.out.mod (fun _ _ h=>.inl h)⟩
structure DU (w:World)(nb:Nat)(rows:List Value)(N:Nat->List Int):Prop where
 nums:World.blk w nb rows.toArray 46
 row:∀ l v,rows[l]?=some v->aI w 0 v (N l)
def Qj (nb:Nat)(rows:List Value)(g:Nat):Prop:=g=nb\/∃(l:Nat) (v:Value),rows[l]?=some v/\v.ownBlock=some g
theorem DU.same {w w':World}{nb:Nat}{rows:List Value}{N:Nat->List Int}(h:DU w nb rows N)(m:fG (Qj nb rows) w w'):DU w' nb rows N where
 nums:=(m nb (.inl rfl) (ak h.nums)).trans h.nums
 row l v hv:=aA (h.row l v hv) fun g hg=>m g (.inr ⟨l,v,hv,hg⟩) (aU (h.row l v hv) hg)
theorem DU.lt {w:World}{nb:Nat}{rows:List Value}{N:Nat->List Int}(h:DU w nb rows N){g:Nat}(hg:Qj nb rows g):g<w.heap.size:=by
 rcases hg with rfl|⟨l,v,hv,hg⟩
 ·exact ak h.nums
 ·exact aU (h.row l v hv) hg
structure le (I:Rd->World->(Nat->Prop)->Prop)(blocks pb B:Nat)(w:World)(F:Nat->Prop)(t:gJ)(v:Value)(L:List Int):Prop where
 src:I t.rd w F
 pool:jT w pb t.pool
 blocks:t.pool.blocks=blocks
 npb:¬ F pb
 row:aI w B v L
 away:∀ g,v.ownBlock=some g->¬ F g/\g≠pb
 B:B<=w.heap.size
structure du (F F':Nat->Prop)(pb B:Nat)(w w':World):Prop where
 mod:ah (fun g=>F g\/g=pb\/B<=g) w w'
 foot:∀ g,F' g->F g\/w.heap.size<=g
theorem du.refl (F:Nat->Prop)(pb B:Nat)(w:World):du F F pb B w w:=⟨ah.refl _ _,fun _ h=>.inl h⟩
theorem du.trans {F F1 F2:Nat->Prop}{pb B:Nat}{w w1 w2:World}(h:du F F1 pb B w w1)(k:du F1 F2 pb B w1 w2)(_hB:B<=w.heap.size):du F F2 pb B w w2 where
 mod:=h.mod.trans k.mod fun g hg hh=>by
  rcases hh with hh|hh|hh
  ·exact(h.foot g hh).elim .inl (fun h2=>by omega)
  ·exact .inr (.inl hh)
  ·exact .inr (.inr hh)
 foot g hg:=(k.foot g hg).elim (h.foot g) (fun h2=>.inr (auI h.mod.size h2))
theorem le.append {ty:TypeId}{rv:Value}{fr fw:FuncId}{I:Rd->World->(Nat->Prop)->Prop}{blocks pb B:Nat}(S:z8 ty rv fr fw I blocks){w:World}{F:Nat->Prop}{t:gJ}{v:Value}{L:List Int}(h:le I blocks pb B w F t v L)(hL:L.length<=100000)(x:Int):
  ∃ g cap w',(Builtin.append_ #[46,46] 46 #[v,.slice (some ⟨w.heap.size,0,none⟩) 1 1]).run prog (w.alloc (.cells #[.int .i64 x] 3))=.ok (.slice (some ⟨g,0,none⟩) (L.length+1) cap) w'/\le I blocks pb B w' F t (.slice (some ⟨g,0,none⟩) (L.length+1) cap) (L++[x])/\du F F pb B w w':=by
 obtain⟨v',w',r,own,m,at',g,cap,rfl⟩:=ic (P:=prog) underlying46 ib rfl (by decide) B v _ _ w h.row [.int .i64 x] rfl (by simp[Value.oneCell']) (by unfold maxLen;show L.length+1<=_;omega) (by show(L.length+1)*8<=_;omega) h.B;have mY:=ak h.pool.own;refine⟨g,cap,w',r,⟨(S.src t.rd).same h.src (m.on fun g hg hv=>(h.away g hv).1 hg) m.size,h.pool.mod m (fun hv=>(h.away pb hv).2 rfl),h.blocks,h.npb,iW own,fun g' hg'=>?_,auI h.B m.size⟩,⟨m.mono fun g' _ hv=>.inr (.inr (h.row.lt g' hv).1),fun _ h=>.inl h⟩⟩;rcases at' with e|⟨k,e,hk⟩
 ·exact h.away g' (e▸hg')
 ·rw[hg']at e
  cases e
  exact⟨fun hf=>by have:=(S.src t.rd).lt h.src g' hf;omega,by omega⟩
theorem du.down {F F1:Nat->Prop}{pb B B':Nat}{w w1:World}(h:du F F1 pb B w w1)(hB:B'<=B):du F F1 pb B' w w1:=⟨h.mod.mono fun _g _ hh=>hh.imp id (fun h=>h.imp id (fun h=>auI hB h)),h.foot⟩
theorem Aa {stay:Nat->Option Int}{s:Nat->ay}{f i:Nat}{t t':gJ}{L:List Int}(h:iw stay s (f+1) i t=.ok (L,t')):(∃ n L',stay i=some n/\iw stay s f (i+1) t=.ok (L',t')/\L=n::L')\/(stay i=none/\0<t.pool.left/\∃ L',iw stay s f (i+1) ⟨l8 t.rd t.pool.seek (s i),t.pool.took⟩=.ok (L',t')/\L=(t.pool.seek:Int)::L'):=by
 unfold iw at h
 cases hs:stay i with
 |some n=>
  rw[hs]at h;simp only at h
  cases hl:iw stay s f (i+1) t with
  |error e=>rw[hl]at h;cases h
  |ok x=>
   rw[hl]at h;simp only[Except.map]at h;injection h with h;injection h with h1 h2;subst h2;exact .inl ⟨n,x.1,rfl,rfl,h1.symm⟩
 |none=>
  rw[hs]at h;simp only at h;by_cases hl:t.pool.left=0
  ·have:t.pool.take=.error 101:=by unfold Pl.take;rw[auT hl]
   rw[this]at h;cases h
  ·rw[tq (by omega)]at h;simp only at h
   cases hq:iw stay s f (i+1) ⟨l8 t.rd t.pool.seek (s i),t.pool.took⟩with
   |error e=>rw[hq]at h;cases h
   |ok x=>
    rw[hq]at h;simp only[Except.map]at h;injection h with h;injection h with h1 h2;subst h2;exact .inr ⟨rfl,by omega,x.1,rfl,h1.symm⟩
theorem DV {stay:Nat->Option Int}{s:Nat->ay}{i:Nat}{t t':gJ}{L:List Int}(h:iw stay s 0 i t=.ok (L,t')):L=[]/\t=t':=by
 unfold iw at h;injection h with h;injection h with h1 h2;exact⟨h1.symm,h2⟩
theorem le.keep {ty:TypeId}{rv:Value}{fr fw:FuncId}{I:Rd->World->(Nat->Prop)->Prop}{blocks pb B:Nat}(S:z8 ty rv fr fw I blocks){w w':World}{F:Nat->Prop}{t:gJ}{v:Value}{L:List Int}(h:le I blocks pb B w F t v L)(k:af w w'):le I blocks pb B w' F t v L:=
 ⟨(S.src t.rd).same h.src (k.on fun _ _=>id) k.size,h.pool.mod k id,h.blocks,h.npb,iB h.row k,h.away,auI h.B k.size⟩
theorem du.keep {F F1:Nat->Prop}{pb B:Nat}{w w1 w2:World}(h:du F F1 pb B w w1)(k:af w1 w2):du F F1 pb B w w2:=⟨h.mod.keep k,h.foot⟩
theorem le.put {ty:TypeId}{rv:Value}{fr fw:FuncId}{I:Rd->World->(Nat->Prop)->Prop}{blocks pb B:Nat}(_S:z8 ty rv fr fw I blocks){w w':World}{F F':Nat->Prop}{t:gJ}{v:Value}{L:List Int}(h:le I blocks pb B w F t v L){s:ay}
  (hI:I (l8 t.rd t.pool.seek s) w' F') (hp:jT w' pb t.pool.took) (hf:∀ g,F' g->F g\/w.heap.size<=g) (hn:¬ F' pb) (m:ah (fun g=>F g\/g=pb) w w'):le I blocks pb B w' F' ⟨l8 t.rd t.pool.seek s,t.pool.took⟩ v L/\du F F' pb B w w':=
 ⟨⟨hI,hp,h.blocks,hn,aA h.row fun g hg=>m.block g (aU h.row hg) (fun hh=>hh.elim (h.away g hg).1 (h.away g hg).2),fun g hg=>⟨fun hf'=>(hf g hf').elim (h.away g hg).1 (fun h2=>by have:=aU h.row hg;omega),(h.away g hg).2⟩,auI h.B m.size⟩,
  ⟨m.mono fun g _ hh=>hh.elim .inl (fun h=>.inr (.inl h)),hf⟩⟩
end
end Go.Proofs.YtkghpdcloaiflaaGreatDoor
