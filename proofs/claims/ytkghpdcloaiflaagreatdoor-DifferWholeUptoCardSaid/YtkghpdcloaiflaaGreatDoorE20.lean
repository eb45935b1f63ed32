import Derived.Test.YtkghpdcloaiflaaGreatDoorE19
set_option maxHeartbeats 4000000
set_option maxRecDepth 100000
namespace Go.Proofs.YtkghpdcloaiflaaGreatDoor
open _root_.Go.Proofs.Tryz
section
open Go.RowKit Go.Shelf
attribute [local go_sem] auv
theorem H5:(prog.info? 46).map (fun i=>(i.zero,i.size,i.bytes))=some (some (.slice none 0 0),1,24):=by kernel_rfl
theorem yL (r:Nat)(hr:r<=100000)(W:World):
  (Instr.makeSlice 300 (.int .i64 r) (.int .i64 r)).run prog W=.ok (.slice (some ⟨W.heap.size,0,none⟩) r r) (W.alloc (.cells (Array.replicate r (Value.slice none 0 0)) 46)):=by
 obtain⟨i0,hi,nX,mZ,oH⟩:=auO H5;have h:=run_make (P:=prog) W 300 46 i0 (.slice none 0 0) underlying300 hi nX .i64 .i64 (r:Int) (r:Int) (by omega) (Int.le_refl _) (by rw[oH];omega) (by omega)
 rwa [avc,mZ,Nat.mul_one,rK _ rfl]at h
def dd (b:fP):Value:=.agg #[.int .i64 b.root,.int .i64 b.size]
def J1 (nb:Nat)(lv:Value)(L:List Nat)(size b:Nat):On:=
 ⟨nb,List.replicate L.length (.slice none 0 0),.slice none 0 0,.pointer none,.slice none 0 0,lv,L.length,fun _=>[],[],[],size,fun j=>L.getD j 0,fun g=>if g=b then .walk else if g=nb then .nums else if lv.ownBlock=some g then .below else .none⟩
theorem YP {w:World}{b nb:Nat}{iv:Value}{ch:Bool}{lv:Value}{L:List Nat}{size:Nat}(own:World.blk w b (ke iv (.bool ch) (.slice (some ⟨nb,0,none⟩) L.length L.length) (.slice none 0 0) (.pointer none) (.slice none 0 0) (.int .i64 (size:Int)) lv) 302)
  (nums:World.blk w nb (Array.replicate L.length (Value.slice none 0 0)) 46) (below:aN w 0 lv (gy L)) (dW:nb≠b) (h1:∀ g,lv.ownBlock=some g->g≠b/\g≠nb):un w b iv ch (J1 nb lv L size b) where
 own:=own
 nums:=by
  have e:Array.replicate L.length (Value.slice none 0 0)=(List.replicate L.length (Value.slice none 0 0)).toArray:=by simp
  rw[e]at nums;exact nums
 rlen:=by simp[J1]
 row l v hv:=by
  simp only[J1,List.getElem?_replicate]at hv;split at hv
  ·injection hv with hv;subst hv;exact⟨rfl,.inl ⟨rfl,rfl⟩⟩
  ·cases hv
 order:=⟨rfl,.inl ⟨rfl,rfl⟩⟩
 data:=.inl ⟨rfl,rfl,rfl⟩
 below:=by
  have e:(List.range L.length).map (fun j=>L.getD j 0)=L:=by
   apply List.ext_getElem
   ·simp
   ·intro i h1 h2;simp[h2]
  show aN w 0 lv (gy ((List.range L.length).map fun j=>L.getD j 0));rw[e];exact below
 rb:=by simp[J1]
 rnb:=by simp[J1,dW]
 rrow l v g hv hg:=by
  simp only[J1,List.getElem?_replicate]at hv;split at hv
  ·injection hv with hv;subst hv;cases hg
  ·cases hv
 rorder g hg:=by cases hg
 rdata g hg:=by cases hg
 rbelow g hg:=by
  obtain⟨a1,a2⟩:=h1 g hg;have hg':lv.ownBlock=some g:=hg;simp[J1,a1,a2,hg']
 lt g hg:=by
  simp only[J1]at hg;split at hg
  ·rename_i e;subst e;exact ai own
  ·split at hg
   ·rename_i e;subst e;exact ai nums
   ·split at hg
    ·rename_i e;exact aT below e
    ·exact absurd rfl hg
def pj (w:World)(iv:Value)(ch:Bool)(I:World->(Nat->Prop)->Prop)(F:Nat->Prop)(n:Nat)(o:ry)(e:Ending)(w':World):Prop:=
 ∃ b s' F',e=.returned (.tuple #[.pointer (some ⟨b,0,none⟩),.int .i64 0])/\I w' F'/\un w' b iv ch s'/\s'.n=n/\(∀ l,s'.N l=bK o.1 l)/\s'.O=dP o.1/\s'.D=o.2/\(∀ g,s'.role g≠.none->w.heap.size<=g)/\(∀ g,F' g->F g\/w.heap.size<=g)/\(∀ g,s'.role g≠.none->¬ F' g)/\ah F w w'
theorem uo {ty:TypeId}{rv:Value}{f:FuncId}{I:World->(Nat->Prop)->Prop}{rd:Rd}(S:qr ty rv f I rd){w:World}{F:Nat->Prop}(hI:I w F)(bl:fP)(ch:Bool)(hm:bl.may=true)(o:ry)(ho:ei rd bl ch=.ok o):
  Calls prog 224 #[.iface ty rv,dd bl,.bool ch] w (pj w (.iface ty rv) ch I F (au bl.size.toNat).length o):=by
 obtain⟨root,sz⟩:=bl;have Jy:0<=sz/\sz<=16384/\(root=0↔sz=0):=by
  unfold fP.may at hm;simp only[auT,auY,ave]at hm;exact⟨hm.1.1,hm.1.2,by simpa using hm.2⟩
 obtain⟨size,rfl⟩:=Int.eq_ofNat_of_zero_le Jy.1;have cK:size<=16384:=by omega
 have hsi:(size:Int)<=16384:=by omega
 obtain⟨bz,Vz⟩:∃ bz,((size:Int)==0)=bz:=⟨_,rfl⟩
 have hbr:(root==0)=bz:=by
  rw[<-Vz,avh];simp only[ave];exact Jy.2.2
 have TO:(bz != bz)=false:=by simp
 have HS:=hd0 S;have HI:=hd0 hI;have Ho:=hd0 ho;have NS:=hd0 Jy;have dE:af w (w.alloc (.cells #[.int .i64 root,.int .i64 (size:Int)] 42)):=(ah.refl _ w).alloc _;have iM:World.blk (w.alloc (.cells #[.int .i64 root,.int .i64 (size:Int)] 42)) w.heap.size #[.int .i64 root,.int .i64 (size:Int)] 42:=aw _ _ _;obtain⟨W0,rA⟩:∃ W0,w.alloc (.cells #[.int .i64 root,.int .i64 (size:Int)] 42)=W0:=⟨_,rfl⟩
 obtain⟨bb,afE⟩:∃ bb,w.heap.size=bb:=⟨_,rfl⟩
 rw[rA]at dE iM;rw[afE]at iM;have c0:W0.cell? ⟨bb,0,none⟩=some (.int .i64 root):=aa iM 0;have c1:W0.cell? ⟨bb,1,none⟩=some (.int .i64 (size:Int)):=aa iM 1;have LV:=hd0 (qU size W0 cK);have Hsz:=hd0 cK;have dO:=hd0 dE;have nU:=hd0 iM;have R2:=hd0 (rZ size);clear hm Jy hI ho dE iM cK;unfold dd;go_enter func224,ntmps224;go_wp2_with fail;refine LV.out.mono ?_;rintro e w1 ⟨lv,rfl,Tf,hk1⟩;have jp:=hd0 (ab hk1 nU.out id);have HO1:=hd0 Tf;have bU:=hd0 (dO.out.keep hk1);have d1:w1.cell? ⟨bb,1,none⟩=some (.int .i64 (size:Int)):=aa jp.out 1;obtain⟨a1,yu,e1,_⟩:=bd Tf;obtain⟨L,hL⟩:∃ L,au size=L:=⟨_,rfl⟩
 have e1':lv=.slice a1 L.length yu:=by rw[e1];simp[bo,gy,hL]
 rw[hL]at HO1 R2;have HL:=hd0 hL;have oz:=yL L.length (by have:=R2.out;omega);have Kt:(L.length:Int)<=3:=by have:=R2.out;omega
 have aix:bb<w1.heap.size:=ai jp.out;subst e1';clear LV Tf hk1 rA afE c0 c1 e1 hL;go_wp2_with fail
 go_region
 obtain⟨nb,Cd⟩:∃ nb,w1.heap.size=nb:=⟨_,rfl⟩
 have m5:af w1 (((w1.alloc (.cells (Array.replicate L.length (Value.slice none 0 0)) 46)).alloc (.cells #[.iface ty rv,.bool ch,.slice (some ⟨w1.heap.size,0,none⟩) L.length L.length,.slice none 0 0,.pointer none,.slice none 0 0,.int .i64 (size:Int),.slice a1 L.length yu] 302)).drew):=(((ah.refl _ w1).alloc _).alloc _).drew;have n5:World.blk (((w1.alloc (.cells (Array.replicate L.length (Value.slice none 0 0)) 46)).alloc (.cells #[.iface ty rv,.bool ch,.slice (some ⟨w1.heap.size,0,none⟩) L.length L.length,.slice none 0 0,.pointer none,.slice none 0 0,.int .i64 (size:Int),.slice a1 L.length yu] 302)).drew) w1.heap.size (Array.replicate L.length (Value.slice none 0 0)) 46:=aH (aw w1 _ _) _;have o5:World.blk (((w1.alloc (.cells (Array.replicate L.length (Value.slice none 0 0)) 46)).alloc (.cells #[.iface ty rv,.bool ch,.slice (some ⟨w1.heap.size,0,none⟩) L.length L.length,.slice none 0 0,.pointer none,.slice none 0 0,.int .i64 (size:Int),.slice a1 L.length yu] 302)).drew) (w1.heap.size+1) (ke (.iface ty rv) (.bool ch) (.slice (some ⟨w1.heap.size,0,none⟩) L.length L.length) (.slice none 0 0) (.pointer none) (.slice none 0 0) (.int .i64 (size:Int)) (.slice a1 L.length yu)) 302:=ba (w:=w1.alloc _) (by simp) _ _;obtain⟨W5,Cc⟩:∃ W5,((w1.alloc (.cells (Array.replicate L.length (Value.slice none 0 0)) 46)).alloc (.cells #[.iface ty rv,.bool ch,.slice (some ⟨w1.heap.size,0,none⟩) L.length L.length,.slice none 0 0,.pointer none,.slice none 0 0,.int .i64 (size:Int),.slice a1 L.length yu] 302)).drew=W5:=⟨_,rfl⟩
 rw[Cc]at m5 n5 o5 ⊢;rw[Cd]at n5 o5 ⊢;have X5:un W5 (nb+1) (.iface ty rv) ch (J1 nb (.slice a1 L.length yu) L size (nb+1)):=YP o5 n5 (eX (iA HO1.out m5) (avk _)) (by omega) (fun g hg=>by have:=aT HO1.out hg;omega);have aot:w.heap.size<=W0.heap.size:=dO.out.size;have kq:∀ g,(J1 nb (.slice a1 L.length yu) L size (nb+1)).role g≠.none->w.heap.size<=g:=fun g hg=>by
  have Cl:w.heap.size<=nb:=by have:=bU.out.size;omega
  simp only[J1]at hg;split at hg
  ·omega
  ·split at hg
   ·omega
   ·split at hg
    ·rename_i e
     have:=(HO1.out.lt g e).1;omega
    ·exact absurd rfl hg
 have lZ:Hid (af w W5):=hd0 (bU.out.keep m5);have hI5:I W5 F:=HS.out.same HI.out (lZ.out.on fun _ _=>id) lZ.out.size;have aeR:∀ g,(J1 nb (.slice a1 L.length yu) L size (nb+1)).role g≠.none->¬ F g:=fun g hg hf=>by have:=kq g hg;have:=HS.out.lt HI.out g hf;omega
 have uP:=hd0 X5;have aa5:=hd0 kq;have HI5:=hd0 hI5;have aez:=hd0 aeR;have r0:W5.cell? ⟨bb,0,none⟩=some (.int .i64 root):=aa (ab m5 jp.out id) 0;clear X5 kq hI5 aeR m5 n5 o5 Cc oz d1 aix;by_cases hz:size=0
 ·have TA:L=[]:=by rw[<-HL.out,hz];rfl
  have RV:o=([],[]):=by
   have h:=Ho.out;unfold ei at h;rw[auK (by unfold fP.may;simp only[auT,auY,ave,Bool.not_eq_false];exact⟨⟨NS.out.1,NS.out.2.1⟩,by simpa using NS.out.2.2⟩),auI (by simp[hz])]at h;injection h with h;exact h.symm
  have tY:((L.length:Nat):Int)=0:=by rw[TA];rfl
  have Ho0:=hd0 RV;have HL0:=hd0 TA;clear TA RV hz;go_wp2;go_ret2;unfold pj;rw[Ho0.out];exact⟨nb+1,_,F,rfl,HI5.out,uP.out,by rw[avc,HL.out];rfl,fun l=>rfl,rfl,rfl,aa5.out,fun g hg=>.inl hg,aez.out,lZ.out.mono fun _ _ h=>h.elim⟩
 ·have SR:0<size:=by omega
  obtain⟨t1,t2⟩:=JT size SR Hsz.out;rw[HL.out]at t1 t2;have Jj:oc rd ch size (L.length-1) 0 root=.ok o:=by
   have h:=Ho.out;unfold ei at h;rw[auK (by unfold fP.may;simp only[auT,auY,ave,Bool.not_eq_false];exact⟨⟨NS.out.1,NS.out.2.1⟩,by simpa using NS.out.2.2⟩),auK (by show ¬((size:Int)=0);omega)]at h;simp only[avc]at h;rw[HL.out]at h;exact h
  have Kw:=xj _ _ _ _ Jj;have hp:60 ^ (L.length-1)<=3600:=by
   have h3:=R2.out;rcases(by omega:L.length-1=0\/L.length-1=1\/L.length-1=2)with e|e|e<;>rw[e]<;>decide
  have V:=hd0 (zY HS.out size Hsz.out (nb+1) ch (L.length-1) 0 root o W5 F _ HI5.out uP.out aez.out (by rw[HL.out];rfl) (by simp[J1]) (fun j hj=>by rw[HL.out];simp[J1]) (by rw[HL.out];omega) (by rw[HL.out,t2];omega) (by show 0+_<=_;omega) (fun k=>by show 0+_<=_;omega) (by show 0+_<=_;omega) Jj);have vw:((L.length-1:Nat):Int)=(L.length:Int)-1:=by have:=t1;omega
  rw[vw]at V;have hlz:(((L.length:Nat):Int)==0)=false:=by
   rw[avj];omega
  have hlp:(1:Int)<=(L.length:Int):=by omega
  clear Kw hp Jj t1 t2 hz;go_wp2_with fail;refine V.out.mono ?_;rintro e w7 ⟨rfl,s7,F7,V7⟩;have yv:=hd0 V7;clear V7 V;go_wp2;go_ret2;unfold pj;refine⟨nb+1,s7,F7,rfl,yv.out.src,yv.out.wk,by rw[yv.out.n,avc,HL.out];rfl,fun l=>by rw[yv.out.N];rfl,by rw[yv.out.O];rfl,by rw[yv.out.D];rfl,fun g hg=>?_,fun g hg=>?_,yv.out.apart,?_⟩
  ·exact(yv.out.grow.new g hg).elim (aa5.out g) (fun h=>aux lZ.out.size h)
  ·exact(yv.out.foot g hg).imp id (fun h=>aux lZ.out.size h)
  ·exact(lZ.out.mono (T:=F) (fun _ _ h=>h.elim)).trans yv.out.mod (fun g hg hh=>hh.elim (fun hr=>by have:=aa5.out g hr;omega) id)
theorem LZ {ty:TypeId}{rv:Value}{f:FuncId}{I:World->(Nat->Prop)->Prop}{rd:Rd}(S:qr ty rv f I rd){w:World}{F:Nat->Prop}(hI:I w F)(bl:fP)(hm:bl.may=true)(l:List Int)(hd:oM rd bl=.ok l):
  Calls prog 161 #[.iface ty rv,dd bl] w fun e w'=>∃ v,e=.returned (.tuple #[v,.int .i64 0])/\aN w' w.heap.size v l/\∃ F',I w' F'/\d6 F F' w w'/\(∀ g,v.ownBlock=some g->¬ F' g):=by
 obtain⟨o,ho,rfl⟩:∃ o,ei rd bl false=.ok o/\dP o.1=l:=by
  unfold oM at hd
  cases h:ei rd bl false with
  |error e=>rw[h]at hd;cases hd
  |ok o=>rw[h]at hd;exact⟨o,rfl,by injection hd⟩
 have dE:af w (w.alloc (.cells #[.int .i64 bl.root,.int .i64 bl.size] 42)):=(ah.refl _ w).alloc _;have T:=hd0 (uo S (S.same hI (dE.on fun _ _=>id) dE.size) bl false hm o ho);have dO:=hd0 dE;have HS:=hd0 S;clear hI hd ho dE;unfold dd at T ⊢;go_enter func161,ntmps161;go_wp2_with fail;refine T.out.mono ?_;rintro e w1 ⟨b,s1,F1,rfl,NR,TD,_,_,hO,_,kq,qx,nT,dh⟩;have c3:w1.cell? ⟨b,3,none⟩=some s1.ov:=aa TD.own 3;have HO:Hid (aN w1 w.heap.size s1.ov (dP o.1)):=hd0 (by
  have h:=TD.order;rw[hO]at h;obtain⟨h1,h2⟩:=h;refine⟨h1,h2.imp id ?_⟩;rintro⟨g,cap,dz,e,_,r⟩;exact⟨g,cap,dz,e,aux dO.out.size (kq g (by rw[TD.rorder g (by rw[e];rfl)];exact aE.noConfusion)),r⟩)
 have Hro:Hid (∀ g,s1.ov.ownBlock=some g->¬ F1 g):=hd0 (fun g hg=>nT g (by rw[TD.rorder g hg];exact aE.noConfusion));have Ym:=hd0 NR;have HM:=hd0 ((dO.out.mono (T:=F) (fun _ _ h=>h.elim)).trans dh (fun _ _ h=>h));have acX:Hid (∀ g,F1 g->F g\/w.heap.size<=g):=hd0 (fun g hg=>(qx g hg).imp id (fun h=>aux dO.out.size h));clear NR TD nT dh kq qx hO T;go_wp2;go_ret2;exact⟨s1.ov,rfl,HO.out,F1,Ym.out,⟨HM.out,acX.out⟩,Hro.out⟩
end
section
open Go.RowKit Go.Shelf
attribute [local go_sem] auv
theorem iF {w:World}{b:Nat}{p:Pl}(h:jR w b p):w.cell? ⟨b,0,none⟩=some (.string ⟨p.used.toArray⟩)/\w.cell? ⟨b,1,none⟩=some (.string ⟨p.taken.toArray⟩)/\w.cell? ⟨b,2,none⟩=some (.int .i64 (p.blocks:Int))/\w.cell? ⟨b,3,none⟩=some (.int .i64 (p.next:Int))/\w.cell? ⟨b,4,none⟩=some (.int .i64 (p.left:Int)):=
 ⟨aa h.own 0,aa h.own 1,aa h.own 2,aa h.own 3,aa h.own 4⟩
theorem H6 {p:Pl}(h:cH p)(hl:0<p.left):(∃ n,gl p.used p.next p.blocks=some n/\p.seek=n)\/(gl p.used p.next p.blocks=none/\∃ n,gl p.used 1 p.blocks=some n/\p.seek=n):=by
 cases h1:gl p.used p.next p.blocks with
 |some n=>exact .inl ⟨n,rfl,by simp[Pl.seek,h1]⟩
 |none=>
  right
  refine⟨rfl,?_⟩
  cases h2:gl p.used 1 p.blocks with
  |some n=>exact⟨n,rfl,by simp[Pl.seek,h1,h2]⟩
  |none=>
   exfalso;rw[h.left]at hl;obtain⟨n,n1,n2,n3⟩:=Dt hl;have:=vK h2 n n1 n2;rw[this]at n3;cases n3
def Pl.took (p:Pl):Pl:={ p with used:=eH p.used (iO [p.seek]),taken:=eH p.taken (iO [p.seek]),next:=p.seek+1,left:=p.left-1 }
theorem tB {p:Pl}(hl:0<p.left):p.take=.ok (p.seek,p.took):=by unfold Pl.take;rw[auK (by omega)];rfl
theorem UM {p:Pl}(h:cH p)(hl:0<p.left):cH p.took:=by
 obtain⟨n,p',h1,_,_,_,h2,_⟩:=vk h hl;rw[tB hl]at h1;injection h1 with h1;injection h1 with _ h1;rw[h1];exact h2
theorem zZ {w:World}{b:Nat}{p:Pl}(h:jR w b p)(hl:0<p.left):
  Calls prog 216 #[.pointer (some ⟨b,0,none⟩)] w fun e w'=>e=.returned (.tuple #[.int .i64 (p.seek:Int),.int .i64 0])/\jR w' b p.took/\ah (fun g=>g=b) w w':=by
 have HC:=hd0 (H6 h.ok hl);have OJ:=hd0 (UM h.ok hl);have Hu:=hd0 h.used;have Ht:=hd0 h.taken;have FY:=hd0 h.ok;have Hl:=hd0 hl;have dE:af w (w.alloc (.cells #[.pointer (some ⟨b,0,none⟩)] 200)):=(ah.refl _ w).alloc _;have h0:=h.mod dE id;have sX:World.blk (w.alloc (.cells #[.pointer (some ⟨b,0,none⟩)] 200)) w.heap.size #[.pointer (some ⟨b,0,none⟩)] 200:=aw _ _ _;have rp:w.heap.size≠b:=by have:=ai h.own;omega
 have E9:((p.left:Nat):Int)≠0:=by omega
 have hlb:((p.left:Nat):Int)<=5000:=by
  have:=h.ok.left;have:=h.ok.most;have:kX p.used p.blocks<=p.blocks:=aux (auM _ _) (by simp);omega
 have vw:(1:Int)<=((p.left:Nat):Int):=by omega
 have cc:=iF h;have RL:b<w.heap.size:=ai h.own;have dO:=hd0 dE;have H0:=hd0 h0;have Wk:=hd0 sX;clear h h0 sX dE hl;go_enter func216,ntmps216;obtain⟨W0,rA⟩:∃ W0,w.alloc (.cells #[.pointer (some ⟨b,0,none⟩)] 200)=W0:=⟨_,rfl⟩
 obtain⟨bx,afl⟩:∃ bx,w.heap.size=bx:=⟨_,rfl⟩
 rw[rA]at dO H0 Wk;rw[afl]at Wk rp;obtain⟨d0,d1,d2,d3,d4⟩:=iF H0.out;have x0:W0.cell? ⟨bx,0,none⟩=some (.pointer (some ⟨b,0,none⟩)):=aa Wk.out 0;clear cc;go_wp2_with fail;clear rA afl RL;have pH:(p.next:Int)<=5000:=by have:=FY.out.hi;have:=FY.out.most;omega
 have S1:=hd0 (fun m=>DD (H0.out.mod ((ah.refl (fun _=>False) W0).drewN m) id) (fQ Wk.out m) p.next p.blocks (by omega) (by have:=FY.out.most;omega));refine dD 9 (by kernel_rfl) (by kernel_rfl) ?_;simp only[avn,avo,avq,avr]
 repeat (quiet_step (fail))
 refine avt ?_;intro _ cf;obtain⟨nq,rfl⟩:=cf;go_wp2_with fail;refine(S1.out nq).mono ?_;rintro e w1 ⟨rfl,e1⟩;have Sz:af W0 (W0.drewN nq):=(ah.refl _ W0).drewN nq;have key:∀ w2:World,w2=(W0.drewN nq).setCell ⟨b,3,none⟩ (.int .i64 ((p.seek+1:Nat):Int))->jR w2 b { p with next:=p.seek+1 }/\World.blk w2 bx #[.pointer (some ⟨b,0,none⟩)] 200/\ah (fun g=>g=b) W0 w2:=by
  rintro w2 rfl;have m:ah (fun g=>g=b) (W0.drewN nq) ((W0.drewN nq).setCell ⟨b,3,none⟩ (.int .i64 ((p.seek+1:Nat):Int))):=(ah.refl (fun g=>g=b) _).setCell (p:=⟨b,3,none⟩) (.inl rfl) _;refine⟨⟨ag (H0.out.mod Sz id).own 3 _,⟨OJ.out.lo,OJ.out.hi,FY.out.most,FY.out.left⟩,Hu.out,Ht.out⟩,ab m (fQ Wk.out nq) rp,(Sz.mono (T:=fun g=>g=b) (fun _ _ h=>h.elim)).trans m (fun _ _ h=>h)⟩
 have Key:=hd0 key;have HP:Hid (∃ p1:Pl,p1={ p with next:=p.seek+1 }):=hd0 ⟨_,rfl⟩;clear key;rcases HC.out with⟨n,g1,g2⟩|⟨g1,n,g3,g2⟩
 ·rw[g1]at e1 ⊢;simp only at e1;have en:((n+1:Nat):Int)=((p.seek+1:Nat):Int):=by rw[g2]
  rw[en]at e1;obtain⟨q1,q2,q3⟩:=Key.out w1 e1;have Q1:=hd0 q1;have Q2:=hd0 q2;have Q3:=hd0 q3;clear q1 q2 q3 e1 en g1 g2 Key Sz;have y3:=(iF Q1.out).2.2.2.1;have y0:w1.cell? ⟨bx,0,none⟩=some (.pointer (some ⟨b,0,none⟩)):=aa Q2.out 0;have zn:(p.seek:Int)<=4096:=by have:=OJ.out.hi;have:=FY.out.most;have e:p.took.next=p.seek+1:=rfl;have e2:p.took.blocks=p.blocks:=rfl;omega
  have es:((p.seek+1:Nat):Int)=(p.seek:Int)+1:=by omega
  simp only[es]at y3;clear x0 d0 d1 d2 d3 d4;obtain⟨k,hk⟩:∃ k,p.seek=k:=⟨_,rfl⟩
  have OF:=hd0 (fun W v (hv:eJ W v (qj [k]))=>Bc [k] v W hv (by simp) (by simp;omega));have Hk:=hd0 hk;rw[hk]at y3 zn;go_wp2_with fail;have cJ:eJ (w1.alloc (.cells #[.int .i64 (k:Int)] 3)) (.slice (some ⟨w1.heap.size,0,none⟩) 1 1) (qj [k]):=AU 1 (aw w1 #[.int .i64 (k:Int)] 3);refine(OF.out _ _ cJ).mono ?_;rintro e w5 ⟨rfl,mt⟩;have rD:af w1 w5:=((ah.refl (fun _=>False) _).alloc _).keep mt;have P6:=hd0 (Q1.out.mod rD id);have X6:=hd0 (ab rD Q2.out id);have M6:=hd0 (Q3.out.keep rD);clear cJ mt rD y3 y0 OF;have z:=iF P6.out;simp only at z;obtain⟨z0,z1,_,_,z4⟩:=z;have zx:w5.cell? ⟨bx,0,none⟩=some (.pointer (some ⟨b,0,none⟩)):=aa X6.out 0;have lb:b<w5.heap.size:=ai P6.out.own;have lx:bx<w5.heap.size:=ai X6.out;have fb0:∀ xq,(w5.ext xq).frozen? ⟨b,0,none⟩=false:=fun xq=>ae (ab (ay w5 xq) P6.out.own id) _ rfl;have KM:(iO [k]).length<=600:=aux (Dy k) (by omega);have hul:=Hu.out;have yw:=Ht.out;obtain⟨one,Ck⟩:∃ one,iO [k]=one:=⟨_,rfl⟩
  rw[Ck]at KM ⊢;have O1:=hd0 (fun W=>lT p.used one W (by omega) (by omega));have O2:=hd0 (fun W=>lT p.taken one W (by omega) (by omega));have Jb:=hd0 Ck;clear Ck;go_wp2_with fail;have Pb:=hd0 P6.out.own;have d1:∀ xq,(w5.ext xq).cell? ⟨bx,0,none⟩=some (.pointer (some ⟨b,0,none⟩)):=fun xq=>aa (ab (ay w5 xq) X6.out id) 0;refine kS 2 14 100 (fun w'=>∃ x,w'=w5.ext x) (fun w'=>w'.cell? ⟨bx,0,none⟩=some (.pointer (some ⟨b,0,none⟩))) (fun _=>True) (by kernel_rfl) (by kernel_rfl) (by decide) (fun _ o _ _ _ h=>by cases o<;>exact h) (gZ ((ah.refl _ w5).drawn _)) (by rintro _ ⟨x,rfl⟩;exact⟨d1 x,trivial⟩) ?_;simp only[avn,avo,avq,avr]
  iterate 2 (refine oT (fun L hL=>?_);go_simp;(first|refine hL _ ?_|refine⟨_,fun _ _=>rfl,hL _ ?_⟩|refine⟨_,fun W hW=>by simp only[hW];rfl,hL _ ?_⟩);clear hL L)
  refine qL ?_
  repeat (quiet_step (first|with_reducible exact aZ (O1.out _)|with_reducible exact aZ (O2.out _)))
  refine avt ?_;intro _ cf;obtain⟨xq,rfl⟩:=cf;have V3:=ay w5 xq;have B5:=ab V3 Pb.out id;have bxn:bx≠b:=rp;have e1:=d1 xq;obtain⟨W5,Cc⟩:∃ W5,w5.ext xq=W5:=⟨_,rfl⟩
  rw[Cc]at B5 e1 V3 ⊢;have Cr:Hid (ah (fun g=>g=b) W0 W5):=hd0 (M6.out.keep V3);have X5:=hd0 (Cc▸ab (ay w5 xq) X6.out id:World.blk W5 bx #[.pointer (some ⟨b,0,none⟩)] 200);clear Cc d1 O1 O2 z0 z1 z4 zx lb lx fb0 V3;obtain⟨U,hU⟩:∃ U,eH p.used one=U:=⟨_,rfl⟩
  obtain⟨T,hT⟩:∃ T,eH p.taken one=T:=⟨_,rfl⟩
  rw[hU,hT];have HU:=hd0 hU;have HT:=hd0 hT;have B6:=ag B5 0 (.string ⟨U.toArray⟩);have m6:ah (fun g=>g=b) W5 (W5.setCell ⟨b,0,none⟩ (.string ⟨U.toArray⟩)):=(ah.refl (fun g=>g=b) W5).setCell (p:=⟨b,0,none⟩) (.inl rfl) _;have a0:W5.cell? ⟨b,0,none⟩=some (.string ⟨p.used.toArray⟩):=aa B5 0;have a0f:=ae B5 ⟨b,0,none⟩ rfl;obtain⟨W6,TP⟩:∃ W6,W5.setCell ⟨b,0,none⟩ (.string ⟨U.toArray⟩)=W6:=⟨_,rfl⟩
  rw[TP]at B6 m6;have X6':=ab m6 X5.out rp;have e6:W6.cell? ⟨bx,0,none⟩=some (.pointer (some ⟨b,0,none⟩)):=aa X6' 0;have a1:W6.cell? ⟨b,1,none⟩=some (.string ⟨p.taken.toArray⟩):=aa B6 1;have a1f:=ae B6 ⟨b,1,none⟩ rfl;have B7:=ag B6 1 (.string ⟨T.toArray⟩);have m7:ah (fun g=>g=b) W6 (W6.setCell ⟨b,1,none⟩ (.string ⟨T.toArray⟩)):=(ah.refl (fun g=>g=b) W6).setCell (p:=⟨b,1,none⟩) (.inl rfl) _;obtain⟨W7,Wy⟩:∃ W7,W6.setCell ⟨b,1,none⟩ (.string ⟨T.toArray⟩)=W7:=⟨_,rfl⟩
  rw[Wy]at B7 m7;have X7':=ab m7 X6' rp;have e7:W7.cell? ⟨bx,0,none⟩=some (.pointer (some ⟨b,0,none⟩)):=aa X7' 0;have a4:W7.cell? ⟨b,4,none⟩=some (.int .i64 (p.left:Int)):=aa B7 4;have a4f:=ae B7 ⟨b,4,none⟩ rfl;have B8:=hd0 (ag B7 4 (.int .i64 ((p.left:Int)-1)));have m8:ah (fun g=>g=b) W7 (W7.setCell ⟨b,4,none⟩ (.int .i64 ((p.left:Int)-1))):=(ah.refl (fun g=>g=b) W7).setCell (p:=⟨b,4,none⟩) (.inl rfl) _;have HM8:=hd0 (((Cr.out.trans m6 (fun _ _ h=>h)).trans m7 (fun _ _ h=>h)).trans m8 (fun _ _ h=>h));have hpw:p.left<=5000:=by omega
  clear B5 B6 B7 m6 m7 m8 X6' X7' hU hT bxn Q1 Q2 Q3 HP;refine⟨⟨e1,.inr trivial⟩,?_⟩;go_wp2_with fail;refine⟨⟨e1,.inr trivial⟩,?_⟩;go_wp2_with fail;refine⟨⟨e1,.inr trivial⟩,?_⟩;go_wp2_with fail;refine⟨⟨e6,.inr trivial⟩,?_⟩;go_wp2_with fail;refine⟨⟨e6,.inr trivial⟩,?_⟩;go_wp2_with fail;refine⟨⟨e6,.inr trivial⟩,?_⟩;go_wp2_with fail;refine⟨⟨e7,.inr trivial⟩,?_⟩;clear e1 e6 a0 a0f a1 a1f TP Wy;go_wp2;go_ret2;have hBk:(p.seek:Int)=(k:Int):=by rw[Hk.out]
  refine⟨by rw[hBk];rfl,⟨?_,OJ.out,?_,?_⟩,((dO.out.mono (T:=fun g=>g=b) (fun _ _ h=>h.elim)).trans HM8.out (fun _ _ h=>h))⟩
  ·have e:qS p.took=#[.string ⟨U.toArray⟩,.string ⟨T.toArray⟩,.int .i64 (p.blocks:Int),.int .i64 ((p.seek+1:Nat):Int),.int .i64 ((p.left:Int)-1)]:=by
    have h1:((p.left-1:Nat):Int)=(p.left:Int)-1:=by have:=Hl.out;omega
    unfold qS Pl.took;simp only[h1];rw[Hk.out,Jb.out,HU.out,HT.out]
   rw[e];exact B8.out
  ·show(eH p.used (iO [p.seek])).length<=600;have:=lS p.used (iO [p.seek]);have h2:(iO [p.seek]).length<=600:=by rw[Hk.out,Jb.out];exact KM
   omega
  ·show(eH p.taken (iO [p.seek])).length<=600;have:=lS p.taken (iO [p.seek]);have h2:(iO [p.seek]).length<=600:=by rw[Hk.out,Jb.out];exact KM
   omega
 ·rw[g1]at e1 ⊢;simp only at e1;have e1':W0.drewN nq=w1:=e1.symm;have hd:=H0.out.mod Sz id;have nh:=ab Sz Wk.out id;rw[e1']at hd nh;have S2:=hd0 (DD hd nh 1 p.blocks (by omega) (by have:=FY.out.most;omega));have y2:=(iF hd).2.2.1;have yx:w1.cell? ⟨bx,0,none⟩=some (.pointer (some ⟨b,0,none⟩)):=aa nh 0;rw[e1']at Key;clear x0 d0 d1 d2 d3 d4 hd nh e1 S1;go_wp2_with fail;refine S2.out.mono ?_;rintro e w2 ⟨rfl,e2⟩;rw[g3]at e2 ⊢;simp only at e2;have en:((n+1:Nat):Int)=((p.seek+1:Nat):Int):=by rw[g2]
  rw[en]at e2;clear y2 yx S2;obtain⟨q1,q2,q3⟩:=Key.out w2 e2;have Q1:=hd0 q1;have Q2:=hd0 q2;have Q3:=hd0 q3;clear q1 q2 q3 e2 en g1 g2 g3 Key Sz e1';have y3:=(iF Q1.out).2.2.2.1;have y0:w2.cell? ⟨bx,0,none⟩=some (.pointer (some ⟨b,0,none⟩)):=aa Q2.out 0;have zn:(p.seek:Int)<=4096:=by have:=OJ.out.hi;have:=FY.out.most;have e:p.took.next=p.seek+1:=rfl;have e2:p.took.blocks=p.blocks:=rfl;omega
  have es:((p.seek+1:Nat):Int)=(p.seek:Int)+1:=by omega
  simp only[es]at y3;obtain⟨k,hk⟩:∃ k,p.seek=k:=⟨_,rfl⟩
  have OF:=hd0 (fun W v (hv:eJ W v (qj [k]))=>Bc [k] v W hv (by simp) (by simp;omega));have Hk:=hd0 hk;rw[hk]at y3 zn;go_wp2_with fail;have cJ:eJ (w2.alloc (.cells #[.int .i64 (k:Int)] 3)) (.slice (some ⟨w2.heap.size,0,none⟩) 1 1) (qj [k]):=AU 1 (aw w2 #[.int .i64 (k:Int)] 3);refine(OF.out _ _ cJ).mono ?_;rintro e w5 ⟨rfl,mt⟩;have rD:af w2 w5:=((ah.refl (fun _=>False) _).alloc _).keep mt;have P6:=hd0 (Q1.out.mod rD id);have X6:=hd0 (ab rD Q2.out id);have M6:=hd0 (Q3.out.keep rD);clear cJ mt rD y3 y0 OF;have z:=iF P6.out;simp only at z;obtain⟨z0,z1,_,_,z4⟩:=z;have zx:w5.cell? ⟨bx,0,none⟩=some (.pointer (some ⟨b,0,none⟩)):=aa X6.out 0;have lb:b<w5.heap.size:=ai P6.out.own;have lx:bx<w5.heap.size:=ai X6.out;have fb0:∀ xq,(w5.ext xq).frozen? ⟨b,0,none⟩=false:=fun xq=>ae (ab (ay w5 xq) P6.out.own id) _ rfl;have KM:(iO [k]).length<=600:=aux (Dy k) (by omega);have hul:=Hu.out;have yw:=Ht.out;obtain⟨one,Ck⟩:∃ one,iO [k]=one:=⟨_,rfl⟩
  rw[Ck]at KM ⊢;have O1:=hd0 (fun W=>lT p.used one W (by omega) (by omega));have O2:=hd0 (fun W=>lT p.taken one W (by omega) (by omega));have Jb:=hd0 Ck;clear Ck;go_wp2_with fail;have Pb:=hd0 P6.out.own;have d1:∀ xq,(w5.ext xq).cell? ⟨bx,0,none⟩=some (.pointer (some ⟨b,0,none⟩)):=fun xq=>aa (ab (ay w5 xq) X6.out id) 0;refine kS 2 14 100 (fun w'=>∃ x,w'=w5.ext x) (fun w'=>w'.cell? ⟨bx,0,none⟩=some (.pointer (some ⟨b,0,none⟩))) (fun _=>True) (by kernel_rfl) (by kernel_rfl) (by decide) (fun _ o _ _ _ h=>by cases o<;>exact h) (gZ ((ah.refl _ w5).drawn _)) (by rintro _ ⟨x,rfl⟩;exact⟨d1 x,trivial⟩) ?_;simp only[avn,avo,avq,avr]
  iterate 2 (refine oT (fun L hL=>?_);go_simp;(first|refine hL _ ?_|refine⟨_,fun _ _=>rfl,hL _ ?_⟩|refine⟨_,fun W hW=>by simp only[hW];rfl,hL _ ?_⟩);clear hL L)
  refine qL ?_
  repeat (quiet_step (first|with_reducible exact aZ (O1.out _)|with_reducible exact aZ (O2.out _)))
  refine avt ?_;intro _ cf;obtain⟨xq,rfl⟩:=cf;have V3:=ay w5 xq;have B5:=ab V3 Pb.out id;have bxn:bx≠b:=rp;have e1:=d1 xq;obtain⟨W5,Cc⟩:∃ W5,w5.ext xq=W5:=⟨_,rfl⟩
  rw[Cc]at B5 e1 V3 ⊢;have Cr:Hid (ah (fun g=>g=b) W0 W5):=hd0 (M6.out.keep V3);have X5:=hd0 (Cc▸ab (ay w5 xq) X6.out id:World.blk W5 bx #[.pointer (some ⟨b,0,none⟩)] 200);clear Cc d1 O1 O2 z0 z1 z4 zx lb lx fb0 V3;obtain⟨U,hU⟩:∃ U,eH p.used one=U:=⟨_,rfl⟩
  obtain⟨T,hT⟩:∃ T,eH p.taken one=T:=⟨_,rfl⟩
  rw[hU,hT];have HU:=hd0 hU;have HT:=hd0 hT;have B6:=ag B5 0 (.string ⟨U.toArray⟩);have m6:ah (fun g=>g=b) W5 (W5.setCell ⟨b,0,none⟩ (.string ⟨U.toArray⟩)):=(ah.refl (fun g=>g=b) W5).setCell (p:=⟨b,0,none⟩) (.inl rfl) _;have a0:W5.cell? ⟨b,0,none⟩=some (.string ⟨p.used.toArray⟩):=aa B5 0;have a0f:=ae B5 ⟨b,0,none⟩ rfl;obtain⟨W6,TP⟩:∃ W6,W5.setCell ⟨b,0,none⟩ (.string ⟨U.toArray⟩)=W6:=⟨_,rfl⟩
  rw[TP]at B6 m6;have X6':=ab m6 X5.out rp;have e6:W6.cell? ⟨bx,0,none⟩=some (.pointer (some ⟨b,0,none⟩)):=aa X6' 0;have a1:W6.cell? ⟨b,1,none⟩=some (.string ⟨p.taken.toArray⟩):=aa B6 1;have a1f:=ae B6 ⟨b,1,none⟩ rfl;have B7:=ag B6 1 (.string ⟨T.toArray⟩);have m7:ah (fun g=>g=b) W6 (W6.setCell ⟨b,1,none⟩ (.string ⟨T.toArray⟩)):=(ah.refl (fun g=>g=b) W6).setCell (p:=⟨b,1,none⟩) (.inl rfl) _;obtain⟨W7,Wy⟩:∃ W7,W6.setCell ⟨b,1,none⟩ (.string ⟨T.toArray⟩)=W7:=⟨_,rfl⟩
  rw[Wy]at B7 m7;have X7':=ab m7 X6' rp;have e7:W7.cell? ⟨bx,0,none⟩=some (.pointer (some ⟨b,0,none⟩)):=aa X7' 0;have a4:W7.cell? ⟨b,4,none⟩=some (.int .i64 (p.left:Int)):=aa B7 4;have a4f:=ae B7 ⟨b,4,none⟩ rfl;have B8:=hd0 (ag B7 4 (.int .i64 ((p.left:Int)-1)));have m8:ah (fun g=>g=b) W7 (W7.setCell ⟨b,4,none⟩ (.int .i64 ((p.left:Int)-1))):=(ah.refl (fun g=>g=b) W7).setCell (p:=⟨b,4,none⟩) (.inl rfl) _;have HM8:=hd0 (((Cr.out.trans m6 (fun _ _ h=>h)).trans m7 (fun _ _ h=>h)).trans m8 (fun _ _ h=>h));have hpw:p.left<=5000:=by omega
  clear B5 B6 B7 m6 m7 m8 X6' X7' hU hT bxn Q1 Q2 Q3 HP;refine⟨⟨e1,.inr trivial⟩,?_⟩;go_wp2_with fail;refine⟨⟨e1,.inr trivial⟩,?_⟩;go_wp2_with fail;refine⟨⟨e1,.inr trivial⟩,?_⟩;go_wp2_with fail;refine⟨⟨e6,.inr trivial⟩,?_⟩;go_wp2_with fail;refine⟨⟨e6,.inr trivial⟩,?_⟩;go_wp2_with fail;refine⟨⟨e6,.inr trivial⟩,?_⟩;go_wp2_with fail;refine⟨⟨e7,.inr trivial⟩,?_⟩;clear e1 e6 a0 a0f a1 a1f TP Wy;go_wp2;go_ret2;have hBk:(p.seek:Int)=(k:Int):=by rw[Hk.out]
  refine⟨by rw[hBk];rfl,⟨?_,OJ.out,?_,?_⟩,((dO.out.mono (T:=fun g=>g=b) (fun _ _ h=>h.elim)).trans HM8.out (fun _ _ h=>h))⟩
  ·have e:qS p.took=#[.string ⟨U.toArray⟩,.string ⟨T.toArray⟩,.int .i64 (p.blocks:Int),.int .i64 ((p.seek+1:Nat):Int),.int .i64 ((p.left:Int)-1)]:=by
    have h1:((p.left-1:Nat):Int)=(p.left:Int)-1:=by have:=Hl.out;omega
    unfold qS Pl.took;simp only[h1];rw[Hk.out,Jb.out,HU.out,HT.out]
   rw[e];exact B8.out
  ·show(eH p.used (iO [p.seek])).length<=600;have:=lS p.used (iO [p.seek]);have h2:(iO [p.seek]).length<=600:=by rw[Hk.out,Jb.out];exact KM
   omega
  ·show(eH p.taken (iO [p.seek])).length<=600;have:=lS p.taken (iO [p.seek]);have h2:(iO [p.seek]).length<=600:=by rw[Hk.out,Jb.out];exact KM
   omega
end
section
open Go.RowKit Go.Shelf
attribute [local go_sem] auv
structure z7 (ty:TypeId)(rv:Value)(fr fw:FuncId)(I:Rd->World->(Nat->Prop)->Prop)(blocks:Nat):Prop where
 src:∀ rd,qr ty rv fr (I rd) rd
 methW:∀ W,(method 583 ty rv "Write").run prog W=.ok (fw,rv) W
 callW:∀(x y:Value) (W:World),(callFunc fw #[rv,x,y]).run prog W=.ok (.enter fw #[rv,x,y]) W
 write:∀ {rd:Rd} {w:World} {F:Nat->Prop} {n:Nat} {p:az},I rd w F->1<=n->n<blocks->p.length<=240->Calls prog fw #[rv,.int .i64 (n:Int),.string ⟨p.toArray⟩] w fun e w'=>e=.returned (.int .i64 0)/\∃ F',I (l8 rd n p) w' F'/\d6 F F' w w'
theorem nH {ty:TypeId}{rv:Value}{fr fw:FuncId}{I:Rd->World->(Nat->Prop)->Prop}{blocks:Nat}(S:z7 ty rv fr fw I blocks){rd:Rd}{w:World}{F:Nat->Prop}{pb:Nat}{p:Pl}(hI:I rd w F)(hp:jR w pb p)(hF:¬ F pb)(hb:p.blocks=blocks)(hl:0<p.left)(s:az)(hs:s.length<=240):
  Calls prog 269 #[.iface ty rv,.pointer (some ⟨pb,0,none⟩),.string ⟨s.toArray⟩] w fun e w'=>e=.returned (.tuple #[.int .i64 (p.seek:Int),.int .i64 0])/\∃ F',I (l8 rd p.seek s) w' F'/\jR w' pb p.took/\(∀ g,F' g->F g\/w.heap.size<=g)/\¬ F' pb/\ah (fun g=>F g\/g=pb) w w':=by
 obtain⟨k1,k2,_⟩:=pT hp.ok hl;have T:=hd0 (zZ hp hl);have HS:=hd0 S;have HI:=hd0 hI;have HF:=hd0 hF;have jJ:=hd0 (ai hp.own);have Ys:=S.methW;have cY:=S.callW;have RU:p.seek<blocks:=by rw[<-hb];exact k2
 clear hp hI hF;go_enter func269,ntmps269;go_wp2_with fail;refine T.out.mono ?_;rintro e w1 ⟨rfl,Ce,m1⟩;have NR:=(HS.out.src rd).same HI.out (m1.on fun g hg e=>HF.out (e▸hg)) m1.size;have BJ:=hd0 Ce;have yB:=hd0 m1;have Wr:=hd0 (HS.out.write NR k1 RU hs);clear Ce m1 NR T;go_wp2_with fail;refine Wr.out.mono ?_;rintro e w2 ⟨rfl,F2,hI2,de⟩;have Oy:=hd0 hI2;have bu:=hd0 de;clear hI2 de Wr;go_wp2;go_ret2;exact⟨rfl,F2,Oy.out,BJ.out.mod bu.out.mod HF.out,fun g hg=>(bu.out.foot g hg).imp id (fun h=>aux yB.out.size h),fun hg=>(bu.out.foot pb hg).elim HF.out (fun h=>by have:=jJ.out;have:=yB.out.size;omega),
  (yB.out.mono (fun _ _ e=>.inr e)).trans bu.out.mod (fun _ _ h=>.inl h)⟩
structure DU (w:World)(nb:Nat)(rows:List Value)(N:Nat->List Int):Prop where
 nums:World.blk w nb rows.toArray 46
 row:∀ l v,rows[l]?=some v->aN w 0 v (N l)
def Qd (nb:Nat)(rows:List Value)(g:Nat):Prop:=g=nb\/∃(l:Nat) (v:Value),rows[l]?=some v/\v.ownBlock=some g
theorem DU.same {w w':World}{nb:Nat}{rows:List Value}{N:Nat->List Int}(h:DU w nb rows N)(m:fG (Qd nb rows) w w'):DU w' nb rows N where
 nums:=(m nb (.inl rfl) (ai h.nums)).trans h.nums
 row l v hv:=aA (h.row l v hv) fun g hg=>m g (.inr ⟨l,v,hv,hg⟩) (aT (h.row l v hv) hg)
theorem DU.lt {w:World}{nb:Nat}{rows:List Value}{N:Nat->List Int}(h:DU w nb rows N){g:Nat}(hg:Qd nb rows g):g<w.heap.size:=by
 rcases hg with rfl|⟨l,v,hv,hg⟩
 ·exact ai h.nums
 ·exact aT (h.row l v hv) hg
structure lg (I:Rd->World->(Nat->Prop)->Prop)(blocks pb B:Nat)(w:World)(F:Nat->Prop)(t:gK)(v:Value)(L:List Int):Prop where
 src:I t.rd w F
 pool:jR w pb t.pool
 blocks:t.pool.blocks=blocks
 npb:¬ F pb
 row:aN w B v L
 away:∀ g,v.ownBlock=some g->¬ F g/\g≠pb
 B:B<=w.heap.size
structure dq (F F':Nat->Prop)(pb B:Nat)(w w':World):Prop where
 mod:ah (fun g=>F g\/g=pb\/B<=g) w w'
 foot:∀ g,F' g->F g\/w.heap.size<=g
theorem dq.refl (F:Nat->Prop)(pb B:Nat)(w:World):dq F F pb B w w:=⟨ah.refl _ _,fun _ h=>.inl h⟩
theorem dq.trans {F F1 F2:Nat->Prop}{pb B:Nat}{w w1 w2:World}(h:dq F F1 pb B w w1)(k:dq F1 F2 pb B w1 w2)(_hB:B<=w.heap.size):dq F F2 pb B w w2 where
 mod:=h.mod.trans k.mod fun g hg hh=>by
  rcases hh with hh|hh|hh
  ·exact(h.foot g hh).elim .inl (fun h2=>by omega)
  ·exact .inr (.inl hh)
  ·exact .inr (.inr hh)
 foot g hg:=(k.foot g hg).elim (h.foot g) (fun h2=>.inr (aux h.mod.size h2))
theorem lg.append {ty:TypeId}{rv:Value}{fr fw:FuncId}{I:Rd->World->(Nat->Prop)->Prop}{blocks pb B:Nat}(S:z7 ty rv fr fw I blocks){w:World}{F:Nat->Prop}{t:gK}{v:Value}{L:List Int}(h:lg I blocks pb B w F t v L)(hL:L.length<=100000)(x:Int):
  ∃ g cap w',(Builtin.append_ #[46,46] 46 #[v,.slice (some ⟨w.heap.size,0,none⟩) 1 1]).run prog (w.alloc (.cells #[.int .i64 x] 3))=.ok (.slice (some ⟨g,0,none⟩) (L.length+1) cap) w'/\lg I blocks pb B w' F t (.slice (some ⟨g,0,none⟩) (L.length+1) cap) (L++[x])/\dq F F pb B w w':=by
 obtain⟨v',w',r,own,m,at',g,cap,rfl⟩:=hZ (P:=prog) underlying46 iX rfl (by decide) B v _ _ w h.row [.int .i64 x] rfl (by simp[Value.oneCell']) (by unfold maxLen;show L.length+1<=_;omega) (by show(L.length+1)*8<=_;omega) h.B;have mW:=ai h.pool.own;refine⟨g,cap,w',r,⟨(S.src t.rd).same h.src (m.on fun g hg hv=>(h.away g hv).1 hg) m.size,h.pool.mod m (fun hv=>(h.away pb hv).2 rfl),h.blocks,h.npb,kv own,fun g' hg'=>?_,aux h.B m.size⟩,⟨m.mono fun g' _ hv=>.inr (.inr (h.row.lt g' hv).1),fun _ h=>.inl h⟩⟩;rcases at' with e|⟨k,e,hk⟩
 ·exact h.away g' (e▸hg')
 ·rw[hg']at e
  cases e
  exact⟨fun hf=>by have:=(S.src t.rd).lt h.src g' hf;omega,by omega⟩
theorem dq.down {F F1:Nat->Prop}{pb B B':Nat}{w w1:World}(h:dq F F1 pb B w w1)(hB:B'<=B):dq F F1 pb B' w w1:=⟨h.mod.mono fun _g _ hh=>hh.imp id (fun h=>h.imp id (fun h=>aux hB h)),h.foot⟩
theorem z8 {stay:Nat->Option Int}{s:Nat->az}{f i:Nat}{t t':gK}{L:List Int}(h:iu stay s (f+1) i t=.ok (L,t')):(∃ n L',stay i=some n/\iu stay s f (i+1) t=.ok (L',t')/\L=n::L')\/(stay i=none/\0<t.pool.left/\∃ L',iu stay s f (i+1) ⟨l8 t.rd t.pool.seek (s i),t.pool.took⟩=.ok (L',t')/\L=(t.pool.seek:Int)::L'):=by
 unfold iu at h
 cases hs:stay i with
 |some n=>
  rw[hs]at h;simp only at h
  cases hl:iu stay s f (i+1) t with
  |error e=>rw[hl]at h;cases h
  |ok x=>
   rw[hl]at h;simp only[Except.map]at h;injection h with h;injection h with h1 h2;subst h2;exact .inl ⟨n,x.1,rfl,rfl,h1.symm⟩
 |none=>
  rw[hs]at h;simp only at h;by_cases hl:t.pool.left=0
  ·have:t.pool.take=.error 101:=by unfold Pl.take;rw[auI hl]
   rw[this]at h;cases h
  ·rw[tB (by omega)]at h;simp only at h
   cases hq:iu stay s f (i+1) ⟨l8 t.rd t.pool.seek (s i),t.pool.took⟩with
   |error e=>rw[hq]at h;cases h
   |ok x=>
    rw[hq]at h;simp only[Except.map]at h;injection h with h;injection h with h1 h2;subst h2;exact .inr ⟨rfl,by omega,x.1,rfl,h1.symm⟩
theorem DV {stay:Nat->Option Int}{s:Nat->az}{i:Nat}{t t':gK}{L:List Int}(h:iu stay s 0 i t=.ok (L,t')):L=[]/\t=t':=by
 unfold iu at h;injection h with h;injection h with h1 h2;exact⟨h1.symm,h2⟩
theorem lg.keep {ty:TypeId}{rv:Value}{fr fw:FuncId}{I:Rd->World->(Nat->Prop)->Prop}{blocks pb B:Nat}(S:z7 ty rv fr fw I blocks){w w':World}{F:Nat->Prop}{t:gK}{v:Value}{L:List Int}(h:lg I blocks pb B w F t v L)(k:af w w'):lg I blocks pb B w' F t v L:=
 ⟨(S.src t.rd).same h.src (k.on fun _ _=>id) k.size,h.pool.mod k id,h.blocks,h.npb,iA h.row k,h.away,aux h.B k.size⟩
theorem dq.keep {F F1:Nat->Prop}{pb B:Nat}{w w1 w2:World}(h:dq F F1 pb B w w1)(k:af w1 w2):dq F F1 pb B w w2:=⟨h.mod.keep k,h.foot⟩
theorem lg.put {ty:TypeId}{rv:Value}{fr fw:FuncId}{I:Rd->World->(Nat->Prop)->Prop}{blocks pb B:Nat}(_S:z7 ty rv fr fw I blocks){w w':World}{F F':Nat->Prop}{t:gK}{v:Value}{L:List Int}(h:lg I blocks pb B w F t v L){s:az}
  (hI:I (l8 t.rd t.pool.seek s) w' F') (hp:jR w' pb t.pool.took) (hf:∀ g,F' g->F g\/w.heap.size<=g) (hn:¬ F' pb) (m:ah (fun g=>F g\/g=pb) w w'):lg I blocks pb B w' F' ⟨l8 t.rd t.pool.seek s,t.pool.took⟩ v L/\dq F F' pb B w w':=
 ⟨⟨hI,hp,h.blocks,hn,aA h.row fun g hg=>m.block g (aT h.row hg) (fun hh=>hh.elim (h.away g hg).1 (h.away g hg).2),fun g hg=>⟨fun hf'=>(hf g hf').elim (h.away g hg).1 (fun h2=>by have:=aT h.row hg;omega),(h.away g hg).2⟩,aux h.B m.size⟩,
  ⟨m.mono fun g _ hh=>hh.elim .inl (fun h=>.inr (.inl h)),hf⟩⟩
end
end Go.Proofs.YtkghpdcloaiflaaGreatDoor
