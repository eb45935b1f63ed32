import Derived.Test.YtkghpdcloaiflaaGreatDoorH19
set_option maxHeartbeats 4000000
set_option maxRecDepth 100000
namespace Go.Proofs.YtkghpdcloaiflaaGreatDoor
open _root_.Go.Proofs.Tryz
variable {B b blocks i nb pb:Nat}{F F1:Nat->Prop}{I:World->(Nat->Prop)->Prop}{L:List Int}{N:Nat->List Int}{f fr fw:FuncId}{rows:List Value}{rv v:Value}{stay:Nat->Option Int}{w w' w1 w2:World}
section
open Go.RowKit Go.Shelf
attribute [local go_sem] av0
theorem Io:(prog.info? 46).map (λi=>(i.zero,i.size,i.bytes))=some (some (.slice none 0 0),1,24):=kr7
theorem yQ (r:Nat)(hr:r<=100000)(W:World):
  (Instr.makeSlice 300 (.int .i64 r) (.int .i64 r)).run prog W=.ok (.slice (some ⟨W.heap.size,0,none⟩) r r) (W.alloc (.cells (Array.replicate r (Value.slice none 0 0)) 46)):=by
 obtain⟨i0,hi,iK,lX,mJ⟩:=awj Io;have h:=run_make (P:=prog) W 300 46 i0 (.slice none 0 0) underlying300 hi iK .i64 .i64 (r:Int) (r:Int) J (Int.le_refl _) (by rw[mJ];omega) J
 rwa [awH,lX,Nat.mul_one,rz _ rfl]at h
def cR (b:fI):Value:=.agg #[.int .i64 b.root,.int .i64 b.size]
def Kf (nb:Nat)(lv:Value)(L:List Nat)(size b:Nat):OB:=
 ⟨nb,List.replicate L.length (.slice none 0 0),.slice none 0 0,.pointer none,.slice none 0 0,lv,L.length,λ_=>[],[],[],size,λj=>L.getD j 0,λg=>if g=b then .walk else if g=nb then .nums else if lv.ownBlock=some g then .below else .none⟩
theorem ZN {iv:Value}{ch:Bool}{lv:Value}{L:List Nat}{size:Nat}(own:World.blk w b (jY iv (.bool ch) (.slice (some ⟨nb,0,none⟩) L.length L.length) (.slice none 0 0) (.pointer none) (.slice none 0 0) (.int .i64 (size:Int)) lv) 302)
  (nums:World.blk w nb (Array.replicate L.length (Value.slice none 0 0)) 46) (below:aO w 0 lv (gh L)) (eG:nb≠b) (h1:∀ g,lv.ownBlock=some g->g≠b/\g≠nb):ug w b iv ch (Kf nb lv L size b) where
 own:=own
 nums:=by
  have e:Array.replicate L.length (Value.slice none 0 0)=(List.replicate L.length (Value.slice none 0 0)).toArray:=by simp
  rw[e]at nums;exact nums
 rlen:=by simp[Kf]
 row l v hv:=by
  simp only[Kf,List.getElem?_replicate]at hv;split at hv
  ·injection hv with hv;subst hv;exact⟨rfl,.inl ⟨rfl,rfl⟩⟩
  ·cases hv
 order:=⟨rfl,.inl ⟨rfl,rfl⟩⟩
 data:=.inl ⟨rfl,rfl,rfl⟩
 below:=by
  have e:(List.range L.length).map (λj=>L.getD j 0)=L:=by
   apply List.ext_getElem
   ·simp
   ·intro i h1 h2;simp[h2]
  show aO w 0 lv (gh ((List.range L.length).map λj=>L.getD j 0));rw[e];exact below
 rb:=by simp[Kf]
 rnb:=by simp[Kf,eG]
 rrow l v g hv hg:=by
  simp only[Kf,List.getElem?_replicate]at hv;split at hv
  ·injection hv with hv;subst hv;cases hg
  ·cases hv
 rorder g hg:=by cases hg
 rdata g hg:=by cases hg
 rbelow g hg:=by
  obtain⟨a1,a2⟩:=h1 g hg;have hg':lv.ownBlock=some g:=hg;simp[Kf,a1,a2,hg']
 lt g hg:=by
  simp only[Kf]at hg;split at hg
  ·rename_i e;subst e;exact ak own
  ·split at hg
   ·rename_i e;subst e;exact ak nums
   ·split at hg
    ·rename_i e;exact aX below e
    ·exact absurd rfl hg
def oN (w:World)(iv:Value)(ch:Bool)(I:World->(Nat->Prop)->Prop)(F:Nat->Prop)(n:Nat)(o:rt)(e:Ending)(w':World):Prop:=
 ∃ b s' F',e=.returned (.tuple #[.pointer (some ⟨b,0,none⟩),.int .i64 0])/\I w' F'/\ug w' b iv ch s'/\s'.n=n/\(∀ l,s'.N l=bL o.1 l)/\s'.O=dG o.1/\s'.D=o.2/\(∀ g,s'.role g≠.none->w.heap.size<=g)/\(∀ g,F' g->F g\/w.heap.size<=g)/\(∀ g,s'.role g≠.none->¬ F' g)/\ai F w w'
theorem uh {ty:TypeId}{rd:Rd}(S:qg ty rv f I rd)(hI:I w F)(bl:fI)(ch:Bool)(hm:bl.may=true)(o:rt)(ho:d7 rd bl ch=.ok o):
  Calls prog 224 #[.iface ty rv,cR bl,.bool ch] w (oN w (.iface ty rv) ch I F (ax bl.size.toNat).length o):=by
 obtain⟨root,sz⟩:=bl;have JH:0<=sz/\sz<=16384/\(root=0↔sz=0):=by
  unfold fI.may at hm;simp only[awo,awt,awJ]at hm;exact⟨hm.1.1,hm.1.2,by simpa using hm.2⟩
 obtain⟨size,rfl⟩:=Int.eq_ofNat_of_zero_le JH.1;have cJ:size<=16384:=J
 have hsi:(size:Int)<=16384:=J
 obtain⟨bz,WA⟩:∃ bz,((size:Int)==0)=bz:=⟨_,rfl⟩
 have hbr:(root==0)=bz:=by
  rw[<-WA,awM];simp only[awJ];exact JH.2.2
 have UA:(bz != bz)=false:=by simp
 obtain⟨HS,HI,Ho,Oh⟩:=K4 S hI ho JH;have dM:af w (w.alloc (.cells #[.int .i64 root,.int .i64 (size:Int)] 42)):=(ai.refl _ w).alloc _;have ic:World.blk (w.alloc (.cells #[.int .i64 root,.int .i64 (size:Int)] 42)) w.heap.size #[.int .i64 root,.int .i64 (size:Int)] 42:=av _ _ _;obtain⟨W0,pQ⟩:∃ W0,w.alloc (.cells #[.int .i64 root,.int .i64 (size:Int)] 42)=W0:=⟨_,rfl⟩
 obtain⟨bb,af1⟩:∃ bb,w.heap.size=bb:=⟨_,rfl⟩
 rw[pQ]at dM ic;rw[af1]at ic;have c0:W0.cell? ⟨bb,0,none⟩=some (.int .i64 root):=aa ic 0;have c1:W0.cell? ⟨bb,1,none⟩=some (.int .i64 (size:Int)):=aa ic 1;obtain⟨LV,Hsz,eR,nE,T6⟩:=K5 (qN size W0 cJ) cJ dM ic (rP size);clear hm JH hI ho dM ic cJ;unfold cR;go_enter func224,ntmps224;go_wp2_with fail;refine LV.mono ?_;rintro e w1 ⟨lv,rfl,R9,hk1⟩;obtain⟨jg,HO1,cC⟩:=K3 (ab hk1 nE.o id) R9 (eR.keep hk1);have d1:w1.cell? ⟨bb,1,none⟩=some (.int .i64 (size:Int)):=aa jg.o 1;obtain⟨a1,yC,e1,_⟩:=bh R9;obtain⟨L,hL⟩:∃ L,ax size=L:=⟨_,rfl⟩
 have e1':lv=.slice a1 L.length yC:=by rw[e1];simp[bu,gh,hL]
 rw[hL]at HO1 T6;have HL:=Z hL;have rx:=yQ L.length (by have:=T6.o;omega);have Ut:(L.length:Int)<=3:=by have:=T6.o;omega
 have ak0:bb<w1.heap.size:=ak jg.o;subst e1';clear LV R9 hk1 pQ af1 c0 c1 e1 hL;go_wp2_with fail
 go_region
 obtain⟨nb,Oj⟩:∃ nb,w1.heap.size=nb:=⟨_,rfl⟩
 have m5:af w1 (((w1.alloc (.cells (Array.replicate L.length (Value.slice none 0 0)) 46)).alloc (.cells #[.iface ty rv,.bool ch,.slice (some ⟨w1.heap.size,0,none⟩) L.length L.length,.slice none 0 0,.pointer none,.slice none 0 0,.int .i64 (size:Int),.slice a1 L.length yC] 302)).drew):=(((ai.refl _ w1).alloc _).alloc _).drew;have n5:World.blk (((w1.alloc (.cells (Array.replicate L.length (Value.slice none 0 0)) 46)).alloc (.cells #[.iface ty rv,.bool ch,.slice (some ⟨w1.heap.size,0,none⟩) L.length L.length,.slice none 0 0,.pointer none,.slice none 0 0,.int .i64 (size:Int),.slice a1 L.length yC] 302)).drew) w1.heap.size (Array.replicate L.length (Value.slice none 0 0)) 46:=aE (av w1 _ _) _;have o5:World.blk (((w1.alloc (.cells (Array.replicate L.length (Value.slice none 0 0)) 46)).alloc (.cells #[.iface ty rv,.bool ch,.slice (some ⟨w1.heap.size,0,none⟩) L.length L.length,.slice none 0 0,.pointer none,.slice none 0 0,.int .i64 (size:Int),.slice a1 L.length yC] 302)).drew) (w1.heap.size+1) (jY (.iface ty rv) (.bool ch) (.slice (some ⟨w1.heap.size,0,none⟩) L.length L.length) (.slice none 0 0) (.pointer none) (.slice none 0 0) (.int .i64 (size:Int)) (.slice a1 L.length yC)) 302:=aV (w:=w1.alloc _) sp7 _ _;obtain⟨W5,yE⟩:∃ W5,((w1.alloc (.cells (Array.replicate L.length (Value.slice none 0 0)) 46)).alloc (.cells #[.iface ty rv,.bool ch,.slice (some ⟨w1.heap.size,0,none⟩) L.length L.length,.slice none 0 0,.pointer none,.slice none 0 0,.int .i64 (size:Int),.slice a1 L.length yC] 302)).drew=W5:=⟨_,rfl⟩
 rw[yE]at m5 n5 o5 ⊢;rw[Oj]at n5 o5 ⊢;have X5:ug W5 (nb+1) (.iface ty rv) ch (Kf nb (.slice a1 L.length yC) L size (nb+1)):=ZN o5 n5 (eS (ip HO1.o m5) (awP _)) J (λg hg=>by have:=aX HO1.o hg;omega);have aqo:w.heap.size<=W0.heap.size:=eR.size;have j4:∀ g,(Kf nb (.slice a1 L.length yC) L size (nb+1)).role g≠.none->w.heap.size<=g:=λg hg=>by
  have FS:w.heap.size<=nb:=by have:=cC.size;omega
  simp only[Kf]at hg;split at hg
  ·omega
  ·split at hg
   ·omega
   ·split at hg
    ·rename_i e
     have:=(HO1.lt g e).1;omega
    ·exact absurd rfl hg
 have nD:Hid (af w W5):=Z (cC.keep m5);have hI5:I W5 F:=HS.same HI.o (nD.on λ_ _=>id) nD.size;have afE:∀ g,(Kf nb (.slice a1 L.length yC) L size (nb+1)).role g≠.none->¬ F g:=λg hg hf=>by have:=j4 g hg;have:=HS.lt HI.o g hf;omega
 obtain⟨tK,aaU,HI5,aff⟩:=K4 X5 j4 hI5 afE;have r0:W5.cell? ⟨bb,0,none⟩=some (.int .i64 root):=aa (ab m5 jg.o id) 0;clear X5 j4 hI5 afE m5 n5 o5 yE rx d1 ak0;by_cases hz:size=0
 ·have Uy:L=[]:=by rw[<-HL.o,hz];rfl
  have TV:o=([],[]):=by
   have h:=Ho.o;unfold d7 at h;rw[awf (by unfold fI.may;simp only[awo,awt,awJ,Bool.not_eq_false];exact⟨⟨Oh.1,Oh.2.1⟩,by simpa using Oh.2.2⟩),awd (by simp[hz])]at h;injection h with h;exact h.symm
  have Jg:((L.length:Nat):Int)=0:=by rw[Uy];rfl
  obtain⟨Ho0,HL0⟩:=K2 TV Uy;clear Uy TV hz;go_wp2;go_ret2;unfold oN;rw[Ho0.o];exact⟨nb+1,_,F,rfl,HI5.o,tK.o,by rw[awH,HL.o];rfl,λl=>rfl,rfl,rfl,aaU.o,λg hg=>.inl hg,aff.o,nD.mono λ_ _ h=>h.elim⟩
 ·have WB:0<size:=J
  obtain⟨t1,t2⟩:=J8 size WB Hsz.o;rw[HL.o]at t1 t2;have Tc:nK rd ch size (L.length-1) 0 root=.ok o:=by
   have h:=Ho.o;unfold d7 at h;rw[awf (by unfold fI.may;simp only[awo,awt,awJ,Bool.not_eq_false];exact⟨⟨Oh.1,Oh.2.1⟩,by simpa using Oh.2.2⟩),awf (by show ¬((size:Int)=0);omega)]at h;simp only[awH]at h;rw[HL.o]at h;exact h
  have Sr:=xc _ _ _ _ Tc;have hp:60 ^ (L.length-1)<=3600:=by
   have h3:=T6.o;rcases(by omega:L.length-1=0\/L.length-1=1\/L.length-1=2)with e|e|e<;>rw[e]<;>decide
  have V:=Z (zW HS.o size Hsz.o (nb+1) ch (L.length-1) 0 root o W5 F _ HI5.o tK.o aff.o (by rw[HL.o];rfl) (by simp[Kf]) (λj hj=>by rw[HL.o];simp[Kf]) (by rw[HL.o];omega) (by rw[HL.o,t2];omega) (by show 0+_<=_;omega) (λk=>by show 0+_<=_;omega) (by show 0+_<=_;omega) Tc);have KF:((L.length-1:Nat):Int)=(L.length:Int)-1:=by have:=t1;omega
  rw[KF]at V;have hlz:(((L.length:Nat):Int)==0)=false:=by
   rw[awO];omega
  have hlp:(1:Int)<=(L.length:Int):=J
  clear Sr hp Tc t1 t2 hz;go_wp2_with fail;refine V.mono ?_;rintro e w7 ⟨rfl,s7,F7,V7⟩;have yz:=Z V7;clear V7 V;go_wp2;go_ret2;unfold oN;refine⟨nb+1,s7,F7,rfl,yz.src,yz.wk,by rw[yz.n,awH,HL.o];rfl,λl=>by rw[yz.N];rfl,by rw[yz.O];rfl,by rw[yz.D];rfl,λg hg=>?_,λg hg=>?_,yz.apart,?_⟩
  ·exact(yz.grow.new g hg).elim (aaU.o g) (λh=>av2 nD.size h)
  ·exact(yz.foot g hg).imp id (λh=>av2 nD.size h)
  ·exact(nD.mono (T:=F) (λ_ _ h=>h.elim)).trans yz.mod (λg hg hh=>hh.elim (λhr=>by have:=aaU.o g hr;omega) id)
theorem Mb {ty:TypeId}{rd:Rd}(S:qg ty rv f I rd)(hI:I w F)(bl:fI)(hm:bl.may=true)(l:List Int)(hd:oo rd bl=.ok l):
  Calls prog 161 #[.iface ty rv,cR bl] w λe w'=>∃ v,e=.returned (.tuple #[v,.int .i64 0])/\aO w' w.heap.size v l/\∃ F',I w' F'/\dO F F' w w'/\(∀ g,v.ownBlock=some g->¬ F' g):=by
 obtain⟨o,ho,rfl⟩:∃ o,d7 rd bl false=.ok o/\dG o.1=l:=by
  unfold oo at hd
  cases h:d7 rd bl false with
  |error e=>rw[h]at hd;cases hd
  |ok o=>rw[h]at hd;exact⟨o,rfl,by injection hd⟩
 have dM:af w (w.alloc (.cells #[.int .i64 bl.root,.int .i64 bl.size] 42)):=(ai.refl _ w).alloc _;obtain⟨T,eR,HS⟩:=K3 (uh S (S.same hI (dM.on λ_ _=>id) dM.size) bl false hm o ho) dM S;clear hI hd ho dM;unfold cR at T ⊢;go_enter func161,ntmps161;go_wp2_with fail;refine T.mono ?_;rintro e w1 ⟨b,s1,F1,rfl,Og,Uq,_,_,hO,_,j4,qp,nI,dV⟩;have c3:w1.cell? ⟨b,3,none⟩=some s1.ov:=aa Uq.own 3;have HO:Hid (aO w1 w.heap.size s1.ov (dG o.1)):=Z (by
  have h:=Uq.order;rw[hO]at h;obtain⟨h1,h2⟩:=h;refine⟨h1,h2.imp id ?_⟩;rintro⟨g,cap,dW,e,_,r⟩;exact⟨g,cap,dW,e,av2 eR.size (j4 g (by rw[Uq.rorder g (by rw[e];rfl)];exact aH.noConfusion)),r⟩)
 have Hro:Hid (∀ g,s1.ov.ownBlock=some g->¬ F1 g):=Z (λg hg=>nI g (by rw[Uq.rorder g hg];exact aH.noConfusion));obtain⟨Y5,HM⟩:=K2 Og ((eR.mono (T:=F) (λ_ _ h=>h.elim)).trans dV (λ_ _ h=>h));have adV:Hid (∀ g,F1 g->F g\/w.heap.size<=g):=Z (λg hg=>(qp g hg).imp id (λh=>av2 eR.size h));clear Og Uq nI dV j4 qp hO T;go_wp2;go_ret2;exact⟨s1.ov,rfl,HO.o,F1,Y5.o,⟨HM.o,adV.o⟩,Hro.o⟩
theorem ir {p:Pl}(h:jK w b p):w.cell? ⟨b,0,none⟩=some (.string ⟨p.used.toArray⟩)/\w.cell? ⟨b,1,none⟩=some (.string ⟨p.taken.toArray⟩)/\w.cell? ⟨b,2,none⟩=some (.int .i64 (p.blocks:Int))/\w.cell? ⟨b,3,none⟩=some (.int .i64 (p.next:Int))/\w.cell? ⟨b,4,none⟩=some (.int .i64 (p.left:Int)):=
 ⟨aa h.own 0,aa h.own 1,aa h.own 2,aa h.own 3,aa h.own 4⟩
theorem Ip {p:Pl}(h:cE p)(hl:0<p.left):(∃ n,fW p.used p.next p.blocks=some n/\p.seek=n)\/(fW p.used p.next p.blocks=none/\∃ n,fW p.used 1 p.blocks=some n/\p.seek=n):=by
 cases h1:fW p.used p.next p.blocks with
 |some n=>exact .inl ⟨n,rfl,by simp[Pl.seek,h1]⟩
 |none=>
  right
  refine⟨rfl,?_⟩
  cases h2:fW p.used 1 p.blocks with
  |some n=>exact⟨n,rfl,by simp[Pl.seek,h1,h2]⟩
  |none=>
   exfalso;rw[h.left]at hl;obtain⟨n,n1,n2,n3⟩:=DB hl;have:=vz h2 n n1 n2;rw[this]at n3;cases n3
def Pl.took (p:Pl):Pl:={ p with used:=dZ p.used (iE [p.seek]),taken:=dZ p.taken (iE [p.seek]),next:=p.seek+1,left:=p.left-1 }
theorem sZ {p:Pl}(hl:0<p.left):p.take=.ok (p.seek,p.took):=by unfold Pl.take;rw[awf J];rfl
theorem VH {p:Pl}(h:cE p)(hl:0<p.left):cE p.took:=by
 obtain⟨n,p',h1,_,_,_,h2,_⟩:=uV h hl;rw[sZ hl]at h1;injection h1 with h1;injection h1 with _ h1;rw[h1];exact h2
theorem zX {p:Pl}(h:jK w b p)(hl:0<p.left):
  Calls prog 216 #[.pointer (some ⟨b,0,none⟩)] w λe w'=>e=.returned (.tuple #[.int .i64 (p.seek:Int),.int .i64 0])/\jK w' b p.took/\ai (λg=>g=b) w w':=by
 obtain⟨HC,OS,Hu,Ht,XX,Hl⟩:=K6 (Ip h.ok hl) (VH h.ok hl) h.used h.taken h.ok hl;have dM:af w (w.alloc (.cells #[.pointer (some ⟨b,0,none⟩)] 200)):=(ai.refl _ w).alloc _;have h0:=h.mod dM id;have rf:World.blk (w.alloc (.cells #[.pointer (some ⟨b,0,none⟩)] 200)) w.heap.size #[.pointer (some ⟨b,0,none⟩)] 200:=av _ _ _;have rj:w.heap.size≠b:=by have:=ak h.own;omega
 have FK:((p.left:Nat):Int)≠0:=J
 have hlb:((p.left:Nat):Int)<=5000:=by
  have:=h.ok.left;have:=h.ok.most;have:kF p.used p.blocks<=p.blocks:=av2 (awh _ _) sp7;omega
 have KF:(1:Int)<=((p.left:Nat):Int):=J
 have cc:=ir h;have SD:b<w.heap.size:=ak h.own;obtain⟨eR,H0,Xe⟩:=K3 dM h0 rf;clear h h0 rf dM hl;go_enter func216,ntmps216;obtain⟨W0,pQ⟩:∃ W0,w.alloc (.cells #[.pointer (some ⟨b,0,none⟩)] 200)=W0:=⟨_,rfl⟩
 obtain⟨bx,aeB⟩:∃ bx,w.heap.size=bx:=⟨_,rfl⟩
 rw[pQ]at eR H0 Xe;rw[aeB]at Xe rj;obtain⟨d0,d1,d2,d3,d4⟩:=ir H0.o;have x0:W0.cell? ⟨bx,0,none⟩=some (.pointer (some ⟨b,0,none⟩)):=aa Xe.o 0;clear cc;go_wp2_with fail;clear pQ aeB SD;have pn:(p.next:Int)<=5000:=by have:=XX.hi;have:=XX.most;omega
 have S1:=Z (λm=>DT (H0.mod ((ai.refl (λ_=>False) W0).drewN m) id) (cf Xe.o m) p.next p.blocks J (by have:=XX.most;omega));refine gl 9 kr7 kr7 ?_;simp only[awS,awT,awU,awV]
 repeat (quiet_step (fail))
 refine awX ?_;intro _ bD;obtain⟨nq,rfl⟩:=bD;go_wp2_with fail;refine(S1.o nq).mono ?_;rintro e w1 ⟨rfl,e1⟩;have TP:af W0 (W0.drewN nq):=(ai.refl _ W0).drewN nq;have key:∀ w2:World,w2=(W0.drewN nq).setCell ⟨b,3,none⟩ (.int .i64 ((p.seek+1:Nat):Int))->jK w2 b { p with next:=p.seek+1 }/\World.blk w2 bx #[.pointer (some ⟨b,0,none⟩)] 200/\ai (λg=>g=b) W0 w2:=by
  rintro w2 rfl;have m:ai (λg=>g=b) (W0.drewN nq) ((W0.drewN nq).setCell ⟨b,3,none⟩ (.int .i64 ((p.seek+1:Nat):Int))):=(ai.refl (λg=>g=b) _).setCell (p:=⟨b,3,none⟩) (.inl rfl) _;refine⟨⟨ah (H0.mod TP id).own 3 _,⟨OS.lo,OS.hi,XX.most,XX.left⟩,Hu.o,Ht.o⟩,ab m (cf Xe.o nq) rj,(TP.mono (T:=λg=>g=b) (λ_ _ h=>h.elim)).trans m (λ_ _ h=>h)⟩
 have Key:=Z key;have HP:Hid (∃ p1:Pl,p1={ p with next:=p.seek+1 }):=Z ⟨_,rfl⟩;clear key;rcases HC.o with⟨n,g1,g2⟩|⟨g1,n,g3,g2⟩
 ·rw[g1]at e1 ⊢;simp only at e1;have en:((n+1:Nat):Int)=((p.seek+1:Nat):Int):=by rw[g2]
  rw[en]at e1;obtain⟨q1,q2,q3⟩:=Key.o w1 e1;obtain⟨Q1,Q2,Q3⟩:=K3 q1 q2 q3;clear q1 q2 q3 e1 en g1 g2 Key TP;have y3:=(ir Q1.o).2.2.2.1;have y0:w1.cell? ⟨bx,0,none⟩=some (.pointer (some ⟨b,0,none⟩)):=aa Q2.o 0;have zj:(p.seek:Int)<=4096:=by have:=OS.hi;have:=XX.most;have e:p.took.next=p.seek+1:=rfl;have e2:p.took.blocks=p.blocks:=rfl;omega
  have es:((p.seek+1:Nat):Int)=(p.seek:Int)+1:=J
  simp only[es]at y3;clear x0 d0 d1 d2 d3 d4;obtain⟨k,hk⟩:∃ k,p.seek=k:=⟨_,rfl⟩
  obtain⟨OF,Hk⟩:=K2 (λW v (hv:eg W v (pT [k]))=>Bf [k] v W hv sp7 (by simp;omega)) hk;rw[hk]at y3 zj;go_wp2_with fail;have cq:eg (w1.alloc (.cells #[.int .i64 (k:Int)] 3)) (.slice (some ⟨w1.heap.size,0,none⟩) 1 1) (pT [k]):=AT 1 (av w1 #[.int .i64 (k:Int)] 3);refine(OF.o _ _ cq).mono ?_;rintro e w5 ⟨rfl,kV⟩;have pX:af w1 w5:=((ai.refl (λ_=>False) _).alloc _).keep kV;obtain⟨P6,X6,M6⟩:=K3 (Q1.mod pX id) (ab pX Q2.o id) (Q3.keep pX);clear cq kV pX y3 y0 OF;have z:=ir P6.o;simp only at z;obtain⟨z0,z1,_,_,z4⟩:=z;have zx:w5.cell? ⟨bx,0,none⟩=some (.pointer (some ⟨b,0,none⟩)):=aa X6.o 0;have lb:b<w5.heap.size:=ak P6.own;have lx:bx<w5.heap.size:=ak X6.o;have fb0:∀ xq,(w5.ext xq).frozen? ⟨b,0,none⟩=false:=λxq=>ae (ab (aC w5 xq) P6.own id) _ rfl;have OE:(iE [k]).length<=600:=av2 (DJ k) J;have hul:=Hu.o;have sJ:=Ht.o;obtain⟨one,Jl⟩:∃ one,iE [k]=one:=⟨_,rfl⟩
  rw[Jl]at OE ⊢;obtain⟨O1,O2,Jm⟩:=K3 (λW=>jX p.used one W J J) (λW=>jX p.taken one W J J) Jl;clear Jl;go_wp2_with fail;have Pb:=Z P6.own;have d1:∀ xq,(w5.ext xq).cell? ⟨bx,0,none⟩=some (.pointer (some ⟨b,0,none⟩)):=λxq=>aa (ab (aC w5 xq) X6.o id) 0;refine ky 2 14 100 (λw'=>∃ x,w'=w5.ext x) (λw'=>w'.cell? ⟨bx,0,none⟩=some (.pointer (some ⟨b,0,none⟩))) (λ_=>True) kr7 kr7 dc7 (λ_ o _ _ _ h=>by cases o<;>exact h) (gP ((ai.refl _ w5).drawn _)) (by rintro _ ⟨x,rfl⟩;exact⟨d1 x,trivial⟩) ?_;simp only[awS,awT,awU,awV]
  iterate 2 (refine oz (λL hL=>?_);go_simp;(first|refine hL _ ?_|refine⟨_,λ_ _=>rfl,hL _ ?_⟩|refine⟨_,λW hW=>by simp only[hW];rfl,hL _ ?_⟩);clear hL L)
  refine qE ?_
  repeat (quiet_step (first|with_reducible exact ar (O1.o _)|with_reducible exact ar (O2.o _)))
  refine awX ?_;intro _ bD;obtain⟨xq,rfl⟩:=bD;have Xo:=aC w5 xq;have B5:=ab Xo Pb.o id;have bxn:bx≠b:=rj;have e1:=d1 xq;obtain⟨W5,yE⟩:∃ W5,w5.ext xq=W5:=⟨_,rfl⟩
  rw[yE]at B5 e1 Xo ⊢;have Gk:Hid (ai (λg=>g=b) W0 W5):=Z (M6.keep Xo);have X5:=Z (yE▸ab (aC w5 xq) X6.o id:World.blk W5 bx #[.pointer (some ⟨b,0,none⟩)] 200);clear yE d1 O1 O2 z0 z1 z4 zx lb lx fb0 Xo;obtain⟨U,hU⟩:∃ U,dZ p.used one=U:=⟨_,rfl⟩
  obtain⟨T,hT⟩:∃ T,dZ p.taken one=T:=⟨_,rfl⟩
  rw[hU,hT];obtain⟨HU,HT⟩:=K2 hU hT;have B6:=ah B5 0 (.string ⟨U.toArray⟩);have m6:ai (λg=>g=b) W5 (W5.setCell ⟨b,0,none⟩ (.string ⟨U.toArray⟩)):=(ai.refl (λg=>g=b) W5).setCell (p:=⟨b,0,none⟩) (.inl rfl) _;have a0:W5.cell? ⟨b,0,none⟩=some (.string ⟨p.used.toArray⟩):=aa B5 0;have a0f:=ae B5 ⟨b,0,none⟩ rfl;obtain⟨W6,UF⟩:∃ W6,W5.setCell ⟨b,0,none⟩ (.string ⟨U.toArray⟩)=W6:=⟨_,rfl⟩
  rw[UF]at B6 m6;have X6':=ab m6 X5.o rj;have e6:W6.cell? ⟨bx,0,none⟩=some (.pointer (some ⟨b,0,none⟩)):=aa X6' 0;have a1:W6.cell? ⟨b,1,none⟩=some (.string ⟨p.taken.toArray⟩):=aa B6 1;have a1f:=ae B6 ⟨b,1,none⟩ rfl;have B7:=ah B6 1 (.string ⟨T.toArray⟩);have m7:ai (λg=>g=b) W6 (W6.setCell ⟨b,1,none⟩ (.string ⟨T.toArray⟩)):=(ai.refl (λg=>g=b) W6).setCell (p:=⟨b,1,none⟩) (.inl rfl) _;obtain⟨W7,WW⟩:∃ W7,W6.setCell ⟨b,1,none⟩ (.string ⟨T.toArray⟩)=W7:=⟨_,rfl⟩
  rw[WW]at B7 m7;have X7':=ab m7 X6' rj;have e7:W7.cell? ⟨bx,0,none⟩=some (.pointer (some ⟨b,0,none⟩)):=aa X7' 0;have a4:W7.cell? ⟨b,4,none⟩=some (.int .i64 (p.left:Int)):=aa B7 4;have a4f:=ae B7 ⟨b,4,none⟩ rfl;have B8:=Z (ah B7 4 (.int .i64 ((p.left:Int)-1)));have m8:ai (λg=>g=b) W7 (W7.setCell ⟨b,4,none⟩ (.int .i64 ((p.left:Int)-1))):=(ai.refl (λg=>g=b) W7).setCell (p:=⟨b,4,none⟩) (.inl rfl) _;have HM8:=Z (((Gk.trans m6 (λ_ _ h=>h)).trans m7 (λ_ _ h=>h)).trans m8 (λ_ _ h=>h));have hpw:p.left<=5000:=J
  clear B5 B6 B7 m6 m7 m8 X6' X7' hU hT bxn Q1 Q2 Q3 HP;refine⟨⟨e1,.inr trivial⟩,?_⟩;go_wp2_with fail;refine⟨⟨e1,.inr trivial⟩,?_⟩;go_wp2_with fail;refine⟨⟨e1,.inr trivial⟩,?_⟩;go_wp2_with fail;refine⟨⟨e6,.inr trivial⟩,?_⟩;go_wp2_with fail;refine⟨⟨e6,.inr trivial⟩,?_⟩;go_wp2_with fail;refine⟨⟨e6,.inr trivial⟩,?_⟩;go_wp2_with fail;refine⟨⟨e7,.inr trivial⟩,?_⟩;clear e1 e6 a0 a0f a1 a1f UF WW;go_wp2;go_ret2;have hBk:(p.seek:Int)=(k:Int):=by rw[Hk.o]
  refine⟨by rw[hBk];rfl,⟨?_,OS.o,?_,?_⟩,((eR.mono (T:=λg=>g=b) (λ_ _ h=>h.elim)).trans HM8.o (λ_ _ h=>h))⟩
  ·have e:qM p.took=#[.string ⟨U.toArray⟩,.string ⟨T.toArray⟩,.int .i64 (p.blocks:Int),.int .i64 ((p.seek+1:Nat):Int),.int .i64 ((p.left:Int)-1)]:=by
    have h1:((p.left-1:Nat):Int)=(p.left:Int)-1:=by have:=Hl.o;omega
    unfold qM Pl.took;simp only[h1];rw[Hk.o,Jm.o,HU.o,HT.o]
   rw[e];exact B8.o
  ·show(dZ p.used (iE [p.seek])).length<=600;have:=lA p.used (iE [p.seek]);have h2:(iE [p.seek]).length<=600:=by rw[Hk.o,Jm.o];exact OE
   omega
  ·show(dZ p.taken (iE [p.seek])).length<=600;have:=lA p.taken (iE [p.seek]);have h2:(iE [p.seek]).length<=600:=by rw[Hk.o,Jm.o];exact OE
   omega
 ·rw[g1]at e1 ⊢;simp only at e1;have e1':W0.drewN nq=w1:=e1.symm;have hd:=H0.mod TP id;have qo:=ab TP Xe.o id;rw[e1']at hd qo;have S2:=Z (DT hd qo 1 p.blocks J (by have:=XX.most;omega));have y2:=(ir hd).2.2.1;have yx:w1.cell? ⟨bx,0,none⟩=some (.pointer (some ⟨b,0,none⟩)):=aa qo 0;rw[e1']at Key;clear x0 d0 d1 d2 d3 d4 hd qo e1 S1;go_wp2_with fail;refine S2.mono ?_;rintro e w2 ⟨rfl,e2⟩;rw[g3]at e2 ⊢;simp only at e2;have en:((n+1:Nat):Int)=((p.seek+1:Nat):Int):=by rw[g2]
  rw[en]at e2;clear y2 yx S2;obtain⟨q1,q2,q3⟩:=Key.o w2 e2;obtain⟨Q1,Q2,Q3⟩:=K3 q1 q2 q3;clear q1 q2 q3 e2 en g1 g2 g3 Key TP e1';have y3:=(ir Q1.o).2.2.2.1;have y0:w2.cell? ⟨bx,0,none⟩=some (.pointer (some ⟨b,0,none⟩)):=aa Q2.o 0;have zj:(p.seek:Int)<=4096:=by have:=OS.hi;have:=XX.most;have e:p.took.next=p.seek+1:=rfl;have e2:p.took.blocks=p.blocks:=rfl;omega
  have es:((p.seek+1:Nat):Int)=(p.seek:Int)+1:=J
  simp only[es]at y3;obtain⟨k,hk⟩:∃ k,p.seek=k:=⟨_,rfl⟩
  obtain⟨OF,Hk⟩:=K2 (λW v (hv:eg W v (pT [k]))=>Bf [k] v W hv sp7 (by simp;omega)) hk;rw[hk]at y3 zj;go_wp2_with fail;have cq:eg (w2.alloc (.cells #[.int .i64 (k:Int)] 3)) (.slice (some ⟨w2.heap.size,0,none⟩) 1 1) (pT [k]):=AT 1 (av w2 #[.int .i64 (k:Int)] 3);refine(OF.o _ _ cq).mono ?_;rintro e w5 ⟨rfl,kV⟩;have pX:af w2 w5:=((ai.refl (λ_=>False) _).alloc _).keep kV;obtain⟨P6,X6,M6⟩:=K3 (Q1.mod pX id) (ab pX Q2.o id) (Q3.keep pX);clear cq kV pX y3 y0 OF;have z:=ir P6.o;simp only at z;obtain⟨z0,z1,_,_,z4⟩:=z;have zx:w5.cell? ⟨bx,0,none⟩=some (.pointer (some ⟨b,0,none⟩)):=aa X6.o 0;have lb:b<w5.heap.size:=ak P6.own;have lx:bx<w5.heap.size:=ak X6.o;have fb0:∀ xq,(w5.ext xq).frozen? ⟨b,0,none⟩=false:=λxq=>ae (ab (aC w5 xq) P6.own id) _ rfl;have OE:(iE [k]).length<=600:=av2 (DJ k) J;have hul:=Hu.o;have sJ:=Ht.o;obtain⟨one,Jl⟩:∃ one,iE [k]=one:=⟨_,rfl⟩
  rw[Jl]at OE ⊢;obtain⟨O1,O2,Jm⟩:=K3 (λW=>jX p.used one W J J) (λW=>jX p.taken one W J J) Jl;clear Jl;go_wp2_with fail;have Pb:=Z P6.own;have d1:∀ xq,(w5.ext xq).cell? ⟨bx,0,none⟩=some (.pointer (some ⟨b,0,none⟩)):=λxq=>aa (ab (aC w5 xq) X6.o id) 0;refine ky 2 14 100 (λw'=>∃ x,w'=w5.ext x) (λw'=>w'.cell? ⟨bx,0,none⟩=some (.pointer (some ⟨b,0,none⟩))) (λ_=>True) kr7 kr7 dc7 (λ_ o _ _ _ h=>by cases o<;>exact h) (gP ((ai.refl _ w5).drawn _)) (by rintro _ ⟨x,rfl⟩;exact⟨d1 x,trivial⟩) ?_;simp only[awS,awT,awU,awV]
  iterate 2 (refine oz (λL hL=>?_);go_simp;(first|refine hL _ ?_|refine⟨_,λ_ _=>rfl,hL _ ?_⟩|refine⟨_,λW hW=>by simp only[hW];rfl,hL _ ?_⟩);clear hL L)
  refine qE ?_
  repeat (quiet_step (first|with_reducible exact ar (O1.o _)|with_reducible exact ar (O2.o _)))
  refine awX ?_;intro _ bD;obtain⟨xq,rfl⟩:=bD;have Xo:=aC w5 xq;have B5:=ab Xo Pb.o id;have bxn:bx≠b:=rj;have e1:=d1 xq;obtain⟨W5,yE⟩:∃ W5,w5.ext xq=W5:=⟨_,rfl⟩
  rw[yE]at B5 e1 Xo ⊢;have Gk:Hid (ai (λg=>g=b) W0 W5):=Z (M6.keep Xo);have X5:=Z (yE▸ab (aC w5 xq) X6.o id:World.blk W5 bx #[.pointer (some ⟨b,0,none⟩)] 200);clear yE d1 O1 O2 z0 z1 z4 zx lb lx fb0 Xo;obtain⟨U,hU⟩:∃ U,dZ p.used one=U:=⟨_,rfl⟩
  obtain⟨T,hT⟩:∃ T,dZ p.taken one=T:=⟨_,rfl⟩
  rw[hU,hT];obtain⟨HU,HT⟩:=K2 hU hT;have B6:=ah B5 0 (.string ⟨U.toArray⟩);have m6:ai (λg=>g=b) W5 (W5.setCell ⟨b,0,none⟩ (.string ⟨U.toArray⟩)):=(ai.refl (λg=>g=b) W5).setCell (p:=⟨b,0,none⟩) (.inl rfl) _;have a0:W5.cell? ⟨b,0,none⟩=some (.string ⟨p.used.toArray⟩):=aa B5 0;have a0f:=ae B5 ⟨b,0,none⟩ rfl;obtain⟨W6,UF⟩:∃ W6,W5.setCell ⟨b,0,none⟩ (.string ⟨U.toArray⟩)=W6:=⟨_,rfl⟩
  rw[UF]at B6 m6;have X6':=ab m6 X5.o rj;have e6:W6.cell? ⟨bx,0,none⟩=some (.pointer (some ⟨b,0,none⟩)):=aa X6' 0;have a1:W6.cell? ⟨b,1,none⟩=some (.string ⟨p.taken.toArray⟩):=aa B6 1;have a1f:=ae B6 ⟨b,1,none⟩ rfl;have B7:=ah B6 1 (.string ⟨T.toArray⟩);have m7:ai (λg=>g=b) W6 (W6.setCell ⟨b,1,none⟩ (.string ⟨T.toArray⟩)):=(ai.refl (λg=>g=b) W6).setCell (p:=⟨b,1,none⟩) (.inl rfl) _;obtain⟨W7,WW⟩:∃ W7,W6.setCell ⟨b,1,none⟩ (.string ⟨T.toArray⟩)=W7:=⟨_,rfl⟩
  rw[WW]at B7 m7;have X7':=ab m7 X6' rj;have e7:W7.cell? ⟨bx,0,none⟩=some (.pointer (some ⟨b,0,none⟩)):=aa X7' 0;have a4:W7.cell? ⟨b,4,none⟩=some (.int .i64 (p.left:Int)):=aa B7 4;have a4f:=ae B7 ⟨b,4,none⟩ rfl;have B8:=Z (ah B7 4 (.int .i64 ((p.left:Int)-1)));have m8:ai (λg=>g=b) W7 (W7.setCell ⟨b,4,none⟩ (.int .i64 ((p.left:Int)-1))):=(ai.refl (λg=>g=b) W7).setCell (p:=⟨b,4,none⟩) (.inl rfl) _;have HM8:=Z (((Gk.trans m6 (λ_ _ h=>h)).trans m7 (λ_ _ h=>h)).trans m8 (λ_ _ h=>h));have hpw:p.left<=5000:=J
  clear B5 B6 B7 m6 m7 m8 X6' X7' hU hT bxn Q1 Q2 Q3 HP;refine⟨⟨e1,.inr trivial⟩,?_⟩;go_wp2_with fail;refine⟨⟨e1,.inr trivial⟩,?_⟩;go_wp2_with fail;refine⟨⟨e1,.inr trivial⟩,?_⟩;go_wp2_with fail;refine⟨⟨e6,.inr trivial⟩,?_⟩;go_wp2_with fail;refine⟨⟨e6,.inr trivial⟩,?_⟩;go_wp2_with fail;refine⟨⟨e6,.inr trivial⟩,?_⟩;go_wp2_with fail;refine⟨⟨e7,.inr trivial⟩,?_⟩;clear e1 e6 a0 a0f a1 a1f UF WW;go_wp2;go_ret2;have hBk:(p.seek:Int)=(k:Int):=by rw[Hk.o]
  refine⟨by rw[hBk];rfl,⟨?_,OS.o,?_,?_⟩,((eR.mono (T:=λg=>g=b) (λ_ _ h=>h.elim)).trans HM8.o (λ_ _ h=>h))⟩
  ·have e:qM p.took=#[.string ⟨U.toArray⟩,.string ⟨T.toArray⟩,.int .i64 (p.blocks:Int),.int .i64 ((p.seek+1:Nat):Int),.int .i64 ((p.left:Int)-1)]:=by
    have h1:((p.left-1:Nat):Int)=(p.left:Int)-1:=by have:=Hl.o;omega
    unfold qM Pl.took;simp only[h1];rw[Hk.o,Jm.o,HU.o,HT.o]
   rw[e];exact B8.o
  ·show(dZ p.used (iE [p.seek])).length<=600;have:=lA p.used (iE [p.seek]);have h2:(iE [p.seek]).length<=600:=by rw[Hk.o,Jm.o];exact OE
   omega
  ·show(dZ p.taken (iE [p.seek])).length<=600;have:=lA p.taken (iE [p.seek]);have h2:(iE [p.seek]).length<=600:=by rw[Hk.o,Jm.o];exact OE
   omega
structure zY (ty:TypeId)(rv:Value)(fr fw:FuncId)(I:Rd->World->(Nat->Prop)->Prop)(blocks:Nat):Prop where
 src:∀ rd,qg ty rv fr (I rd) rd
 methW:∀ W,(method 583 ty rv "Write").run prog W=.ok (fw,rv) W
 callW:∀(x y:Value) (W:World),(callFunc fw #[rv,x,y]).run prog W=.ok (.enter fw #[rv,x,y]) W
 write:∀ {rd:Rd} {w:World} {F:Nat->Prop} {n:Nat} {p:ay},I rd w F->1<=n->n<blocks->p.length<=240->Calls prog fw #[rv,.int .i64 (n:Int),.string ⟨p.toArray⟩] w λe w'=>e=.returned (.int .i64 0)/\∃ F',I (lM rd n p) w' F'/\dO F F' w w'
theorem mZ {ty:TypeId}{I:Rd->World->(Nat->Prop)->Prop}(S:zY ty rv fr fw I blocks){rd:Rd}{p:Pl}(hI:I rd w F)(hp:jK w pb p)(hF:¬ F pb)(hb:p.blocks=blocks)(hl:0<p.left)(s:ay)(hs:s.length<=240):
  Calls prog 269 #[.iface ty rv,.pointer (some ⟨pb,0,none⟩),.string ⟨s.toArray⟩] w λe w'=>e=.returned (.tuple #[.int .i64 (p.seek:Int),.int .i64 0])/\∃ F',I (lM rd p.seek s) w' F'/\jK w' pb p.took/\(∀ g,F' g->F g\/w.heap.size<=g)/\¬ F' pb/\ai (λg=>F g\/g=pb) w w':=by
 obtain⟨k1,k2,_⟩:=pE hp.ok hl;obtain⟨T,HS,HI,HF,nR⟩:=K5 (zX hp hl) S hI hF (ak hp.own);have YR:=S.methW;have cI:=S.callW;have TT:p.seek<blocks:=by rw[<-hb];exact k2
 clear hp hI hF;go_enter func269,ntmps269;go_wp2_with fail;refine T.mono ?_;rintro e w1 ⟨rfl,CE,m1⟩;have Og:=(HS.src rd).same HI.o (m1.on λg hg e=>HF.o (e▸hg)) m1.size;obtain⟨Cd,rl,Wr⟩:=K3 CE m1 (HS.write Og k1 TT hs);clear CE m1 Og T;go_wp2_with fail;refine Wr.mono ?_;rintro e w2 ⟨rfl,F2,hI2,dK⟩;obtain⟨O7,bJ⟩:=K2 hI2 dK;clear hI2 dK Wr;go_wp2;go_ret2;exact⟨rfl,F2,O7.o,Cd.mod bJ.mod HF.o,λg hg=>(bJ.foot g hg).imp id (λh=>av2 rl.size h),λhg=>(bJ.foot pb hg).elim HF.o (λh=>by have:=nR.o;have:=rl.size;omega),
  (rl.mono (λ_ _ e=>.inr e)).trans bJ.mod (λ_ _ h=>.inl h)⟩
structure Eb (w:World)(nb:Nat)(rows:List Value)(N:Nat->List Int):Prop where
 nums:World.blk w nb rows.toArray 46
 row:∀ l v,rows[l]?=some v->aO w 0 v (N l)
def Qr (nb:Nat)(rows:List Value)(g:Nat):Prop:=g=nb\/∃(l:Nat) (v:Value),rows[l]?=some v/\v.ownBlock=some g
theorem Eb.same (h:Eb w nb rows N)(m:fy (Qr nb rows) w w'):Eb w' nb rows N where
 nums:=(m nb (.inl rfl) (ak h.nums)).trans h.nums
 row l v hv:=aA (h.row l v hv) λg hg=>m g (.inr ⟨l,v,hv,hg⟩) (aX (h.row l v hv) hg)
theorem Eb.lt (h:Eb w nb rows N){g:Nat}(hg:Qr nb rows g):g<w.heap.size:=by
 rcases hg with rfl|⟨l,v,hv,hg⟩
 ·exact ak h.nums
 ·exact aX (h.row l v hv) hg
structure kL (I:Rd->World->(Nat->Prop)->Prop)(blocks pb B:Nat)(w:World)(F:Nat->Prop)(t:gy)(v:Value)(L:List Int):Prop where
 src:I t.rd w F
 pool:jK w pb t.pool
 blocks:t.pool.blocks=blocks
 npb:¬ F pb
 row:aO w B v L
 away:∀ g,v.ownBlock=some g->¬ F g/\g≠pb
 B:B<=w.heap.size
structure df (F F':Nat->Prop)(pb B:Nat)(w w':World):Prop where
 mod:ai (λg=>F g\/g=pb\/B<=g) w w'
 foot:∀ g,F' g->F g\/w.heap.size<=g
theorem df.refl (F:Nat->Prop)(pb B:Nat)(w:World):df F F pb B w w:=⟨ai.refl _ _,λ_ h=>.inl h⟩
theorem df.trans {F2:Nat->Prop}(h:df F F1 pb B w w1)(k:df F1 F2 pb B w1 w2)(_hB:B<=w.heap.size):df F F2 pb B w w2 where
 mod:=h.mod.trans k.mod λg hg hh=>by
  rcases hh with hh|hh|hh
  ·exact(h.foot g hh).elim .inl (λh2=>J)
  ·exact .inr (.inl hh)
  ·exact .inr (.inr hh)
 foot g hg:=(k.foot g hg).elim (h.foot g) (λh2=>.inr (av2 h.mod.size h2))
theorem kL.append {ty:TypeId}{I:Rd->World->(Nat->Prop)->Prop}(S:zY ty rv fr fw I blocks){t:gy}(h:kL I blocks pb B w F t v L)(hL:L.length<=100000)(x:Int):
  ∃ g cap w',(Builtin.append_ #[46,46] 46 #[v,.slice (some ⟨w.heap.size,0,none⟩) 1 1]).run prog (w.alloc (.cells #[.int .i64 x] 3))=.ok (.slice (some ⟨g,0,none⟩) (L.length+1) cap) w'/\kL I blocks pb B w' F t (.slice (some ⟨g,0,none⟩) (L.length+1) cap) (L++[x])/\df F F pb B w w':=by
 obtain⟨v',w',r,own,m,at',g,cap,rfl⟩:=gQ (P:=prog) underlying46 iQ rfl dc7 B v _ _ w h.row [.int .i64 x] rfl (by simp[Value.oneCell']) (by unfold maxLen;show L.length+1<=_;omega) (by show(L.length+1)*8<=_;omega) h.B;have nX:=ak h.pool.own;refine⟨g,cap,w',r,⟨(S.src t.rd).same h.src (m.on λg hg hv=>(h.away g hv).1 hg) m.size,h.pool.mod m (λhv=>(h.away pb hv).2 rfl),h.blocks,h.npb,j6 own,λg' hg'=>?_,av2 h.B m.size⟩,⟨m.mono λg' _ hv=>.inr (.inr (h.row.lt g' hv).1),λ_ h=>.inl h⟩⟩;rcases at' with e|⟨k,e,hk⟩
 ·exact h.away g' (e▸hg')
 ·rw[hg']at e
  cases e
  exact⟨λhf=>by have:=(S.src t.rd).lt h.src g' hf;omega,J⟩
theorem df.down {B':Nat}(h:df F F1 pb B w w1)(hB:B'<=B):df F F1 pb B' w w1:=⟨h.mod.mono λ_g _ hh=>hh.imp id (λh=>h.imp id (λh=>av2 hB h)),h.foot⟩
theorem zZ {s:Nat->ay}{f:Nat}{t t':gy}(h:ik stay s (f+1) i t=.ok (L,t')):(∃ n L',stay i=some n/\ik stay s f (i+1) t=.ok (L',t')/\L=n::L')\/(stay i=none/\0<t.pool.left/\∃ L',ik stay s f (i+1) ⟨lM t.rd t.pool.seek (s i),t.pool.took⟩=.ok (L',t')/\L=(t.pool.seek:Int)::L'):=by
 unfold ik at h
 cases hs:stay i with
 |some n=>
  rw[hs]at h;simp only at h
  cases hl:ik stay s f (i+1) t with
  |error e=>rw[hl]at h;cases h
  |ok x=>
   rw[hl]at h;simp only[Except.map]at h;injection h with h;injection h with h1 h2;subst h2;exact .inl ⟨n,x.1,rfl,rfl,h1.symm⟩
 |none=>
  rw[hs]at h;simp only at h;by_cases hl:t.pool.left=0
  ·have:t.pool.take=.error 101:=by unfold Pl.take;rw[awd hl]
   rw[this]at h;cases h
  ·rw[sZ J]at h;simp only at h
   cases hq:ik stay s f (i+1) ⟨lM t.rd t.pool.seek (s i),t.pool.took⟩with
   |error e=>rw[hq]at h;cases h
   |ok x=>
    rw[hq]at h;simp only[Except.map]at h;injection h with h;injection h with h1 h2;subst h2;exact .inr ⟨rfl,J,x.1,rfl,h1.symm⟩
theorem Ec {s:Nat->ay}{t t':gy}(h:ik stay s 0 i t=.ok (L,t')):L=[]/\t=t':=by
 unfold ik at h;injection h with h;injection h with h1 h2;exact⟨h1.symm,h2⟩
theorem kL.keep {ty:TypeId}{I:Rd->World->(Nat->Prop)->Prop}(S:zY ty rv fr fw I blocks){t:gy}(h:kL I blocks pb B w F t v L)(k:af w w'):kL I blocks pb B w' F t v L:=
 ⟨(S.src t.rd).same h.src (k.on λ_ _=>id) k.size,h.pool.mod k id,h.blocks,h.npb,ip h.row k,h.away,av2 h.B k.size⟩
theorem df.keep (h:df F F1 pb B w w1)(k:af w1 w2):df F F1 pb B w w2:=⟨h.mod.keep k,h.foot⟩
theorem kL.put {ty:TypeId}{I:Rd->World->(Nat->Prop)->Prop}(_S:zY ty rv fr fw I blocks){F':Nat->Prop}{t:gy}(h:kL I blocks pb B w F t v L){s:ay}
  (hI:I (lM t.rd t.pool.seek s) w' F') (hp:jK w' pb t.pool.took) (hf:∀ g,F' g->F g\/w.heap.size<=g) (hn:¬ F' pb) (m:ai (λg=>F g\/g=pb) w w'):kL I blocks pb B w' F' ⟨lM t.rd t.pool.seek s,t.pool.took⟩ v L/\df F F' pb B w w':=
 ⟨⟨hI,hp,h.blocks,hn,aA h.row λg hg=>m.block g (aX h.row hg) (λhh=>hh.elim (h.away g hg).1 (h.away g hg).2),λg hg=>⟨λhf'=>(hf g hf').elim (h.away g hg).1 (λh2=>by have:=aX h.row hg;omega),(h.away g hg).2⟩,av2 h.B m.size⟩,
  ⟨m.mono λg _ hh=>hh.elim .inl (λh=>.inr (.inl h)),hf⟩⟩
end
end Go.Proofs.YtkghpdcloaiflaaGreatDoor
