import Derived.Test.YtkghpdcloaiflaaGreatDoorB19
set_option maxHeartbeats 4000000
set_option maxRecDepth 100000
namespace Go.Proofs.YtkghpdcloaiflaaGreatDoor
open _root_.Go.Proofs.Tryz
section
open Go.RowKit Go.Shelf
attribute [local go_sem] auV
theorem H6:(prog.info? 46).map (fun i=>(i.zero,i.size,i.bytes))=some (some (.slice none 0 0),1,24):=by kernel_rfl
theorem yM (r:Nat)(hr:r<=100000)(W:World):
  (Instr.makeSlice 300 (.int .i64 r) (.int .i64 r)).run prog W=.ok (.slice (some ⟨W.heap.size,0,none⟩) r r) (W.alloc (.cells (Array.replicate r (Value.slice none 0 0)) 46)):=by
 obtain⟨i0,hi,ow,nO,oA⟩:=ave H6;have h:=run_make (P:=prog) W 300 46 i0 (.slice none 0 0) underlying300 hi ow .i64 .i64 (r:Int) (r:Int) (by omega) (Int.le_refl _) (by rw[oA];omega) (by omega)
 rwa [avD,nO,Nat.mul_one,rB _ rfl]at h
def dc (b:fU):Value:=.agg #[.int .i64 b.root,.int .i64 b.size]
def J1 (nb:Nat)(lv:Value)(L:List Nat)(size b:Nat):Oj:=
 ⟨nb,List.replicate L.length (.slice none 0 0),.slice none 0 0,.pointer none,.slice none 0 0,lv,L.length,fun _=>[],[],[],size,fun j=>L.getD j 0,fun g=>if g=b then .walk else if g=nb then .nums else if lv.ownBlock=some g then .below else .none⟩
theorem Y1 {w:World}{b nb:Nat}{iv:Value}{ch:Bool}{lv:Value}{L:List Nat}{size:Nat}(own:World.blk w b (j9 iv (.bool ch) (.slice (some ⟨nb,0,none⟩) L.length L.length) (.slice none 0 0) (.pointer none) (.slice none 0 0) (.int .i64 (size:Int)) lv) 302)
  (nums:World.blk w nb (Array.replicate L.length (Value.slice none 0 0)) 46) (below:aN w 0 lv (gm L)) (dV:nb≠b) (h1:∀ g,lv.ownBlock=some g->g≠b/\g≠nb):ua w b iv ch (J1 nb lv L size b) where
 own:=own
 nums:=by
  have e:Array.replicate L.length (Value.slice none 0 0)=(List.replicate L.length (Value.slice none 0 0)).toArray:=by simp
  rw[e]at nums;exact nums
 rlen:=by simp[J1]
 row l v hv:=by
  simp only[J1,List.getElem?_replicate]at hv;split at hv
  ·injection hv with hv;subst hv;exact⟨rfl,.inl ⟨rfl,rfl⟩⟩
  ·cases hv
 order:=⟨rfl,.inl ⟨rfl,rfl⟩⟩
 data:=.inl ⟨rfl,rfl,rfl⟩
 below:=by
  have e:(List.range L.length).map (fun j=>L.getD j 0)=L:=by
   apply List.ext_getElem
   ·simp
   ·intro i h1 h2;simp[h2]
  show aN w 0 lv (gm ((List.range L.length).map fun j=>L.getD j 0));rw[e];exact below
 rb:=by simp[J1]
 rnb:=by simp[J1,dV]
 rrow l v g hv hg:=by
  simp only[J1,List.getElem?_replicate]at hv;split at hv
  ·injection hv with hv;subst hv;cases hg
  ·cases hv
 rorder g hg:=by cases hg
 rdata g hg:=by cases hg
 rbelow g hg:=by
  obtain⟨a1,a2⟩:=h1 g hg;have hg':lv.ownBlock=some g:=hg;simp[J1,a1,a2,hg']
 lt g hg:=by
  simp only[J1]at hg;split at hg
  ·rename_i e;subst e;exact ak own
  ·split at hg
   ·rename_i e;subst e;exact ak nums
   ·split at hg
    ·rename_i e;exact aT below e
    ·exact absurd rfl hg
def o6 (w:World)(iv:Value)(ch:Bool)(I:World->(Nat->Prop)->Prop)(F:Nat->Prop)(n:Nat)(o:ru)(e:Ending)(w':World):Prop:=
 ∃ b s' F',e=.returned (.tuple #[.pointer (some ⟨b,0,none⟩),.int .i64 0])/\I w' F'/\ua w' b iv ch s'/\s'.n=n/\(∀ l,s'.N l=bL o.1 l)/\s'.O=dM o.1/\s'.D=o.2/\(∀ g,s'.role g≠.none->w.heap.size<=g)/\(∀ g,F' g->F g\/w.heap.size<=g)/\(∀ g,s'.role g≠.none->¬ F' g)/\ah F w w'
theorem ub {ty:TypeId}{rv:Value}{f:FuncId}{I:World->(Nat->Prop)->Prop}{rd:Rd}(S:qk ty rv f I rd){w:World}{F:Nat->Prop}(hI:I w F)(bl:fU)(ch:Bool)(hm:bl.may=true)(o:ru)(ho:eg rd bl ch=.ok o):
  Calls prog 224 #[.iface ty rv,dc bl,.bool ch] w (o6 w (.iface ty rv) ch I F (au bl.size.toNat).length o):=by
 obtain⟨root,sz⟩:=bl;have Jb:0<=sz/\sz<=16384/\(root=0↔sz=0):=by
  unfold fU.may at hm;simp only[avj,avo,avF]at hm;exact⟨hm.1.1,hm.1.2,by simpa using hm.2⟩
 obtain⟨size,rfl⟩:=Int.eq_ofNat_of_zero_le Jb.1;have cV:size<=16384:=by omega
 have Yk:(size:Int)<=16384:=by omega
 obtain⟨bz,V1⟩:∃ bz,((size:Int)==0)=bz:=⟨_,rfl⟩
 have hbr:(root==0)=bz:=by
  rw[<-V1,avI];simp only[avF];exact Jb.2.2
 have TW:(bz != bz)=false:=by simp
 have HS:=hd0 S;have HI:=hd0 hI;have Ho:=hd0 ho;have Nz:=hd0 Jb;have dt:af w (w.alloc (.cells #[.int .i64 root,.int .i64 (size:Int)] 42)):=(ah.refl _ w).alloc _;have iI:World.blk (w.alloc (.cells #[.int .i64 root,.int .i64 (size:Int)] 42)) w.heap.size #[.int .i64 root,.int .i64 (size:Int)] 42:=av _ _ _;obtain⟨W0,ux⟩:∃ W0,w.alloc (.cells #[.int .i64 root,.int .i64 (size:Int)] 42)=W0:=⟨_,rfl⟩
 obtain⟨bb,aeZ⟩:∃ bb,w.heap.size=bb:=⟨_,rfl⟩
 rw[ux]at dt iI;rw[aeZ]at iI;have c0:W0.cell? ⟨bb,0,none⟩=some (.int .i64 root):=aa iI 0;have c1:W0.cell? ⟨bb,1,none⟩=some (.int .i64 (size:Int)):=aa iI 1;have LV:=hd0 (qR size W0 cV);have Hsz:=hd0 cV;have dT:=hd0 dt;have nT:=hd0 iI;have R5:=hd0 (rP size);clear hm Jb hI ho dt iI cV;unfold dc;go_enter func224,ntmps224;go_wp2_with fail;refine LV.out.mono ?_;rintro e w1 ⟨lv,rfl,R8,hk1⟩;have jk:=hd0 (ab hk1 nT.out id);have HO1:=hd0 R8;have bZ:=hd0 (dT.out.keep hk1);have d1:w1.cell? ⟨bb,1,none⟩=some (.int .i64 (size:Int)):=aa jk.out 1;obtain⟨a1,xZ,e1,_⟩:=ba R8;obtain⟨L,hL⟩:∃ L,au size=L:=⟨_,rfl⟩
 have e1':lv=.slice a1 L.length xZ:=by rw[e1];simp[bi,gm,hL]
 rw[hL]at HO1 R5;have HL:=hd0 hL;have oe:=yM L.length (by have:=R5.out;omega);have Kq:(L.length:Int)<=3:=by have:=R5.out;omega
 have akn:bb<w1.heap.size:=ak jk.out;subst e1';clear LV R8 hk1 ux aeZ c0 c1 e1 hL;go_wp2_with fail
 go_region
 obtain⟨nb,BP⟩:∃ nb,w1.heap.size=nb:=⟨_,rfl⟩
 have m5:af w1 (((w1.alloc (.cells (Array.replicate L.length (Value.slice none 0 0)) 46)).alloc (.cells #[.iface ty rv,.bool ch,.slice (some ⟨w1.heap.size,0,none⟩) L.length L.length,.slice none 0 0,.pointer none,.slice none 0 0,.int .i64 (size:Int),.slice a1 L.length xZ] 302)).drew):=(((ah.refl _ w1).alloc _).alloc _).drew;have n5:World.blk (((w1.alloc (.cells (Array.replicate L.length (Value.slice none 0 0)) 46)).alloc (.cells #[.iface ty rv,.bool ch,.slice (some ⟨w1.heap.size,0,none⟩) L.length L.length,.slice none 0 0,.pointer none,.slice none 0 0,.int .i64 (size:Int),.slice a1 L.length xZ] 302)).drew) w1.heap.size (Array.replicate L.length (Value.slice none 0 0)) 46:=aF (av w1 _ _) _;have o5:World.blk (((w1.alloc (.cells (Array.replicate L.length (Value.slice none 0 0)) 46)).alloc (.cells #[.iface ty rv,.bool ch,.slice (some ⟨w1.heap.size,0,none⟩) L.length L.length,.slice none 0 0,.pointer none,.slice none 0 0,.int .i64 (size:Int),.slice a1 L.length xZ] 302)).drew) (w1.heap.size+1) (j9 (.iface ty rv) (.bool ch) (.slice (some ⟨w1.heap.size,0,none⟩) L.length L.length) (.slice none 0 0) (.pointer none) (.slice none 0 0) (.int .i64 (size:Int)) (.slice a1 L.length xZ)) 302:=aZ (w:=w1.alloc _) (by simp) _ _;obtain⟨W5,BV⟩:∃ W5,((w1.alloc (.cells (Array.replicate L.length (Value.slice none 0 0)) 46)).alloc (.cells #[.iface ty rv,.bool ch,.slice (some ⟨w1.heap.size,0,none⟩) L.length L.length,.slice none 0 0,.pointer none,.slice none 0 0,.int .i64 (size:Int),.slice a1 L.length xZ] 302)).drew=W5:=⟨_,rfl⟩
 rw[BV]at m5 n5 o5 ⊢;rw[BP]at n5 o5 ⊢;have X5:ua W5 (nb+1) (.iface ty rv) ch (J1 nb (.slice a1 L.length xZ) L size (nb+1)):=Y1 o5 n5 (eQ (iw HO1.out m5) (avL _)) (by omega) (fun g hg=>by have:=aT HO1.out hg;omega);have arR:w.heap.size<=W0.heap.size:=dT.out.size;have kj:∀ g,(J1 nb (.slice a1 L.length xZ) L size (nb+1)).role g≠.none->w.heap.size<=g:=fun g hg=>by
  have BW:w.heap.size<=nb:=by have:=bZ.out.size;omega
  simp only[J1]at hg;split at hg
  ·omega
  ·split at hg
   ·omega
   ·split at hg
    ·rename_i e
     have:=(HO1.out.lt g e).1;omega
    ·exact absurd rfl hg
 have mT:Hid (af w W5):=hd0 (bZ.out.keep m5);have hI5:I W5 F:=HS.out.same HI.out (mT.out.on fun _ _=>id) mT.out.size;have ad7:∀ g,(J1 nb (.slice a1 L.length xZ) L size (nb+1)).role g≠.none->¬ F g:=fun g hg hf=>by have:=kj g hg;have:=HS.out.lt HI.out g hf;omega
 have uE:=hd0 X5;have aaS:=hd0 kj;have HI5:=hd0 hI5;have adz:=hd0 ad7;have r0:W5.cell? ⟨bb,0,none⟩=some (.int .i64 root):=aa (ab m5 jk.out id) 0;clear X5 kj hI5 ad7 m5 n5 o5 BV oe d1 akn;by_cases hz:size=0
 ·have TG:L=[]:=by rw[<-HL.out,hz];rfl
  have SV:o=([],[]):=by
   have h:=Ho.out;unfold eg at h;rw[ava (by unfold fU.may;simp only[avj,avo,avF,Bool.not_eq_false];exact⟨⟨Nz.out.1,Nz.out.2.1⟩,by simpa using Nz.out.2.2⟩),au8 (by simp[hz])]at h;injection h with h;exact h.symm
  have yz:((L.length:Nat):Int)=0:=by rw[TG];rfl
  have Ho0:=hd0 SV;have HL0:=hd0 TG;clear TG SV hz;go_wp2;go_ret2;unfold o6;rw[Ho0.out];exact⟨nb+1,_,F,rfl,HI5.out,uE.out,by rw[avD,HL.out];rfl,fun l=>rfl,rfl,rfl,aaS.out,fun g hg=>.inl hg,adz.out,mT.out.mono fun _ _ h=>h.elim⟩
 ·have WE:0<size:=by omega
  obtain⟨t1,t2⟩:=JT size WE Hsz.out;rw[HL.out]at t1 t2;have Jj:nV rd ch size (L.length-1) 0 root=.ok o:=by
   have h:=Ho.out;unfold eg at h;rw[ava (by unfold fU.may;simp only[avj,avo,avF,Bool.not_eq_false];exact⟨⟨Nz.out.1,Nz.out.2.1⟩,by simpa using Nz.out.2.2⟩),ava (by show ¬((size:Int)=0);omega)]at h;simp only[avD]at h;rw[HL.out]at h;exact h
  have Sg:=wW _ _ _ _ Jj;have hp:60 ^ (L.length-1)<=3600:=by
   have h3:=R5.out;rcases(by omega:L.length-1=0\/L.length-1=1\/L.length-1=2)with e|e|e<;>rw[e]<;>decide
  have V:=hd0 (zY HS.out size Hsz.out (nb+1) ch (L.length-1) 0 root o W5 F _ HI5.out uE.out adz.out (by rw[HL.out];rfl) (by simp[J1]) (fun j hj=>by rw[HL.out];simp[J1]) (by rw[HL.out];omega) (by rw[HL.out,t2];omega) (by show 0+_<=_;omega) (fun k=>by show 0+_<=_;omega) (by show 0+_<=_;omega) Jj);have yB:((L.length-1:Nat):Int)=(L.length:Int)-1:=by have:=t1;omega
  rw[yB]at V;have hlz:(((L.length:Nat):Int)==0)=false:=by
   rw[avK];omega
  have hlp:(1:Int)<=(L.length:Int):=by omega
  clear Sg hp Jj t1 t2 hz;go_wp2_with fail;refine V.out.mono ?_;rintro e w7 ⟨rfl,s7,F7,V7⟩;have yj:=hd0 V7;clear V7 V;go_wp2;go_ret2;unfold o6;refine⟨nb+1,s7,F7,rfl,yj.out.src,yj.out.wk,by rw[yj.out.n,avD,HL.out];rfl,fun l=>by rw[yj.out.N];rfl,by rw[yj.out.O];rfl,by rw[yj.out.D];rfl,fun g hg=>?_,fun g hg=>?_,yj.out.apart,?_⟩
  ·exact(yj.out.grow.new g hg).elim (aaS.out g) (fun h=>auX mT.out.size h)
  ·exact(yj.out.foot g hg).imp id (fun h=>auX mT.out.size h)
  ·exact(mT.out.mono (T:=F) (fun _ _ h=>h.elim)).trans yj.out.mod (fun g hg hh=>hh.elim (fun hr=>by have:=aaS.out g hr;omega) id)
theorem LQ {ty:TypeId}{rv:Value}{f:FuncId}{I:World->(Nat->Prop)->Prop}{rd:Rd}(S:qk ty rv f I rd){w:World}{F:Nat->Prop}(hI:I w F)(bl:fU)(hm:bl.may=true)(l:List Int)(hd:oF rd bl=.ok l):
  Calls prog 161 #[.iface ty rv,dc bl] w fun e w'=>∃ v,e=.returned (.tuple #[v,.int .i64 0])/\aN w' w.heap.size v l/\∃ F',I w' F'/\dX F F' w w'/\(∀ g,v.ownBlock=some g->¬ F' g):=by
 obtain⟨o,ho,rfl⟩:∃ o,eg rd bl false=.ok o/\dM o.1=l:=by
  unfold oF at hd
  cases h:eg rd bl false with
  |error e=>rw[h]at hd;cases hd
  |ok o=>rw[h]at hd;exact⟨o,rfl,by injection hd⟩
 have dt:af w (w.alloc (.cells #[.int .i64 bl.root,.int .i64 bl.size] 42)):=(ah.refl _ w).alloc _;have T:=hd0 (ub S (S.same hI (dt.on fun _ _=>id) dt.size) bl false hm o ho);have dT:=hd0 dt;have HS:=hd0 S;clear hI hd ho dt;unfold dc at T ⊢;go_enter func161,ntmps161;go_wp2_with fail;refine T.out.mono ?_;rintro e w1 ⟨b,s1,F1,rfl,NV,TR,_,_,hO,_,kj,qv,nP,dF⟩;have c3:w1.cell? ⟨b,3,none⟩=some s1.ov:=aa TR.own 3;have HO:Hid (aN w1 w.heap.size s1.ov (dM o.1)):=hd0 (by
  have h:=TR.order;rw[hO]at h;obtain⟨h1,h2⟩:=h;refine⟨h1,h2.imp id ?_⟩;rintro⟨g,cap,d7,e,_,r⟩;exact⟨g,cap,d7,e,auX dT.out.size (kj g (by rw[TR.rorder g (by rw[e];rfl)];exact aD.noConfusion)),r⟩)
 have Hro:Hid (∀ g,s1.ov.ownBlock=some g->¬ F1 g):=hd0 (fun g hg=>nP g (by rw[TR.rorder g hg];exact aD.noConfusion));have XC:=hd0 NV;have HM:=hd0 ((dT.out.mono (T:=F) (fun _ _ h=>h.elim)).trans dF (fun _ _ h=>h));have afu:Hid (∀ g,F1 g->F g\/w.heap.size<=g):=hd0 (fun g hg=>(qv g hg).imp id (fun h=>auX dT.out.size h));clear NV TR nP dF kj qv hO T;go_wp2;go_ret2;exact⟨s1.ov,rfl,HO.out,F1,XC.out,⟨HM.out,afu.out⟩,Hro.out⟩
end
section
open Go.RowKit Go.Shelf
attribute [local go_sem] auV
theorem iB {w:World}{b:Nat}{p:Pl}(h:jP w b p):w.cell? ⟨b,0,none⟩=some (.string ⟨p.used.toArray⟩)/\w.cell? ⟨b,1,none⟩=some (.string ⟨p.taken.toArray⟩)/\w.cell? ⟨b,2,none⟩=some (.int .i64 (p.blocks:Int))/\w.cell? ⟨b,3,none⟩=some (.int .i64 (p.next:Int))/\w.cell? ⟨b,4,none⟩=some (.int .i64 (p.left:Int)):=
 ⟨aa h.own 0,aa h.own 1,aa h.own 2,aa h.own 3,aa h.own 4⟩
theorem H8 {p:Pl}(h:cF p)(hl:0<p.left):(∃ n,ga p.used p.next p.blocks=some n/\p.seek=n)\/(ga p.used p.next p.blocks=none/\∃ n,ga p.used 1 p.blocks=some n/\p.seek=n):=by
 cases h1:ga p.used p.next p.blocks with
 |some n=>exact .inl ⟨n,rfl,by simp[Pl.seek,h1]⟩
 |none=>
  right
  refine⟨rfl,?_⟩
  cases h2:ga p.used 1 p.blocks with
  |some n=>exact⟨n,rfl,by simp[Pl.seek,h1,h2]⟩
  |none=>
   exfalso;rw[h.left]at hl;obtain⟨n,n1,n2,n3⟩:=Do hl;have:=vy h2 n n1 n2;rw[this]at n3;cases n3
def Pl.took (p:Pl):Pl:={ p with used:=eC p.used (iK [p.seek]),taken:=eC p.taken (iK [p.seek]),next:=p.seek+1,left:=p.left-1 }
theorem sZ {p:Pl}(hl:0<p.left):p.take=.ok (p.seek,p.took):=by unfold Pl.take;rw[ava (by omega)];rfl
theorem UQ {p:Pl}(h:cF p)(hl:0<p.left):cF p.took:=by
 obtain⟨n,p',h1,_,_,_,h2,_⟩:=uU h hl;rw[sZ hl]at h1;injection h1 with h1;injection h1 with _ h1;rw[h1];exact h2
theorem zZ {w:World}{b:Nat}{p:Pl}(h:jP w b p)(hl:0<p.left):
  Calls prog 216 #[.pointer (some ⟨b,0,none⟩)] w fun e w'=>e=.returned (.tuple #[.int .i64 (p.seek:Int),.int .i64 0])/\jP w' b p.took/\ah (fun g=>g=b) w w':=by
 have HC:=hd0 (H8 h.ok hl);have Ou:=hd0 (UQ h.ok hl);have Hu:=hd0 h.used;have Ht:=hd0 h.taken;have Ga:=hd0 h.ok;have Hl:=hd0 hl;have dt:af w (w.alloc (.cells #[.pointer (some ⟨b,0,none⟩)] 200)):=(ah.refl _ w).alloc _;have h0:=h.mod dt id;have rq:World.blk (w.alloc (.cells #[.pointer (some ⟨b,0,none⟩)] 200)) w.heap.size #[.pointer (some ⟨b,0,none⟩)] 200:=av _ _ _;have rm:w.heap.size≠b:=by have:=ak h.own;omega
 have FF:((p.left:Nat):Int)≠0:=by omega
 have hlb:((p.left:Nat):Int)<=5000:=by
  have:=h.ok.left;have:=h.ok.most;have:kT p.used p.blocks<=p.blocks:=auX (avc _ _) (by simp);omega
 have yB:(1:Int)<=((p.left:Nat):Int):=by omega
 have cc:=iB h;have SK:b<w.heap.size:=ak h.own;have dT:=hd0 dt;have H0:=hd0 h0;have VI:=hd0 rq;clear h h0 rq dt hl;go_enter func216,ntmps216;obtain⟨W0,ux⟩:∃ W0,w.alloc (.cells #[.pointer (some ⟨b,0,none⟩)] 200)=W0:=⟨_,rfl⟩
 obtain⟨bx,aeo⟩:∃ bx,w.heap.size=bx:=⟨_,rfl⟩
 rw[ux]at dT H0 VI;rw[aeo]at VI rm;obtain⟨d0,d1,d2,d3,d4⟩:=iB H0.out;have x0:W0.cell? ⟨bx,0,none⟩=some (.pointer (some ⟨b,0,none⟩)):=aa VI.out 0;clear cc;go_wp2_with fail;clear ux aeo SK;have pA:(p.next:Int)<=5000:=by have:=Ga.out.hi;have:=Ga.out.most;omega
 have S1:=hd0 (fun m=>Dy (H0.out.mod ((ah.refl (fun _=>False) W0).drewN m) id) (cf VI.out m) p.next p.blocks (by omega) (by have:=Ga.out.most;omega));refine dB 9 (by kernel_rfl) (by kernel_rfl) ?_;simp only[avO,avP,avQ,avR]
 repeat (quiet_step (fail))
 refine avT ?_;intro _ bf;obtain⟨nq,rfl⟩:=bf;go_wp2_with fail;refine(S1.out nq).mono ?_;rintro e w1 ⟨rfl,e1⟩;have So:af W0 (W0.drewN nq):=(ah.refl _ W0).drewN nq;have key:∀ w2:World,w2=(W0.drewN nq).setCell ⟨b,3,none⟩ (.int .i64 ((p.seek+1:Nat):Int))->jP w2 b { p with next:=p.seek+1 }/\World.blk w2 bx #[.pointer (some ⟨b,0,none⟩)] 200/\ah (fun g=>g=b) W0 w2:=by
  rintro w2 rfl;have m:ah (fun g=>g=b) (W0.drewN nq) ((W0.drewN nq).setCell ⟨b,3,none⟩ (.int .i64 ((p.seek+1:Nat):Int))):=(ah.refl (fun g=>g=b) _).setCell (p:=⟨b,3,none⟩) (.inl rfl) _;refine⟨⟨ag (H0.out.mod So id).own 3 _,⟨Ou.out.lo,Ou.out.hi,Ga.out.most,Ga.out.left⟩,Hu.out,Ht.out⟩,ab m (cf VI.out nq) rm,(So.mono (T:=fun g=>g=b) (fun _ _ h=>h.elim)).trans m (fun _ _ h=>h)⟩
 have Key:=hd0 key;have HP:Hid (∃ p1:Pl,p1={ p with next:=p.seek+1 }):=hd0 ⟨_,rfl⟩;clear key;rcases HC.out with⟨n,g1,g2⟩|⟨g1,n,g3,g2⟩
 ·rw[g1]at e1 ⊢;simp only at e1;have en:((n+1:Nat):Int)=((p.seek+1:Nat):Int):=by rw[g2]
  rw[en]at e1;obtain⟨q1,q2,q3⟩:=Key.out w1 e1;have Q1:=hd0 q1;have Q2:=hd0 q2;have Q3:=hd0 q3;clear q1 q2 q3 e1 en g1 g2 Key So;have y3:=(iB Q1.out).2.2.2.1;have y0:w1.cell? ⟨bx,0,none⟩=some (.pointer (some ⟨b,0,none⟩)):=aa Q2.out 0;have yV:(p.seek:Int)<=4096:=by have:=Ou.out.hi;have:=Ga.out.most;have e:p.took.next=p.seek+1:=rfl;have e2:p.took.blocks=p.blocks:=rfl;omega
  have es:((p.seek+1:Nat):Int)=(p.seek:Int)+1:=by omega
  simp only[es]at y3;clear x0 d0 d1 d2 d3 d4;obtain⟨k,hk⟩:∃ k,p.seek=k:=⟨_,rfl⟩
  have OF:=hd0 (fun W v (hv:eF W v (qd [k]))=>Ba [k] v W hv (by simp) (by simp;omega));have Hk:=hd0 hk;rw[hk]at y3 yV;go_wp2_with fail;have cI:eF (w1.alloc (.cells #[.int .i64 (k:Int)] 3)) (.slice (some ⟨w1.heap.size,0,none⟩) 1 1) (qd [k]):=AR 1 (av w1 #[.int .i64 (k:Int)] 3);refine(OF.out _ _ cI).mono ?_;rintro e w5 ⟨rfl,mj⟩;have rz:af w1 w5:=((ah.refl (fun _=>False) _).alloc _).keep mj;have P6:=hd0 (Q1.out.mod rz id);have X6:=hd0 (ab rz Q2.out id);have M6:=hd0 (Q3.out.keep rz);clear cI mj rz y3 y0 OF;have z:=iB P6.out;simp only at z;obtain⟨z0,z1,_,_,z4⟩:=z;have zx:w5.cell? ⟨bx,0,none⟩=some (.pointer (some ⟨b,0,none⟩)):=aa X6.out 0;have lb:b<w5.heap.size:=ak P6.out.own;have lx:bx<w5.heap.size:=ak X6.out;have fb0:∀ xq,(w5.ext xq).frozen? ⟨b,0,none⟩=false:=fun xq=>ae (ab (aC w5 xq) P6.out.own id) _ rfl;have KA:(iK [k]).length<=600:=auX (Dt k) (by omega);have hul:=Hu.out;have uw:=Ht.out;obtain⟨one,Jc⟩:∃ one,iK [k]=one:=⟨_,rfl⟩
  rw[Jc]at KA ⊢;have O1:=hd0 (fun W=>lO p.used one W (by omega) (by omega));have O2:=hd0 (fun W=>lO p.taken one W (by omega) (by omega));have Jy:=hd0 Jc;clear Jc;go_wp2_with fail;have Pb:=hd0 P6.out.own;have d1:∀ xq,(w5.ext xq).cell? ⟨bx,0,none⟩=some (.pointer (some ⟨b,0,none⟩)):=fun xq=>aa (ab (aC w5 xq) X6.out id) 0;refine kO 2 14 100 (fun w'=>∃ x,w'=w5.ext x) (fun w'=>w'.cell? ⟨bx,0,none⟩=some (.pointer (some ⟨b,0,none⟩))) (fun _=>True) (by kernel_rfl) (by kernel_rfl) (by decide) (fun _ o _ _ _ h=>by cases o<;>exact h) (gT ((ah.refl _ w5).drawn _)) (by rintro _ ⟨x,rfl⟩;exact⟨d1 x,trivial⟩) ?_;simp only[avO,avP,avQ,avR]
  iterate 2 (refine oM (fun L hL=>?_);go_simp;(first|refine hL _ ?_|refine⟨_,fun _ _=>rfl,hL _ ?_⟩|refine⟨_,fun W hW=>by simp only[hW];rfl,hL _ ?_⟩);clear hL L)
  refine qI ?_
  repeat (quiet_step (first|with_reducible exact bB (O1.out _)|with_reducible exact bB (O2.out _)))
  refine avT ?_;intro _ bf;obtain⟨xq,rfl⟩:=bf;have VW:=aC w5 xq;have B5:=ab VW Pb.out id;have bxn:bx≠b:=rm;have e1:=d1 xq;obtain⟨W5,BV⟩:∃ W5,w5.ext xq=W5:=⟨_,rfl⟩
  rw[BV]at B5 e1 VW ⊢;have sE:Hid (ah (fun g=>g=b) W0 W5):=hd0 (M6.out.keep VW);have X5:=hd0 (BV▸ab (aC w5 xq) X6.out id:World.blk W5 bx #[.pointer (some ⟨b,0,none⟩)] 200);clear BV d1 O1 O2 z0 z1 z4 zx lb lx fb0 VW;obtain⟨U,hU⟩:∃ U,eC p.used one=U:=⟨_,rfl⟩
  obtain⟨T,hT⟩:∃ T,eC p.taken one=T:=⟨_,rfl⟩
  rw[hU,hT];have HU:=hd0 hU;have HT:=hd0 hT;have B6:=ag B5 0 (.string ⟨U.toArray⟩);have m6:ah (fun g=>g=b) W5 (W5.setCell ⟨b,0,none⟩ (.string ⟨U.toArray⟩)):=(ah.refl (fun g=>g=b) W5).setCell (p:=⟨b,0,none⟩) (.inl rfl) _;have a0:W5.cell? ⟨b,0,none⟩=some (.string ⟨p.used.toArray⟩):=aa B5 0;have a0f:=ae B5 ⟨b,0,none⟩ rfl;obtain⟨W6,TQ⟩:∃ W6,W5.setCell ⟨b,0,none⟩ (.string ⟨U.toArray⟩)=W6:=⟨_,rfl⟩
  rw[TQ]at B6 m6;have X6':=ab m6 X5.out rm;have e6:W6.cell? ⟨bx,0,none⟩=some (.pointer (some ⟨b,0,none⟩)):=aa X6' 0;have a1:W6.cell? ⟨b,1,none⟩=some (.string ⟨p.taken.toArray⟩):=aa B6 1;have a1f:=ae B6 ⟨b,1,none⟩ rfl;have B7:=ag B6 1 (.string ⟨T.toArray⟩);have m7:ah (fun g=>g=b) W6 (W6.setCell ⟨b,1,none⟩ (.string ⟨T.toArray⟩)):=(ah.refl (fun g=>g=b) W6).setCell (p:=⟨b,1,none⟩) (.inl rfl) _;obtain⟨W7,Wb⟩:∃ W7,W6.setCell ⟨b,1,none⟩ (.string ⟨T.toArray⟩)=W7:=⟨_,rfl⟩
  rw[Wb]at B7 m7;have X7':=ab m7 X6' rm;have e7:W7.cell? ⟨bx,0,none⟩=some (.pointer (some ⟨b,0,none⟩)):=aa X7' 0;have a4:W7.cell? ⟨b,4,none⟩=some (.int .i64 (p.left:Int)):=aa B7 4;have a4f:=ae B7 ⟨b,4,none⟩ rfl;have B8:=hd0 (ag B7 4 (.int .i64 ((p.left:Int)-1)));have m8:ah (fun g=>g=b) W7 (W7.setCell ⟨b,4,none⟩ (.int .i64 ((p.left:Int)-1))):=(ah.refl (fun g=>g=b) W7).setCell (p:=⟨b,4,none⟩) (.inl rfl) _;have HM8:=hd0 (((sE.out.trans m6 (fun _ _ h=>h)).trans m7 (fun _ _ h=>h)).trans m8 (fun _ _ h=>h));have hpw:p.left<=5000:=by omega
  clear B5 B6 B7 m6 m7 m8 X6' X7' hU hT bxn Q1 Q2 Q3 HP;refine⟨⟨e1,.inr trivial⟩,?_⟩;go_wp2_with fail;refine⟨⟨e1,.inr trivial⟩,?_⟩;go_wp2_with fail;refine⟨⟨e1,.inr trivial⟩,?_⟩;go_wp2_with fail;refine⟨⟨e6,.inr trivial⟩,?_⟩;go_wp2_with fail;refine⟨⟨e6,.inr trivial⟩,?_⟩;go_wp2_with fail;refine⟨⟨e6,.inr trivial⟩,?_⟩;go_wp2_with fail;refine⟨⟨e7,.inr trivial⟩,?_⟩;clear e1 e6 a0 a0f a1 a1f TQ Wb;go_wp2;go_ret2;have hBk:(p.seek:Int)=(k:Int):=by rw[Hk.out]
  refine⟨by rw[hBk];rfl,⟨?_,Ou.out,?_,?_⟩,((dT.out.mono (T:=fun g=>g=b) (fun _ _ h=>h.elim)).trans HM8.out (fun _ _ h=>h))⟩
  ·have e:qQ p.took=#[.string ⟨U.toArray⟩,.string ⟨T.toArray⟩,.int .i64 (p.blocks:Int),.int .i64 ((p.seek+1:Nat):Int),.int .i64 ((p.left:Int)-1)]:=by
    have h1:((p.left-1:Nat):Int)=(p.left:Int)-1:=by have:=Hl.out;omega
    unfold qQ Pl.took;simp only[h1];rw[Hk.out,Jy.out,HU.out,HT.out]
   rw[e];exact B8.out
  ·show(eC p.used (iK [p.seek])).length<=600;have:=lN p.used (iK [p.seek]);have h2:(iK [p.seek]).length<=600:=by rw[Hk.out,Jy.out];exact KA
   omega
  ·show(eC p.taken (iK [p.seek])).length<=600;have:=lN p.taken (iK [p.seek]);have h2:(iK [p.seek]).length<=600:=by rw[Hk.out,Jy.out];exact KA
   omega
 ·rw[g1]at e1 ⊢;simp only at e1;have e1':W0.drewN nq=w1:=e1.symm;have hd:=H0.out.mod So id;have nh:=ab So VI.out id;rw[e1']at hd nh;have S2:=hd0 (Dy hd nh 1 p.blocks (by omega) (by have:=Ga.out.most;omega));have y2:=(iB hd).2.2.1;have yx:w1.cell? ⟨bx,0,none⟩=some (.pointer (some ⟨b,0,none⟩)):=aa nh 0;rw[e1']at Key;clear x0 d0 d1 d2 d3 d4 hd nh e1 S1;go_wp2_with fail;refine S2.out.mono ?_;rintro e w2 ⟨rfl,e2⟩;rw[g3]at e2 ⊢;simp only at e2;have en:((n+1:Nat):Int)=((p.seek+1:Nat):Int):=by rw[g2]
  rw[en]at e2;clear y2 yx S2;obtain⟨q1,q2,q3⟩:=Key.out w2 e2;have Q1:=hd0 q1;have Q2:=hd0 q2;have Q3:=hd0 q3;clear q1 q2 q3 e2 en g1 g2 g3 Key So e1';have y3:=(iB Q1.out).2.2.2.1;have y0:w2.cell? ⟨bx,0,none⟩=some (.pointer (some ⟨b,0,none⟩)):=aa Q2.out 0;have yV:(p.seek:Int)<=4096:=by have:=Ou.out.hi;have:=Ga.out.most;have e:p.took.next=p.seek+1:=rfl;have e2:p.took.blocks=p.blocks:=rfl;omega
  have es:((p.seek+1:Nat):Int)=(p.seek:Int)+1:=by omega
  simp only[es]at y3;obtain⟨k,hk⟩:∃ k,p.seek=k:=⟨_,rfl⟩
  have OF:=hd0 (fun W v (hv:eF W v (qd [k]))=>Ba [k] v W hv (by simp) (by simp;omega));have Hk:=hd0 hk;rw[hk]at y3 yV;go_wp2_with fail;have cI:eF (w2.alloc (.cells #[.int .i64 (k:Int)] 3)) (.slice (some ⟨w2.heap.size,0,none⟩) 1 1) (qd [k]):=AR 1 (av w2 #[.int .i64 (k:Int)] 3);refine(OF.out _ _ cI).mono ?_;rintro e w5 ⟨rfl,mj⟩;have rz:af w2 w5:=((ah.refl (fun _=>False) _).alloc _).keep mj;have P6:=hd0 (Q1.out.mod rz id);have X6:=hd0 (ab rz Q2.out id);have M6:=hd0 (Q3.out.keep rz);clear cI mj rz y3 y0 OF;have z:=iB P6.out;simp only at z;obtain⟨z0,z1,_,_,z4⟩:=z;have zx:w5.cell? ⟨bx,0,none⟩=some (.pointer (some ⟨b,0,none⟩)):=aa X6.out 0;have lb:b<w5.heap.size:=ak P6.out.own;have lx:bx<w5.heap.size:=ak X6.out;have fb0:∀ xq,(w5.ext xq).frozen? ⟨b,0,none⟩=false:=fun xq=>ae (ab (aC w5 xq) P6.out.own id) _ rfl;have KA:(iK [k]).length<=600:=auX (Dt k) (by omega);have hul:=Hu.out;have uw:=Ht.out;obtain⟨one,Jc⟩:∃ one,iK [k]=one:=⟨_,rfl⟩
  rw[Jc]at KA ⊢;have O1:=hd0 (fun W=>lO p.used one W (by omega) (by omega));have O2:=hd0 (fun W=>lO p.taken one W (by omega) (by omega));have Jy:=hd0 Jc;clear Jc;go_wp2_with fail;have Pb:=hd0 P6.out.own;have d1:∀ xq,(w5.ext xq).cell? ⟨bx,0,none⟩=some (.pointer (some ⟨b,0,none⟩)):=fun xq=>aa (ab (aC w5 xq) X6.out id) 0;refine kO 2 14 100 (fun w'=>∃ x,w'=w5.ext x) (fun w'=>w'.cell? ⟨bx,0,none⟩=some (.pointer (some ⟨b,0,none⟩))) (fun _=>True) (by kernel_rfl) (by kernel_rfl) (by decide) (fun _ o _ _ _ h=>by cases o<;>exact h) (gT ((ah.refl _ w5).drawn _)) (by rintro _ ⟨x,rfl⟩;exact⟨d1 x,trivial⟩) ?_;simp only[avO,avP,avQ,avR]
  iterate 2 (refine oM (fun L hL=>?_);go_simp;(first|refine hL _ ?_|refine⟨_,fun _ _=>rfl,hL _ ?_⟩|refine⟨_,fun W hW=>by simp only[hW];rfl,hL _ ?_⟩);clear hL L)
  refine qI ?_
  repeat (quiet_step (first|with_reducible exact bB (O1.out _)|with_reducible exact bB (O2.out _)))
  refine avT ?_;intro _ bf;obtain⟨xq,rfl⟩:=bf;have VW:=aC w5 xq;have B5:=ab VW Pb.out id;have bxn:bx≠b:=rm;have e1:=d1 xq;obtain⟨W5,BV⟩:∃ W5,w5.ext xq=W5:=⟨_,rfl⟩
  rw[BV]at B5 e1 VW ⊢;have sE:Hid (ah (fun g=>g=b) W0 W5):=hd0 (M6.out.keep VW);have X5:=hd0 (BV▸ab (aC w5 xq) X6.out id:World.blk W5 bx #[.pointer (some ⟨b,0,none⟩)] 200);clear BV d1 O1 O2 z0 z1 z4 zx lb lx fb0 VW;obtain⟨U,hU⟩:∃ U,eC p.used one=U:=⟨_,rfl⟩
  obtain⟨T,hT⟩:∃ T,eC p.taken one=T:=⟨_,rfl⟩
  rw[hU,hT];have HU:=hd0 hU;have HT:=hd0 hT;have B6:=ag B5 0 (.string ⟨U.toArray⟩);have m6:ah (fun g=>g=b) W5 (W5.setCell ⟨b,0,none⟩ (.string ⟨U.toArray⟩)):=(ah.refl (fun g=>g=b) W5).setCell (p:=⟨b,0,none⟩) (.inl rfl) _;have a0:W5.cell? ⟨b,0,none⟩=some (.string ⟨p.used.toArray⟩):=aa B5 0;have a0f:=ae B5 ⟨b,0,none⟩ rfl;obtain⟨W6,TQ⟩:∃ W6,W5.setCell ⟨b,0,none⟩ (.string ⟨U.toArray⟩)=W6:=⟨_,rfl⟩
  rw[TQ]at B6 m6;have X6':=ab m6 X5.out rm;have e6:W6.cell? ⟨bx,0,none⟩=some (.pointer (some ⟨b,0,none⟩)):=aa X6' 0;have a1:W6.cell? ⟨b,1,none⟩=some (.string ⟨p.taken.toArray⟩):=aa B6 1;have a1f:=ae B6 ⟨b,1,none⟩ rfl;have B7:=ag B6 1 (.string ⟨T.toArray⟩);have m7:ah (fun g=>g=b) W6 (W6.setCell ⟨b,1,none⟩ (.string ⟨T.toArray⟩)):=(ah.refl (fun g=>g=b) W6).setCell (p:=⟨b,1,none⟩) (.inl rfl) _;obtain⟨W7,Wb⟩:∃ W7,W6.setCell ⟨b,1,none⟩ (.string ⟨T.toArray⟩)=W7:=⟨_,rfl⟩
  rw[Wb]at B7 m7;have X7':=ab m7 X6' rm;have e7:W7.cell? ⟨bx,0,none⟩=some (.pointer (some ⟨b,0,none⟩)):=aa X7' 0;have a4:W7.cell? ⟨b,4,none⟩=some (.int .i64 (p.left:Int)):=aa B7 4;have a4f:=ae B7 ⟨b,4,none⟩ rfl;have B8:=hd0 (ag B7 4 (.int .i64 ((p.left:Int)-1)));have m8:ah (fun g=>g=b) W7 (W7.setCell ⟨b,4,none⟩ (.int .i64 ((p.left:Int)-1))):=(ah.refl (fun g=>g=b) W7).setCell (p:=⟨b,4,none⟩) (.inl rfl) _;have HM8:=hd0 (((sE.out.trans m6 (fun _ _ h=>h)).trans m7 (fun _ _ h=>h)).trans m8 (fun _ _ h=>h));have hpw:p.left<=5000:=by omega
  clear B5 B6 B7 m6 m7 m8 X6' X7' hU hT bxn Q1 Q2 Q3 HP;refine⟨⟨e1,.inr trivial⟩,?_⟩;go_wp2_with fail;refine⟨⟨e1,.inr trivial⟩,?_⟩;go_wp2_with fail;refine⟨⟨e1,.inr trivial⟩,?_⟩;go_wp2_with fail;refine⟨⟨e6,.inr trivial⟩,?_⟩;go_wp2_with fail;refine⟨⟨e6,.inr trivial⟩,?_⟩;go_wp2_with fail;refine⟨⟨e6,.inr trivial⟩,?_⟩;go_wp2_with fail;refine⟨⟨e7,.inr trivial⟩,?_⟩;clear e1 e6 a0 a0f a1 a1f TQ Wb;go_wp2;go_ret2;have hBk:(p.seek:Int)=(k:Int):=by rw[Hk.out]
  refine⟨by rw[hBk];rfl,⟨?_,Ou.out,?_,?_⟩,((dT.out.mono (T:=fun g=>g=b) (fun _ _ h=>h.elim)).trans HM8.out (fun _ _ h=>h))⟩
  ·have e:qQ p.took=#[.string ⟨U.toArray⟩,.string ⟨T.toArray⟩,.int .i64 (p.blocks:Int),.int .i64 ((p.seek+1:Nat):Int),.int .i64 ((p.left:Int)-1)]:=by
    have h1:((p.left-1:Nat):Int)=(p.left:Int)-1:=by have:=Hl.out;omega
    unfold qQ Pl.took;simp only[h1];rw[Hk.out,Jy.out,HU.out,HT.out]
   rw[e];exact B8.out
  ·show(eC p.used (iK [p.seek])).length<=600;have:=lN p.used (iK [p.seek]);have h2:(iK [p.seek]).length<=600:=by rw[Hk.out,Jy.out];exact KA
   omega
  ·show(eC p.taken (iK [p.seek])).length<=600;have:=lN p.taken (iK [p.seek]);have h2:(iK [p.seek]).length<=600:=by rw[Hk.out,Jy.out];exact KA
   omega
end
section
open Go.RowKit Go.Shelf
attribute [local go_sem] auV
structure z7 (ty:TypeId)(rv:Value)(fr fw:FuncId)(I:Rd->World->(Nat->Prop)->Prop)(blocks:Nat):Prop where
 src:∀ rd,qk ty rv fr (I rd) rd
 methW:∀ W,(method 583 ty rv "Write").run prog W=.ok (fw,rv) W
 callW:∀(x y:Value) (W:World),(callFunc fw #[rv,x,y]).run prog W=.ok (.enter fw #[rv,x,y]) W
 write:∀ {rd:Rd} {w:World} {F:Nat->Prop} {n:Nat} {p:ay},I rd w F->1<=n->n<blocks->p.length<=240->Calls prog fw #[rv,.int .i64 (n:Int),.string ⟨p.toArray⟩] w fun e w'=>e=.returned (.int .i64 0)/\∃ F',I (lZ rd n p) w' F'/\dX F F' w w'
theorem nE {ty:TypeId}{rv:Value}{fr fw:FuncId}{I:Rd->World->(Nat->Prop)->Prop}{blocks:Nat}(S:z7 ty rv fr fw I blocks){rd:Rd}{w:World}{F:Nat->Prop}{pb:Nat}{p:Pl}(hI:I rd w F)(hp:jP w pb p)(hF:¬ F pb)(hb:p.blocks=blocks)(hl:0<p.left)(s:ay)(hs:s.length<=240):
  Calls prog 269 #[.iface ty rv,.pointer (some ⟨pb,0,none⟩),.string ⟨s.toArray⟩] w fun e w'=>e=.returned (.tuple #[.int .i64 (p.seek:Int),.int .i64 0])/\∃ F',I (lZ rd p.seek s) w' F'/\jP w' pb p.took/\(∀ g,F' g->F g\/w.heap.size<=g)/\¬ F' pb/\ah (fun g=>F g\/g=pb) w w':=by
 obtain⟨k1,k2,_⟩:=pP hp.ok hl;have T:=hd0 (zZ hp hl);have HS:=hd0 S;have HI:=hd0 hI;have HF:=hd0 hF;have nQ:=hd0 (ak hp.own);have XD:=S.methW;have cK:=S.callW;have Tl:p.seek<blocks:=by rw[<-hb];exact k2
 clear hp hI hF;go_enter func269,ntmps269;go_wp2_with fail;refine T.out.mono ?_;rintro e w1 ⟨rfl,Cn,m1⟩;have NV:=(HS.out.src rd).same HI.out (m1.on fun g hg e=>HF.out (e▸hg)) m1.size;have BR:=hd0 Cn;have rk:=hd0 m1;have Wr:=hd0 (HS.out.write NV k1 Tl hs);clear Cn m1 NV T;go_wp2_with fail;refine Wr.out.mono ?_;rintro e w2 ⟨rfl,F2,hI2,dd⟩;have OI:=hd0 hI2;have bw:=hd0 dd;clear hI2 dd Wr;go_wp2;go_ret2;exact⟨rfl,F2,OI.out,BR.out.mod bw.out.mod HF.out,fun g hg=>(bw.out.foot g hg).imp id (fun h=>auX rk.out.size h),fun hg=>(bw.out.foot pb hg).elim HF.out (fun h=>by have:=nQ.out;have:=rk.out.size;omega),
  (rk.out.mono (fun _ _ e=>.inr e)).trans bw.out.mod (fun _ _ h=>.inl h)⟩
structure DM (w:World)(nb:Nat)(rows:List Value)(N:Nat->List Int):Prop where
 nums:World.blk w nb rows.toArray 46
 row:∀ l v,rows[l]?=some v->aN w 0 v (N l)
def Qa (nb:Nat)(rows:List Value)(g:Nat):Prop:=g=nb\/∃(l:Nat) (v:Value),rows[l]?=some v/\v.ownBlock=some g
theorem DM.same {w w':World}{nb:Nat}{rows:List Value}{N:Nat->List Int}(h:DM w nb rows N)(m:fC (Qa nb rows) w w'):DM w' nb rows N where
 nums:=(m nb (.inl rfl) (ak h.nums)).trans h.nums
 row l v hv:=az (h.row l v hv) fun g hg=>m g (.inr ⟨l,v,hv,hg⟩) (aT (h.row l v hv) hg)
theorem DM.lt {w:World}{nb:Nat}{rows:List Value}{N:Nat->List Int}(h:DM w nb rows N){g:Nat}(hg:Qa nb rows g):g<w.heap.size:=by
 rcases hg with rfl|⟨l,v,hv,hg⟩
 ·exact ak h.nums
 ·exact aT (h.row l v hv) hg
structure lc (I:Rd->World->(Nat->Prop)->Prop)(blocks pb B:Nat)(w:World)(F:Nat->Prop)(t:gC)(v:Value)(L:List Int):Prop where
 src:I t.rd w F
 pool:jP w pb t.pool
 blocks:t.pool.blocks=blocks
 npb:¬ F pb
 row:aN w B v L
 away:∀ g,v.ownBlock=some g->¬ F g/\g≠pb
 B:B<=w.heap.size
structure dp (F F':Nat->Prop)(pb B:Nat)(w w':World):Prop where
 mod:ah (fun g=>F g\/g=pb\/B<=g) w w'
 foot:∀ g,F' g->F g\/w.heap.size<=g
theorem dp.refl (F:Nat->Prop)(pb B:Nat)(w:World):dp F F pb B w w:=⟨ah.refl _ _,fun _ h=>.inl h⟩
theorem dp.trans {F F1 F2:Nat->Prop}{pb B:Nat}{w w1 w2:World}(h:dp F F1 pb B w w1)(k:dp F1 F2 pb B w1 w2)(_hB:B<=w.heap.size):dp F F2 pb B w w2 where
 mod:=h.mod.trans k.mod fun g hg hh=>by
  rcases hh with hh|hh|hh
  ·exact(h.foot g hh).elim .inl (fun h2=>by omega)
  ·exact .inr (.inl hh)
  ·exact .inr (.inr hh)
 foot g hg:=(k.foot g hg).elim (h.foot g) (fun h2=>.inr (auX h.mod.size h2))
theorem lc.append {ty:TypeId}{rv:Value}{fr fw:FuncId}{I:Rd->World->(Nat->Prop)->Prop}{blocks pb B:Nat}(S:z7 ty rv fr fw I blocks){w:World}{F:Nat->Prop}{t:gC}{v:Value}{L:List Int}(h:lc I blocks pb B w F t v L)(hL:L.length<=100000)(x:Int):
  ∃ g cap w',(Builtin.append_ #[46,46] 46 #[v,.slice (some ⟨w.heap.size,0,none⟩) 1 1]).run prog (w.alloc (.cells #[.int .i64 x] 3))=.ok (.slice (some ⟨g,0,none⟩) (L.length+1) cap) w'/\lc I blocks pb B w' F t (.slice (some ⟨g,0,none⟩) (L.length+1) cap) (L++[x])/\dp F F pb B w w':=by
 obtain⟨v',w',r,own,m,at',g,cap,rfl⟩:=gU (P:=prog) underlying46 iS rfl (by decide) B v _ _ w h.row [.int .i64 x] rfl (by simp[Value.oneCell']) (by unfold maxLen;show L.length+1<=_;omega) (by show(L.length+1)*8<=_;omega) h.B;have mV:=ak h.pool.own;refine⟨g,cap,w',r,⟨(S.src t.rd).same h.src (m.on fun g hg hv=>(h.away g hv).1 hg) m.size,h.pool.mod m (fun hv=>(h.away pb hv).2 rfl),h.blocks,h.npb,kn own,fun g' hg'=>?_,auX h.B m.size⟩,⟨m.mono fun g' _ hv=>.inr (.inr (h.row.lt g' hv).1),fun _ h=>.inl h⟩⟩;rcases at' with e|⟨k,e,hk⟩
 ·exact h.away g' (e▸hg')
 ·rw[hg']at e
  cases e
  exact⟨fun hf=>by have:=(S.src t.rd).lt h.src g' hf;omega,by omega⟩
theorem dp.down {F F1:Nat->Prop}{pb B B':Nat}{w w1:World}(h:dp F F1 pb B w w1)(hB:B'<=B):dp F F1 pb B' w w1:=⟨h.mod.mono fun _g _ hh=>hh.imp id (fun h=>h.imp id (fun h=>auX hB h)),h.foot⟩
theorem z8 {stay:Nat->Option Int}{s:Nat->ay}{f i:Nat}{t t':gC}{L:List Int}(h:ip stay s (f+1) i t=.ok (L,t')):(∃ n L',stay i=some n/\ip stay s f (i+1) t=.ok (L',t')/\L=n::L')\/(stay i=none/\0<t.pool.left/\∃ L',ip stay s f (i+1) ⟨lZ t.rd t.pool.seek (s i),t.pool.took⟩=.ok (L',t')/\L=(t.pool.seek:Int)::L'):=by
 unfold ip at h
 cases hs:stay i with
 |some n=>
  rw[hs]at h;simp only at h
  cases hl:ip stay s f (i+1) t with
  |error e=>rw[hl]at h;cases h
  |ok x=>
   rw[hl]at h;simp only[Except.map]at h;injection h with h;injection h with h1 h2;subst h2;exact .inl ⟨n,x.1,rfl,rfl,h1.symm⟩
 |none=>
  rw[hs]at h;simp only at h;by_cases hl:t.pool.left=0
  ·have:t.pool.take=.error 101:=by unfold Pl.take;rw[au8 hl]
   rw[this]at h;cases h
  ·rw[sZ (by omega)]at h;simp only at h
   cases hq:ip stay s f (i+1) ⟨lZ t.rd t.pool.seek (s i),t.pool.took⟩with
   |error e=>rw[hq]at h;cases h
   |ok x=>
    rw[hq]at h;simp only[Except.map]at h;injection h with h;injection h with h1 h2;subst h2;exact .inr ⟨rfl,by omega,x.1,rfl,h1.symm⟩
theorem DN {stay:Nat->Option Int}{s:Nat->ay}{i:Nat}{t t':gC}{L:List Int}(h:ip stay s 0 i t=.ok (L,t')):L=[]/\t=t':=by
 unfold ip at h;injection h with h;injection h with h1 h2;exact⟨h1.symm,h2⟩
theorem lc.keep {ty:TypeId}{rv:Value}{fr fw:FuncId}{I:Rd->World->(Nat->Prop)->Prop}{blocks pb B:Nat}(S:z7 ty rv fr fw I blocks){w w':World}{F:Nat->Prop}{t:gC}{v:Value}{L:List Int}(h:lc I blocks pb B w F t v L)(k:af w w'):lc I blocks pb B w' F t v L:=
 ⟨(S.src t.rd).same h.src (k.on fun _ _=>id) k.size,h.pool.mod k id,h.blocks,h.npb,iw h.row k,h.away,auX h.B k.size⟩
theorem dp.keep {F F1:Nat->Prop}{pb B:Nat}{w w1 w2:World}(h:dp F F1 pb B w w1)(k:af w1 w2):dp F F1 pb B w w2:=⟨h.mod.keep k,h.foot⟩
theorem lc.put {ty:TypeId}{rv:Value}{fr fw:FuncId}{I:Rd->World->(Nat->Prop)->Prop}{blocks pb B:Nat}(_S:z7 ty rv fr fw I blocks){w w':World}{F F':Nat->Prop}{t:gC}{v:Value}{L:List Int}(h:lc I blocks pb B w F t v L){s:ay}
  (hI:I (lZ t.rd t.pool.seek s) w' F') (hp:jP w' pb t.pool.took) (hf:∀ g,F' g->F g\/w.heap.size<=g) (hn:¬ F' pb) (m:ah (fun g=>F g\/g=pb) w w'):lc I blocks pb B w' F' ⟨lZ t.rd t.pool.seek s,t.pool.took⟩ v L/\dp F F' pb B w w':=
 ⟨⟨hI,hp,h.blocks,hn,az h.row fun g hg=>m.block g (aT h.row hg) (fun hh=>hh.elim (h.away g hg).1 (h.away g hg).2),fun g hg=>⟨fun hf'=>(hf g hf').elim (h.away g hg).1 (fun h2=>by have:=aT h.row hg;omega),(h.away g hg).2⟩,auX h.B m.size⟩,
  ⟨m.mono fun g _ hh=>hh.elim .inl (fun h=>.inr (.inl h)),hf⟩⟩
end
end Go.Proofs.YtkghpdcloaiflaaGreatDoor
