import Derived.Test.YtkghpdcloaiflaaGreatDoorC19
set_option maxHeartbeats 4000000
set_option maxRecDepth 100000
namespace Go.Proofs.YtkghpdcloaiflaaGreatDoor
open _root_.Go.Proofs.Tryz
section
open Go.RowKit Go.Shelf
attribute [local go_sem] atC
theorem GI:(prog.info? 46).map (fun i=>(i.zero,i.size,i.bytes))=some (some (.slice none 0 0),1,24):=by kernel_rfl
theorem yy (r:Nat)(hr:r<=100000)(W:World):
  (Instr.makeSlice 300 (.int .i64 r) (.int .i64 r)).run prog W=.ok (.slice (some ⟨W.heap.size,0,none⟩) r r) (W.alloc (.cells (Array.replicate r (Value.slice none 0 0)) 46)):=by
 obtain⟨i0,hi,nD,mK,ol⟩:=atW GI;have h:=run_make (P:=prog) W 300 46 i0 (.slice none 0 0) underlying300 hi nD .i64 .i64 (r:Int) (r:Int) (by omega) (Int.le_refl _) (by rw[ol];omega) (by omega)
 rwa [auo,mK,Nat.mul_one,rm _ rfl]at h
def db (b:fR):Value:=.agg #[.int .i64 b.root,.int .i64 b.size]
def JD (nb:Nat)(lv:Value)(L:List Nat)(size b:Nat):NQ:=
 ⟨nb,List.replicate L.length (.slice none 0 0),.slice none 0 0,.pointer none,.slice none 0 0,lv,L.length,fun _=>[],[],[],size,fun j=>L.getD j 0,fun g=>if g=b then .walk else if g=nb then .nums else if lv.ownBlock=some g then .below else .none⟩
theorem Yi {w:World}{b nb:Nat}{iv:Value}{ch:Bool}{lv:Value}{L:List Nat}{size:Nat}(own:World.blk w b (jX iv (.bool ch) (.slice (some ⟨nb,0,none⟩) L.length L.length) (.slice none 0 0) (.pointer none) (.slice none 0 0) (.int .i64 (size:Int)) lv) 302)
  (nums:World.blk w nb (Array.replicate L.length (Value.slice none 0 0)) 46) (below:aL w 0 lv (gh L)) (dZ:nb≠b) (h1:∀ g,lv.ownBlock=some g->g≠b/\g≠nb):tU w b iv ch (JD nb lv L size b) where
 own:=own
 nums:=by
  have e:Array.replicate L.length (Value.slice none 0 0)=(List.replicate L.length (Value.slice none 0 0)).toArray:=by simp
  rw[e]at nums;exact nums
 rlen:=by simp[JD]
 row l v hv:=by
  simp only[JD,List.getElem?_replicate]at hv;split at hv
  ·injection hv with hv;subst hv;exact⟨rfl,.inl ⟨rfl,rfl⟩⟩
  ·cases hv
 order:=⟨rfl,.inl ⟨rfl,rfl⟩⟩
 data:=.inl ⟨rfl,rfl,rfl⟩
 below:=by
  have e:(List.range L.length).map (fun j=>L.getD j 0)=L:=by
   apply List.ext_getElem
   ·simp
   ·intro i h1 h2;simp[h2]
  show aL w 0 lv (gh ((List.range L.length).map fun j=>L.getD j 0));rw[e];exact below
 rb:=by simp[JD]
 rnb:=by simp[JD,dZ]
 rrow l v g hv hg:=by
  simp only[JD,List.getElem?_replicate]at hv;split at hv
  ·injection hv with hv;subst hv;cases hg
  ·cases hv
 rorder g hg:=by cases hg
 rdata g hg:=by cases hg
 rbelow g hg:=by
  obtain⟨a1,a2⟩:=h1 g hg;have hg':lv.ownBlock=some g:=hg;simp[JD,a1,a2,hg']
 lt g hg:=by
  simp only[JD]at hg;split at hg
  ·rename_i e;subst e;exact ai own
  ·split at hg
   ·rename_i e;subst e;exact ai nums
   ·split at hg
    ·rename_i e;exact aS below e
    ·exact absurd rfl hg
def oT (w:World)(iv:Value)(ch:Bool)(I:World->(Nat->Prop)->Prop)(F:Nat->Prop)(n:Nat)(o:ra)(e:Ending)(w':World):Prop:=
 ∃ b s' F',e=.returned (.tuple #[.pointer (some ⟨b,0,none⟩),.int .i64 0])/\I w' F'/\tU w' b iv ch s'/\s'.n=n/\(∀ l,s'.N l=bJ o.1 l)/\s'.O=dK o.1/\s'.D=o.2/\(∀ g,s'.role g≠.none->w.heap.size<=g)/\(∀ g,F' g->F g\/w.heap.size<=g)/\(∀ g,s'.role g≠.none->¬ F' g)/\ah F w w'
theorem tV {ty:TypeId}{rv:Value}{f:FuncId}{I:World->(Nat->Prop)->Prop}{rd:Rd}(S:pZ ty rv f I rd){w:World}{F:Nat->Prop}(hI:I w F)(bl:fR)(ch:Bool)(hm:bl.may=true)(o:ra)(ho:d7 rd bl ch=.ok o):
  Calls prog 224 #[.iface ty rv,db bl,.bool ch] w (oT w (.iface ty rv) ch I F (au bl.size.toNat).length o):=by
 obtain⟨root,sz⟩:=bl;have IP:0<=sz/\sz<=16384/\(root=0↔sz=0):=by
  unfold fR.may at hm;simp only[at2,aua,auq]at hm;exact⟨hm.1.1,hm.1.2,by simpa using hm.2⟩
 obtain⟨size,rfl⟩:=Int.eq_ofNat_of_zero_le IP.1;have cA:size<=16384:=by omega
 have ZJ:(size:Int)<=16384:=by omega
 obtain⟨bz,U8⟩:∃ bz,((size:Int)==0)=bz:=⟨_,rfl⟩
 have hbr:(root==0)=bz:=by
  rw[<-U8,aut];simp only[auq];exact IP.2.2
 have SW:(bz != bz)=false:=by simp
 have HS:=hd0 S;have HI:=hd0 hI;have Ho:=hd0 ho;have M0:=hd0 IP;have dA:af w (w.alloc (.cells #[.int .i64 root,.int .i64 (size:Int)] 42)):=(ah.refl _ w).alloc _;have iC:World.blk (w.alloc (.cells #[.int .i64 root,.int .i64 (size:Int)] 42)) w.heap.size #[.int .i64 root,.int .i64 (size:Int)] 42:=aw _ _ _;obtain⟨W0,ui⟩:∃ W0,w.alloc (.cells #[.int .i64 root,.int .i64 (size:Int)] 42)=W0:=⟨_,rfl⟩
 obtain⟨bb,act⟩:∃ bb,w.heap.size=bb:=⟨_,rfl⟩
 rw[ui]at dA iC;rw[act]at iC;have c0:W0.cell? ⟨bb,0,none⟩=some (.int .i64 root):=aa iC 0;have c1:W0.cell? ⟨bb,1,none⟩=some (.int .i64 (size:Int)):=aa iC 1;have LV:=hd0 (qE size W0 cA);have Hsz:=hd0 cA;have dN:=hd0 dA;have nG:=hd0 iC;have Rh:=hd0 (rE size);clear hm IP hI ho dA iC cA;unfold db;go_enter func224,ntmps224;go_wp2_with fail;refine LV.out.mono ?_;rintro e w1 ⟨lv,rfl,Rx,hk1⟩;have jd:=hd0 (ab hk1 nG.out id);have HO1:=hd0 Rx;have bU:=hd0 (dN.out.keep hk1);have d1:w1.cell? ⟨bb,1,none⟩=some (.int .i64 (size:Int)):=aa jd.out 1;obtain⟨a1,yk,e1,_⟩:=aZ Rx;obtain⟨L,hL⟩:∃ L,au size=L:=⟨_,rfl⟩
 have e1':lv=.slice a1 L.length yk:=by rw[e1];simp[bi,gh,hL]
 rw[hL]at HO1 Rh;have HL:=hd0 hL;have nV:=yy L.length (by have:=Rh.out;omega);have J4:(L.length:Int)<=3:=by have:=Rh.out;omega
 have aiQ:bb<w1.heap.size:=ai jd.out;subst e1';clear LV Rx hk1 ui act c0 c1 e1 hL;go_wp2_with fail
 go_region
 obtain⟨nb,Bk⟩:∃ nb,w1.heap.size=nb:=⟨_,rfl⟩
 have m5:af w1 (((w1.alloc (.cells (Array.replicate L.length (Value.slice none 0 0)) 46)).alloc (.cells #[.iface ty rv,.bool ch,.slice (some ⟨w1.heap.size,0,none⟩) L.length L.length,.slice none 0 0,.pointer none,.slice none 0 0,.int .i64 (size:Int),.slice a1 L.length yk] 302)).drew):=(((ah.refl _ w1).alloc _).alloc _).drew;have n5:World.blk (((w1.alloc (.cells (Array.replicate L.length (Value.slice none 0 0)) 46)).alloc (.cells #[.iface ty rv,.bool ch,.slice (some ⟨w1.heap.size,0,none⟩) L.length L.length,.slice none 0 0,.pointer none,.slice none 0 0,.int .i64 (size:Int),.slice a1 L.length yk] 302)).drew) w1.heap.size (Array.replicate L.length (Value.slice none 0 0)) 46:=aG (aw w1 _ _) _;have o5:World.blk (((w1.alloc (.cells (Array.replicate L.length (Value.slice none 0 0)) 46)).alloc (.cells #[.iface ty rv,.bool ch,.slice (some ⟨w1.heap.size,0,none⟩) L.length L.length,.slice none 0 0,.pointer none,.slice none 0 0,.int .i64 (size:Int),.slice a1 L.length yk] 302)).drew) (w1.heap.size+1) (jX (.iface ty rv) (.bool ch) (.slice (some ⟨w1.heap.size,0,none⟩) L.length L.length) (.slice none 0 0) (.pointer none) (.slice none 0 0) (.int .i64 (size:Int)) (.slice a1 L.length yk)) 302:=aY (w:=w1.alloc _) (by simp) _ _;obtain⟨W5,Br⟩:∃ W5,((w1.alloc (.cells (Array.replicate L.length (Value.slice none 0 0)) 46)).alloc (.cells #[.iface ty rv,.bool ch,.slice (some ⟨w1.heap.size,0,none⟩) L.length L.length,.slice none 0 0,.pointer none,.slice none 0 0,.int .i64 (size:Int),.slice a1 L.length yk] 302)).drew=W5:=⟨_,rfl⟩
 rw[Br]at m5 n5 o5 ⊢;rw[Bk]at n5 o5 ⊢;have X5:tU W5 (nb+1) (.iface ty rv) ch (JD nb (.slice a1 L.length yk) L size (nb+1)):=Yi o5 n5 (eL (io HO1.out m5) (auw _)) (by omega) (fun g hg=>by have:=aS HO1.out hg;omega);have arU:w.heap.size<=W0.heap.size:=dN.out.size;have j4:∀ g,(JD nb (.slice a1 L.length yk) L size (nb+1)).role g≠.none->w.heap.size<=g:=fun g hg=>by
  have By:w.heap.size<=nb:=by have:=bU.out.size;omega
  simp only[JD]at hg;split at hg
  ·omega
  ·split at hg
   ·omega
   ·split at hg
    ·rename_i e
     have:=(HO1.out.lt g e).1;omega
    ·exact absurd rfl hg
 have j7:Hid (af w W5):=hd0 (bU.out.keep m5);have hI5:I W5 F:=HS.out.same HI.out (j7.out.on fun _ _=>id) j7.out.size;have aeW:∀ g,(JD nb (.slice a1 L.length yk) L size (nb+1)).role g≠.none->¬ F g:=fun g hg hf=>by have:=j4 g hg;have:=HS.out.lt HI.out g hf;omega
 have uy:=hd0 X5;have Zz:=hd0 j4;have HI5:=hd0 hI5;have aeZ:=hd0 aeW;have r0:W5.cell? ⟨bb,0,none⟩=some (.int .i64 root):=aa (ab m5 jd.out id) 0;clear X5 j4 hI5 aeW m5 n5 o5 Br nV d1 aiQ;by_cases hz:size=0
 ·have Ti:L=[]:=by rw[<-HL.out,hz];rfl
  have R9:o=([],[]):=by
   have h:=Ho.out;unfold d7 at h;rw[atR (by unfold fR.may;simp only[at2,aua,auq,Bool.not_eq_false];exact⟨⟨M0.out.1,M0.out.2.1⟩,by simpa using M0.out.2.2⟩),atP (by simp[hz])]at h;injection h with h;exact h.symm
  have uz:((L.length:Nat):Int)=0:=by rw[Ti];rfl
  have Ho0:=hd0 R9;have Z3:=hd0 Ti;clear Ti R9 hz;go_wp2;go_ret2;unfold oT;rw[Ho0.out];exact⟨nb+1,_,F,rfl,HI5.out,uy.out,by rw[auo,HL.out];rfl,fun l=>rfl,rfl,rfl,Zz.out,fun g hg=>.inl hg,aeZ.out,j7.out.mono fun _ _ h=>h.elim⟩
 ·have RG:0<size:=by omega
  obtain⟨t1,t2⟩:=Ju size RG Hsz.out;rw[HL.out]at t1 t2;have IL:nO rd ch size (L.length-1) 0 root=.ok o:=by
   have h:=Ho.out;unfold d7 at h;rw[atR (by unfold fR.may;simp only[at2,aua,auq,Bool.not_eq_false];exact⟨⟨M0.out.1,M0.out.2.1⟩,by simpa using M0.out.2.2⟩),atR (by show ¬((size:Int)=0);omega)]at h;simp only[auo]at h;rw[HL.out]at h;exact h
  have Se:=wH _ _ _ _ IL;have hp:60 ^ (L.length-1)<=3600:=by
   have h3:=Rh.out;rcases(by omega:L.length-1=0\/L.length-1=1\/L.length-1=2)with e|e|e<;>rw[e]<;>decide
  have V:=hd0 (zH HS.out size Hsz.out (nb+1) ch (L.length-1) 0 root o W5 F _ HI5.out uy.out aeZ.out (by rw[HL.out];rfl) (by simp[JD]) (fun j hj=>by rw[HL.out];simp[JD]) (by rw[HL.out];omega) (by rw[HL.out,t2];omega) (by show 0+_<=_;omega) (fun k=>by show 0+_<=_;omega) (by show 0+_<=_;omega) IL);have uV:((L.length-1:Nat):Int)=(L.length:Int)-1:=by have:=t1;omega
  rw[uV]at V;have hlz:(((L.length:Nat):Int)==0)=false:=by
   rw[auv];omega
  have hlp:(1:Int)<=(L.length:Int):=by omega
  clear Se hp IL t1 t2 hz;go_wp2_with fail;refine V.out.mono ?_;rintro e w7 ⟨rfl,s7,F7,V7⟩;have yj:=hd0 V7;clear V7 V;go_wp2;go_ret2;unfold oT;refine⟨nb+1,s7,F7,rfl,yj.out.src,yj.out.wk,by rw[yj.out.n,auo,HL.out];rfl,fun l=>by rw[yj.out.N];rfl,by rw[yj.out.O];rfl,by rw[yj.out.D];rfl,fun g hg=>?_,fun g hg=>?_,yj.out.apart,?_⟩
  ·exact(yj.out.grow.new g hg).elim (Zz.out g) (fun h=>atE j7.out.size h)
  ·exact(yj.out.foot g hg).imp id (fun h=>atE j7.out.size h)
  ·exact(j7.out.mono (T:=F) (fun _ _ h=>h.elim)).trans yj.out.mod (fun g hg hh=>hh.elim (fun hr=>by have:=Zz.out g hr;omega) id)
theorem Lp {ty:TypeId}{rv:Value}{f:FuncId}{I:World->(Nat->Prop)->Prop}{rd:Rd}(S:pZ ty rv f I rd){w:World}{F:Nat->Prop}(hI:I w F)(bl:fR)(hm:bl.may=true)(l:List Int)(hd:ox rd bl=.ok l):
  Calls prog 161 #[.iface ty rv,db bl] w fun e w'=>∃ v,e=.returned (.tuple #[v,.int .i64 0])/\aL w' w.heap.size v l/\∃ F',I w' F'/\dV F F' w w'/\(∀ g,v.ownBlock=some g->¬ F' g):=by
 obtain⟨o,ho,rfl⟩:∃ o,d7 rd bl false=.ok o/\dK o.1=l:=by
  unfold ox at hd
  cases h:d7 rd bl false with
  |error e=>rw[h]at hd;cases hd
  |ok o=>rw[h]at hd;exact⟨o,rfl,by injection hd⟩
 have dA:af w (w.alloc (.cells #[.int .i64 bl.root,.int .i64 bl.size] 42)):=(ah.refl _ w).alloc _;have T:=hd0 (tV S (S.same hI (dA.on fun _ _=>id) dA.size) bl false hm o ho);have dN:=hd0 dA;have HS:=hd0 S;clear hI hd ho dA;unfold db at T ⊢;go_enter func161,ntmps161;go_wp2_with fail;refine T.out.mono ?_;rintro e w1 ⟨b,s1,F1,rfl,Nr,Ta,_,_,hO,_,j4,qk,nJ,de⟩;have c3:w1.cell? ⟨b,3,none⟩=some s1.ov:=aa Ta.own 3;have HO:Hid (aL w1 w.heap.size s1.ov (dK o.1)):=hd0 (by
  have h:=Ta.order;rw[hO]at h;obtain⟨h1,h2⟩:=h;refine⟨h1,h2.imp id ?_⟩;rintro⟨g,cap,du,e,_,r⟩;exact⟨g,cap,du,e,atE dN.out.size (j4 g (by rw[Ta.rorder g (by rw[e];rfl)];exact aE.noConfusion)),r⟩)
 have Hro:Hid (∀ g,s1.ov.ownBlock=some g->¬ F1 g):=hd0 (fun g hg=>nJ g (by rw[Ta.rorder g hg];exact aE.noConfusion));have XH:=hd0 Nr;have HM:=hd0 ((dN.out.mono (T:=F) (fun _ _ h=>h.elim)).trans de (fun _ _ h=>h));have adx:Hid (∀ g,F1 g->F g\/w.heap.size<=g):=hd0 (fun g hg=>(qk g hg).imp id (fun h=>atE dN.out.size h));clear Nr Ta nJ de j4 qk hO T;go_wp2;go_ret2;exact⟨s1.ov,rfl,HO.out,F1,XH.out,⟨HM.out,adx.out⟩,Hro.out⟩
end
section
open Go.RowKit Go.Shelf
attribute [local go_sem] atC
theorem iu {w:World}{b:Nat}{p:Pl}(h:jF w b p):w.cell? ⟨b,0,none⟩=some (.string ⟨p.used.toArray⟩)/\w.cell? ⟨b,1,none⟩=some (.string ⟨p.taken.toArray⟩)/\w.cell? ⟨b,2,none⟩=some (.int .i64 (p.blocks:Int))/\w.cell? ⟨b,3,none⟩=some (.int .i64 (p.next:Int))/\w.cell? ⟨b,4,none⟩=some (.int .i64 (p.left:Int)):=
 ⟨aa h.own 0,aa h.own 1,aa h.own 2,aa h.own 3,aa h.own 4⟩
theorem GJ {p:Pl}(h:cE p)(hl:0<p.left):(∃ n,fY p.used p.next p.blocks=some n/\p.seek=n)\/(fY p.used p.next p.blocks=none/\∃ n,fY p.used 1 p.blocks=some n/\p.seek=n):=by
 cases h1:fY p.used p.next p.blocks with
 |some n=>exact .inl ⟨n,rfl,by simp[Pl.seek,h1]⟩
 |none=>
  right
  refine⟨rfl,?_⟩
  cases h2:fY p.used 1 p.blocks with
  |some n=>exact⟨n,rfl,by simp[Pl.seek,h1,h2]⟩
  |none=>
   exfalso;rw[h.left]at hl;obtain⟨n,n1,n2,n3⟩:=C3 hl;have:=vi h2 n n1 n2;rw[this]at n3;cases n3
def Pl.took (p:Pl):Pl:={ p with used:=d6 p.used (iE [p.seek]),taken:=d6 p.taken (iE [p.seek]),next:=p.seek+1,left:=p.left-1 }
theorem sQ {p:Pl}(hl:0<p.left):p.take=.ok (p.seek,p.took):=by unfold Pl.take;rw[atR (by omega)];rfl
theorem Uf {p:Pl}(h:cE p)(hl:0<p.left):cE p.took:=by
 obtain⟨n,p',h1,_,_,_,h2,_⟩:=uM h hl;rw[sQ hl]at h1;injection h1 with h1;injection h1 with _ h1;rw[h1];exact h2
theorem zI {w:World}{b:Nat}{p:Pl}(h:jF w b p)(hl:0<p.left):
  Calls prog 216 #[.pointer (some ⟨b,0,none⟩)] w fun e w'=>e=.returned (.tuple #[.int .i64 (p.seek:Int),.int .i64 0])/\jF w' b p.took/\ah (fun g=>g=b) w w':=by
 have HC:=hd0 (GJ h.ok hl);have NZ:=hd0 (Uf h.ok hl);have Hu:=hd0 h.used;have Ht:=hd0 h.taken;have Ft:=hd0 h.ok;have Hl:=hd0 hl;have dA:af w (w.alloc (.cells #[.pointer (some ⟨b,0,none⟩)] 200)):=(ah.refl _ w).alloc _;have h0:=h.mod dA id;have sD:World.blk (w.alloc (.cells #[.pointer (some ⟨b,0,none⟩)] 200)) w.heap.size #[.pointer (some ⟨b,0,none⟩)] 200:=aw _ _ _;have qS:w.heap.size≠b:=by have:=ai h.own;omega
 have Fw:((p.left:Nat):Int)≠0:=by omega
 have hlb:((p.left:Nat):Int)<=5000:=by
  have:=h.ok.left;have:=h.ok.most;have:kK p.used p.blocks<=p.blocks:=atE (atU _ _) (by simp);omega
 have uV:(1:Int)<=((p.left:Nat):Int):=by omega
 have cc:=iu h;have SC:b<w.heap.size:=ai h.own;have dN:=hd0 dA;have H0:=hd0 h0;have Vv:=hd0 sD;clear h h0 sD dA hl;go_enter func216,ntmps216;obtain⟨W0,ui⟩:∃ W0,w.alloc (.cells #[.pointer (some ⟨b,0,none⟩)] 200)=W0:=⟨_,rfl⟩
 obtain⟨bx,aeH⟩:∃ bx,w.heap.size=bx:=⟨_,rfl⟩
 rw[ui]at dN H0 Vv;rw[aeH]at Vv qS;obtain⟨d0,d1,d2,d3,d4⟩:=iu H0.out;have x0:W0.cell? ⟨bx,0,none⟩=some (.pointer (some ⟨b,0,none⟩)):=aa Vv.out 0;clear cc;go_wp2_with fail;clear ui aeH SC;have pq:(p.next:Int)<=5000:=by have:=Ft.out.hi;have:=Ft.out.most;omega
 have S1:=hd0 (fun m=>De (H0.out.mod ((ah.refl (fun _=>False) W0).drewN m) id) (fJ Vv.out m) p.next p.blocks (by omega) (by have:=Ft.out.most;omega));refine dz 9 (by kernel_rfl) (by kernel_rfl) ?_;simp only[auz,auA,auB,auC]
 repeat (quiet_step (fail))
 refine auE ?_;intro _ cJ;obtain⟨nq,rfl⟩:=cJ;go_wp2_with fail;refine(S1.out nq).mono ?_;rintro e w1 ⟨rfl,e1⟩;have Sd:af W0 (W0.drewN nq):=(ah.refl _ W0).drewN nq;have key:∀ w2:World,w2=(W0.drewN nq).setCell ⟨b,3,none⟩ (.int .i64 ((p.seek+1:Nat):Int))->jF w2 b { p with next:=p.seek+1 }/\World.blk w2 bx #[.pointer (some ⟨b,0,none⟩)] 200/\ah (fun g=>g=b) W0 w2:=by
  rintro w2 rfl;have m:ah (fun g=>g=b) (W0.drewN nq) ((W0.drewN nq).setCell ⟨b,3,none⟩ (.int .i64 ((p.seek+1:Nat):Int))):=(ah.refl (fun g=>g=b) _).setCell (p:=⟨b,3,none⟩) (.inl rfl) _;refine⟨⟨ag (H0.out.mod Sd id).own 3 _,⟨NZ.out.lo,NZ.out.hi,Ft.out.most,Ft.out.left⟩,Hu.out,Ht.out⟩,ab m (fJ Vv.out nq) qS,(Sd.mono (T:=fun g=>g=b) (fun _ _ h=>h.elim)).trans m (fun _ _ h=>h)⟩
 have Key:=hd0 key;have HP:Hid (∃ p1:Pl,p1={ p with next:=p.seek+1 }):=hd0 ⟨_,rfl⟩;clear key;rcases HC.out with⟨n,g1,g2⟩|⟨g1,n,g3,g2⟩
 ·rw[g1]at e1 ⊢;simp only at e1;have en:((n+1:Nat):Int)=((p.seek+1:Nat):Int):=by rw[g2]
  rw[en]at e1;obtain⟨q1,q2,q3⟩:=Key.out w1 e1;have Q1:=hd0 q1;have Q2:=hd0 q2;have Q3:=hd0 q3;clear q1 q2 q3 e1 en g1 g2 Key Sd;have y3:=(iu Q1.out).2.2.2.1;have y0:w1.cell? ⟨bx,0,none⟩=some (.pointer (some ⟨b,0,none⟩)):=aa Q2.out 0;have yL:(p.seek:Int)<=4096:=by have:=NZ.out.hi;have:=Ft.out.most;have e:p.took.next=p.seek+1:=rfl;have e2:p.took.blocks=p.blocks:=rfl;omega
  have es:((p.seek+1:Nat):Int)=(p.seek:Int)+1:=by omega
  simp only[es]at y3;clear x0 d0 d1 d2 d3 d4;obtain⟨k,hk⟩:∃ k,p.seek=k:=⟨_,rfl⟩
  have OF:=hd0 (fun W v (hv:ez W v (pS [k]))=>AR [k] v W hv (by simp) (by simp;omega));have Hk:=hd0 hk;rw[hk]at y3 yL;go_wp2_with fail;have cH:ez (w1.alloc (.cells #[.int .i64 (k:Int)] 3)) (.slice (some ⟨w1.heap.size,0,none⟩) 1 1) (pS [k]):=Ay 1 (aw w1 #[.int .i64 (k:Int)] 3);refine(OF.out _ _ cH).mono ?_;rintro e w5 ⟨rfl,mi⟩;have re:af w1 w5:=((ah.refl (fun _=>False) _).alloc _).keep mi;have P6:=hd0 (Q1.out.mod re id);have X6:=hd0 (ab re Q2.out id);have M6:=hd0 (Q3.out.keep re);clear cH mi re y3 y0 OF;have z:=iu P6.out;simp only at z;obtain⟨z0,z1,_,_,z4⟩:=z;have zx:w5.cell? ⟨bx,0,none⟩=some (.pointer (some ⟨b,0,none⟩)):=aa X6.out 0;have lb:b<w5.heap.size:=ai P6.out.own;have lx:bx<w5.heap.size:=ai X6.out;have fb0:∀ xq,(w5.ext xq).frozen? ⟨b,0,none⟩=false:=fun xq=>ae (ab (aD w5 xq) P6.out.own id) _ rfl;have JU:(iE [k]).length<=600:=atE (C8 k) (by omega);have hul:=Hu.out;have xR:=Ht.out;obtain⟨one,Bl⟩:∃ one,iE [k]=one:=⟨_,rfl⟩
  rw[Bl]at JU ⊢;have O1:=hd0 (fun W=>jW p.used one W (by omega) (by omega));have O2:=hd0 (fun W=>jW p.taken one W (by omega) (by omega));have Iy:=hd0 Bl;clear Bl;go_wp2_with fail;have Pb:=hd0 P6.out.own;have d1:∀ xq,(w5.ext xq).cell? ⟨bx,0,none⟩=some (.pointer (some ⟨b,0,none⟩)):=fun xq=>aa (ab (aD w5 xq) X6.out id) 0;refine kG 2 14 100 (fun w'=>∃ x,w'=w5.ext x) (fun w'=>w'.cell? ⟨bx,0,none⟩=some (.pointer (some ⟨b,0,none⟩))) (fun _=>True) (by kernel_rfl) (by kernel_rfl) (by decide) (fun _ o _ _ _ h=>by cases o<;>exact h) (gR ((ah.refl _ w5).drawn _)) (by rintro _ ⟨x,rfl⟩;exact⟨d1 x,trivial⟩) ?_;simp only[auz,auA,auB,auC]
  iterate 2 (refine oE (fun L hL=>?_);go_simp;(first|refine hL _ ?_|refine⟨_,fun _ _=>rfl,hL _ ?_⟩|refine⟨_,fun W hW=>by simp only[hW];rfl,hL _ ?_⟩);clear hL L)
  refine qw ?_
  repeat (quiet_step (first|with_reducible exact bw (O1.out _)|with_reducible exact bw (O2.out _)))
  refine auE ?_;intro _ cJ;obtain⟨xq,rfl⟩:=cJ;have VI:=aD w5 xq;have B5:=ab VI Pb.out id;have bxn:bx≠b:=qS;have e1:=d1 xq;obtain⟨W5,Br⟩:∃ W5,w5.ext xq=W5:=⟨_,rfl⟩
  rw[Br]at B5 e1 VI ⊢;have BY:Hid (ah (fun g=>g=b) W0 W5):=hd0 (M6.out.keep VI);have X5:=hd0 (Br▸ab (aD w5 xq) X6.out id:World.blk W5 bx #[.pointer (some ⟨b,0,none⟩)] 200);clear Br d1 O1 O2 z0 z1 z4 zx lb lx fb0 VI;obtain⟨U,hU⟩:∃ U,d6 p.used one=U:=⟨_,rfl⟩
  obtain⟨T,hT⟩:∃ T,d6 p.taken one=T:=⟨_,rfl⟩
  rw[hU,hT];have HU:=hd0 hU;have HT:=hd0 hT;have B6:=ag B5 0 (.string ⟨U.toArray⟩);have m6:ah (fun g=>g=b) W5 (W5.setCell ⟨b,0,none⟩ (.string ⟨U.toArray⟩)):=(ah.refl (fun g=>g=b) W5).setCell (p:=⟨b,0,none⟩) (.inl rfl) _;have a0:W5.cell? ⟨b,0,none⟩=some (.string ⟨p.used.toArray⟩):=aa B5 0;have a0f:=ae B5 ⟨b,0,none⟩ rfl;obtain⟨W6,Tg⟩:∃ W6,W5.setCell ⟨b,0,none⟩ (.string ⟨U.toArray⟩)=W6:=⟨_,rfl⟩
  rw[Tg]at B6 m6;have X6':=ab m6 X5.out qS;have e6:W6.cell? ⟨bx,0,none⟩=some (.pointer (some ⟨b,0,none⟩)):=aa X6' 0;have a1:W6.cell? ⟨b,1,none⟩=some (.string ⟨p.taken.toArray⟩):=aa B6 1;have a1f:=ae B6 ⟨b,1,none⟩ rfl;have B7:=ag B6 1 (.string ⟨T.toArray⟩);have m7:ah (fun g=>g=b) W6 (W6.setCell ⟨b,1,none⟩ (.string ⟨T.toArray⟩)):=(ah.refl (fun g=>g=b) W6).setCell (p:=⟨b,1,none⟩) (.inl rfl) _;obtain⟨W7,Vo⟩:∃ W7,W6.setCell ⟨b,1,none⟩ (.string ⟨T.toArray⟩)=W7:=⟨_,rfl⟩
  rw[Vo]at B7 m7;have X7':=ab m7 X6' qS;have e7:W7.cell? ⟨bx,0,none⟩=some (.pointer (some ⟨b,0,none⟩)):=aa X7' 0;have a4:W7.cell? ⟨b,4,none⟩=some (.int .i64 (p.left:Int)):=aa B7 4;have a4f:=ae B7 ⟨b,4,none⟩ rfl;have B8:=hd0 (ag B7 4 (.int .i64 ((p.left:Int)-1)));have m8:ah (fun g=>g=b) W7 (W7.setCell ⟨b,4,none⟩ (.int .i64 ((p.left:Int)-1))):=(ah.refl (fun g=>g=b) W7).setCell (p:=⟨b,4,none⟩) (.inl rfl) _;have HM8:=hd0 (((BY.out.trans m6 (fun _ _ h=>h)).trans m7 (fun _ _ h=>h)).trans m8 (fun _ _ h=>h));have hpw:p.left<=5000:=by omega
  clear B5 B6 B7 m6 m7 m8 X6' X7' hU hT bxn Q1 Q2 Q3 HP;refine⟨⟨e1,.inr trivial⟩,?_⟩;go_wp2_with fail;refine⟨⟨e1,.inr trivial⟩,?_⟩;go_wp2_with fail;refine⟨⟨e1,.inr trivial⟩,?_⟩;go_wp2_with fail;refine⟨⟨e6,.inr trivial⟩,?_⟩;go_wp2_with fail;refine⟨⟨e6,.inr trivial⟩,?_⟩;go_wp2_with fail;refine⟨⟨e6,.inr trivial⟩,?_⟩;go_wp2_with fail;refine⟨⟨e7,.inr trivial⟩,?_⟩;clear e1 e6 a0 a0f a1 a1f Tg Vo;go_wp2;go_ret2;have hBk:(p.seek:Int)=(k:Int):=by rw[Hk.out]
  refine⟨by rw[hBk];rfl,⟨?_,NZ.out,?_,?_⟩,((dN.out.mono (T:=fun g=>g=b) (fun _ _ h=>h.elim)).trans HM8.out (fun _ _ h=>h))⟩
  ·have e:qD p.took=#[.string ⟨U.toArray⟩,.string ⟨T.toArray⟩,.int .i64 (p.blocks:Int),.int .i64 ((p.seek+1:Nat):Int),.int .i64 ((p.left:Int)-1)]:=by
    have h1:((p.left-1:Nat):Int)=(p.left:Int)-1:=by have:=Hl.out;omega
    unfold qD Pl.took;simp only[h1];rw[Hk.out,Iy.out,HU.out,HT.out]
   rw[e];exact B8.out
  ·show(d6 p.used (iE [p.seek])).length<=600;have:=jV p.used (iE [p.seek]);have h2:(iE [p.seek]).length<=600:=by rw[Hk.out,Iy.out];exact JU
   omega
  ·show(d6 p.taken (iE [p.seek])).length<=600;have:=jV p.taken (iE [p.seek]);have h2:(iE [p.seek]).length<=600:=by rw[Hk.out,Iy.out];exact JU
   omega
 ·rw[g1]at e1 ⊢;simp only at e1;have e1':W0.drewN nq=w1:=e1.symm;have hd:=H0.out.mod Sd id;have mT:=ab Sd Vv.out id;rw[e1']at hd mT;have S2:=hd0 (De hd mT 1 p.blocks (by omega) (by have:=Ft.out.most;omega));have y2:=(iu hd).2.2.1;have yx:w1.cell? ⟨bx,0,none⟩=some (.pointer (some ⟨b,0,none⟩)):=aa mT 0;rw[e1']at Key;clear x0 d0 d1 d2 d3 d4 hd mT e1 S1;go_wp2_with fail;refine S2.out.mono ?_;rintro e w2 ⟨rfl,e2⟩;rw[g3]at e2 ⊢;simp only at e2;have en:((n+1:Nat):Int)=((p.seek+1:Nat):Int):=by rw[g2]
  rw[en]at e2;clear y2 yx S2;obtain⟨q1,q2,q3⟩:=Key.out w2 e2;have Q1:=hd0 q1;have Q2:=hd0 q2;have Q3:=hd0 q3;clear q1 q2 q3 e2 en g1 g2 g3 Key Sd e1';have y3:=(iu Q1.out).2.2.2.1;have y0:w2.cell? ⟨bx,0,none⟩=some (.pointer (some ⟨b,0,none⟩)):=aa Q2.out 0;have yL:(p.seek:Int)<=4096:=by have:=NZ.out.hi;have:=Ft.out.most;have e:p.took.next=p.seek+1:=rfl;have e2:p.took.blocks=p.blocks:=rfl;omega
  have es:((p.seek+1:Nat):Int)=(p.seek:Int)+1:=by omega
  simp only[es]at y3;obtain⟨k,hk⟩:∃ k,p.seek=k:=⟨_,rfl⟩
  have OF:=hd0 (fun W v (hv:ez W v (pS [k]))=>AR [k] v W hv (by simp) (by simp;omega));have Hk:=hd0 hk;rw[hk]at y3 yL;go_wp2_with fail;have cH:ez (w2.alloc (.cells #[.int .i64 (k:Int)] 3)) (.slice (some ⟨w2.heap.size,0,none⟩) 1 1) (pS [k]):=Ay 1 (aw w2 #[.int .i64 (k:Int)] 3);refine(OF.out _ _ cH).mono ?_;rintro e w5 ⟨rfl,mi⟩;have re:af w2 w5:=((ah.refl (fun _=>False) _).alloc _).keep mi;have P6:=hd0 (Q1.out.mod re id);have X6:=hd0 (ab re Q2.out id);have M6:=hd0 (Q3.out.keep re);clear cH mi re y3 y0 OF;have z:=iu P6.out;simp only at z;obtain⟨z0,z1,_,_,z4⟩:=z;have zx:w5.cell? ⟨bx,0,none⟩=some (.pointer (some ⟨b,0,none⟩)):=aa X6.out 0;have lb:b<w5.heap.size:=ai P6.out.own;have lx:bx<w5.heap.size:=ai X6.out;have fb0:∀ xq,(w5.ext xq).frozen? ⟨b,0,none⟩=false:=fun xq=>ae (ab (aD w5 xq) P6.out.own id) _ rfl;have JU:(iE [k]).length<=600:=atE (C8 k) (by omega);have hul:=Hu.out;have xR:=Ht.out;obtain⟨one,Bl⟩:∃ one,iE [k]=one:=⟨_,rfl⟩
  rw[Bl]at JU ⊢;have O1:=hd0 (fun W=>jW p.used one W (by omega) (by omega));have O2:=hd0 (fun W=>jW p.taken one W (by omega) (by omega));have Iy:=hd0 Bl;clear Bl;go_wp2_with fail;have Pb:=hd0 P6.out.own;have d1:∀ xq,(w5.ext xq).cell? ⟨bx,0,none⟩=some (.pointer (some ⟨b,0,none⟩)):=fun xq=>aa (ab (aD w5 xq) X6.out id) 0;refine kG 2 14 100 (fun w'=>∃ x,w'=w5.ext x) (fun w'=>w'.cell? ⟨bx,0,none⟩=some (.pointer (some ⟨b,0,none⟩))) (fun _=>True) (by kernel_rfl) (by kernel_rfl) (by decide) (fun _ o _ _ _ h=>by cases o<;>exact h) (gR ((ah.refl _ w5).drawn _)) (by rintro _ ⟨x,rfl⟩;exact⟨d1 x,trivial⟩) ?_;simp only[auz,auA,auB,auC]
  iterate 2 (refine oE (fun L hL=>?_);go_simp;(first|refine hL _ ?_|refine⟨_,fun _ _=>rfl,hL _ ?_⟩|refine⟨_,fun W hW=>by simp only[hW];rfl,hL _ ?_⟩);clear hL L)
  refine qw ?_
  repeat (quiet_step (first|with_reducible exact bw (O1.out _)|with_reducible exact bw (O2.out _)))
  refine auE ?_;intro _ cJ;obtain⟨xq,rfl⟩:=cJ;have VI:=aD w5 xq;have B5:=ab VI Pb.out id;have bxn:bx≠b:=qS;have e1:=d1 xq;obtain⟨W5,Br⟩:∃ W5,w5.ext xq=W5:=⟨_,rfl⟩
  rw[Br]at B5 e1 VI ⊢;have BY:Hid (ah (fun g=>g=b) W0 W5):=hd0 (M6.out.keep VI);have X5:=hd0 (Br▸ab (aD w5 xq) X6.out id:World.blk W5 bx #[.pointer (some ⟨b,0,none⟩)] 200);clear Br d1 O1 O2 z0 z1 z4 zx lb lx fb0 VI;obtain⟨U,hU⟩:∃ U,d6 p.used one=U:=⟨_,rfl⟩
  obtain⟨T,hT⟩:∃ T,d6 p.taken one=T:=⟨_,rfl⟩
  rw[hU,hT];have HU:=hd0 hU;have HT:=hd0 hT;have B6:=ag B5 0 (.string ⟨U.toArray⟩);have m6:ah (fun g=>g=b) W5 (W5.setCell ⟨b,0,none⟩ (.string ⟨U.toArray⟩)):=(ah.refl (fun g=>g=b) W5).setCell (p:=⟨b,0,none⟩) (.inl rfl) _;have a0:W5.cell? ⟨b,0,none⟩=some (.string ⟨p.used.toArray⟩):=aa B5 0;have a0f:=ae B5 ⟨b,0,none⟩ rfl;obtain⟨W6,Tg⟩:∃ W6,W5.setCell ⟨b,0,none⟩ (.string ⟨U.toArray⟩)=W6:=⟨_,rfl⟩
  rw[Tg]at B6 m6;have X6':=ab m6 X5.out qS;have e6:W6.cell? ⟨bx,0,none⟩=some (.pointer (some ⟨b,0,none⟩)):=aa X6' 0;have a1:W6.cell? ⟨b,1,none⟩=some (.string ⟨p.taken.toArray⟩):=aa B6 1;have a1f:=ae B6 ⟨b,1,none⟩ rfl;have B7:=ag B6 1 (.string ⟨T.toArray⟩);have m7:ah (fun g=>g=b) W6 (W6.setCell ⟨b,1,none⟩ (.string ⟨T.toArray⟩)):=(ah.refl (fun g=>g=b) W6).setCell (p:=⟨b,1,none⟩) (.inl rfl) _;obtain⟨W7,Vo⟩:∃ W7,W6.setCell ⟨b,1,none⟩ (.string ⟨T.toArray⟩)=W7:=⟨_,rfl⟩
  rw[Vo]at B7 m7;have X7':=ab m7 X6' qS;have e7:W7.cell? ⟨bx,0,none⟩=some (.pointer (some ⟨b,0,none⟩)):=aa X7' 0;have a4:W7.cell? ⟨b,4,none⟩=some (.int .i64 (p.left:Int)):=aa B7 4;have a4f:=ae B7 ⟨b,4,none⟩ rfl;have B8:=hd0 (ag B7 4 (.int .i64 ((p.left:Int)-1)));have m8:ah (fun g=>g=b) W7 (W7.setCell ⟨b,4,none⟩ (.int .i64 ((p.left:Int)-1))):=(ah.refl (fun g=>g=b) W7).setCell (p:=⟨b,4,none⟩) (.inl rfl) _;have HM8:=hd0 (((BY.out.trans m6 (fun _ _ h=>h)).trans m7 (fun _ _ h=>h)).trans m8 (fun _ _ h=>h));have hpw:p.left<=5000:=by omega
  clear B5 B6 B7 m6 m7 m8 X6' X7' hU hT bxn Q1 Q2 Q3 HP;refine⟨⟨e1,.inr trivial⟩,?_⟩;go_wp2_with fail;refine⟨⟨e1,.inr trivial⟩,?_⟩;go_wp2_with fail;refine⟨⟨e1,.inr trivial⟩,?_⟩;go_wp2_with fail;refine⟨⟨e6,.inr trivial⟩,?_⟩;go_wp2_with fail;refine⟨⟨e6,.inr trivial⟩,?_⟩;go_wp2_with fail;refine⟨⟨e6,.inr trivial⟩,?_⟩;go_wp2_with fail;refine⟨⟨e7,.inr trivial⟩,?_⟩;clear e1 e6 a0 a0f a1 a1f Tg Vo;go_wp2;go_ret2;have hBk:(p.seek:Int)=(k:Int):=by rw[Hk.out]
  refine⟨by rw[hBk];rfl,⟨?_,NZ.out,?_,?_⟩,((dN.out.mono (T:=fun g=>g=b) (fun _ _ h=>h.elim)).trans HM8.out (fun _ _ h=>h))⟩
  ·have e:qD p.took=#[.string ⟨U.toArray⟩,.string ⟨T.toArray⟩,.int .i64 (p.blocks:Int),.int .i64 ((p.seek+1:Nat):Int),.int .i64 ((p.left:Int)-1)]:=by
    have h1:((p.left-1:Nat):Int)=(p.left:Int)-1:=by have:=Hl.out;omega
    unfold qD Pl.took;simp only[h1];rw[Hk.out,Iy.out,HU.out,HT.out]
   rw[e];exact B8.out
  ·show(d6 p.used (iE [p.seek])).length<=600;have:=jV p.used (iE [p.seek]);have h2:(iE [p.seek]).length<=600:=by rw[Hk.out,Iy.out];exact JU
   omega
  ·show(d6 p.taken (iE [p.seek])).length<=600;have:=jV p.taken (iE [p.seek]);have h2:(iE [p.seek]).length<=600:=by rw[Hk.out,Iy.out];exact JU
   omega
end
section
open Go.RowKit Go.Shelf
attribute [local go_sem] atC
structure zJ (ty:TypeId)(rv:Value)(fr fw:FuncId)(I:Rd->World->(Nat->Prop)->Prop)(blocks:Nat):Prop where
 src:∀ rd,pZ ty rv fr (I rd) rd
 methW:∀ W,(method 583 ty rv "Write").run prog W=.ok (fw,rv) W
 callW:∀(x y:Value) (W:World),(callFunc fw #[rv,x,y]).run prog W=.ok (.enter fw #[rv,x,y]) W
 write:∀ {rd:Rd} {w:World} {F:Nat->Prop} {n:Nat} {p:ay},I rd w F->1<=n->n<blocks->p.length<=240->Calls prog fw #[rv,.int .i64 (n:Int),.string ⟨p.toArray⟩] w fun e w'=>e=.returned (.int .i64 0)/\∃ F',I (lW rd n p) w' F'/\dV F F' w w'
theorem ng {ty:TypeId}{rv:Value}{fr fw:FuncId}{I:Rd->World->(Nat->Prop)->Prop}{blocks:Nat}(S:zJ ty rv fr fw I blocks){rd:Rd}{w:World}{F:Nat->Prop}{pb:Nat}{p:Pl}(hI:I rd w F)(hp:jF w pb p)(hF:¬ F pb)(hb:p.blocks=blocks)(hl:0<p.left)(s:ay)(hs:s.length<=240):
  Calls prog 269 #[.iface ty rv,.pointer (some ⟨pb,0,none⟩),.string ⟨s.toArray⟩] w fun e w'=>e=.returned (.tuple #[.int .i64 (p.seek:Int),.int .i64 0])/\∃ F',I (lW rd p.seek s) w' F'/\jF w' pb p.took/\(∀ g,F' g->F g\/w.heap.size<=g)/\¬ F' pb/\ah (fun g=>F g\/g=pb) w w':=by
 obtain⟨k1,k2,_⟩:=pF hp.ok hl;have T:=hd0 (zI hp hl);have HS:=hd0 S;have HI:=hd0 hI;have HF:=hd0 hF;have nI:=hd0 (ai hp.own);have XC:=S.methW;have cX:=S.callW;have RJ:p.seek<blocks:=by rw[<-hb];exact k2
 clear hp hI hF;go_enter func269,ntmps269;go_wp2_with fail;refine T.out.mono ?_;rintro e w1 ⟨rfl,BA,m1⟩;have Nr:=(HS.out.src rd).same HI.out (m1.on fun g hg e=>HF.out (e▸hg)) m1.size;have BN:=hd0 BA;have yl:=hd0 m1;have Wr:=hd0 (HS.out.write Nr k1 RJ hs);clear BA m1 Nr T;go_wp2_with fail;refine Wr.out.mono ?_;rintro e w2 ⟨rfl,F2,hI2,dc⟩;have Om:=hd0 hI2;have bu:=hd0 dc;clear hI2 dc Wr;go_wp2;go_ret2;exact⟨rfl,F2,Om.out,BN.out.mod bu.out.mod HF.out,fun g hg=>(bu.out.foot g hg).imp id (fun h=>atE yl.out.size h),fun hg=>(bu.out.foot pb hg).elim HF.out (fun h=>by have:=nI.out;have:=yl.out.size;omega),
  (yl.out.mono (fun _ _ e=>.inr e)).trans bu.out.mod (fun _ _ h=>.inl h)⟩
structure Dq (w:World)(nb:Nat)(rows:List Value)(N:Nat->List Int):Prop where
 nums:World.blk w nb rows.toArray 46
 row:∀ l v,rows[l]?=some v->aL w 0 v (N l)
def PG (nb:Nat)(rows:List Value)(g:Nat):Prop:=g=nb\/∃(l:Nat) (v:Value),rows[l]?=some v/\v.ownBlock=some g
theorem Dq.same {w w':World}{nb:Nat}{rows:List Value}{N:Nat->List Int}(h:Dq w nb rows N)(m:fy (PG nb rows) w w'):Dq w' nb rows N where
 nums:=(m nb (.inl rfl) (ai h.nums)).trans h.nums
 row l v hv:=az (h.row l v hv) fun g hg=>m g (.inr ⟨l,v,hv,hg⟩) (aS (h.row l v hv) hg)
theorem Dq.lt {w:World}{nb:Nat}{rows:List Value}{N:Nat->List Int}(h:Dq w nb rows N){g:Nat}(hg:PG nb rows g):g<w.heap.size:=by
 rcases hg with rfl|⟨l,v,hv,hg⟩
 ·exact ai h.nums
 ·exact aS (h.row l v hv) hg
structure kU (I:Rd->World->(Nat->Prop)->Prop)(blocks pb B:Nat)(w:World)(F:Nat->Prop)(t:gA)(v:Value)(L:List Int):Prop where
 src:I t.rd w F
 pool:jF w pb t.pool
 blocks:t.pool.blocks=blocks
 npb:¬ F pb
 row:aL w B v L
 away:∀ g,v.ownBlock=some g->¬ F g/\g≠pb
 B:B<=w.heap.size
structure dj (F F':Nat->Prop)(pb B:Nat)(w w':World):Prop where
 mod:ah (fun g=>F g\/g=pb\/B<=g) w w'
 foot:∀ g,F' g->F g\/w.heap.size<=g
theorem dj.refl (F:Nat->Prop)(pb B:Nat)(w:World):dj F F pb B w w:=⟨ah.refl _ _,fun _ h=>.inl h⟩
theorem dj.trans {F F1 F2:Nat->Prop}{pb B:Nat}{w w1 w2:World}(h:dj F F1 pb B w w1)(k:dj F1 F2 pb B w1 w2)(_hB:B<=w.heap.size):dj F F2 pb B w w2 where
 mod:=h.mod.trans k.mod fun g hg hh=>by
  rcases hh with hh|hh|hh
  ·exact(h.foot g hh).elim .inl (fun h2=>by omega)
  ·exact .inr (.inl hh)
  ·exact .inr (.inr hh)
 foot g hg:=(k.foot g hg).elim (h.foot g) (fun h2=>.inr (atE h.mod.size h2))
theorem kU.append {ty:TypeId}{rv:Value}{fr fw:FuncId}{I:Rd->World->(Nat->Prop)->Prop}{blocks pb B:Nat}(S:zJ ty rv fr fw I blocks){w:World}{F:Nat->Prop}{t:gA}{v:Value}{L:List Int}(h:kU I blocks pb B w F t v L)(hL:L.length<=100000)(x:Int):
  ∃ g cap w',(Builtin.append_ #[46,46] 46 #[v,.slice (some ⟨w.heap.size,0,none⟩) 1 1]).run prog (w.alloc (.cells #[.int .i64 x] 3))=.ok (.slice (some ⟨g,0,none⟩) (L.length+1) cap) w'/\kU I blocks pb B w' F t (.slice (some ⟨g,0,none⟩) (L.length+1) cap) (L++[x])/\dj F F pb B w w':=by
 obtain⟨v',w',r,own,m,at',g,cap,rfl⟩:=gS (P:=prog) underlying46 iN rfl (by decide) B v _ _ w h.row [.int .i64 x] rfl (by simp[Value.oneCell']) (by unfold maxLen;show L.length+1<=_;omega) (by show(L.length+1)*8<=_;omega) h.B;have mL:=ai h.pool.own;refine⟨g,cap,w',r,⟨(S.src t.rd).same h.src (m.on fun g hg hv=>(h.away g hv).1 hg) m.size,h.pool.mod m (fun hv=>(h.away pb hv).2 rfl),h.blocks,h.npb,j8 own,fun g' hg'=>?_,atE h.B m.size⟩,⟨m.mono fun g' _ hv=>.inr (.inr (h.row.lt g' hv).1),fun _ h=>.inl h⟩⟩;rcases at' with e|⟨k,e,hk⟩
 ·exact h.away g' (e▸hg')
 ·rw[hg']at e
  cases e
  exact⟨fun hf=>by have:=(S.src t.rd).lt h.src g' hf;omega,by omega⟩
theorem dj.down {F F1:Nat->Prop}{pb B B':Nat}{w w1:World}(h:dj F F1 pb B w w1)(hB:B'<=B):dj F F1 pb B' w w1:=⟨h.mod.mono fun _g _ hh=>hh.imp id (fun h=>h.imp id (fun h=>atE hB h)),h.foot⟩
theorem zK {stay:Nat->Option Int}{s:Nat->ay}{f i:Nat}{t t':gA}{L:List Int}(h:ij stay s (f+1) i t=.ok (L,t')):(∃ n L',stay i=some n/\ij stay s f (i+1) t=.ok (L',t')/\L=n::L')\/(stay i=none/\0<t.pool.left/\∃ L',ij stay s f (i+1) ⟨lW t.rd t.pool.seek (s i),t.pool.took⟩=.ok (L',t')/\L=(t.pool.seek:Int)::L'):=by
 unfold ij at h
 cases hs:stay i with
 |some n=>
  rw[hs]at h;simp only at h
  cases hl:ij stay s f (i+1) t with
  |error e=>rw[hl]at h;cases h
  |ok x=>
   rw[hl]at h;simp only[Except.map]at h;injection h with h;injection h with h1 h2;subst h2;exact .inl ⟨n,x.1,rfl,rfl,h1.symm⟩
 |none=>
  rw[hs]at h;simp only at h;by_cases hl:t.pool.left=0
  ·have:t.pool.take=.error 101:=by unfold Pl.take;rw[atP hl]
   rw[this]at h;cases h
  ·rw[sQ (by omega)]at h;simp only at h
   cases hq:ij stay s f (i+1) ⟨lW t.rd t.pool.seek (s i),t.pool.took⟩with
   |error e=>rw[hq]at h;cases h
   |ok x=>
    rw[hq]at h;simp only[Except.map]at h;injection h with h;injection h with h1 h2;subst h2;exact .inr ⟨rfl,by omega,x.1,rfl,h1.symm⟩
theorem Dr {stay:Nat->Option Int}{s:Nat->ay}{i:Nat}{t t':gA}{L:List Int}(h:ij stay s 0 i t=.ok (L,t')):L=[]/\t=t':=by
 unfold ij at h;injection h with h;injection h with h1 h2;exact⟨h1.symm,h2⟩
theorem kU.keep {ty:TypeId}{rv:Value}{fr fw:FuncId}{I:Rd->World->(Nat->Prop)->Prop}{blocks pb B:Nat}(S:zJ ty rv fr fw I blocks){w w':World}{F:Nat->Prop}{t:gA}{v:Value}{L:List Int}(h:kU I blocks pb B w F t v L)(k:af w w'):kU I blocks pb B w' F t v L:=
 ⟨(S.src t.rd).same h.src (k.on fun _ _=>id) k.size,h.pool.mod k id,h.blocks,h.npb,io h.row k,h.away,atE h.B k.size⟩
theorem dj.keep {F F1:Nat->Prop}{pb B:Nat}{w w1 w2:World}(h:dj F F1 pb B w w1)(k:af w1 w2):dj F F1 pb B w w2:=⟨h.mod.keep k,h.foot⟩
theorem kU.put {ty:TypeId}{rv:Value}{fr fw:FuncId}{I:Rd->World->(Nat->Prop)->Prop}{blocks pb B:Nat}(_S:zJ ty rv fr fw I blocks){w w':World}{F F':Nat->Prop}{t:gA}{v:Value}{L:List Int}(h:kU I blocks pb B w F t v L){s:ay}
  (hI:I (lW t.rd t.pool.seek s) w' F') (hp:jF w' pb t.pool.took) (hf:∀ g,F' g->F g\/w.heap.size<=g) (hn:¬ F' pb) (m:ah (fun g=>F g\/g=pb) w w'):kU I blocks pb B w' F' ⟨lW t.rd t.pool.seek s,t.pool.took⟩ v L/\dj F F' pb B w w':=
 ⟨⟨hI,hp,h.blocks,hn,az h.row fun g hg=>m.block g (aS h.row hg) (fun hh=>hh.elim (h.away g hg).1 (h.away g hg).2),fun g hg=>⟨fun hf'=>(hf g hf').elim (h.away g hg).1 (fun h2=>by have:=aS h.row hg;omega),(h.away g hg).2⟩,atE h.B m.size⟩,
  ⟨m.mono fun g _ hh=>hh.elim .inl (fun h=>.inr (.inl h)),hf⟩⟩
end
end Go.Proofs.YtkghpdcloaiflaaGreatDoor
