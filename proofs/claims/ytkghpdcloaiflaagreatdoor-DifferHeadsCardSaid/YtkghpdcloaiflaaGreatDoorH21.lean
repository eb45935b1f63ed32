import Derived.Test.YtkghpdcloaiflaaGreatDoorH20
set_option maxHeartbeats 8000000
set_option maxRecDepth 100000
namespace Go.Proofs.YtkghpdcloaiflaaGreatDoor
open _root_.Go.Proofs.Tryz
section
open Go.RowKit Go.Shelf
attribute [local go_sem] av0
theorem Mc {rd:Rd}{data:ay}{nums:List (List Int)}(h:eK rd data nums):nums.length=(ax data.length).length:=by rw[<-h.shape];simp
theorem Md {t t':gy}{old b:fI}{data:ay}(h:dz t old data=.ok (b,t')):∃ o ns,d7 t.rd old true=.ok o/\kp o.2 data (nL old o.1) t=.ok (ns,t')/\b=if data.length=0 then⟨0,0⟩else⟨iF ns,data.length⟩:=by
 unfold dz at h;split at h
 ·cases h
 ·cases ho:d7 t.rd old true with
  |error e=>rw[ho]at h;cases h
  |ok o=>
   rw[ho]at h;simp only at h
   cases hn:kp o.2 data (nL old o.1) t with
   |error e=>rw[hn]at h;cases h
   |ok x=>
    rw[hn]at h;simp only[Except.map]at h;injection h with h;injection h with h1 h2;subst h2;exact⟨o,x.1,rfl,by rw[hn],h1.symm⟩
def tc (I:Rd->World->(Nat->Prop)->Prop)(w:World)(F:Nat->Prop)(pb:Nat)(b:fI)(t:gy)(e:Ending)(w':World):Prop:=
 e=.returned (.tuple #[cR b,.int .i64 0])/\∃ F',I t.rd w' F'/\jK w' pb t.pool/\(∀ g,F' g->F g\/w.heap.size<=g)/\¬ F' pb/\ai (λg=>F g\/g=pb) w w'
theorem Me {ty:TypeId}{rv:Value}{fr fw:FuncId}{I:Rd->World->(Nat->Prop)->Prop}{blocks:Nat}(S:zY ty rv fr fw I blocks){rd:Rd}{w:World}{F:Nat->Prop}{pb:Nat}{p:Pl}(hI:I rd w F)(hp:jK w pb p)(hF:¬ F pb)(hb:p.blocks=blocks)(FA:blocks<=4096)
  (br:ay) (nums:List (List Int)) (hT:eK rd br nums) (hh:br.length<=16384) (data:ay) (hd:data.length<=16384) (b:fI) (t:gy) (hs:dz ⟨rd,p⟩ (dj br nums) data=.ok (b,t)):
  Calls prog 212 #[.iface ty rv,cR (dj br nums),.string ⟨data.toArray⟩,.pointer (some ⟨pb,0,none⟩)] w (tc I w F pb b t):=by
 obtain⟨o0,ns,ho,hn,mL⟩:=Md hs;obtain⟨o1,FG,ze,_⟩:=kD hT hh true;rw[awd rfl]at FG;have eo:o0=(o1,br):=by rw[ho]at FG;injection FG
 subst eo;simp only at hn;rw[ze]at hn;have hm:=qI hT hh;have agG:∀ l,l<nums.length->bL o1 l=nums.getD l []:=λl hl=>by
  have:nums.getD l []=(nL (dj br nums) o1).getD l []:=by rw[ze]
  rw[this];have kX:l<(ax (dj br nums).size.toNat).length:=by
   have h2:(nL (dj br nums) o1).length=nums.length:=by rw[ze]
   unfold nL at h2;rw[awz,List.length_range]at h2;omega
  unfold nL;rw[axm,aw5,aw6 kX];rfl
 have rk:(ax (dj br nums).size.toNat).length=nums.length:=by
  have h2:(nL (dj br nums) o1).length=nums.length:=by rw[ze]
  unfold nL at h2;rw[awz,List.length_range]at h2;exact h2
 obtain⟨old,hold⟩:∃ old,dj br nums=old:=⟨_,rfl⟩
 rw[hold]at ho hm rk ⊢;have dM:af w ((w.alloc (.cells #[.int .i64 old.root,.int .i64 old.size] 42)).alloc (.cells #[.int .i64 0,.int .i64 0] 42)):=((ai.refl _ w).alloc _).alloc _;have O9:World.blk ((w.alloc (.cells #[.int .i64 old.root,.int .i64 old.size] 42)).alloc (.cells #[.int .i64 0,.int .i64 0] 42)) (w.heap.size+1) #[.int .i64 0,.int .i64 0] 42:=aV sp7 _ _;have TV:World.blk ((w.alloc (.cells #[.int .i64 old.root,.int .i64 old.size] 42)).alloc (.cells #[.int .i64 0,.int .i64 0] 42)) w.heap.size #[.int .i64 old.root,.int .i64 old.size] 42:=aE (av _ _ _) _;obtain⟨W0,pQ⟩:∃ W0,(w.alloc (.cells #[.int .i64 old.root,.int .i64 old.size] 42)).alloc (.cells #[.int .i64 0,.int .i64 0] 42)=W0:=⟨_,rfl⟩
 obtain⟨ob,ib⟩:∃ ob,w.heap.size=ob:=⟨_,rfl⟩
 rw[pQ]at dM O9 TV;rw[ib]at O9;have T:=Z (uh (S.src rd) ((S.src rd).same hI (dM.on λ_ _=>id) dM.size) old true hm (o1,br) ho);rw[rk]at T;have hdi:(data.length:Int)<=16384:=J
 have hdd:decide ((16384:Int)<(data.length:Int))=false:=by simp;omega
 have oc0:W0.cell? ⟨ob,0,none⟩=some (.int .i64 old.root):=by rw[<-ib];exact aa TV 0
 have oc1:W0.cell? ⟨ob,1,none⟩=some (.int .i64 old.size):=by rw[<-ib];exact aa TV 1
 obtain⟨HS,HP,HF,HI,eR,Zl,Hn,Hbl,HT⟩:=K9 S hp hF hI dM O9 hn mL hT;obtain⟨abd,yj⟩:=K2 agG ib;have YR:=S.methW;clear hI hp hF dM O9 TV ho hn mL hs hT agG FG ze hold rk hm;unfold cR at T ⊢;go_enter func212,ntmps212;go_wp2_with fail;refine T.mono ?_;rintro e w1 ⟨wb,s1,F1,rfl,Og,Uq,FS,hN1,hO1,hD1,j4,qp,nI,dV⟩;have Jn:∀ g,F g->g<w.heap.size:=(HS.src rd).lt HI.o;have hFr:¬ F (ob+1):=λh=>by have:=Jn _ h;have:=yj.o;omega
 obtain⟨Xw,Cd⟩:=K2 (ab dV Zl.o hFr) ((HP.mod eR.o id).mod dV HF.o);have hF1:¬ F1 pb:=λh=>(qp pb h).elim HF.o (λh2=>by have:=ak HP.own;have:=eR.size;omega);have hM1:ai F w w1:=(eR.mono (T:=F) (λ_ _ h=>h.elim)).trans dV (λ_ _ h=>h);have hf1:∀ g,F1 g->F g\/w.heap.size<=g:=λg hg=>(qp g hg).imp id (λh=>av2 eR.size h);have Sj:¬ F1 (ob+1)/\ob+1≠pb/\s1.role (ob+1)=.none:=by
  have alf:=ak Zl.o;refine⟨λh=>(qp _ h).elim hFr (λh2=>J),by have:=ak HP.own;have:=yj.o;omega,?_⟩;apply awZ;intro h;have:=j4 _ h;omega
 have Sq:∀ g,s1.role g≠.none->w.heap.size<=g:=λg hg=>av2 eR.size (j4 g hg);have hpr:s1.role pb=.none:=by
  apply awZ;intro h;have:=Sq _ h;have:=ak HP.own;omega
 have uA:(s1.D=[]/\s1.dv=.slice none 0 0)\/(s1.D≠[]/\bR w1.drew 0 s1.dv s1.D):=by
  rcases Uq.data with⟨_,h2,h3⟩|⟨_,h2,h3⟩
  ·exact .inl ⟨h3,h2⟩
  ·exact .inr ⟨h2,ip h3 ((ai.refl _ w1).drew)⟩
 have dh:=Z (DX wb w1.drew s1.D (show World.blk w1.drew wb _ _ from Uq.own) uA);rw[hD1]at dh;obtain⟨Y5,pR,Hn1,HN1,Hap,rl,Hf1,HF1,KW⟩:=K9 Og Uq FS hN1 nI hM1 hf1 hF1 Sj;obtain⟨Yt,Hpr⟩:=K2 Sq hpr;clear Og Uq FS hN1 hO1 hD1 j4 qp nI dV T Jn hFr hM1 hf1 hF1 Sj Sq hpr Zl eR pQ ib oc0 oc1;go_wp2_with fail;go_cut [12,13] (λv12 v13 wx=>v12=.string ⟨br.toArray⟩/\v13=.slice (some ⟨s1.nb,0,none⟩) s1.n s1.n/\ai (λg=>s1.dv.ownBlock=some g) w1 wx)
 case first=>
  have c2:w1.cell? ⟨wb,2,none⟩=some (.slice (some ⟨s1.nb,0,none⟩) s1.n s1.n):=aa pR.own 2;have hdn:s1.dv.ownBlock≠some wb:=λe=>by have:=pR.rdata wb e;rw[pR.rb]at this;cases this
  have Hdn:=Z hdn;clear hdn
  go_region_with ((go_at_call 112;refine dh.mono ?_;rintro e w2 ⟨rfl,m2⟩;have c2:w2.cell? ⟨wb,2,none⟩=some (.slice (some ⟨s1.nb,0,none⟩) s1.n s1.n):=aa (ab m2 (show World.blk w1.drew wb _ _ from pR.own) Hdn.o) 2;have gi:Hid (ai (λg=>s1.dv.ownBlock=some g) w1 w2):=Z (((ai.refl _ w1).drew).trans m2 (λ_ _ h=>h));clear m2))
  all_goals (go_wp2_with fail;go_meet;case rel=>exact⟨rfl,rfl,gi.o⟩)
 case rest=>
  obtain⟨rfl,rfl,WD⟩:=hcut;have SG:∀ g,s1.dv.ownBlock=some g->s1.role g=.data:=pR.rdata;obtain⟨O7,Zc,ru⟩:=K3 ((HS.src rd).same Y5.o (WD.on λg hg hv=>Hap.o g (by rw[SG g hv];exact aH.noConfusion) hg) WD.size) (Cd.mod WD (λhv=>by have:=Hpr.o;rw[SG pb hv]at this;cases this)) (ab WD Xw.o (λhv=>by have:=KW.2.2;rw[SG _ hv]at this;cases this));have HW2:Hid (Eb wc s1.nb s1.rows s1.N):=Z ⟨ab WD pR.nums (λhv=>by have:=pR.rnb;rw[SG _ hv]at this;cases this),λl v hv=>aA (pR.row l v hv) λg hg=>WD.block g (aX (pR.row l v hv) hg) (λh=>by have:=pR.rrow l v g hv hg;rw[SG g h]at this;cases this)⟩;have hwf:∀ g,Qr s1.nb s1.rows g->s1.role g≠.none:=λg hg=>by
   rcases hg with rfl|⟨l,v,hv,hg⟩
   ·rw[pR.rnb];exact aH.noConfusion
   ·rw[pR.rrow l v g hv hg];exact aH.noConfusion
  have Hwf:Hid (∀ g,Qr s1.nb s1.rows g->¬ F1 g/\g≠pb/\g≠ob+1/\w.heap.size<=g):=Z (λg hg=>⟨Hap.o g (hwf g hg),λe=>hwf g hg (by rw[e];exact Hpr.o),λe=>hwf g hg (by rw[e];exact KW.2.2),Yt.o g (hwf g hg)⟩);have gi:Hid (ai F w wc):=Z (rl.trans WD (λg hg hv=>by have:=Yt.o g (by rw[SG g hv];exact aH.noConfusion);omega));have as9:=Z WD.size;have HNr:Hid (∀ l,s1.N l=bL o1 l):=Z HN1.o;have Hrl:Hid (s1.rows.length=nums.length):=Z (by rw[pR.rlen,Hn1.o]);have Jo:s1.n=nums.length:=Hn1.o;have LV:=Z (qN data.length wc hd);clear WD SG hwf Y5 Cd Xw pR HN1 Hap Hpr rl dh uA;rw[Jo];clear Jo;go_wp2_with fail;refine LV.mono ?_;rintro e w3 ⟨sv,rfl,Gh,dr⟩;obtain⟨Gj,HP3,Ji,HW3,pU,Ot⟩:=K6 ((HS.src rd).same O7.o (dr.on λ_ _=>id) dr.size) (Zc.mod dr id) (ab dr ru.o id) (HW2.same (dr.on λ_ _=>id)) (gi.keep dr) Gh;obtain⟨a3,aeY,e3,YV⟩:=bh Gh;obtain⟨L,hL⟩:∃ L,ax data.length=L:=⟨_,rfl⟩
  have e3':sv=.slice a3 L.length aeY:=by rw[e3];simp[bu,gh,hL]
  rw[hL]at Ot;have HL:=Z hL;have Hsv:Hid (∀ g,(Value.slice a3 L.length aeY).ownBlock=some g->¬ F1 g/\g≠pb/\g≠ob+1/\¬ Qr s1.nb s1.rows g/\w.heap.size<=g):=Z (λg hg=>by
   have h1:=(Gh.lt g (by rw[e3'];exact hg)).1;refine⟨λhf=>by have:=(HS.src rd).lt O7.o g hf;omega,λe=>by have:=ak Zc.own;omega,λe=>by have:=ak ru.o;omega,λhf=>by have:=HW2.lt hf;omega,by have:=gi.size;omega⟩)
  have Ut:(L.length:Int)<=3:=by rw[<-hL];have:=rP data.length;omega
  subst e3';clear Gh dr e3 hL LV O7 Zc ru HW2 gi;have f0:=ae Ji.o ⟨ob+1,0,none⟩ rfl;have f1:=ae Ji.o ⟨ob+1,1,none⟩ rfl;have r0:w3.cell? ⟨ob+1,0,none⟩=some (.int .i64 0):=aa Ji.o 0;have r1:w3.cell? ⟨ob+1,1,none⟩=some (.int .i64 0):=aa Ji.o 1;by_cases hz:data.length=0
  ·have Uy:L=[]:=by rw[<-HL.o,hz];rfl
   have hlz:(((L.length:Nat):Int)==0)=true:=by rw[Uy];rfl
   have B4:=ah (ah Ji.o 0 (.int .i64 0)) 1 (.int .i64 0);have m4:ai (λg=>g=ob+1) w3 ((w3.setCell ⟨ob+1,0,none⟩ (.int .i64 0)).setCell ⟨ob+1,1,none⟩ (.int .i64 0)):=((ai.refl (λg=>g=ob+1) w3).setCell (p:=⟨ob+1,0,none⟩) (.inl rfl) _).setCell (p:=⟨ob+1,1,none⟩) (.inl rfl) _;go_wp2_with fail;obtain⟨W4,YQ⟩:∃ W4,(w3.setCell ⟨ob+1,0,none⟩ (.int .i64 0)).setCell ⟨ob+1,1,none⟩ (.int .i64 0)=W4:=⟨_,rfl⟩
   rw[YQ]at B4 m4 ⊢;have q0:W4.cell? ⟨ob+1,0,none⟩=some (.int .i64 0):=aa B4 0;have q1:W4.cell? ⟨ob+1,1,none⟩=some (.int .i64 0):=aa B4 1;have ic:b=⟨0,0⟩:=by rw[Hbl.o,awd hz]
   have ht0:t=⟨rd,p⟩:=by
    have h:=Hn.o;unfold kp at h;rw[HL.o,Uy]at h;simp only at h;injection h with h;injection h with _ h;exact h.symm
   refine awC (v:=.tuple #[cR ⟨0,0⟩,.int .i64 0]) (by simp[results,Tryz.results212,go_sem,q0,q1,cR]) rfl ?_;unfold tc;rw[ic,ht0];exact⟨rfl,F1,(HS.src rd).same Gj.o (m4.on λg hg e=>KW.1 (e▸hg)) m4.size,HP3.mod m4 (λe=>KW.2.1 e.symm),Hf1.o,HF1.o,(pU.mono (T:=λg=>F g\/g=pb) (λ_ _ h=>.inl h)).trans m4 (λg hg e=>by have:=yj.o;omega)⟩
  ·obtain⟨m0,r,Yc⟩:∃ m0 r,L=m0::r:=by
    rcases aN data.length with⟨h,_⟩|⟨_,_,e⟩|⟨_,_,e⟩|⟨_,e⟩
    ·exact absurd h hz
    ·exact⟨_,_,by rw[<-HL.o,e]⟩
    ·exact⟨_,_,by rw[<-HL.o,e]⟩
    ·exact⟨_,_,by rw[<-HL.o,e]⟩
   have Sk:m0=bQ data.length 240:=by have:=mX (size:=data.length);rw[HL.o,Yc]at this;exact this
   have ar4:m0<=69:=by rw[Sk];exact(aL dc7).2 J
   have hlz:(((L.length:Nat):Int)==0)=false:=by rw[Yc,awO];simp;omega
   obtain⟨uN,t1,Ts,agJ⟩:∃ uN t1,ik (fR br data nums) (aQ data) m0 0 ⟨rd,p⟩=.ok (uN,t1)/\(qz (nums.length==r.length+1) nums r 1 uN t1).map (λx=>(uN::x.1,x.2))=.ok (ns,t):=by
    have h:=Hn.o;unfold kp at h;rw[HL.o,Yc]at h;simp only at h
    cases hl:ik (fR br data nums) (aQ data) m0 0 ⟨rd,p⟩with
    |error e=>rw[hl]at h;cases h
    |ok x=>rw[hl]at h;exact⟨x.1,x.2,rfl,h⟩
   obtain⟨gs,os,ea3,Se⟩:=YV 0 (.int .i64 (m0:Int)) (by rw[<-HL.o]at Yc;simp[bu,gh,Yc]);subst ea3;have hlp:(0:Int)<(L.length:Int):=by rw[Yc];simp only[av5];omega
   rw[Nat.add_zero]at Se;have LS0:Hid (kL I blocks pb w3.heap.size w3 F1 ⟨rd,p⟩ (.slice none 0 0) []):=Z ⟨Gj.o,HP3.o,hb,HF1.o,⟨rfl,.inl ⟨rfl,rfl⟩⟩,λg hg=>(by cases hg),av9 _⟩;obtain⟨adT,TB,HLc,Hm0,Hx3⟩:=K5 Ts agJ Yc Sk YV;have arh:(m0:Int)<=69:=J
   clear Ts agJ Yc Sk YV r0 r1 f0 f1;go_wp2_with fail
   go_loopw [58,15] (λi v wr=>∃(k:Nat) (L1 L2:List Int) (tk:gy) (Fk:Nat->Prop),k<=m0/\i=.int .i64 (k:Int)/\Hid (kL I blocks pb w3.heap.size wr Fk tk v L1)/\L1.length=k/\Hid (ik (fR br data nums) (aQ data) (m0-k) k tk=.ok (L2,t1))/\Hid (uN=L1++L2)/\Hid (df F1 Fk pb w3.heap.size w3 wr)/\Hid (∀ n∈L1,0<=n/\n<4096)) (λi _ _=>m0-(intOf i).toNat)
   case atStart=>exact⟨0,[],uN,⟨rd,p⟩,F1,J,rfl,LS0.o |> Z,rfl,adT,Z rfl,Z (df.refl _ _ _ _),Z sp7⟩
   case round=>
    clear LS0 adT;obtain⟨k,L1,L2,tk,Fk,hk,rfl,sB,zk,Hlk,WC,OC,ON⟩:=hrel;by_cases aP:k<m0
    ·have dL:(k:Int)<(m0:Int):=J
     obtain⟨P1,P2⟩:=K2 (λW=>zL data k W J J) (λW=>zL br k W J J);have hfk:m0-k=(m0-k-1)+1:=J
     have dh:=Hlk.o;rw[hfk]at dh;have yq:=Z (zZ dh);have JK:L1.length<=100000:=J
     have KN:k*240<data.length:=by
      have h1:=Hm0.o;apply awZ;intro hc;have:=(aL (n:=data.length) (each:=240) (k:=k) dc7).2 J;omega
     clear dh;go_wp2_with fail;refine(P1.o _).mono ?_;rintro e w5 ⟨rfl,kV⟩;go_wp2_with fail;refine(P2.o _).mono ?_;rintro e w6 ⟨rfl,pX⟩;have aaG:af wr w6:=kV.keep pX;obtain⟨S6,K6⟩:=K2 (sB.keep HS.o aaG) (OC.keep aaG);have W6:Hid (Eb w6 s1.nb s1.rows s1.N):=Z (HW3.same (K6.mod.on λg hg hh=>by
      obtain⟨a1,a2,_⟩:=Hwf.o g hg;have:=HW3.lt hg;rcases hh with hh|hh|hh
      ·exact a1 hh
      ·exact a2 hh
      ·omega))
     clear kV pX aaG sB OC P1 P2 Se;by_cases he:aQ data k=aQ br k
     ·have abw:(aQ data k==aQ br k)=true:=by rw[he];simp
      have hkh:k*240<br.length:=by
       have h1:=j9 data k;have h2:=j9 br k;rw[he]at h1;omega
      have hN0:(nums.getD 0 []).length=bQ br.length 240:=by rw[fN HT.o,mX]
      have dM:k<(nums.getD 0 []).length:=by
       rw[hN0];apply awZ;intro hc;have:=(aL (n:=br.length) (each:=240) (k:=k) dc7).1 J;omega
      have agu:0<nums.length:=by
       rcases hq:nums with _|⟨a,c⟩
       ·rw[hq]at dM;simp at dM
       ·simp
      obtain⟨v0,Ge⟩:∃ v0,s1.rows[0]?=some v0:=⟨_,av6 (by rw[Hrl.o];exact agu)⟩
      have cq:=W6.row 0 v0 Ge;rw[HNr.o,abd.o 0 agu]at cq;obtain⟨a0,akd,e0,rf⟩:=bh cq;obtain⟨x,hx⟩:∃ x,(nums.getD 0 [])[k]?=some x:=⟨_,av6 dM⟩
      obtain⟨b0,ob0,ea0,c0⟩:=rf k (.int .i64 x) (by simp only[bu,aw5,hx];rfl);subst ea0;rw[fK]at e0;obtain⟨nl0,rk⟩:∃ nl0,(nums.getD 0 []).length=nl0:=⟨_,rfl⟩
      rw[rk]at e0 dM;subst e0;have cn0:w6.cell? ⟨s1.nb,0,none⟩=some (.slice (some ⟨b0,ob0,none⟩) nl0 akd):=by rw[aa W6.nums 0];simpa using Ge
      have atl:(k:Int)<(nl0:Int):=J
      have ap4:(0:Int)<(nums.length:Int):=J
      have hxr:=mi HT.o hx;have Oc:Hid (fR br data nums k=some x):=Z (by unfold fR;rw[awd he];simp only[axm]at hx ⊢;rw[hx];rfl);obtain⟨g7,asQ,w7,r7,S7,K7⟩:=S6.append HS.o JK x;obtain⟨HR7,HS7,yY,Hxr⟩:=K4 r7 S7 (K6.trans K7 (av9 _)) hxr;clear r7 S7 K7 he cq rf hx Ge hN0 rk hkh KN hxr S6 K6 W6;go_wp2_with (at_builtin;refine aB HR7.o rfl rfl rfl rfl ?_)
      go_roundw
      case rel=>
       rcases yq.o with⟨n,JG,h1,h2,h3⟩|⟨h1,_⟩
       ·rw[Oc.o]at h1;injection h1 with h1;subst h1;refine⟨k+1,L1++[x],JG,tk,Fk,J,by go_num,Z (by have h:=HS7.o;rw[zk]at h;exact h),by simp[zk],Z (by rw[show m0-(k+1)=m0-k-1 by omega];exact h2),Z (by rw[WC.o,h3];simp),yY,Z (λn hn=>?_)⟩;rcases aw8.1 hn with hn|hn
        ·exact ON.o n hn
        ·simp at hn;subst hn;have:=Hxr.o;omega
       ·rw[Oc.o]at h1;cases h1
      case measure=>simp[intOf];omega
     ·have abw:(aQ data k==aQ br k)=false:=by simpa using he
      have Oc:Hid (fR br data nums k=none):=Z (by unfold fR;rw[awf he]);obtain⟨lH,JG,h2,h3⟩:0<tk.pool.left/\∃ L',ik (fR br data nums) (aQ data) (m0-k-1) (k+1) ⟨lM tk.rd tk.pool.seek (aQ data k),tk.pool.took⟩=.ok (L',t1)/\L2=(tk.pool.seek:Int)::L':=by
       rcases yq.o with⟨n,JG,h1,_⟩|⟨_,h⟩
       ·rw[Oc.o]at h1;cases h1
       ·exact h
      have PT:=Z (mZ HS.o S6.src S6.pool S6.npb S6.blocks lH (aQ data k) (by rw[j9];omega));have zj:=pE S6.pool.ok lH;have yi:1<=tk.pool.seek/\tk.pool.seek<4096:=⟨zj.1,by have:=zj.2.1;have:=S6.blocks;omega⟩
      obtain⟨Jr,H2,H3⟩:=K3 yi h2 h3;clear he KN h2 h3 zj yi;go_wp2_with fail;refine PT.mono ?_;rintro e w7 ⟨rfl,F7,KS,qs,Uc,uK,m7⟩;obtain⟨S7,K7⟩:=S6.put HS.o KS qs Uc uK m7;have K7':=Z (K6.trans K7 (av9 _));obtain⟨g8,rg,w8,r8,S8,K8⟩:=S7.append HS.o JK (tk.pool.seek:Int);obtain⟨HR8,FW,sr⟩:=K3 r8 S8 (K7'.trans K8 (av9 _));clear KS qs Uc uK m7 S7 K7 r8 S8 K8 S6 K6 W6 PT;go_wp2_with (at_builtin;refine aB HR8.o rfl rfl rfl rfl ?_)
      go_roundw
      case rel=>
       refine⟨k+1,L1++[(tk.pool.seek:Int)],JG,_,F7,J,by go_num,Z (by have h:=FW.o;rw[zk]at h;exact h),by simp[zk],Z (by rw[show m0-(k+1)=m0-k-1 by omega];exact H2.o),Z (by rw[WC.o,H3.o];simp),sr,Z (λn hn=>?_)⟩;rcases aw8.1 hn with hn|hn
       ·exact ON.o n hn
       ·simp at hn;subst hn;have:=Jr.o;omega
      case measure=>simp[intOf];omega
    ·obtain rfl:k=m0:=J
     obtain⟨e1,e2⟩:=Ec (by have h:=Hlk.o;rw[Nat.sub_self]at h;exact h);subst e2;have en:uN=L1:=by rw[WC.o,e1];simp
     subst en;clear e1 Hlk WC Se;obtain⟨Lx0,Ye,afV⟩:∃ Lx0,qz (nums.length==r.length+1) nums r 1 uN tk=.ok (Lx0,t)/\ns=uN::Lx0:=by
      have h:=TB.o
      cases hq:qz (nums.length==r.length+1) nums r 1 uN tk with
      |error e=>rw[hq]at h;cases h
      |ok x=>
       rw[hq]at h;simp only[Except.map]at h;injection h with h;injection h with h1 h2;exact⟨x.1,by rw[<-h2],h1.symm⟩
     have TY:Hid (∀(W:World) (Fj:Nat->Prop),df F1 Fj pb w3.heap.size w3 W->Eb W s1.nb s1.rows s1.N/\World.blk W (ob+1) #[.int .i64 0,.int .i64 0] 42/\∀(j:Nat) (x:Nat),L[j]?=some x->W.cell? ⟨gs,os+j,none⟩=some (.int .i64 (x:Int))):=Z (λW Fj K=>by
      refine⟨HW3.same (K.mod.on λg hg hh=>?_),ab K.mod Ji.o (λhh=>?_),λj x hj=>?_⟩
      ·obtain⟨a1,a2,_⟩:=Hwf.o g hg;have:=HW3.lt hg;rcases hh with hh|hh|hh
       ·exact a1 hh
       ·exact a2 hh
       ·omega
      ·rcases hh with hh|hh|hh
       ·exact KW.1 hh
       ·exact KW.2.1 hh
       ·have:=ak Ji.o;omega
      ·obtain⟨b',o',e',c'⟩:=Hx3.o j (.int .i64 (x:Int)) (by rw[HL.o];simp[bu,gh,hj]);injection e' with e';injection e' with e1 e2;subst e1 e2;obtain⟨a1,a2,_⟩:=Hsv.o gs rfl;have hl:=am c';rw[<-c'];exact K.mod.cell (p:=⟨gs,os+j,none⟩) hl (λhh=>by
        rcases hh with hh|hh|hh
        ·exact a1 hh
        ·exact a2 hh
        ·have:gs<w3.heap.size:=hl;have hh':w3.heap.size<=gs:=hh;omega))
     obtain⟨Zs,af8⟩:=K2 Ye afV;have hLr:L.length=r.length+1:=by rw[HLc.o];simp
     have ajx:Hid (∀ j,j+1<L.length->L.getD (j+1) 0=bQ (L.getD j 0) 60):=Z (by rw[<-HL.o];exact mo _ hd);have abr:Hid (∀ n∈L,1<=n/\n<=69):=Z (by rw[<-HL.o];exact oM hd);have HLr:=Z hLr;have anY:1<=L.length:=J
     clear Ye afV hLr;go_wp2_with fail
     go_loopw [20,15] (λlv v wr=>∃(j:Nat) (Now Lx':List Int) (Lx:List (List Int)) (tj:gy) (Fj:Nat->Prop),1<=j/\j<=L.length/\lv=.int .i64 (j:Int)/\Hid (kL I blocks pb w3.heap.size wr Fj tj v Now)/\Hid (Now.length=L.getD (j-1) 0)/\Hid (qz (nums.length==r.length+1) nums (r.drop (j-1)) j Now tj=.ok (Lx,t))/\Hid (ns.getLastD []=(Now::Lx).getLastD [])/\Hid (df F1 Fj pb w3.heap.size w3 wr)/\Hid (∀ n∈Now,0<=n/\n<4096)/\Lx'=Now) (λlv _ _=>L.length-(intOf lv).toNat)
     case atStart=>exact⟨1,uN,uN,Lx0,tk,Fk,av9 _,J,rfl,sB,Z (by rw[zk,HLc.o];rfl),Z Zs.o,Z (by rw[af8.o]),OC,ON,rfl⟩
     case round=>
      clear sB OC ON Zs af8;obtain⟨j,Now,_,Lx,tj,Fj,Up,hj2,rfl,sB,HNl,TB,Jj,OC,ON,_⟩:=hrel;by_cases Cn:j<L.length
      ·obtain⟨m1,iB⟩:∃ m1,L[j]?=some m1:=⟨_,av6 Cn⟩
       have hmg:L.getD j 0=m1:=by rw[axm,iB];rfl
       have yX:r.drop (j-1)=m1::r.drop j:=by
        have h1:r[j-1]?=some m1:=by
         have h:=iB;rw[HLc.o,show j=(j-1)+1 by omega,List.getElem?_cons_succ]at h;exact h
        have h2:=(awk.1 h1)
        rw[List.drop_eq_getElem_cons h2.1,h2.2,show j-1+1=j by omega]
       obtain⟨nx,t2,hly,Lx2,aeR,hLx⟩:∃ nx t2,ik (eC (nums.length==r.length+1) nums Now j) (λi=>cM (aY Now i)) m1 0 tj=.ok (nx,t2)/\∃ Lx2,qz (nums.length==r.length+1) nums (r.drop j) (j+1) nx t2=.ok (Lx2,t)/\Lx=nx::Lx2:=by
        have h:=TB.o;rw[yX]at h;unfold qz at h
        cases hq:ik (eC (nums.length==r.length+1) nums Now j) (λi=>cM (aY Now i)) m1 0 tj with
        |error e=>rw[hq]at h;cases h
        |ok x=>
         rw[hq]at h;simp only at h
         cases SQ:qz (nums.length==r.length+1) nums (r.drop j) (j+1) x.1 x.2 with
         |error e=>rw[SQ]at h;cases h
         |ok y=>
          rw[SQ]at h;simp only[Except.map]at h;injection h with h;injection h with h1 h2;exact⟨x.1,x.2,rfl,y.1,by rw[SQ,<-h2],h1.symm⟩
       obtain⟨st1,st2,SZ⟩:=TY.o _ _ OC.o;have cj:=SZ j m1 iB;have atf:=abr.o m1 (av7 iB);have ad4:m1=bQ Now.length 60:=by
        have h:=ajx.o (j-1) J;rw[show j-1+1=j by omega,hmg,<-HNl.o]at h;exact h
       have YU:Now.length<=69:=by
        rw[HNl.o,axm,av6 (show j-1<L.length by omega)];exact(abr.o _ (awF _)).2
       have ajo:(j:Int)<(L.length:Int):=J
       have aqf:(m1:Int)<=69:=J
       have hgj:gs<wr.heap.size:=by have:=am cj;exact this
       obtain⟨an,Oq,en,sp⟩:=bh sB.row;rw[fK]at en;subst en;have LS0:Hid (kL I blocks pb wr.heap.size wr Fj tj (.slice none 0 0) []):=Z ⟨sB.src,sB.pool,sB.blocks,sB.npb,⟨rfl,.inl ⟨rfl,rfl⟩⟩,λg hg=>(by cases hg),av9 _⟩;obtain⟨HWl,Hly,aky,HLx,akr,HNw,HNa,Hmg⟩:=K8 st1 hly aeR hLx ad4 sB.row sB.away hmg;have ad1:w3.heap.size<=wr.heap.size:=sB.B;obtain⟨HB,Hnb,agN⟩:=K3 ad1 YU OC.o;obtain⟨nl,rk⟩:∃ nl,Now.length=nl:=⟨_,rfl⟩
       have Hnl:=Z rk;rw[rk]at HNw HNa ⊢;clear yX hly aeR hLx st1 st2 SZ ad4 sp rk ad1 hmg iB sB TB OC YU;obtain⟨wl,rfl⟩:∃ wl,wl=wr:=⟨_,rfl⟩
       go_wp2_with fail
       go_loopw [104,21] (λi v wq=>∃(k:Nat) (L1 L2:List Int) (tk:gy) (Fk:Nat->Prop),k<=m1/\i=.int .i64 (k:Int)/\Hid (kL I blocks pb wl.heap.size wq Fk tk v L1)/\L1.length=k/\Hid (ik (eC (nums.length==r.length+1) nums Now j) (λi=>cM (aY Now i)) (m1-k) k tk=.ok (L2,t2))/\Hid (nx=L1++L2)/\Hid (df Fj Fk pb wl.heap.size wl wq)/\Hid (∀ n∈L1,0<=n/\n<4096)) (λi _ _=>m1-(intOf i).toNat)
       case atStart=>exact⟨0,[],nx,tj,Fj,J,rfl,LS0,rfl,Hly,Z rfl,Z (df.refl _ _ _ _),Z sp7⟩
       case round=>
        clear LS0 Hly cj;obtain⟨k,L1,L2,tk,Fk,hk,rfl,sB,zk,Hlk,yk,Ou,zm⟩:=hrel;by_cases atH:k<m1
        ·have dL:(k:Int)<(m1:Int):=J
         have B9:60*k<Now.length:=by
          have h1:=akr.o;apply awZ;intro hc;have:=(aL (n:=Now.length) (each:=60) (k:=k) dc7).2 J;omega
         have dh:ik (eC (nums.length==r.length+1) nums Now j) (λi=>cM (aY Now i)) ((m1-k-1)+1) k tk=.ok (L2,t2):=by
          rw[show m1-k-1+1=m1-k by omega];exact Hlk.o
         have yq:=Z (zZ dh);have JK:L1.length<=100000:=J
         have HKq:=Z (agN.trans (Ou.down HB.o) (av9 _));obtain⟨sq1,_,_⟩:=TY.o _ _ HKq.o;have hnw:aO wr w3.heap.size (.slice an nl Oq) Now:=by
          have h:=HNw.o;rw[<-Hnl.o]at h ⊢;exact aA h λg hg=>Ou.mod.block g (aX h hg) (λhh=>by
           have ha:=HNa.o;rw[<-Hnl.o]at ha;rcases hh with hh|hh|hh
           ·exact(ha g hg).1 hh
           ·exact(ha g hg).2 hh
           ·have:=aX h hg;omega)
         have G1:=Z (zM Now k (.slice an nl Oq) wr w3.heap.size hnw (by have:=Hnb.o;omega) B9);have hgl:(aY Now k).length<=60:=by rw[kc];omega
         have hgr:∀ n∈aY Now k,0<=n/\n<4294967296:=λn hn=>by
          have:=ON.o n (List.mem_of_mem_drop (awb hn));omega
         have LD:=Z (λW v (hv:eg W v (bu (aY Now k)))=>DV (aY Now k) v W hv J hgr);have abJ:(cM (aY Now k)).length<=240:=by rw[ws];omega
         have HSQ:=Z sq1;clear dh hnw hgl hgr sq1;go_wp2_with fail;refine G1.mono ?_;rintro e w5 ⟨v5,rfl,hv5,rfl⟩;have L5:=Z (LD.o _ _ hv5);clear hv5 LD G1;obtain⟨sg,hsg⟩:∃ sg,cM (aY Now k)=sg:=⟨_,rfl⟩
         rw[hsg]at L5 abJ;obtain⟨Hsg,abW⟩:=K2 hsg abJ;clear hsg abJ;go_wp2_with fail;refine L5.mono ?_;rintro e w6 ⟨rfl,pX⟩;obtain⟨S6,K6,W6⟩:=K3 (sB.keep HS.o pX) (Ou.keep pX) (HSQ.same (pX.on λ_ _=>id));clear pX L5 sB Ou HKq HSQ B9;by_cases OX:nums.length=L.length
         ·have aiY:((nums.length:Nat):Int)=(L.length:Int):=J
          have alR:(nums.length==r.length+1)=true:=by rw[OX,HLr.o];simp
          have FC:j<nums.length:=J
          obtain⟨vj,hvj⟩:∃ vj,s1.rows[j]?=some vj:=⟨_,av6 (by rw[Hrl.o];exact FC)⟩
          have cq:=W6.row j vj hvj;rw[HNr.o,abd.o j FC]at cq;obtain⟨aj,ad6,ej,hxj⟩:=bh cq;rw[fK]at ej;obtain⟨nj,KP⟩:∃ nj,(nums.getD j []).length=nj:=⟨_,rfl⟩
          rw[KP]at ej;subst ej;have cnj:w6.cell? ⟨s1.nb,j,none⟩=some (.slice aj nj ad6):=by rw[aa W6.nums j];simpa using hvj
          have apB:(j:Int)<(nums.length:Int):=J
          have at7:nj<=69:=by
           rw[<-KP,fN HT.o,axm]
           cases hq:(ax br.length)[j]? with
           |none=>simp
           |some y=>exact(oM hh y (av7 hq)).2
          obtain⟨Hnj,Hxj⟩:=K2 KP hxj;clear cq hvj KP hxj;have hlL:(((nums.length:Nat):Int)==(L.length:Int))=true:=by rw[OX];simp
          clear OX aiY;by_cases hkj:k<nj
          ·have ake:(k:Int)<(nj:Int):=J
           have ai4:decide ((k:Int)<(nj:Int))=true:=by simpa using ake
           obtain⟨vp,hvp⟩:∃ vp,s1.rows[j-1]?=some vp:=⟨_,av6 (by rw[Hrl.o];omega)⟩
           have hrp:=W6.row (j-1) vp hvp;rw[HNr.o,abd.o (j-1) J]at hrp;have hjp:((j-1:Nat):Int)=(j:Int)-1:=J
           have cnp:w6.cell? ⟨s1.nb,j-1,none⟩=some vp:=by rw[aa W6.nums (j-1)];simpa using hvp
           have nR:60*k<(nums.getD (j-1) []).length:=by
            have h1:=Hnj.o;rw[fN HT.o]at h1 ⊢;have h2:=mo br.length hh (j-1) (by rw[<-Mc HT.o];omega);rw[show j-1+1=j by omega,h1]at h2;apply awZ;intro hc;have:=(aL (n:=(ax br.length).getD (j-1) 0) (each:=60) (k:=k) dc7).2 J;omega
           have ajj:(nums.getD (j-1) []).length<=69:=by
            rw[fN HT.o,axm]
            cases hq:(ax br.length)[j-1]? with
            |none=>simp
            |some y=>exact(oM hh y (av7 hq)).2
           have G2:=Z (zM (nums.getD (j-1) []) k vp w6 0 hrp J nR);have afX:∀ n∈aY (nums.getD (j-1) []) k,0<=n/\n<4294967296:=λn hn=>by
            have hm:=List.mem_of_mem_drop (awb hn);obtain⟨q,hq⟩:=axj hm;have:=mi HT.o hq;omega
           have alh:(aY (nums.getD (j-1) []) k).length<=60:=by rw[kc];omega
           have LD2:=Z (λW v (hv:eg W v (bu (aY (nums.getD (j-1) []) k)))=>DV (aY (nums.getD (j-1) []) k) v W hv J afX);obtain⟨avp,nvp,cvp,evp⟩:∃ a n c,vp=.slice a n c:=by
            rcases hrp.2 with⟨h,_⟩|⟨g,cap,dW,h,_⟩
            ·exact⟨_,_,_,h⟩
            ·exact⟨_,_,_,h⟩
           subst evp;clear hrp hvp nR ajj afX alh;go_wp2_with fail;refine G2.mono ?_;rintro e w7 ⟨v7,rfl,hv7,rfl⟩;have L7:=Z (LD2.o _ _ hv7);clear hv7 LD2 G2;obtain⟨sw,hsw⟩:∃ sw,cM (aY (nums.getD (j-1) []) k)=sw:=⟨_,rfl⟩
           rw[hsw]at L7;have Hsw:=Z hsw;clear hsw;go_wp2_with fail;refine L7.mono ?_;rintro e w8 ⟨rfl,kn⟩;obtain⟨S6,K6,W6⟩:=K3 (S6.keep HS.o kn) (K6.keep kn) (W6.same (kn.on λ_ _=>id));have atJ:w8.cell? ⟨s1.nb,j,none⟩=some (.slice aj nj ad6):=(kn.cell (p:=⟨s1.nb,j,none⟩) (am cnj) id).trans cnj;by_cases hss:sg=sw
           ·have abw:(sg==sw)=true:=by rw[hss];simp
            obtain⟨x,hx⟩:∃ x,(nums.getD j [])[k]?=some x:=⟨_,av6 (by rw[Hnj.o];exact hkj)⟩
            obtain⟨bj,oj,eaj,cxj⟩:=Hxj.o k (.int .i64 x) (by simp only[bu,aw5,hx];rfl);subst eaj;have cx8:w8.cell? ⟨bj,oj+k,none⟩=some (.int .i64 x):=(kn.cell (p:=⟨bj,oj+k,none⟩) (am cxj) id).trans cxj;have hxr:=mi HT.o hx;have Oc:Hid (eC (nums.length==r.length+1) nums Now j k=some x):=Z (by
             unfold eC;rw[awd ⟨alR,by rw[Hnj.o];exact hkj,by rw[Hsg.o,Hsw.o,hss]⟩];simp only[axm]at hx ⊢;rw[hx];rfl)
            obtain⟨g9,ajd,w9,r9,S9,K9⟩:=S6.append HS.o JK x;obtain⟨HR9,HS9,Cg,Hxr⟩:=K4 r9 S9 (K6.trans K9 (av9 _)) hxr;clear r9 S9 K9 hx hxr S6 K6 W6 kn L7 cxj cnj Hxj hss;go_wp2_with (at_builtin;refine aB HR9.o rfl rfl rfl rfl ?_)
            go_roundw
            case rel=>
             rcases yq.o with⟨n,JG,h1,h2,h3⟩|⟨h1,_⟩
             ·rw[Oc.o]at h1;injection h1 with h1;subst h1;refine⟨k+1,L1++[x],JG,tk,Fk,J,by go_num,Z (by have h:=HS9.o;rw[zk]at h;exact h),by simp[zk],Z (by rw[show m1-(k+1)=m1-k-1 by omega];exact h2),Z (by rw[yk.o,h3];simp),Cg,Z (λn hn=>?_)⟩;rcases aw8.1 hn with hn|hn
              ·exact zm.o n hn
              ·simp at hn;subst hn;have:=Hxr.o;omega
             ·rw[Oc.o]at h1;cases h1
            case measure=>simp[intOf];omega
           ·have abw:(sg==sw)=false:=by simpa using hss
            have Oc:Hid (eC (nums.length==r.length+1) nums Now j k=none):=Z (by
             unfold eC;rw[awf (λh=>hss (by rw[<-Hsg.o,<-Hsw.o];exact h.2.2))])
            clear hss kn L7 cnj Hxj;obtain⟨lH,JG,h2,h3⟩:0<tk.pool.left/\∃ L',ik (eC (nums.length==r.length+1) nums Now j) (λi=>cM (aY Now i)) (m1-k-1) (k+1) ⟨lM tk.rd tk.pool.seek (cM (aY Now k)),tk.pool.took⟩=.ok (L',t2)/\L2=(tk.pool.seek:Int)::L':=by
             rcases yq.o with⟨n,JG,h1,_⟩|⟨_,h⟩
             ·rw[Oc.o]at h1;cases h1
             ·exact h
            rw[Hsg.o]at h2;have PT:=Z (mZ HS.o S6.src S6.pool S6.npb S6.blocks lH sg abW.o);have zj:=pE S6.pool.ok lH;have yi:1<=tk.pool.seek/\tk.pool.seek<4096:=⟨zj.1,by have:=zj.2.1;have:=S6.blocks;omega⟩
            obtain⟨Jr,H2,H3⟩:=K3 yi h2 h3;clear h2 h3 zj yi;go_wp2_with fail;refine PT.mono ?_;rintro e w7 ⟨rfl,F7,KS,qs,Uc,uK,m7⟩;obtain⟨S7,K7⟩:=S6.put HS.o KS qs Uc uK m7;have K7':=Z (K6.trans K7 (av9 _));obtain⟨g8,rg,w8,r8,S8,K8⟩:=S7.append HS.o JK (tk.pool.seek:Int);obtain⟨HR8,FW,sr⟩:=K3 r8 S8 (K7'.trans K8 (av9 _));clear KS qs Uc uK m7 S7 K7 r8 S8 K8 S6 K6 W6 PT;go_wp2_with (at_builtin;refine aB HR8.o rfl rfl rfl rfl ?_)
            go_roundw
            case rel=>
             refine⟨k+1,L1++[(tk.pool.seek:Int)],JG,_,F7,J,by go_num,Z (by have h:=FW.o;rw[zk]at h;exact h),by simp[zk],Z (by rw[show m1-(k+1)=m1-k-1 by omega];exact H2.o),Z (by rw[yk.o,H3.o];simp),sr,Z (λn hn=>?_)⟩;rcases aw8.1 hn with hn|hn
             ·exact zm.o n hn
             ·simp at hn;subst hn;have:=Jr.o;omega
            case measure=>simp[intOf];omega
          ·have ai4:decide ((k:Int)<(nj:Int))=false:=by simp;omega
           have aqs:¬(k:Int)<(nj:Int):=J
           have Oc:Hid (eC (nums.length==r.length+1) nums Now j k=none):=Z (by
            unfold eC;rw[awf (λh=>hkj (by rw[<-Hnj.o];exact h.2.1))])
           clear hkj Hxj;obtain⟨lH,JG,h2,h3⟩:0<tk.pool.left/\∃ L',ik (eC (nums.length==r.length+1) nums Now j) (λi=>cM (aY Now i)) (m1-k-1) (k+1) ⟨lM tk.rd tk.pool.seek (cM (aY Now k)),tk.pool.took⟩=.ok (L',t2)/\L2=(tk.pool.seek:Int)::L':=by
            rcases yq.o with⟨n,JG,h1,_⟩|⟨_,h⟩
            ·rw[Oc.o]at h1;cases h1
            ·exact h
           rw[Hsg.o]at h2;have PT:=Z (mZ HS.o S6.src S6.pool S6.npb S6.blocks lH sg abW.o);have zj:=pE S6.pool.ok lH;have yi:1<=tk.pool.seek/\tk.pool.seek<4096:=⟨zj.1,by have:=zj.2.1;have:=S6.blocks;omega⟩
           obtain⟨Jr,H2,H3⟩:=K3 yi h2 h3;clear h2 h3 zj yi;go_wp2_with fail;refine PT.mono ?_;rintro e w7 ⟨rfl,F7,KS,qs,Uc,uK,m7⟩;obtain⟨S7,K7⟩:=S6.put HS.o KS qs Uc uK m7;have K7':=Z (K6.trans K7 (av9 _));obtain⟨g8,rg,w8,r8,S8,K8⟩:=S7.append HS.o JK (tk.pool.seek:Int);obtain⟨HR8,FW,sr⟩:=K3 r8 S8 (K7'.trans K8 (av9 _));clear KS qs Uc uK m7 S7 K7 r8 S8 K8 S6 K6 W6 PT;go_wp2_with (at_builtin;refine aB HR8.o rfl rfl rfl rfl ?_)
           go_roundw
           case rel=>
            refine⟨k+1,L1++[(tk.pool.seek:Int)],JG,_,F7,J,by go_num,Z (by have h:=FW.o;rw[zk]at h;exact h),by simp[zk],Z (by rw[show m1-(k+1)=m1-k-1 by omega];exact H2.o),Z (by rw[yk.o,H3.o];simp),sr,Z (λn hn=>?_)⟩;rcases aw8.1 hn with hn|hn
            ·exact zm.o n hn
            ·simp at hn;subst hn;have:=Jr.o;omega
           case measure=>simp[intOf];omega
         ·have hlL:(((nums.length:Nat):Int)==(L.length:Int))=false:=by rw[awO];omega
          have Oc:Hid (eC (nums.length==r.length+1) nums Now j k=none):=Z (by
           unfold eC;rw[awf (λh=>OX (by rw[HLr.o];simpa using h.1))])
          clear OX;obtain⟨lH,JG,h2,h3⟩:0<tk.pool.left/\∃ L',ik (eC (nums.length==r.length+1) nums Now j) (λi=>cM (aY Now i)) (m1-k-1) (k+1) ⟨lM tk.rd tk.pool.seek (cM (aY Now k)),tk.pool.took⟩=.ok (L',t2)/\L2=(tk.pool.seek:Int)::L':=by
           rcases yq.o with⟨n,JG,h1,_⟩|⟨_,h⟩
           ·rw[Oc.o]at h1;cases h1
           ·exact h
          rw[Hsg.o]at h2;have PT:=Z (mZ HS.o S6.src S6.pool S6.npb S6.blocks lH sg abW.o);have zj:=pE S6.pool.ok lH;have yi:1<=tk.pool.seek/\tk.pool.seek<4096:=⟨zj.1,by have:=zj.2.1;have:=S6.blocks;omega⟩
          obtain⟨Jr,H2,H3⟩:=K3 yi h2 h3;clear h2 h3 zj yi;go_wp2_with fail;refine PT.mono ?_;rintro e w7 ⟨rfl,F7,KS,qs,Uc,uK,m7⟩;obtain⟨S7,K7⟩:=S6.put HS.o KS qs Uc uK m7;have K7':=Z (K6.trans K7 (av9 _));obtain⟨g8,rg,w8,r8,S8,K8⟩:=S7.append HS.o JK (tk.pool.seek:Int);obtain⟨HR8,FW,sr⟩:=K3 r8 S8 (K7'.trans K8 (av9 _));clear KS qs Uc uK m7 S7 K7 r8 S8 K8 S6 K6 W6 PT;go_wp2_with (at_builtin;refine aB HR8.o rfl rfl rfl rfl ?_)
          go_roundw
          case rel=>
           refine⟨k+1,L1++[(tk.pool.seek:Int)],JG,_,F7,J,by go_num,Z (by have h:=FW.o;rw[zk]at h;exact h),by simp[zk],Z (by rw[show m1-(k+1)=m1-k-1 by omega];exact H2.o),Z (by rw[yk.o,H3.o];simp),sr,Z (λn hn=>?_)⟩;rcases aw8.1 hn with hn|hn
           ·exact zm.o n hn
           ·simp at hn;subst hn;have:=Jr.o;omega
          case measure=>simp[intOf];omega
        ·obtain rfl:k=m1:=J
         obtain⟨e1,e2⟩:=Ec (by have h:=Hlk.o;rw[Nat.sub_self]at h;exact h);subst e2;have en:nx=L1:=by rw[yk.o,e1];simp
         subst en;have HKf:=Z (agN.trans (Ou.down HB.o) (av9 _));have HLf:Hid (kL I blocks pb w3.heap.size wr Fk tk u21 nx):=Z ⟨sB.src,sB.pool,sB.blocks,sB.npb,eS sB.row HB.o,sB.away,av2 HB.o sB.B⟩;have HNx:Hid (nx.length=L.getD (j+1-1) 0):=Z (by rw[Nat.add_sub_cancel,Hmg.o];exact zk);have aiV:Hid (qz (nums.length==r.length+1) nums (r.drop (j+1-1)) (j+1) nx tk=.ok (Lx2,t)):=Z (by rw[Nat.add_sub_cancel];exact aky.o);have afT:Hid (ns.getLastD []=(nx::Lx2).getLastD []):=Z (by rw[Jj.o,HLx.o];rfl);clear e1 Hlk yk sB Ou;go_wp2_with fail
         go_roundw
         case rel=>exact⟨j+1,nx,nx,Lx2,tk,Fk,J,J,by go_num,HLf,HNx,aiV,afT,HKf,zm,rfl⟩
         case measure=>simp[intOf];omega
      ·obtain rfl:j=L.length:=J
       have yV:Lx=[]/\tj=t:=by
        have h:=TB.o;rw[List.drop_of_length_le (by have:=HLr.o;omega)]at h;unfold qz at h;injection h with h;injection h with h1 h2;exact⟨h1.symm,h2⟩
       obtain⟨rfl,rfl⟩:=yV;have hN1:1<=Now.length:=by
        rw[HNl.o,axm,av6 (show L.length-1<L.length by omega)];exact(abr.o _ (awF _)).1
       obtain⟨x0,rf⟩:∃ x0,Now[0]?=some x0:=⟨_,av6 J⟩
       obtain⟨an,Oq,en,sp⟩:=bh sB.row;obtain⟨bn,on,ean,cn⟩:=sp 0 (.int .i64 x0) (by simp[bu,rf]);rw[fK]at en;subst en ean;rw[Nat.add_zero]at cn;have ak6:(0:Int)<(Now.length:Int):=J
       obtain⟨_,hrs,_⟩:=TY.o _ _ OC.o;have f0:=ae hrs ⟨ob+1,0,none⟩ rfl;have f1:=ae hrs ⟨ob+1,1,none⟩ rfl;have r0:wr.cell? ⟨ob+1,0,none⟩=some (.int .i64 0):=aa hrs 0;have r1:wr.cell? ⟨ob+1,1,none⟩=some (.int .i64 0):=aa hrs 1;have B4:=Z (ah (ah hrs 0 (.int .i64 x0)) 1 (.int .i64 (data.length:Int)));have m4:ai (λg=>g=ob+1) wr ((wr.setCell ⟨ob+1,0,none⟩ (.int .i64 x0)).setCell ⟨ob+1,1,none⟩ (.int .i64 (data.length:Int))):=((ai.refl (λg=>g=ob+1) wr).setCell (p:=⟨ob+1,0,none⟩) (.inl rfl) _).setCell (p:=⟨ob+1,1,none⟩) (.inl rfl) _;obtain⟨sG,Hx0⟩:=K2 m4 rf;obtain⟨nl,rk⟩:∃ nl,Now.length=nl:=⟨_,rfl⟩
       rw[rk]at ak6 ⊢;clear hrs m4 sp rf rk hN1;go_wp2_with fail;obtain⟨W4,YQ⟩:∃ W4,(wr.setCell ⟨ob+1,0,none⟩ (.int .i64 x0)).setCell ⟨ob+1,1,none⟩ (.int .i64 (data.length:Int))=W4:=⟨_,rfl⟩
       rw[YQ]at B4 sG ⊢;have q0:W4.cell? ⟨ob+1,0,none⟩=some (.int .i64 x0):=aa B4.o 0;have q1:W4.cell? ⟨ob+1,1,none⟩=some (.int .i64 (data.length:Int)):=aa B4.o 1;have rj:b=⟨x0,data.length⟩:=by
        rw[Hbl.o,awf hz]
        congr 1
        unfold iF;rw[Jj.o];show Now.getD 0 0=x0;rw[axm,Hx0.o];rfl
       refine awC (v:=.tuple #[cR ⟨x0,data.length⟩,.int .i64 0]) (by simp[results,Tryz.results212,go_sem,q0,q1,cR]) rfl ?_;unfold tc;rw[rj];have vd:ai (λg=>F g\/g=pb) w wr:=(pU.mono (T:=λg=>F g\/g=pb) (λ_ _ h=>.inl h)).trans OC.mod (λg hg hh=>by
        rcases hh with hh|hh|hh
        ·exact(Hf1.o g hh).elim .inl (λh2=>J)
        ·exact .inr hh
        ·have:=pU.size;omega)
       refine⟨rfl,Fj,(HS.src _).same sB.src (sG.on λg hg e=>?_) sG.size,sB.pool.mod sG.o (λe=>KW.2.1 e.symm),λg hg=>?_,sB.npb,vd.trans sG.o (λg hg e=>by have:=yj.o;omega)⟩
       ·subst e;exact(OC.foot _ hg).elim KW.1 (λh2=>by have:=ak Ji.o;omega)
       ·rcases OC.foot g hg with h|h
        ·exact Hf1.o g h
        ·exact .inr (av2 pU.size h)
end
end Go.Proofs.YtkghpdcloaiflaaGreatDoor
