import Derived.Test.YtkghpdcloaiflaaGreatDoorE20
set_option maxHeartbeats 8000000
set_option maxRecDepth 100000
namespace Go.Proofs.YtkghpdcloaiflaaGreatDoor
open _root_.Go.Proofs.Tryz
section
open Go.RowKit Go.Shelf
attribute [local go_sem] auv
theorem L4 {rd:Rd}{data:az}{nums:List (List Int)}(h:ez rd data nums):nums.length=(au data.length).length:=by rw[<-h.shape];simp
theorem L6 {t t':gK}{old b:fP}{data:az}(h:dI t old data=.ok (b,t')):∃ o ns,ei t.rd old true=.ok o/\kI o.2 data (od old o.1) t=.ok (ns,t')/\b=if data.length=0 then⟨0,0⟩else⟨iP ns,data.length⟩:=by
 unfold dI at h;split at h
 ·cases h
 ·cases ho:ei t.rd old true with
  |error e=>rw[ho]at h;cases h
  |ok o=>
   rw[ho]at h;simp only at h
   cases hn:kI o.2 data (od old o.1) t with
   |error e=>rw[hn]at h;cases h
   |ok x=>
    rw[hn]at h;simp only[Except.map]at h;injection h with h;injection h with h1 h2;subst h2;exact⟨o,x.1,rfl,by rw[hn],h1.symm⟩
def tC (I:Rd->World->(Nat->Prop)->Prop)(w:World)(F:Nat->Prop)(pb:Nat)(b:fP)(t:gK)(e:Ending)(w':World):Prop:=
 e=.returned (.tuple #[dd b,.int .i64 0])/\∃ F',I t.rd w' F'/\jR w' pb t.pool/\(∀ g,F' g->F g\/w.heap.size<=g)/\¬ F' pb/\ah (fun g=>F g\/g=pb) w w'
theorem L8 {ty:TypeId}{rv:Value}{fr fw:FuncId}{I:Rd->World->(Nat->Prop)->Prop}{blocks:Nat}(S:z7 ty rv fr fw I blocks){rd:Rd}{w:World}{F:Nat->Prop}{pb:Nat}{p:Pl}(hI:I rd w F)(hp:jR w pb p)(hF:¬ F pb)(hb:p.blocks=blocks)(Kn:blocks<=4096)
  (bh:az) (nums:List (List Int)) (hT:ez rd bh nums) (hh:bh.length<=16384) (data:az) (hd:data.length<=16384) (b:fP) (t:gK) (hs:dI ⟨rd,p⟩ (dt bh nums) data=.ok (b,t)):
  Calls prog 212 #[.iface ty rv,dd (dt bh nums),.string ⟨data.toArray⟩,.pointer (some ⟨pb,0,none⟩)] w (tC I w F pb b t):=by
 obtain⟨o0,ns,ho,hn,oG⟩:=L6 hs;obtain⟨o1,Fe,yU,_⟩:=kV hT hh true;rw[auI rfl]at Fe;have eo:o0=(o1,bh):=by rw[ho]at Fe;injection Fe
 subst eo;simp only at hn;rw[yU]at hn;have hm:=qP hT hh;have adn:∀ l,l<nums.length->bK o1 l=nums.getD l []:=fun l hl=>by
  have:nums.getD l []=(od (dt bh nums) o1).getD l []:=by rw[yU]
  rw[this];have lA:l<(au (dt bh nums).size.toNat).length:=by
   have h2:(od (dt bh nums) o1).length=nums.length:=by rw[yU]
   unfold od at h2;rw[au4,List.length_range]at h2;omega
  unfold od;rw[avS,avB,avC lA];rfl
 have yy:(au (dt bh nums).size.toNat).length=nums.length:=by
  have h2:(od (dt bh nums) o1).length=nums.length:=by rw[yU]
  unfold od at h2;rw[au4,List.length_range]at h2;exact h2
 obtain⟨old,hold⟩:∃ old,dt bh nums=old:=⟨_,rfl⟩
 rw[hold]at ho hm yy ⊢;have dE:af w ((w.alloc (.cells #[.int .i64 old.root,.int .i64 old.size] 42)).alloc (.cells #[.int .i64 0,.int .i64 0] 42)):=((ah.refl _ w).alloc _).alloc _;have XE:World.blk ((w.alloc (.cells #[.int .i64 old.root,.int .i64 old.size] 42)).alloc (.cells #[.int .i64 0,.int .i64 0] 42)) (w.heap.size+1) #[.int .i64 0,.int .i64 0] 42:=ba (by simp) _ _;have RV:World.blk ((w.alloc (.cells #[.int .i64 old.root,.int .i64 old.size] 42)).alloc (.cells #[.int .i64 0,.int .i64 0] 42)) w.heap.size #[.int .i64 old.root,.int .i64 old.size] 42:=aH (aw _ _ _) _;obtain⟨W0,rA⟩:∃ W0,(w.alloc (.cells #[.int .i64 old.root,.int .i64 old.size] 42)).alloc (.cells #[.int .i64 0,.int .i64 0] 42)=W0:=⟨_,rfl⟩
 obtain⟨ob,ip⟩:∃ ob,w.heap.size=ob:=⟨_,rfl⟩
 rw[rA]at dE XE RV;rw[ip]at XE;have T:=hd0 (uo (S.src rd) ((S.src rd).same hI (dE.on fun _ _=>id) dE.size) old true hm (o1,bh) ho);rw[yy]at T;have hdi:(data.length:Int)<=16384:=by omega
 have Wi:decide ((16384:Int)<(data.length:Int))=false:=by simp;omega
 have oc0:W0.cell? ⟨ob,0,none⟩=some (.int .i64 old.root):=by rw[<-ip];exact aa RV 0
 have oc1:W0.cell? ⟨ob,1,none⟩=some (.int .i64 old.size):=by rw[<-ip];exact aa RV 1
 have HS:=hd0 S;have HP:=hd0 hp;have HF:=hd0 hF;have HI:=hd0 hI;have dO:=hd0 dE;have TR:=hd0 XE;have Hn:=hd0 hn;have Hbl:=hd0 oG;have HT:=hd0 hT;have ZT:=hd0 adn;have yz:=hd0 ip;have Ys:=S.methW;clear hI hp hF dE XE RV ho hn oG hs hT adn Fe yU hold yy hm;unfold dd at T ⊢;go_enter func212,ntmps212;go_wp2_with fail;refine T.out.mono ?_;rintro e w1 ⟨wb,s1,F1,rfl,NR,TD,Cl,hN1,hO1,hD1,kq,qx,nT,dh⟩;have Jq:∀ g,F g->g<w.heap.size:=(HS.out.src rd).lt HI.out;have hFr:¬ F (ob+1):=fun h=>by have:=Jq _ h;have:=yz.out;omega
 have Wn:=hd0 (ab dh TR.out hFr);have BJ:=hd0 ((HP.out.mod dO.out id).mod dh HF.out);have hF1:¬ F1 pb:=fun h=>(qx pb h).elim HF.out (fun h2=>by have:=ai HP.out.own;have:=dO.out.size;omega);have hM1:ah F w w1:=(dO.out.mono (T:=F) (fun _ _ h=>h.elim)).trans dh (fun _ _ h=>h);have hf1:∀ g,F1 g->F g\/w.heap.size<=g:=fun g hg=>(qx g hg).imp id (fun h=>aux dO.out.size h);have SZ:¬ F1 (ob+1)/\ob+1≠pb/\s1.role (ob+1)=.none:=by
  have ajB:=ai TR.out;refine⟨fun h=>(qx _ h).elim hFr (fun h2=>by omega),by have:=ai HP.out.own;have:=yz.out;omega,?_⟩;apply avv;intro h;have:=kq _ h;omega
 have SM:∀ g,s1.role g≠.none->w.heap.size<=g:=fun g hg=>aux dO.out.size (kq g hg);have hpr:s1.role pb=.none:=by
  apply avv;intro h;have:=SM _ h;have:=ai HP.out.own;omega
 have nR:(s1.D=[]/\s1.dv=.slice none 0 0)\/(s1.D≠[]/\bR w1.drew 0 s1.dv s1.D):=by
  rcases TD.data with⟨_,h2,h3⟩|⟨_,h2,h3⟩
  ·exact .inl ⟨h3,h2⟩
  ·exact .inr ⟨h2,iA h3 ((ah.refl _ w1).drew)⟩
 have dg:=hd0 (DJ wb w1.drew s1.D (show World.blk w1.drew wb _ _ from TD.own) nR);rw[hD1]at dg;have Ym:=hd0 NR;have qg:=hd0 TD;have Hn1:=hd0 Cl;have HN1:=hd0 hN1;have Hap:=hd0 nT;have yB:=hd0 hM1;have Hf1:=hd0 hf1;have HF1:=hd0 hF1;have KH:=hd0 SZ;have XT:=hd0 SM;have Hpr:=hd0 hpr;clear NR TD Cl hN1 hO1 hD1 kq qx nT dh T Jq hFr hM1 hf1 hF1 SZ SM hpr TR dO rA ip oc0 oc1;go_wp2_with fail;go_cut [12,13] (fun v12 v13 wx=>v12=.string ⟨bh.toArray⟩/\v13=.slice (some ⟨s1.nb,0,none⟩) s1.n s1.n/\ah (fun g=>s1.dv.ownBlock=some g) w1 wx)
 case first=>
  have c2:w1.cell? ⟨wb,2,none⟩=some (.slice (some ⟨s1.nb,0,none⟩) s1.n s1.n):=aa qg.out.own 2;have hdn:s1.dv.ownBlock≠some wb:=fun e=>by have:=qg.out.rdata wb e;rw[qg.out.rb]at this;cases this
  have Hdn:=hd0 hdn;clear hdn
  go_region_with ((go_at_call 112;refine dg.out.mono ?_;rintro e w2 ⟨rfl,m2⟩;have c2:w2.cell? ⟨wb,2,none⟩=some (.slice (some ⟨s1.nb,0,none⟩) s1.n s1.n):=aa (ab m2 (show World.blk w1.drew wb _ _ from qg.out.own) Hdn.out) 2;have oF:Hid (ah (fun g=>s1.dv.ownBlock=some g) w1 w2):=hd0 (((ah.refl _ w1).drew).trans m2 (fun _ _ h=>h));clear m2))
  all_goals (go_wp2_with fail;go_meet;case rel=>exact⟨rfl,rfl,oF.out⟩)
 case rest=>
  obtain⟨rfl,rfl,Ox⟩:=hcut;have Sl:∀ g,s1.dv.ownBlock=some g->s1.role g=.data:=qg.out.rdata;have Oy:=hd0 ((HS.out.src rd).same Ym.out (Ox.on fun g hg hv=>Hap.out g (by rw[Sl g hv];exact aE.noConfusion) hg) Ox.size);have Xg:=hd0 (BJ.out.mod Ox (fun hv=>by have:=Hpr.out;rw[Sl pb hv]at this;cases this));have rE:=hd0 (ab Ox Wn.out (fun hv=>by have:=KH.out.2.2;rw[Sl _ hv]at this;cases this));have HW2:Hid (DU wc s1.nb s1.rows s1.N):=hd0 ⟨ab Ox qg.out.nums (fun hv=>by have:=qg.out.rnb;rw[Sl _ hv]at this;cases this),fun l v hv=>aA (qg.out.row l v hv) fun g hg=>Ox.block g (aT (qg.out.row l v hv) hg) (fun h=>by have:=qg.out.rrow l v g hv hg;rw[Sl g h]at this;cases this)⟩;have ZJ:∀ g,Qd s1.nb s1.rows g->s1.role g≠.none:=fun g hg=>by
   rcases hg with rfl|⟨l,v,hv,hg⟩
   ·rw[qg.out.rnb];exact aE.noConfusion
   ·rw[qg.out.rrow l v g hv hg];exact aE.noConfusion
  have Hwf:Hid (∀ g,Qd s1.nb s1.rows g->¬ F1 g/\g≠pb/\g≠ob+1/\w.heap.size<=g):=hd0 (fun g hg=>⟨Hap.out g (ZJ g hg),fun e=>ZJ g hg (by rw[e];exact Hpr.out),fun e=>ZJ g hg (by rw[e];exact KH.out.2.2),XT.out g (ZJ g hg)⟩);have oF:Hid (ah F w wc):=hd0 (yB.out.trans Ox (fun g hg hv=>by have:=XT.out g (by rw[Sl g hv];exact aE.noConfusion);omega));have ap5:=hd0 Ox.size;have HNr:Hid (∀ l,s1.N l=bK o1 l):=hd0 HN1.out;have Hrl:Hid (s1.rows.length=nums.length):=hd0 (by rw[qg.out.rlen,Hn1.out]);have I1:s1.n=nums.length:=Hn1.out;have LV:=hd0 (qU data.length wc hd);clear Ox Sl ZJ Ym BJ Wn qg HN1 Hap Hpr yB dg nR;rw[I1];clear I1;go_wp2_with fail;refine LV.out.mono ?_;rintro e w3 ⟨sv,rfl,AD,dw⟩;have FU:=hd0 ((HS.out.src rd).same Oy.out (dw.on fun _ _=>id) dw.size);have ZL:=hd0 (Xg.out.mod dw id);have Jw:=hd0 (ab dw rE.out id);have HW3:=hd0 (HW2.out.same (dw.on fun _ _=>id));have nW:=hd0 (oF.out.keep dw);have Oe:=hd0 AD;obtain⟨a3,ZS,e3,Ya⟩:=bd AD;obtain⟨L,hL⟩:∃ L,au data.length=L:=⟨_,rfl⟩
  have e3':sv=.slice a3 L.length ZS:=by rw[e3];simp[bo,gy,hL]
  rw[hL]at Oe;have HL:=hd0 hL;have Hsv:Hid (∀ g,(Value.slice a3 L.length ZS).ownBlock=some g->¬ F1 g/\g≠pb/\g≠ob+1/\¬ Qd s1.nb s1.rows g/\w.heap.size<=g):=hd0 (fun g hg=>by
   have h1:=(AD.lt g (by rw[e3'];exact hg)).1;refine⟨fun hf=>by have:=(HS.out.src rd).lt Oy.out g hf;omega,fun e=>by have:=ai Xg.out.own;omega,fun e=>by have:=ai rE.out;omega,fun hf=>by have:=HW2.out.lt hf;omega,by have:=oF.out.size;omega⟩)
  have Kt:(L.length:Int)<=3:=by rw[<-hL];have:=rZ data.length;omega
  subst e3';clear AD dw e3 hL LV Oy Xg rE HW2 oF;have f0:=ae Jw.out ⟨ob+1,0,none⟩ rfl;have f1:=ae Jw.out ⟨ob+1,1,none⟩ rfl;have r0:w3.cell? ⟨ob+1,0,none⟩=some (.int .i64 0):=aa Jw.out 0;have r1:w3.cell? ⟨ob+1,1,none⟩=some (.int .i64 0):=aa Jw.out 1;by_cases hz:data.length=0
  ·have TA:L=[]:=by rw[<-HL.out,hz];rfl
   have hlz:(((L.length:Nat):Int)==0)=true:=by rw[TA];rfl
   have B4:=ag (ag Jw.out 0 (.int .i64 0)) 1 (.int .i64 0);have m4:ah (fun g=>g=ob+1) w3 ((w3.setCell ⟨ob+1,0,none⟩ (.int .i64 0)).setCell ⟨ob+1,1,none⟩ (.int .i64 0)):=((ah.refl (fun g=>g=ob+1) w3).setCell (p:=⟨ob+1,0,none⟩) (.inl rfl) _).setCell (p:=⟨ob+1,1,none⟩) (.inl rfl) _;go_wp2_with fail;obtain⟨W4,hW4⟩:∃ W4,(w3.setCell ⟨ob+1,0,none⟩ (.int .i64 0)).setCell ⟨ob+1,1,none⟩ (.int .i64 0)=W4:=⟨_,rfl⟩
   rw[hW4]at B4 m4 ⊢;have q0:W4.cell? ⟨ob+1,0,none⟩=some (.int .i64 0):=aa B4 0;have q1:W4.cell? ⟨ob+1,1,none⟩=some (.int .i64 0):=aa B4 1;have iM:b=⟨0,0⟩:=by rw[Hbl.out,auI hz]
   have ht0:t=⟨rd,p⟩:=by
    have h:=Hn.out;unfold kI at h;rw[HL.out,TA]at h;simp only at h;injection h with h;injection h with _ h;exact h.symm
   refine au7 (v:=.tuple #[dd ⟨0,0⟩,.int .i64 0]) (by simp[results,Tryz.results212,go_sem,q0,q1,dd]) rfl ?_;unfold tC;rw[iM,ht0];exact⟨rfl,F1,(HS.out.src rd).same FU.out (m4.on fun g hg e=>KH.out.1 (e▸hg)) m4.size,ZL.out.mod m4 (fun e=>KH.out.2.1 e.symm),Hf1.out,HF1.out,(nW.out.mono (T:=fun g=>F g\/g=pb) (fun _ _ h=>.inl h)).trans m4 (fun g hg e=>by have:=yz.out;omega)⟩
  ·obtain⟨m0,r,Ye⟩:∃ m0 r,L=m0::r:=by
    rcases aM data.length with⟨h,_⟩|⟨_,_,e⟩|⟨_,_,e⟩|⟨_,e⟩
    ·exact absurd h hz
    ·exact⟨_,_,by rw[<-HL.out,e]⟩
    ·exact⟨_,_,by rw[<-HL.out,e]⟩
    ·exact⟨_,_,by rw[<-HL.out,e]⟩
   have R9:m0=bN data.length 240:=by have:=nE (size:=data.length);rw[HL.out,Ye]at this;exact this
   have aoI:m0<=69:=by rw[R9];exact(aJ (by decide)).2 (by omega)
   have hlz:(((L.length:Nat):Int)==0)=false:=by rw[Ye,avj];simp;omega
   obtain⟨uQ,t1,RZ,aem⟩:∃ uQ t1,iu (gc bh data nums) (aO data) m0 0 ⟨rd,p⟩=.ok (uQ,t1)/\(qF (nums.length==r.length+1) nums r 1 uQ t1).map (fun x=>(uQ::x.1,x.2))=.ok (ns,t):=by
    have h:=Hn.out;unfold kI at h;rw[HL.out,Ye]at h;simp only at h
    cases hl:iu (gc bh data nums) (aO data) m0 0 ⟨rd,p⟩with
    |error e=>rw[hl]at h;cases h
    |ok x=>rw[hl]at h;exact⟨x.1,x.2,rfl,h⟩
   obtain⟨gs,os,ea3,NP⟩:=Ya 0 (.int .i64 (m0:Int)) (by rw[<-HL.out]at Ye;simp[bo,gy,Ye]);subst ea3;have hlp:(0:Int)<(L.length:Int):=by rw[Ye];simp only[auA];omega
   rw[Nat.add_zero]at NP;have LS0:Hid (lg I blocks pb w3.heap.size w3 F1 ⟨rd,p⟩ (.slice none 0 0) []):=hd0 ⟨FU.out,ZL.out,hb,HF1.out,⟨rfl,.inl ⟨rfl,rfl⟩⟩,fun g hg=>(by cases hg),auE _⟩;have adq:=hd0 RZ;have SG:=hd0 aem;have HLc:=hd0 Ye;have Hm0:=hd0 R9;have Hx3:=hd0 Ya;have arN:(m0:Int)<=69:=by omega
   clear RZ aem Ye R9 Ya r0 r1 f0 f1;go_wp2_with fail
   go_loopw [58,15] (fun i v wr=>∃(k:Nat) (L1 L2:List Int) (tk:gK) (Fk:Nat->Prop),k<=m0/\i=.int .i64 (k:Int)/\Hid (lg I blocks pb w3.heap.size wr Fk tk v L1)/\L1.length=k/\Hid (iu (gc bh data nums) (aO data) (m0-k) k tk=.ok (L2,t1))/\Hid (uQ=L1++L2)/\Hid (dq F1 Fk pb w3.heap.size w3 wr)/\Hid (∀ n∈L1,0<=n/\n<4096)) (fun i _ _=>m0-(intOf i).toNat)
   case atStart=>exact⟨0,[],uQ,⟨rd,p⟩,F1,by omega,rfl,LS0.out |> hd0,rfl,adq,hd0 rfl,hd0 (dq.refl _ _ _ _),hd0 (by simp)⟩
   case round=>
    clear LS0 adq;obtain⟨k,L1,L2,tk,Fk,hk,rfl,sJ,yT,Wz,Vv,OG,IV⟩:=hrel;by_cases aL:k<m0
    ·have dN:(k:Int)<(m0:Int):=by omega
     have P1:=hd0 (fun W=>zN data k W (by omega) (by omega));have P2:=hd0 (fun W=>zN bh k W (by omega) (by omega));have hfk:m0-k=(m0-k-1)+1:=by omega
     have dg:=Wz.out;rw[hfk]at dg;have yn:=hd0 (z8 dg);have IT:L1.length<=100000:=by omega
     have zm:k*240<data.length:=by
      have h1:=Hm0.out;apply avv;intro hc;have:=(aJ (n:=data.length) (each:=240) (k:=k) (by decide)).2 (by omega);omega
     clear dg;go_wp2_with fail;refine(P1.out _).mono ?_;rintro e w5 ⟨rfl,mt⟩;go_wp2_with fail;refine(P2.out _).mono ?_;rintro e w6 ⟨rfl,rD⟩;have aaD:af wr w6:=mt.keep rD;have S6:=hd0 (sJ.out.keep HS.out aaD);have K6:=hd0 (OG.out.keep aaD);have W6:Hid (DU w6 s1.nb s1.rows s1.N):=hd0 (HW3.out.same (K6.out.mod.on fun g hg hh=>by
      obtain⟨a1,a2,_⟩:=Hwf.out g hg;have:=HW3.out.lt hg;rcases hh with hh|hh|hh
      ·exact a1 hh
      ·exact a2 hh
      ·omega))
     clear mt rD aaD sJ OG P1 P2 NP;by_cases he:aO data k=aO bh k
     ·have ZH:(aO data k==aO bh k)=true:=by rw[he];simp
      have hkh:k*240<bh.length:=by
       have h1:=jd data k;have h2:=jd bh k;rw[he]at h1;omega
      have hN0:(nums.getD 0 []).length=bN bh.length 240:=by rw[fU HT.out,nE]
      have dE:k<(nums.getD 0 []).length:=by
       rw[hN0];apply avv;intro hc;have:=(aJ (n:=bh.length) (each:=240) (k:=k) (by decide)).1 (by omega);omega
      have afM:0<nums.length:=by
       rcases hq:nums with _|⟨a,c⟩
       ·rw[hq]at dE;simp at dE
       ·simp
      obtain⟨v0,Jl⟩:∃ v0,s1.rows[0]?=some v0:=⟨_,auB (by rw[Hrl.out];exact afM)⟩
      have cJ:=W6.out.row 0 v0 Jl;rw[HNr.out,ZT.out 0 afM]at cJ;obtain⟨a0,aio,e0,sX⟩:=bd cJ;obtain⟨x,hx⟩:∃ x,(nums.getD 0 [])[k]?=some x:=⟨_,auB dE⟩
      obtain⟨b0,ob0,ea0,c0⟩:=sX k (.int .i64 x) (by simp only[bo,avB,hx];rfl);subst ea0;rw[fR]at e0;obtain⟨nl0,yy⟩:∃ nl0,(nums.getD 0 []).length=nl0:=⟨_,rfl⟩
      rw[yy]at e0 dE;subst e0;have cn0:w6.cell? ⟨s1.nb,0,none⟩=some (.slice (some ⟨b0,ob0,none⟩) nl0 aio):=by rw[aa W6.out.nums 0];simpa using Jl
      have aq3:(k:Int)<(nl0:Int):=by omega
      have aqc:(0:Int)<(nums.length:Int):=by omega
      have hxr:=mE HT.out hx;have Oh:Hid (gc bh data nums k=some x):=hd0 (by unfold gc;rw[auI he];simp only[avS]at hx ⊢;rw[hx];rfl);obtain⟨g7,apj,w7,r7,S7,K7⟩:=S6.out.append HS.out IT x;have HR7:=hd0 r7;have HS7:=hd0 S7;have yR:=hd0 (K6.out.trans K7 (auE _));have Hxr:=hd0 hxr;clear r7 S7 K7 he cJ sX hx Jl hN0 yy hkh zm hxr S6 K6 W6;go_wp2_with (at_builtin;refine aB HR7.out rfl rfl rfl rfl ?_)
      go_roundw
      case rel=>
       rcases yn.out with⟨n,Jk,h1,h2,h3⟩|⟨h1,_⟩
       ·rw[Oh.out]at h1;injection h1 with h1;subst h1;refine⟨k+1,L1++[x],Jk,tk,Fk,by omega,by go_num,hd0 (by have h:=HS7.out;rw[yT]at h;exact h),by simp[yT],hd0 (by rw[show m0-(k+1)=m0-k-1 by omega];exact h2),hd0 (by rw[Vv.out,h3];simp),yR,hd0 (fun n hn=>?_)⟩;rcases avE.1 hn with hn|hn
        ·exact IV.out n hn
        ·simp at hn;subst hn;have:=Hxr.out;omega
       ·rw[Oh.out]at h1;cases h1
      case measure=>simp[intOf];omega
     ·have ZH:(aO data k==aO bh k)=false:=by simpa using he
      have Oh:Hid (gc bh data nums k=none):=hd0 (by unfold gc;rw[auK he]);obtain⟨lY,Jk,h2,h3⟩:0<tk.pool.left/\∃ L',iu (gc bh data nums) (aO data) (m0-k-1) (k+1) ⟨l8 tk.rd tk.pool.seek (aO data k),tk.pool.took⟩=.ok (L',t1)/\L2=(tk.pool.seek:Int)::L':=by
       rcases yn.out with⟨n,Jk,h1,_⟩|⟨_,h⟩
       ·rw[Oh.out]at h1;cases h1
       ·exact h
      have PT:=hd0 (nH HS.out S6.out.src S6.out.pool S6.out.npb S6.out.blocks lY (aO data k) (by rw[jd];omega));have zn:=pT S6.out.pool.ok lY;have ym:1<=tk.pool.seek/\tk.pool.seek<4096:=⟨zn.1,by have:=zn.2.1;have:=S6.out.blocks;omega⟩
      have Jp:=hd0 ym;have H2:=hd0 h2;have H3:=hd0 h3;clear he zm h2 h3 zn ym;go_wp2_with fail;refine PT.out.mono ?_;rintro e w7 ⟨rfl,F7,KA,pG,RO,uU,m7⟩;obtain⟨S7,K7⟩:=S6.out.put HS.out KA pG RO uU m7;have K7':=hd0 (K6.out.trans K7 (auE _));obtain⟨g8,rq,w8,r8,S8,K8⟩:=S7.append HS.out IT (tk.pool.seek:Int);have HR8:=hd0 r8;have za:=hd0 S8;have ql:=hd0 (K7'.out.trans K8 (auE _));clear KA pG RO uU m7 S7 K7 r8 S8 K8 S6 K6 W6 PT;go_wp2_with (at_builtin;refine aB HR8.out rfl rfl rfl rfl ?_)
      go_roundw
      case rel=>
       refine⟨k+1,L1++[(tk.pool.seek:Int)],Jk,_,F7,by omega,by go_num,hd0 (by have h:=za.out;rw[yT]at h;exact h),by simp[yT],hd0 (by rw[show m0-(k+1)=m0-k-1 by omega];exact H2.out),hd0 (by rw[Vv.out,H3.out];simp),ql,hd0 (fun n hn=>?_)⟩;rcases avE.1 hn with hn|hn
       ·exact IV.out n hn
       ·simp at hn;subst hn;have:=Jp.out;omega
      case measure=>simp[intOf];omega
    ·obtain rfl:k=m0:=by omega
     obtain⟨e1,e2⟩:=DV (by have h:=Wz.out;rw[Nat.sub_self]at h;exact h);subst e2;have en:uQ=L1:=by rw[Vv.out,e1];simp
     subst en;clear e1 Wz Vv NP;obtain⟨Lx0,XM,adt⟩:∃ Lx0,qF (nums.length==r.length+1) nums r 1 uQ tk=.ok (Lx0,t)/\ns=uQ::Lx0:=by
      have h:=SG.out
      cases hq:qF (nums.length==r.length+1) nums r 1 uQ tk with
      |error e=>rw[hq]at h;cases h
      |ok x=>
       rw[hq]at h;simp only[Except.map]at h;injection h with h;injection h with h1 h2;exact⟨x.1,by rw[<-h2],h1.symm⟩
     have Sg:Hid (∀(W:World) (Fj:Nat->Prop),dq F1 Fj pb w3.heap.size w3 W->DU W s1.nb s1.rows s1.N/\World.blk W (ob+1) #[.int .i64 0,.int .i64 0] 42/\∀(j:Nat) (x:Nat),L[j]?=some x->W.cell? ⟨gs,os+j,none⟩=some (.int .i64 (x:Int))):=hd0 (fun W Fj K=>by
      refine⟨HW3.out.same (K.mod.on fun g hg hh=>?_),ab K.mod Jw.out (fun hh=>?_),fun j x hj=>?_⟩
      ·obtain⟨a1,a2,_⟩:=Hwf.out g hg;have:=HW3.out.lt hg;rcases hh with hh|hh|hh
       ·exact a1 hh
       ·exact a2 hh
       ·omega
      ·rcases hh with hh|hh|hh
       ·exact KH.out.1 hh
       ·exact KH.out.2.1 hh
       ·have:=ai Jw.out;omega
      ·obtain⟨b',o',e',c'⟩:=Hx3.out j (.int .i64 (x:Int)) (by rw[HL.out];simp[bo,gy,hj]);injection e' with e';injection e' with e1 e2;subst e1 e2;obtain⟨a1,a2,_⟩:=Hsv.out gs rfl;have hl:=ak c';rw[<-c'];exact K.mod.cell (p:=⟨gs,os+j,none⟩) hl (fun hh=>by
        rcases hh with hh|hh|hh
        ·exact a1 hh
        ·exact a2 hh
        ·have:gs<w3.heap.size:=hl;have hh':w3.heap.size<=gs:=hh;omega))
     have Yb:=hd0 XM;have aeM:=hd0 adt;have hLr:L.length=r.length+1:=by rw[HLc.out];simp
     have aib:Hid (∀ j,j+1<L.length->L.getD (j+1) 0=bN (L.getD j 0) 60):=hd0 (by rw[<-HL.out];exact mH _ hd);have aaC:Hid (∀ n∈L,1<=n/\n<=69):=hd0 (by rw[<-HL.out];exact ph hd);have HLr:=hd0 hLr;have alu:1<=L.length:=by omega
     clear XM adt hLr;go_wp2_with fail
     go_loopw [20,15] (fun lv v wr=>∃(j:Nat) (Now Lx':List Int) (Lx:List (List Int)) (tj:gK) (Fj:Nat->Prop),1<=j/\j<=L.length/\lv=.int .i64 (j:Int)/\Hid (lg I blocks pb w3.heap.size wr Fj tj v Now)/\Hid (Now.length=L.getD (j-1) 0)/\Hid (qF (nums.length==r.length+1) nums (r.drop (j-1)) j Now tj=.ok (Lx,t))/\Hid (ns.getLastD []=(Now::Lx).getLastD [])/\Hid (dq F1 Fj pb w3.heap.size w3 wr)/\Hid (∀ n∈Now,0<=n/\n<4096)/\Lx'=Now) (fun lv _ _=>L.length-(intOf lv).toNat)
     case atStart=>exact⟨1,uQ,uQ,Lx0,tk,Fk,auE _,by omega,rfl,sJ,hd0 (by rw[yT,HLc.out];rfl),hd0 Yb.out,hd0 (by rw[aeM.out]),OG,IV,rfl⟩
     case round=>
      clear sJ OG IV Yb aeM;obtain⟨j,Now,_,Lx,tj,Fj,TC,hj2,rfl,sJ,HNl,SG,Jt,OG,IV,_⟩:=hrel;by_cases Co:j<L.length
      ·obtain⟨m1,mT⟩:∃ m1,L[j]?=some m1:=⟨_,auB Co⟩
       have hmg:L.getD j 0=m1:=by rw[avS,mT];rfl
       have FB:r.drop (j-1)=m1::r.drop j:=by
        have h1:r[j-1]?=some m1:=by
         have h:=mT;rw[HLc.out,show j=(j-1)+1 by omega,List.getElem?_cons_succ]at h;exact h
        have h2:=(auP.1 h1)
        rw[List.drop_eq_getElem_cons h2.1,h2.2,show j-1+1=j by omega]
       obtain⟨nx,t2,hly,Lx2,ac3,hLx⟩:∃ nx t2,iu (eI (nums.length==r.length+1) nums Now j) (fun i=>cM (aU Now i)) m1 0 tj=.ok (nx,t2)/\∃ Lx2,qF (nums.length==r.length+1) nums (r.drop j) (j+1) nx t2=.ok (Lx2,t)/\Lx=nx::Lx2:=by
        have h:=SG.out;rw[FB]at h;unfold qF at h
        cases hq:iu (eI (nums.length==r.length+1) nums Now j) (fun i=>cM (aU Now i)) m1 0 tj with
        |error e=>rw[hq]at h;cases h
        |ok x=>
         rw[hq]at h;simp only at h
         cases KN:qF (nums.length==r.length+1) nums (r.drop j) (j+1) x.1 x.2 with
         |error e=>rw[KN]at h;cases h
         |ok y=>
          rw[KN]at h;simp only[Except.map]at h;injection h with h;injection h with h1 h2;exact⟨x.1,x.2,rfl,y.1,by rw[KN,<-h2],h1.symm⟩
       obtain⟨st1,st2,Tj⟩:=Sg.out _ _ OG.out;have cj:=Tj j m1 mT;have arP:=aaC.out m1 (auC mT);have afD:m1=bN Now.length 60:=by
        have h:=aib.out (j-1) (by omega);rw[show j-1+1=j by omega,hmg,<-HNl.out]at h;exact h
       have XJ:Now.length<=69:=by
        rw[HNl.out,avS,auB (show j-1<L.length by omega)];exact(aaC.out _ (ava _)).2
       have akE:(j:Int)<(L.length:Int):=by omega
       have arF:(m1:Int)<=69:=by omega
       have hgj:gs<wr.heap.size:=by have:=ak cj;exact this
       obtain⟨an,N8,en,sT⟩:=bd sJ.out.row;rw[fR]at en;subst en;have LS0:Hid (lg I blocks pb wr.heap.size wr Fj tj (.slice none 0 0) []):=hd0 ⟨sJ.out.src,sJ.out.pool,sJ.out.blocks,sJ.out.npb,⟨rfl,.inl ⟨rfl,rfl⟩⟩,fun g hg=>(by cases hg),auE _⟩;have HWl:=hd0 st1;have Hly:=hd0 hly;have yW:=hd0 ac3;have HLx:=hd0 hLx;have aid:=hd0 afD;have HNw:=hd0 sJ.out.row;have HNa:=hd0 sJ.out.away;have Hmg:=hd0 hmg;have aec:w3.heap.size<=wr.heap.size:=sJ.out.B;have HB:=hd0 aec;have Hnb:=hd0 XJ;have ady:=hd0 OG.out;obtain⟨nl,yy⟩:∃ nl,Now.length=nl:=⟨_,rfl⟩
       have Hnl:=hd0 yy;rw[yy]at HNw HNa ⊢;clear FB hly ac3 hLx st1 st2 Tj afD sT yy aec hmg mT sJ SG OG XJ;obtain⟨wl,rfl⟩:∃ wl,wl=wr:=⟨_,rfl⟩
       go_wp2_with fail
       go_loopw [104,21] (fun i v wq=>∃(k:Nat) (L1 L2:List Int) (tk:gK) (Fk:Nat->Prop),k<=m1/\i=.int .i64 (k:Int)/\Hid (lg I blocks pb wl.heap.size wq Fk tk v L1)/\L1.length=k/\Hid (iu (eI (nums.length==r.length+1) nums Now j) (fun i=>cM (aU Now i)) (m1-k) k tk=.ok (L2,t2))/\Hid (nx=L1++L2)/\Hid (dq Fj Fk pb wl.heap.size wl wq)/\Hid (∀ n∈L1,0<=n/\n<4096)) (fun i _ _=>m1-(intOf i).toNat)
       case atStart=>exact⟨0,[],nx,tj,Fj,by omega,rfl,LS0,rfl,Hly,hd0 rfl,hd0 (dq.refl _ _ _ _),hd0 (by simp)⟩
       case round=>
        clear LS0 Hly cj;obtain⟨k,L1,L2,tk,Fk,hk,rfl,sJ,yT,Wz,CG,NA,uO⟩:=hrel;by_cases asz:k<m1
        ·have dN:(k:Int)<(m1:Int):=by omega
         have Cx:60*k<Now.length:=by
          have h1:=aid.out;apply avv;intro hc;have:=(aJ (n:=Now.length) (each:=60) (k:=k) (by decide)).2 (by omega);omega
         have dg:iu (eI (nums.length==r.length+1) nums Now j) (fun i=>cM (aU Now i)) ((m1-k-1)+1) k tk=.ok (L2,t2):=by
          rw[show m1-k-1+1=m1-k by omega];exact Wz.out
         have yn:=hd0 (z8 dg);have IT:L1.length<=100000:=by omega
         have HKq:=hd0 (ady.out.trans (NA.out.down HB.out) (auE _));obtain⟨sq1,_,_⟩:=Sg.out _ _ HKq.out;have hnw:aN wr w3.heap.size (.slice an nl N8) Now:=by
          have h:=HNw.out;rw[<-Hnl.out]at h ⊢;exact aA h fun g hg=>NA.out.mod.block g (aT h hg) (fun hh=>by
           have ha:=HNa.out;rw[<-Hnl.out]at ha;rcases hh with hh|hh|hh
           ·exact(ha g hg).1 hh
           ·exact(ha g hg).2 hh
           ·have:=aT h hg;omega)
         have G1:=hd0 (zO Now k (.slice an nl N8) wr w3.heap.size hnw (by have:=Hnb.out;omega) Cx);have hgl:(aU Now k).length<=60:=by rw[je];omega
         have hgr:∀ n∈aU Now k,0<=n/\n<4294967296:=fun n hn=>by
          have:=IV.out n (List.mem_of_mem_drop (auG hn));omega
         have LD:=hd0 (fun W v (hv:eJ W v (bo (aU Now k)))=>DG (aU Now k) v W hv (by omega) hgr);have aaz:(cM (aU Now k)).length<=240:=by rw[rW];omega
         have HSQ:=hd0 sq1;clear dg hnw hgl hgr sq1;go_wp2_with fail;refine G1.out.mono ?_;rintro e w5 ⟨v5,rfl,hv5,rfl⟩;have L5:=hd0 (LD.out _ _ hv5);clear hv5 LD G1;obtain⟨sg,hsg⟩:∃ sg,cM (aU Now k)=sg:=⟨_,rfl⟩
         rw[hsg]at L5 aaz;have Hsg:=hd0 hsg;have ZO:=hd0 aaz;clear hsg aaz;go_wp2_with fail;refine L5.out.mono ?_;rintro e w6 ⟨rfl,rD⟩;have S6:=hd0 (sJ.out.keep HS.out rD);have K6:=hd0 (NA.out.keep rD);have W6:=hd0 (HSQ.out.same (rD.on fun _ _=>id));clear rD L5 sJ NA HKq HSQ Cx;by_cases OO:nums.length=L.length
         ·have aiL:((nums.length:Nat):Int)=(L.length:Int):=by omega
          have ai2:(nums.length==r.length+1)=true:=by rw[OO,HLr.out];simp
          have Fr:j<nums.length:=by omega
          obtain⟨vj,hvj⟩:∃ vj,s1.rows[j]?=some vj:=⟨_,auB (by rw[Hrl.out];exact Fr)⟩
          have cJ:=W6.out.row j vj hvj;rw[HNr.out,ZT.out j Fr]at cJ;obtain⟨aj,ae1,ej,hxj⟩:=bd cJ;rw[fR]at ej;obtain⟨nj,KJ⟩:∃ nj,(nums.getD j []).length=nj:=⟨_,rfl⟩
          rw[KJ]at ej;subst ej;have cnj:w6.cell? ⟨s1.nb,j,none⟩=some (.slice aj nj ae1):=by rw[aa W6.out.nums j];simpa using hvj
          have apC:(j:Int)<(nums.length:Int):=by omega
          have apU:nj<=69:=by
           rw[<-KJ,fU HT.out,avS]
           cases hq:(au bh.length)[j]? with
           |none=>simp
           |some y=>exact(ph hh y (auC hq)).2
          have Hnj:=hd0 KJ;have Hxj:=hd0 hxj;clear cJ hvj KJ hxj;have hlL:(((nums.length:Nat):Int)==(L.length:Int))=true:=by rw[OO];simp
          clear OO aiL;by_cases hkj:k<nj
          ·have aiN:(k:Int)<(nj:Int):=by omega
           have ahP:decide ((k:Int)<(nj:Int))=true:=by simpa using aiN
           obtain⟨vp,hvp⟩:∃ vp,s1.rows[j-1]?=some vp:=⟨_,auB (by rw[Hrl.out];omega)⟩
           have hrp:=W6.out.row (j-1) vp hvp;rw[HNr.out,ZT.out (j-1) (by omega)]at hrp;have hjp:((j-1:Nat):Int)=(j:Int)-1:=by omega
           have cnp:w6.cell? ⟨s1.nb,j-1,none⟩=some vp:=by rw[aa W6.out.nums (j-1)];simpa using hvp
           have jJ:60*k<(nums.getD (j-1) []).length:=by
            have h1:=Hnj.out;rw[fU HT.out]at h1 ⊢;have h2:=mH bh.length hh (j-1) (by rw[<-L4 HT.out];omega);rw[show j-1+1=j by omega,h1]at h2;apply avv;intro hc;have:=(aJ (n:=(au bh.length).getD (j-1) 0) (each:=60) (k:=k) (by decide)).2 (by omega);omega
           have aic:(nums.getD (j-1) []).length<=69:=by
            rw[fU HT.out,avS]
            cases hq:(au bh.length)[j-1]? with
            |none=>simp
            |some y=>exact(ph hh y (auC hq)).2
           have G2:=hd0 (zO (nums.getD (j-1) []) k vp w6 0 hrp (by omega) jJ);have acR:∀ n∈aU (nums.getD (j-1) []) k,0<=n/\n<4294967296:=fun n hn=>by
            have hm:=List.mem_of_mem_drop (auG hn);obtain⟨q,hq⟩:=avP hm;have:=mE HT.out hq;omega
           have ajZ:(aU (nums.getD (j-1) []) k).length<=60:=by rw[je];omega
           have LD2:=hd0 (fun W v (hv:eJ W v (bo (aU (nums.getD (j-1) []) k)))=>DG (aU (nums.getD (j-1) []) k) v W hv (by omega) acR);obtain⟨avp,nvp,cvp,evp⟩:∃ a n c,vp=.slice a n c:=by
            rcases hrp.2 with⟨h,_⟩|⟨g,cap,dz,h,_⟩
            ·exact⟨_,_,_,h⟩
            ·exact⟨_,_,_,h⟩
           subst evp;clear hrp hvp jJ aic acR ajZ;go_wp2_with fail;refine G2.out.mono ?_;rintro e w7 ⟨v7,rfl,hv7,rfl⟩;have L7:=hd0 (LD2.out _ _ hv7);clear hv7 LD2 G2;obtain⟨sw,hsw⟩:∃ sw,cM (aU (nums.getD (j-1) []) k)=sw:=⟨_,rfl⟩
           rw[hsw]at L7;have Hsw:=hd0 hsw;clear hsw;go_wp2_with fail;refine L7.out.mono ?_;rintro e w8 ⟨rfl,lI⟩;have S6:=hd0 (S6.out.keep HS.out lI);have K6:=hd0 (K6.out.keep lI);have W6:=hd0 (W6.out.same (lI.on fun _ _=>id));have apL:w8.cell? ⟨s1.nb,j,none⟩=some (.slice aj nj ae1):=(lI.cell (p:=⟨s1.nb,j,none⟩) (ak cnj) id).trans cnj;by_cases TQ:sg=sw
           ·have ZH:(sg==sw)=true:=by rw[TQ];simp
            obtain⟨x,hx⟩:∃ x,(nums.getD j [])[k]?=some x:=⟨_,auB (by rw[Hnj.out];exact hkj)⟩
            obtain⟨bj,oj,eaj,cxj⟩:=Hxj.out k (.int .i64 x) (by simp only[bo,avB,hx];rfl);subst eaj;have cx8:w8.cell? ⟨bj,oj+k,none⟩=some (.int .i64 x):=(lI.cell (p:=⟨bj,oj+k,none⟩) (ak cxj) id).trans cxj;have hxr:=mE HT.out hx;have Oh:Hid (eI (nums.length==r.length+1) nums Now j k=some x):=hd0 (by
             unfold eI;rw[auI ⟨ai2,by rw[Hnj.out];exact hkj,by rw[Hsg.out,Hsw.out,TQ]⟩];simp only[avS]at hx ⊢;rw[hx];rfl)
            obtain⟨g9,ahW,w9,r9,S9,K9⟩:=S6.out.append HS.out IT x;have HR9:=hd0 r9;have Cv:=hd0 S9;have BR:=hd0 (K6.out.trans K9 (auE _));have Hxr:=hd0 hxr;clear r9 S9 K9 hx hxr S6 K6 W6 lI L7 cxj cnj Hxj TQ;go_wp2_with (at_builtin;refine aB HR9.out rfl rfl rfl rfl ?_)
            go_roundw
            case rel=>
             rcases yn.out with⟨n,Jk,h1,h2,h3⟩|⟨h1,_⟩
             ·rw[Oh.out]at h1;injection h1 with h1;subst h1;refine⟨k+1,L1++[x],Jk,tk,Fk,by omega,by go_num,hd0 (by have h:=Cv.out;rw[yT]at h;exact h),by simp[yT],hd0 (by rw[show m1-(k+1)=m1-k-1 by omega];exact h2),hd0 (by rw[CG.out,h3];simp),BR,hd0 (fun n hn=>?_)⟩;rcases avE.1 hn with hn|hn
              ·exact uO.out n hn
              ·simp at hn;subst hn;have:=Hxr.out;omega
             ·rw[Oh.out]at h1;cases h1
            case measure=>simp[intOf];omega
           ·have ZH:(sg==sw)=false:=by simpa using TQ
            have Oh:Hid (eI (nums.length==r.length+1) nums Now j k=none):=hd0 (by
             unfold eI;rw[auK (fun h=>TQ (by rw[<-Hsg.out,<-Hsw.out];exact h.2.2))])
            clear TQ lI L7 cnj Hxj;obtain⟨lY,Jk,h2,h3⟩:0<tk.pool.left/\∃ L',iu (eI (nums.length==r.length+1) nums Now j) (fun i=>cM (aU Now i)) (m1-k-1) (k+1) ⟨l8 tk.rd tk.pool.seek (cM (aU Now k)),tk.pool.took⟩=.ok (L',t2)/\L2=(tk.pool.seek:Int)::L':=by
             rcases yn.out with⟨n,Jk,h1,_⟩|⟨_,h⟩
             ·rw[Oh.out]at h1;cases h1
             ·exact h
            rw[Hsg.out]at h2;have PT:=hd0 (nH HS.out S6.out.src S6.out.pool S6.out.npb S6.out.blocks lY sg ZO.out);have zn:=pT S6.out.pool.ok lY;have ym:1<=tk.pool.seek/\tk.pool.seek<4096:=⟨zn.1,by have:=zn.2.1;have:=S6.out.blocks;omega⟩
            have Jp:=hd0 ym;have H2:=hd0 h2;have H3:=hd0 h3;clear h2 h3 zn ym;go_wp2_with fail;refine PT.out.mono ?_;rintro e w7 ⟨rfl,F7,KA,pG,RO,uU,m7⟩;obtain⟨S7,K7⟩:=S6.out.put HS.out KA pG RO uU m7;have K7':=hd0 (K6.out.trans K7 (auE _));obtain⟨g8,rq,w8,r8,S8,K8⟩:=S7.append HS.out IT (tk.pool.seek:Int);have HR8:=hd0 r8;have za:=hd0 S8;have ql:=hd0 (K7'.out.trans K8 (auE _));clear KA pG RO uU m7 S7 K7 r8 S8 K8 S6 K6 W6 PT;go_wp2_with (at_builtin;refine aB HR8.out rfl rfl rfl rfl ?_)
            go_roundw
            case rel=>
             refine⟨k+1,L1++[(tk.pool.seek:Int)],Jk,_,F7,by omega,by go_num,hd0 (by have h:=za.out;rw[yT]at h;exact h),by simp[yT],hd0 (by rw[show m1-(k+1)=m1-k-1 by omega];exact H2.out),hd0 (by rw[CG.out,H3.out];simp),ql,hd0 (fun n hn=>?_)⟩;rcases avE.1 hn with hn|hn
             ·exact uO.out n hn
             ·simp at hn;subst hn;have:=Jp.out;omega
            case measure=>simp[intOf];omega
          ·have ahP:decide ((k:Int)<(nj:Int))=false:=by simp;omega
           have aqa:¬(k:Int)<(nj:Int):=by omega
           have Oh:Hid (eI (nums.length==r.length+1) nums Now j k=none):=hd0 (by
            unfold eI;rw[auK (fun h=>hkj (by rw[<-Hnj.out];exact h.2.1))])
           clear hkj Hxj;obtain⟨lY,Jk,h2,h3⟩:0<tk.pool.left/\∃ L',iu (eI (nums.length==r.length+1) nums Now j) (fun i=>cM (aU Now i)) (m1-k-1) (k+1) ⟨l8 tk.rd tk.pool.seek (cM (aU Now k)),tk.pool.took⟩=.ok (L',t2)/\L2=(tk.pool.seek:Int)::L':=by
            rcases yn.out with⟨n,Jk,h1,_⟩|⟨_,h⟩
            ·rw[Oh.out]at h1;cases h1
            ·exact h
           rw[Hsg.out]at h2;have PT:=hd0 (nH HS.out S6.out.src S6.out.pool S6.out.npb S6.out.blocks lY sg ZO.out);have zn:=pT S6.out.pool.ok lY;have ym:1<=tk.pool.seek/\tk.pool.seek<4096:=⟨zn.1,by have:=zn.2.1;have:=S6.out.blocks;omega⟩
           have Jp:=hd0 ym;have H2:=hd0 h2;have H3:=hd0 h3;clear h2 h3 zn ym;go_wp2_with fail;refine PT.out.mono ?_;rintro e w7 ⟨rfl,F7,KA,pG,RO,uU,m7⟩;obtain⟨S7,K7⟩:=S6.out.put HS.out KA pG RO uU m7;have K7':=hd0 (K6.out.trans K7 (auE _));obtain⟨g8,rq,w8,r8,S8,K8⟩:=S7.append HS.out IT (tk.pool.seek:Int);have HR8:=hd0 r8;have za:=hd0 S8;have ql:=hd0 (K7'.out.trans K8 (auE _));clear KA pG RO uU m7 S7 K7 r8 S8 K8 S6 K6 W6 PT;go_wp2_with (at_builtin;refine aB HR8.out rfl rfl rfl rfl ?_)
           go_roundw
           case rel=>
            refine⟨k+1,L1++[(tk.pool.seek:Int)],Jk,_,F7,by omega,by go_num,hd0 (by have h:=za.out;rw[yT]at h;exact h),by simp[yT],hd0 (by rw[show m1-(k+1)=m1-k-1 by omega];exact H2.out),hd0 (by rw[CG.out,H3.out];simp),ql,hd0 (fun n hn=>?_)⟩;rcases avE.1 hn with hn|hn
            ·exact uO.out n hn
            ·simp at hn;subst hn;have:=Jp.out;omega
           case measure=>simp[intOf];omega
         ·have hlL:(((nums.length:Nat):Int)==(L.length:Int))=false:=by rw[avj];omega
          have Oh:Hid (eI (nums.length==r.length+1) nums Now j k=none):=hd0 (by
           unfold eI;rw[auK (fun h=>OO (by rw[HLr.out];simpa using h.1))])
          clear OO;obtain⟨lY,Jk,h2,h3⟩:0<tk.pool.left/\∃ L',iu (eI (nums.length==r.length+1) nums Now j) (fun i=>cM (aU Now i)) (m1-k-1) (k+1) ⟨l8 tk.rd tk.pool.seek (cM (aU Now k)),tk.pool.took⟩=.ok (L',t2)/\L2=(tk.pool.seek:Int)::L':=by
           rcases yn.out with⟨n,Jk,h1,_⟩|⟨_,h⟩
           ·rw[Oh.out]at h1;cases h1
           ·exact h
          rw[Hsg.out]at h2;have PT:=hd0 (nH HS.out S6.out.src S6.out.pool S6.out.npb S6.out.blocks lY sg ZO.out);have zn:=pT S6.out.pool.ok lY;have ym:1<=tk.pool.seek/\tk.pool.seek<4096:=⟨zn.1,by have:=zn.2.1;have:=S6.out.blocks;omega⟩
          have Jp:=hd0 ym;have H2:=hd0 h2;have H3:=hd0 h3;clear h2 h3 zn ym;go_wp2_with fail;refine PT.out.mono ?_;rintro e w7 ⟨rfl,F7,KA,pG,RO,uU,m7⟩;obtain⟨S7,K7⟩:=S6.out.put HS.out KA pG RO uU m7;have K7':=hd0 (K6.out.trans K7 (auE _));obtain⟨g8,rq,w8,r8,S8,K8⟩:=S7.append HS.out IT (tk.pool.seek:Int);have HR8:=hd0 r8;have za:=hd0 S8;have ql:=hd0 (K7'.out.trans K8 (auE _));clear KA pG RO uU m7 S7 K7 r8 S8 K8 S6 K6 W6 PT;go_wp2_with (at_builtin;refine aB HR8.out rfl rfl rfl rfl ?_)
          go_roundw
          case rel=>
           refine⟨k+1,L1++[(tk.pool.seek:Int)],Jk,_,F7,by omega,by go_num,hd0 (by have h:=za.out;rw[yT]at h;exact h),by simp[yT],hd0 (by rw[show m1-(k+1)=m1-k-1 by omega];exact H2.out),hd0 (by rw[CG.out,H3.out];simp),ql,hd0 (fun n hn=>?_)⟩;rcases avE.1 hn with hn|hn
           ·exact uO.out n hn
           ·simp at hn;subst hn;have:=Jp.out;omega
          case measure=>simp[intOf];omega
        ·obtain rfl:k=m1:=by omega
         obtain⟨e1,e2⟩:=DV (by have h:=Wz.out;rw[Nat.sub_self]at h;exact h);subst e2;have en:nx=L1:=by rw[CG.out,e1];simp
         subst en;have HKf:=hd0 (ady.out.trans (NA.out.down HB.out) (auE _));have HLf:Hid (lg I blocks pb w3.heap.size wr Fk tk u21 nx):=hd0 ⟨sJ.out.src,sJ.out.pool,sJ.out.blocks,sJ.out.npb,eX sJ.out.row HB.out,sJ.out.away,aux HB.out sJ.out.B⟩;have HNx:Hid (nx.length=L.getD (j+1-1) 0):=hd0 (by rw[Nat.add_sub_cancel,Hmg.out];exact yT);have zk:Hid (qF (nums.length==r.length+1) nums (r.drop (j+1-1)) (j+1) nx tk=.ok (Lx2,t)):=hd0 (by rw[Nat.add_sub_cancel];exact yW.out);have aeK:Hid (ns.getLastD []=(nx::Lx2).getLastD []):=hd0 (by rw[Jt.out,HLx.out];rfl);clear e1 Wz CG sJ NA;go_wp2_with fail
         go_roundw
         case rel=>exact⟨j+1,nx,nx,Lx2,tk,Fk,by omega,by omega,by go_num,HLf,HNx,zk,aeK,HKf,uO,rfl⟩
         case measure=>simp[intOf];omega
      ·obtain rfl:j=L.length:=by omega
       have sV:Lx=[]/\tj=t:=by
        have h:=SG.out;rw[List.drop_of_length_le (by have:=HLr.out;omega)]at h;unfold qF at h;injection h with h;injection h with h1 h2;exact⟨h1.symm,h2⟩
       obtain⟨rfl,rfl⟩:=sV;have hN1:1<=Now.length:=by
        rw[HNl.out,avS,auB (show L.length-1<L.length by omega)];exact(aaC.out _ (ava _)).1
       obtain⟨x0,sX⟩:∃ x0,Now[0]?=some x0:=⟨_,auB (by omega)⟩
       obtain⟨an,N8,en,sT⟩:=bd sJ.out.row;obtain⟨bn,on,ean,cn⟩:=sT 0 (.int .i64 x0) (by simp[bo,sX]);rw[fR]at en;subst en ean;rw[Nat.add_zero]at cn;have ake:(0:Int)<(Now.length:Int):=by omega
       obtain⟨_,hrs,_⟩:=Sg.out _ _ OG.out;have f0:=ae hrs ⟨ob+1,0,none⟩ rfl;have f1:=ae hrs ⟨ob+1,1,none⟩ rfl;have r0:wr.cell? ⟨ob+1,0,none⟩=some (.int .i64 0):=aa hrs 0;have r1:wr.cell? ⟨ob+1,1,none⟩=some (.int .i64 0):=aa hrs 1;have B4:=hd0 (ag (ag hrs 0 (.int .i64 x0)) 1 (.int .i64 (data.length:Int)));have m4:ah (fun g=>g=ob+1) wr ((wr.setCell ⟨ob+1,0,none⟩ (.int .i64 x0)).setCell ⟨ob+1,1,none⟩ (.int .i64 (data.length:Int))):=((ah.refl (fun g=>g=ob+1) wr).setCell (p:=⟨ob+1,0,none⟩) (.inl rfl) _).setCell (p:=⟨ob+1,1,none⟩) (.inl rfl) _;have rH:=hd0 m4;have Hx0:=hd0 sX;obtain⟨nl,yy⟩:∃ nl,Now.length=nl:=⟨_,rfl⟩
       rw[yy]at ake ⊢;clear hrs m4 sT sX yy hN1;go_wp2_with fail;obtain⟨W4,hW4⟩:∃ W4,(wr.setCell ⟨ob+1,0,none⟩ (.int .i64 x0)).setCell ⟨ob+1,1,none⟩ (.int .i64 (data.length:Int))=W4:=⟨_,rfl⟩
       rw[hW4]at B4 rH ⊢;have q0:W4.cell? ⟨ob+1,0,none⟩=some (.int .i64 x0):=aa B4.out 0;have q1:W4.cell? ⟨ob+1,1,none⟩=some (.int .i64 (data.length:Int)):=aa B4.out 1;have rp:b=⟨x0,data.length⟩:=by
        rw[Hbl.out,auK hz]
        congr 1
        unfold iP;rw[Jt.out];show Now.getD 0 0=x0;rw[avS,Hx0.out];rfl
       refine au7 (v:=.tuple #[dd ⟨x0,data.length⟩,.int .i64 0]) (by simp[results,Tryz.results212,go_sem,q0,q1,dd]) rfl ?_;unfold tC;rw[rp];have vu:ah (fun g=>F g\/g=pb) w wr:=(nW.out.mono (T:=fun g=>F g\/g=pb) (fun _ _ h=>.inl h)).trans OG.out.mod (fun g hg hh=>by
        rcases hh with hh|hh|hh
        ·exact(Hf1.out g hh).elim .inl (fun h2=>by omega)
        ·exact .inr hh
        ·have:=nW.out.size;omega)
       refine⟨rfl,Fj,(HS.out.src _).same sJ.out.src (rH.out.on fun g hg e=>?_) rH.out.size,sJ.out.pool.mod rH.out (fun e=>KH.out.2.1 e.symm),fun g hg=>?_,sJ.out.npb,vu.trans rH.out (fun g hg e=>by have:=yz.out;omega)⟩
       ·subst e;exact(OG.out.foot _ hg).elim KH.out.1 (fun h2=>by have:=ai Jw.out;omega)
       ·rcases OG.out.foot g hg with h|h
        ·exact Hf1.out g h
        ·exact .inr (aux nW.out.size h)
end
end Go.Proofs.YtkghpdcloaiflaaGreatDoor
