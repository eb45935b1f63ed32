import Derived.Test.YtkghpdcloaiflaaGreatDoorD20
set_option maxHeartbeats 8000000
set_option maxRecDepth 100000
namespace Go.Proofs.YtkghpdcloaiflaaGreatDoor
open _root_.Go.Proofs.Tryz
section
open Go.RowKit Go.Shelf
attribute [local go_sem] auG
theorem LX {rd:Rd}{data:ay}{nums:List (List Int)}(h:eC rd data nums):nums.length=(au data.length).length:=by rw[<-h.shape];simp
theorem LZ {t t':gJ}{old b:fQ}{data:ay}(h:dK t old data=.ok (b,t')):∃ o ns,em t.rd old true=.ok o/\kI o.2 data (oc old o.1) t=.ok (ns,t')/\b=if data.length=0 then⟨0,0⟩else⟨iO ns,data.length⟩:=by
 unfold dK at h;split at h
 ·cases h
 ·cases ho:em t.rd old true with
  |error e=>rw[ho]at h;cases h
  |ok o=>
   rw[ho]at h;simp only at h
   cases hn:kI o.2 data (oc old o.1) t with
   |error e=>rw[hn]at h;cases h
   |ok x=>
    rw[hn]at h;simp only[Except.map]at h;injection h with h;injection h with h1 h2;subst h2;exact⟨o,x.1,rfl,by rw[hn],h1.symm⟩
def tr (I:Rd->World->(Nat->Prop)->Prop)(w:World)(F:Nat->Prop)(pb:Nat)(b:fQ)(t:gJ)(e:Ending)(w':World):Prop:=
 e=.returned (.tuple #[de b,.int .i64 0])/\∃ F',I t.rd w' F'/\jT w' pb t.pool/\(∀ g,F' g->F g\/w.heap.size<=g)/\¬ F' pb/\ah (fun g=>F g\/g=pb) w w'
theorem L4 {ty:TypeId}{rv:Value}{fr fw:FuncId}{I:Rd->World->(Nat->Prop)->Prop}{blocks:Nat}(S:z8 ty rv fr fw I blocks){rd:Rd}{w:World}{F:Nat->Prop}{pb:Nat}{p:Pl}(hI:I rd w F)(hp:jT w pb p)(hF:¬ F pb)(hb:p.blocks=blocks)(Kx:blocks<=4096)
  (br:ay) (nums:List (List Int)) (hT:eC rd br nums) (hh:br.length<=16384) (data:ay) (hd:data.length<=16384) (b:fQ) (t:gJ) (hs:dK ⟨rd,p⟩ (dx br nums) data=.ok (b,t)):
  Calls prog 212 #[.iface ty rv,de (dx br nums),.string ⟨data.toArray⟩,.pointer (some ⟨pb,0,none⟩)] w (tr I w F pb b t):=by
 obtain⟨o0,ns,ho,hn,ru⟩:=LZ hs;obtain⟨o1,Fs,zh,_⟩:=kU hT hh true;rw[auT rfl]at Fs;have eo:o0=(o1,br):=by rw[ho]at Fs;injection Fs
 subst eo;simp only at hn;rw[zh]at hn;have hm:=qO hT hh;have afe:∀ l,l<nums.length->bJ o1 l=nums.getD l []:=fun l hl=>by
  have:nums.getD l []=(oc (dx br nums) o1).getD l []:=by rw[zh]
  rw[this];have lw:l<(au (dx br nums).size.toNat).length:=by
   have h2:(oc (dx br nums) o1).length=nums.length:=by rw[zh]
   unfold oc at h2;rw[avf,List.length_range]at h2;omega
  unfold oc;rw[av4,avM,avN lw];rfl
 have yk:(au (dx br nums).size.toNat).length=nums.length:=by
  have h2:(oc (dx br nums) o1).length=nums.length:=by rw[zh]
  unfold oc at h2;rw[avf,List.length_range]at h2;exact h2
 obtain⟨old,hold⟩:∃ old,dx br nums=old:=⟨_,rfl⟩
 rw[hold]at ho hm yk ⊢;have dE:af w ((w.alloc (.cells #[.int .i64 old.root,.int .i64 old.size] 42)).alloc (.cells #[.int .i64 0,.int .i64 0] 42)):=((ah.refl _ w).alloc _).alloc _;have YG:World.blk ((w.alloc (.cells #[.int .i64 old.root,.int .i64 old.size] 42)).alloc (.cells #[.int .i64 0,.int .i64 0] 42)) (w.heap.size+1) #[.int .i64 0,.int .i64 0] 42:=bi (by simp) _ _;have Tq:World.blk ((w.alloc (.cells #[.int .i64 old.root,.int .i64 old.size] 42)).alloc (.cells #[.int .i64 0,.int .i64 0] 42)) w.heap.size #[.int .i64 old.root,.int .i64 old.size] 42:=aH (aw _ _ _) _;obtain⟨W0,uC⟩:∃ W0,(w.alloc (.cells #[.int .i64 old.root,.int .i64 old.size] 42)).alloc (.cells #[.int .i64 0,.int .i64 0] 42)=W0:=⟨_,rfl⟩
 obtain⟨ob,iq⟩:∃ ob,w.heap.size=ob:=⟨_,rfl⟩
 rw[uC]at dE YG Tq;rw[iq]at YG;have T:=hd0 (uj (S.src rd) ((S.src rd).same hI (dE.on fun _ _=>id) dE.size) old true hm (o1,br) ho);rw[yk]at T;have hdi:(data.length:Int)<=16384:=by omega
 have VY:decide ((16384:Int)<(data.length:Int))=false:=by simp;omega
 have oc0:W0.cell? ⟨ob,0,none⟩=some (.int .i64 old.root):=by rw[<-iq];exact aa Tq 0
 have oc1:W0.cell? ⟨ob,1,none⟩=some (.int .i64 old.size):=by rw[<-iq];exact aa Tq 1
 have HS:=hd0 S;have HP:=hd0 hp;have HF:=hd0 hF;have HI:=hd0 hI;have dF:=hd0 dE;have TU:=hd0 YG;have Hn:=hd0 hn;have Hbl:=hd0 ru;have HT:=hd0 hT;have aav:=hd0 afe;have yl:=hd0 iq;have XN:=S.methW;clear hI hp hF dE YG Tq ho hn ru hs hT afe Fs zh hold yk hm;unfold de at T ⊢;go_enter func212,ntmps212;go_wp2_with fail;refine T.out.mono ?_;rintro e w1 ⟨wb,s1,F1,rfl,NL,TV,Cg,hN1,hO1,hD1,kw,qy,nW,dp⟩;have Jj:∀ g,F g->g<w.heap.size:=(HS.out.src rd).lt HI.out;have hFr:¬ F (ob+1):=fun h=>by have:=Jj _ h;have:=yl.out;omega
 have VO:=hd0 (ab dp TU.out hFr);have BX:=hd0 ((HP.out.mod dF.out id).mod dp HF.out);have hF1:¬ F1 pb:=fun h=>(qy pb h).elim HF.out (fun h2=>by have:=ak HP.out.own;have:=dF.out.size;omega);have hM1:ah F w w1:=(dF.out.mono (T:=F) (fun _ _ h=>h.elim)).trans dp (fun _ _ h=>h);have hf1:∀ g,F1 g->F g\/w.heap.size<=g:=fun g hg=>(qy g hg).imp id (fun h=>auI dF.out.size h);have Sd:¬ F1 (ob+1)/\ob+1≠pb/\s1.role (ob+1)=.none:=by
  have aku:=ak TU.out;refine⟨fun h=>(qy _ h).elim hFr (fun h2=>by omega),by have:=ak HP.out.own;have:=yl.out;omega,?_⟩;apply avG;intro h;have:=kw _ h;omega
 have Sg:∀ g,s1.role g≠.none->w.heap.size<=g:=fun g hg=>auI dF.out.size (kw g hg);have hpr:s1.role pb=.none:=by
  apply avG;intro h;have:=Sg _ h;have:=ak HP.out.own;omega
 have tO:(s1.D=[]/\s1.dv=.slice none 0 0)\/(s1.D≠[]/\bP w1.drew 0 s1.dv s1.D):=by
  rcases TV.data with⟨_,h2,h3⟩|⟨_,h2,h3⟩
  ·exact .inl ⟨h3,h2⟩
  ·exact .inr ⟨h2,iB h3 ((ah.refl _ w1).drew)⟩
 have dj:=hd0 (DJ wb w1.drew s1.D (show World.blk w1.drew wb _ _ from TV.own) tO);rw[hD1]at dj;have Yb:=hd0 NL;have qd:=hd0 TV;have Hn1:=hd0 Cg;have HN1:=hd0 hN1;have Hap:=hd0 nW;have yD:=hd0 hM1;have Hf1:=hd0 hf1;have HF1:=hd0 hF1;have Ku:=hd0 Sd;have Yp:=hd0 Sg;have Hpr:=hd0 hpr;clear NL TV Cg hN1 hO1 hD1 kw qy nW dp T Jj hFr hM1 hf1 hF1 Sd Sg hpr TU dF uC iq oc0 oc1;go_wp2_with fail;go_cut [12,13] (fun v12 v13 wx=>v12=.string ⟨br.toArray⟩/\v13=.slice (some ⟨s1.nb,0,none⟩) s1.n s1.n/\ah (fun g=>s1.dv.ownBlock=some g) w1 wx)
 case first=>
  have c2:w1.cell? ⟨wb,2,none⟩=some (.slice (some ⟨s1.nb,0,none⟩) s1.n s1.n):=aa qd.out.own 2;have hdn:s1.dv.ownBlock≠some wb:=fun e=>by have:=qd.out.rdata wb e;rw[qd.out.rb]at this;cases this
  have Hdn:=hd0 hdn;clear hdn
  go_region_with ((go_at_call 112;refine dj.out.mono ?_;rintro e w2 ⟨rfl,m2⟩;have c2:w2.cell? ⟨wb,2,none⟩=some (.slice (some ⟨s1.nb,0,none⟩) s1.n s1.n):=aa (ab m2 (show World.blk w1.drew wb _ _ from qd.out.own) Hdn.out) 2;have oD:Hid (ah (fun g=>s1.dv.ownBlock=some g) w1 w2):=hd0 (((ah.refl _ w1).drew).trans m2 (fun _ _ h=>h));clear m2))
  all_goals (go_wp2_with fail;go_meet;case rel=>exact⟨rfl,rfl,oD.out⟩)
 case rest=>
  obtain⟨rfl,rfl,OP⟩:=hcut;have Sr:∀ g,s1.dv.ownBlock=some g->s1.role g=.data:=qd.out.rdata;have OU:=hd0 ((HS.out.src rd).same Yb.out (OP.on fun g hg hv=>Hap.out g (by rw[Sr g hv];exact aE.noConfusion) hg) OP.size);have Yf:=hd0 (BX.out.mod OP (fun hv=>by have:=Hpr.out;rw[Sr pb hv]at this;cases this));have rz:=hd0 (ab OP VO.out (fun hv=>by have:=Ku.out.2.2;rw[Sr _ hv]at this;cases this));have HW2:Hid (DU wc s1.nb s1.rows s1.N):=hd0 ⟨ab OP qd.out.nums (fun hv=>by have:=qd.out.rnb;rw[Sr _ hv]at this;cases this),fun l v hv=>aA (qd.out.row l v hv) fun g hg=>OP.block g (aU (qd.out.row l v hv) hg) (fun h=>by have:=qd.out.rrow l v g hv hg;rw[Sr g h]at this;cases this)⟩;have hwf:∀ g,Qj s1.nb s1.rows g->s1.role g≠.none:=fun g hg=>by
   rcases hg with rfl|⟨l,v,hv,hg⟩
   ·rw[qd.out.rnb];exact aE.noConfusion
   ·rw[qd.out.rrow l v g hv hg];exact aE.noConfusion
  have Hwf:Hid (∀ g,Qj s1.nb s1.rows g->¬ F1 g/\g≠pb/\g≠ob+1/\w.heap.size<=g):=hd0 (fun g hg=>⟨Hap.out g (hwf g hg),fun e=>hwf g hg (by rw[e];exact Hpr.out),fun e=>hwf g hg (by rw[e];exact Ku.out.2.2),Yp.out g (hwf g hg)⟩);have oD:Hid (ah F w wc):=hd0 (yD.out.trans OP (fun g hg hv=>by have:=Yp.out g (by rw[Sr g hv];exact aE.noConfusion);omega));have apq:=hd0 OP.size;have HNr:Hid (∀ l,s1.N l=bJ o1 l):=hd0 HN1.out;have Hrl:Hid (s1.rows.length=nums.length):=hd0 (by rw[qd.out.rlen,Hn1.out]);have Js:s1.n=nums.length:=Hn1.out;have LV:=hd0 (qS data.length wc hd);clear OP Sr hwf Yb BX VO qd HN1 Hap Hpr yD dj tO;rw[Js];clear Js;go_wp2_with fail;refine LV.out.mono ?_;rintro e w3 ⟨sv,rfl,AO,dm⟩;have FU:=hd0 ((HS.out.src rd).same OU.out (dm.on fun _ _=>id) dm.size);have ZV:=hd0 (Yf.out.mod dm id);have IZ:=hd0 (ab dm rz.out id);have HW3:=hd0 (HW2.out.same (dm.on fun _ _=>id));have nT:=hd0 (oD.out.keep dm);have Fx:=hd0 AO;obtain⟨a3,aaA,e3,XG⟩:=aY AO;obtain⟨L,hL⟩:∃ L,au data.length=L:=⟨_,rfl⟩
  have e3':sv=.slice a3 L.length aaA:=by rw[e3];simp[ba,eU,hL]
  rw[hL]at Fx;have HL:=hd0 hL;have Hsv:Hid (∀ g,(Value.slice a3 L.length aaA).ownBlock=some g->¬ F1 g/\g≠pb/\g≠ob+1/\¬ Qj s1.nb s1.rows g/\w.heap.size<=g):=hd0 (fun g hg=>by
   have h1:=(AO.lt g (by rw[e3'];exact hg)).1;refine⟨fun hf=>by have:=(HS.out.src rd).lt OU.out g hf;omega,fun e=>by have:=ak Yf.out.own;omega,fun e=>by have:=ak rz.out;omega,fun hf=>by have:=HW2.out.lt hf;omega,by have:=oD.out.size;omega⟩)
  have Kh:(L.length:Int)<=3:=by rw[<-hL];have:=rU data.length;omega
  subst e3';clear AO dm e3 hL LV OU Yf rz HW2 oD;have f0:=ae IZ.out ⟨ob+1,0,none⟩ rfl;have f1:=ae IZ.out ⟨ob+1,1,none⟩ rfl;have r0:w3.cell? ⟨ob+1,0,none⟩=some (.int .i64 0):=aa IZ.out 0;have r1:w3.cell? ⟨ob+1,1,none⟩=some (.int .i64 0):=aa IZ.out 1;by_cases hz:data.length=0
  ·have TQ:L=[]:=by rw[<-HL.out,hz];rfl
   have hlz:(((L.length:Nat):Int)==0)=true:=by rw[TQ];rfl
   have B4:=ag (ag IZ.out 0 (.int .i64 0)) 1 (.int .i64 0);have m4:ah (fun g=>g=ob+1) w3 ((w3.setCell ⟨ob+1,0,none⟩ (.int .i64 0)).setCell ⟨ob+1,1,none⟩ (.int .i64 0)):=((ah.refl (fun g=>g=ob+1) w3).setCell (p:=⟨ob+1,0,none⟩) (.inl rfl) _).setCell (p:=⟨ob+1,1,none⟩) (.inl rfl) _;go_wp2_with fail;obtain⟨W4,hW4⟩:∃ W4,(w3.setCell ⟨ob+1,0,none⟩ (.int .i64 0)).setCell ⟨ob+1,1,none⟩ (.int .i64 0)=W4:=⟨_,rfl⟩
   rw[hW4]at B4 m4 ⊢;have q0:W4.cell? ⟨ob+1,0,none⟩=some (.int .i64 0):=aa B4 0;have q1:W4.cell? ⟨ob+1,1,none⟩=some (.int .i64 0):=aa B4 1;have iJ:b=⟨0,0⟩:=by rw[Hbl.out,auT hz]
   have ht0:t=⟨rd,p⟩:=by
    have h:=Hn.out;unfold kI at h;rw[HL.out,TQ]at h;simp only at h;injection h with h;injection h with _ h;exact h.symm
   refine avi (v:=.tuple #[de ⟨0,0⟩,.int .i64 0]) (by simp[results,Tryz.results212,go_sem,q0,q1,de]) rfl ?_;unfold tr;rw[iJ,ht0];exact⟨rfl,F1,(HS.out.src rd).same FU.out (m4.on fun g hg e=>Ku.out.1 (e▸hg)) m4.size,ZV.out.mod m4 (fun e=>Ku.out.2.1 e.symm),Hf1.out,HF1.out,(nT.out.mono (T:=fun g=>F g\/g=pb) (fun _ _ h=>.inl h)).trans m4 (fun g hg e=>by have:=yl.out;omega)⟩
  ·obtain⟨m0,r,XP⟩:∃ m0 r,L=m0::r:=by
    rcases aN data.length with⟨h,_⟩|⟨_,_,e⟩|⟨_,_,e⟩|⟨_,e⟩
    ·exact absurd h hz
    ·exact⟨_,_,by rw[<-HL.out,e]⟩
    ·exact⟨_,_,by rw[<-HL.out,e]⟩
    ·exact⟨_,_,by rw[<-HL.out,e]⟩
   have T8:m0=bN data.length 240:=by have:=nE (size:=data.length);rw[HL.out,XP]at this;exact this
   have apB:m0<=69:=by rw[T8];exact(aL (by decide)).2 (by omega)
   have hlz:(((L.length:Nat):Int)==0)=false:=by rw[XP,avv];simp;omega
   obtain⟨uR,t1,Ty,ae5⟩:∃ uR t1,iw (gc br data nums) (aO data) m0 0 ⟨rd,p⟩=.ok (uR,t1)/\(qE (nums.length==r.length+1) nums r 1 uR t1).map (fun x=>(uR::x.1,x.2))=.ok (ns,t):=by
    have h:=Hn.out;unfold kI at h;rw[HL.out,XP]at h;simp only at h
    cases hl:iw (gc br data nums) (aO data) m0 0 ⟨rd,p⟩with
    |error e=>rw[hl]at h;cases h
    |ok x=>rw[hl]at h;exact⟨x.1,x.2,rfl,h⟩
   obtain⟨gs,os,ea3,N7⟩:=XG 0 (.int .i64 (m0:Int)) (by rw[<-HL.out]at XP;simp[ba,eU,XP]);subst ea3;have hlp:(0:Int)<(L.length:Int):=by rw[XP];simp only[auL];omega
   rw[Nat.add_zero]at N7;have LS0:Hid (le I blocks pb w3.heap.size w3 F1 ⟨rd,p⟩ (.slice none 0 0) []):=hd0 ⟨FU.out,ZV.out,hb,HF1.out,⟨rfl,.inl ⟨rfl,rfl⟩⟩,fun g hg=>(by cases hg),auP _⟩;have adV:=hd0 Ty;have SW:=hd0 ae5;have HLc:=hd0 XP;have Hm0:=hd0 T8;have Hx3:=hd0 XG;have arw:(m0:Int)<=69:=by omega
   clear Ty ae5 XP T8 XG r0 r1 f0 f1;go_wp2_with fail
   go_loopw [58,15] (fun i v wr=>∃(k:Nat) (L1 L2:List Int) (tk:gJ) (Fk:Nat->Prop),k<=m0/\i=.int .i64 (k:Int)/\Hid (le I blocks pb w3.heap.size wr Fk tk v L1)/\L1.length=k/\Hid (iw (gc br data nums) (aO data) (m0-k) k tk=.ok (L2,t1))/\Hid (uR=L1++L2)/\Hid (du F1 Fk pb w3.heap.size w3 wr)/\Hid (∀ n∈L1,0<=n/\n<4096)) (fun i _ _=>m0-(intOf i).toNat)
   case atStart=>exact⟨0,[],uR,⟨rd,p⟩,F1,by omega,rfl,LS0.out |> hd0,rfl,adV,hd0 rfl,hd0 (du.refl _ _ _ _),hd0 (by simp)⟩
   case round=>
    clear LS0 adV;obtain⟨k,L1,L2,tk,Fk,hk,rfl,sI,yZ,V4,VT,OC,Jf⟩:=hrel;by_cases aK:k<m0
    ·have dR:(k:Int)<(m0:Int):=by omega
     have P1:=hd0 (fun W=>zO data k W (by omega) (by omega));have P2:=hd0 (fun W=>zO br k W (by omega) (by omega));have hfk:m0-k=(m0-k-1)+1:=by omega
     have dj:=V4.out;rw[hfk]at dj;have yn:=hd0 (Aa dj);have I1:L1.length<=100000:=by omega
     have yW:k*240<data.length:=by
      have h1:=Hm0.out;apply avG;intro hc;have:=(aL (n:=data.length) (each:=240) (k:=k) (by decide)).2 (by omega);omega
     clear dj;go_wp2_with fail;refine(P1.out _).mono ?_;rintro e w5 ⟨rfl,mt⟩;go_wp2_with fail;refine(P2.out _).mono ?_;rintro e w6 ⟨rfl,rD⟩;have aa0:af wr w6:=mt.keep rD;have S6:=hd0 (sI.out.keep HS.out aa0);have K6:=hd0 (OC.out.keep aa0);have W6:Hid (DU w6 s1.nb s1.rows s1.N):=hd0 (HW3.out.same (K6.out.mod.on fun g hg hh=>by
      obtain⟨a1,a2,_⟩:=Hwf.out g hg;have:=HW3.out.lt hg;rcases hh with hh|hh|hh
      ·exact a1 hh
      ·exact a2 hh
      ·omega))
     clear mt rD aa0 sI OC P1 P2 N7;by_cases he:aO data k=aO br k
     ·have aaC:(aO data k==aO br k)=true:=by rw[he];simp
      have hkh:k*240<br.length:=by
       have h1:=jc data k;have h2:=jc br k;rw[he]at h1;omega
      have hN0:(nums.getD 0 []).length=bN br.length 240:=by rw[fV HT.out,nE]
      have dE:k<(nums.getD 0 []).length:=by
       rw[hN0];apply avG;intro hc;have:=(aL (n:=br.length) (each:=240) (k:=k) (by decide)).1 (by omega);omega
      have adE:0<nums.length:=by
       rcases hq:nums with _|⟨a,c⟩
       ·rw[hq]at dE;simp at dE
       ·simp
      obtain⟨v0,Jg⟩:∃ v0,s1.rows[0]?=some v0:=⟨_,auM (by rw[Hrl.out];exact adE)⟩
      have co:=W6.out.row 0 v0 Jg;rw[HNr.out,aav.out 0 adE]at co;obtain⟨a0,aiN,e0,sP⟩:=aY co;obtain⟨x,hx⟩:∃ x,(nums.getD 0 [])[k]?=some x:=⟨_,auM dE⟩
      obtain⟨b0,ob0,ea0,c0⟩:=sP k (.int .i64 x) (by simp only[ba,avM,hx];rfl);subst ea0;rw[fS]at e0;obtain⟨nl0,yk⟩:∃ nl0,(nums.getD 0 []).length=nl0:=⟨_,rfl⟩
      rw[yk]at e0 dE;subst e0;have cn0:w6.cell? ⟨s1.nb,0,none⟩=some (.slice (some ⟨b0,ob0,none⟩) nl0 aiN):=by rw[aa W6.out.nums 0];simpa using Jg
      have apD:(k:Int)<(nl0:Int):=by omega
      have apE:(0:Int)<(nums.length:Int):=by omega
      have hxr:=mE HT.out hx;have NZ:Hid (gc br data nums k=some x):=hd0 (by unfold gc;rw[auT he];simp only[av4]at hx ⊢;rw[hx];rfl);obtain⟨g7,ao7,w7,r7,S7,K7⟩:=S6.out.append HS.out I1 x;have HR7:=hd0 r7;have HS7:=hd0 S7;have uD:=hd0 (K6.out.trans K7 (auP _));have Hxr:=hd0 hxr;clear r7 S7 K7 he co sP hx Jg hN0 yk hkh yW hxr S6 K6 W6;go_wp2_with (at_builtin;refine az HR7.out rfl rfl rfl rfl ?_)
      go_roundw
      case rel=>
       rcases yn.out with⟨n,I2,h1,h2,h3⟩|⟨h1,_⟩
       ·rw[NZ.out]at h1;injection h1 with h1;subst h1;refine⟨k+1,L1++[x],I2,tk,Fk,by omega,by go_num,hd0 (by have h:=HS7.out;rw[yZ]at h;exact h),by simp[yZ],hd0 (by rw[show m0-(k+1)=m0-k-1 by omega];exact h2),hd0 (by rw[VT.out,h3];simp),uD,hd0 (fun n hn=>?_)⟩;rcases avP.1 hn with hn|hn
        ·exact Jf.out n hn
        ·simp at hn;subst hn;have:=Hxr.out;omega
       ·rw[NZ.out]at h1;cases h1
      case measure=>simp[intOf];omega
     ·have aaC:(aO data k==aO br k)=false:=by simpa using he
      have NZ:Hid (gc br data nums k=none):=hd0 (by unfold gc;rw[auV he]);obtain⟨l6,I2,h2,h3⟩:0<tk.pool.left/\∃ L',iw (gc br data nums) (aO data) (m0-k-1) (k+1) ⟨l8 tk.rd tk.pool.seek (aO data k),tk.pool.took⟩=.ok (L',t1)/\L2=(tk.pool.seek:Int)::L':=by
       rcases yn.out with⟨n,I2,h1,_⟩|⟨_,h⟩
       ·rw[NZ.out]at h1;cases h1
       ·exact h
      have PT:=hd0 (nH HS.out S6.out.src S6.out.pool S6.out.npb S6.out.blocks l6 (aO data k) (by rw[jc];omega));have za:=pS S6.out.pool.ok l6;have yz:1<=tk.pool.seek/\tk.pool.seek<4096:=⟨za.1,by have:=za.2.1;have:=S6.out.blocks;omega⟩
      have IT:=hd0 yz;have H2:=hd0 h2;have H3:=hd0 h3;clear he yW h2 h3 za yz;go_wp2_with fail;refine PT.out.mono ?_;rintro e w7 ⟨rfl,F7,KP,pE,R0,uQ,m7⟩;obtain⟨S7,K7⟩:=S6.out.put HS.out KP pE R0 uQ m7;have K7':=hd0 (K6.out.trans K7 (auP _));obtain⟨g8,rq,w8,r8,S8,K8⟩:=S7.append HS.out I1 (tk.pool.seek:Int);have HR8:=hd0 r8;have FZ:=hd0 S8;have sM:=hd0 (K7'.out.trans K8 (auP _));clear KP pE R0 uQ m7 S7 K7 r8 S8 K8 S6 K6 W6 PT;go_wp2_with (at_builtin;refine az HR8.out rfl rfl rfl rfl ?_)
      go_roundw
      case rel=>
       refine⟨k+1,L1++[(tk.pool.seek:Int)],I2,_,F7,by omega,by go_num,hd0 (by have h:=FZ.out;rw[yZ]at h;exact h),by simp[yZ],hd0 (by rw[show m0-(k+1)=m0-k-1 by omega];exact H2.out),hd0 (by rw[VT.out,H3.out];simp),sM,hd0 (fun n hn=>?_)⟩;rcases avP.1 hn with hn|hn
       ·exact Jf.out n hn
       ·simp at hn;subst hn;have:=IT.out;omega
      case measure=>simp[intOf];omega
    ·obtain rfl:k=m0:=by omega
     obtain⟨e1,e2⟩:=DV (by have h:=V4.out;rw[Nat.sub_self]at h;exact h);subst e2;have en:uR=L1:=by rw[VT.out,e1];simp
     subst en;clear e1 V4 VT N7;obtain⟨Lx0,Xy,aeT⟩:∃ Lx0,qE (nums.length==r.length+1) nums r 1 uR tk=.ok (Lx0,t)/\ns=uR::Lx0:=by
      have h:=SW.out
      cases hq:qE (nums.length==r.length+1) nums r 1 uR tk with
      |error e=>rw[hq]at h;cases h
      |ok x=>
       rw[hq]at h;simp only[Except.map]at h;injection h with h;injection h with h1 h2;exact⟨x.1,by rw[<-h2],h1.symm⟩
     have Th:Hid (∀(W:World) (Fj:Nat->Prop),du F1 Fj pb w3.heap.size w3 W->DU W s1.nb s1.rows s1.N/\World.blk W (ob+1) #[.int .i64 0,.int .i64 0] 42/\∀(j:Nat) (x:Nat),L[j]?=some x->W.cell? ⟨gs,os+j,none⟩=some (.int .i64 (x:Int))):=hd0 (fun W Fj K=>by
      refine⟨HW3.out.same (K.mod.on fun g hg hh=>?_),ab K.mod IZ.out (fun hh=>?_),fun j x hj=>?_⟩
      ·obtain⟨a1,a2,_⟩:=Hwf.out g hg;have:=HW3.out.lt hg;rcases hh with hh|hh|hh
       ·exact a1 hh
       ·exact a2 hh
       ·omega
      ·rcases hh with hh|hh|hh
       ·exact Ku.out.1 hh
       ·exact Ku.out.2.1 hh
       ·have:=ak IZ.out;omega
      ·obtain⟨b',o',e',c'⟩:=Hx3.out j (.int .i64 (x:Int)) (by rw[HL.out];simp[ba,eU,hj]);injection e' with e';injection e' with e1 e2;subst e1 e2;obtain⟨a1,a2,_⟩:=Hsv.out gs rfl;have hl:=am c';rw[<-c'];exact K.mod.cell (p:=⟨gs,os+j,none⟩) hl (fun hh=>by
        rcases hh with hh|hh|hh
        ·exact a1 hh
        ·exact a2 hh
        ·have:gs<w3.heap.size:=hl;have hh':w3.heap.size<=gs:=hh;omega))
     have Xz:=hd0 Xy;have aeS:=hd0 aeT;have hLr:L.length=r.length+1:=by rw[HLc.out];simp
     have aix:Hid (∀ j,j+1<L.length->L.getD (j+1) 0=bN (L.getD j 0) 60):=hd0 (by rw[<-HL.out];exact mG _ hd);have ZS:Hid (∀ n∈L,1<=n/\n<=69):=hd0 (by rw[<-HL.out];exact pg hd);have HLr:=hd0 hLr;have alX:1<=L.length:=by omega
     clear Xy aeT hLr;go_wp2_with fail
     go_loopw [20,15] (fun lv v wr=>∃(j:Nat) (lA Lx':List Int) (Lx:List (List Int)) (tj:gJ) (Fj:Nat->Prop),1<=j/\j<=L.length/\lv=.int .i64 (j:Int)/\Hid (le I blocks pb w3.heap.size wr Fj tj v lA)/\Hid (lA.length=L.getD (j-1) 0)/\Hid (qE (nums.length==r.length+1) nums (r.drop (j-1)) j lA tj=.ok (Lx,t))/\Hid (ns.getLastD []=(lA::Lx).getLastD [])/\Hid (du F1 Fj pb w3.heap.size w3 wr)/\Hid (∀ n∈lA,0<=n/\n<4096)/\Lx'=lA) (fun lv _ _=>L.length-(intOf lv).toNat)
     case atStart=>exact⟨1,uR,uR,Lx0,tk,Fk,auP _,by omega,rfl,sI,hd0 (by rw[yZ,HLc.out];rfl),hd0 Xz.out,hd0 (by rw[aeS.out]),OC,Jf,rfl⟩
     case round=>
      clear sI OC Jf Xz aeS;obtain⟨j,lA,_,Lx,tj,Fj,TT,hj2,rfl,sI,HNl,SW,IV,OC,Jf,_⟩:=hrel;by_cases Cn:j<L.length
      ·obtain⟨m1,mW⟩:∃ m1,L[j]?=some m1:=⟨_,auM Cn⟩
       have hmg:L.getD j 0=m1:=by rw[av4,mW];rfl
       have Fu:r.drop (j-1)=m1::r.drop j:=by
        have h1:r[j-1]?=some m1:=by
         have h:=mW;rw[HLc.out,show j=(j-1)+1 by omega,List.getElem?_cons_succ]at h;exact h
        have h2:=(au0.1 h1)
        rw[List.drop_eq_getElem_cons h2.1,h2.2,show j-1+1=j by omega]
       obtain⟨nx,t2,hly,Lx2,ad4,hLx⟩:∃ nx t2,iw (eH (nums.length==r.length+1) nums lA j) (fun i=>cM (aV lA i)) m1 0 tj=.ok (nx,t2)/\∃ Lx2,qE (nums.length==r.length+1) nums (r.drop j) (j+1) nx t2=.ok (Lx2,t)/\Lx=nx::Lx2:=by
        have h:=SW.out;rw[Fu]at h;unfold qE at h
        cases hq:iw (eH (nums.length==r.length+1) nums lA j) (fun i=>cM (aV lA i)) m1 0 tj with
        |error e=>rw[hq]at h;cases h
        |ok x=>
         rw[hq]at h;simp only at h
         cases KM:qE (nums.length==r.length+1) nums (r.drop j) (j+1) x.1 x.2 with
         |error e=>rw[KM]at h;cases h
         |ok y=>
          rw[KM]at h;simp only[Except.map]at h;injection h with h;injection h with h1 h2;exact⟨x.1,x.2,rfl,y.1,by rw[KM,<-h2],h1.symm⟩
       obtain⟨st1,st2,Sw⟩:=Th.out _ _ OC.out;have cj:=Sw j m1 mW;have aqk:=ZS.out m1 (auN mW);have afi:m1=bN lA.length 60:=by
        have h:=aix.out (j-1) (by omega);rw[show j-1+1=j by omega,hmg,<-HNl.out]at h;exact h
       have Xu:lA.length<=69:=by
        rw[HNl.out,av4,auM (show j-1<L.length by omega)];exact(ZS.out _ (avl _)).2
       have akw:(j:Int)<(L.length:Int):=by omega
       have asA:(m1:Int)<=69:=by omega
       have hgj:gs<wr.heap.size:=by have:=am cj;exact this
       obtain⟨an,NQ,en,sJ⟩:=aY sI.out.row;rw[fS]at en;subst en;have LS0:Hid (le I blocks pb wr.heap.size wr Fj tj (.slice none 0 0) []):=hd0 ⟨sI.out.src,sI.out.pool,sI.out.blocks,sI.out.npb,⟨rfl,.inl ⟨rfl,rfl⟩⟩,fun g hg=>(by cases hg),auP _⟩;have HWl:=hd0 st1;have Hly:=hd0 hly;have zi:=hd0 ad4;have HLx:=hd0 hLx;have ajS:=hd0 afi;have HNw:=hd0 sI.out.row;have HNa:=hd0 sI.out.away;have Hmg:=hd0 hmg;have adu:w3.heap.size<=wr.heap.size:=sI.out.B;have HB:=hd0 adu;have Hnb:=hd0 Xu;have afB:=hd0 OC.out;obtain⟨nl,yk⟩:∃ nl,lA.length=nl:=⟨_,rfl⟩
       have Hnl:=hd0 yk;rw[yk]at HNw HNa ⊢;clear Fu hly ad4 hLx st1 st2 Sw afi sJ yk adu hmg mW sI SW OC Xu;obtain⟨wl,rfl⟩:∃ wl,wl=wr:=⟨_,rfl⟩
       go_wp2_with fail
       go_loopw [104,21] (fun i v wq=>∃(k:Nat) (L1 L2:List Int) (tk:gJ) (Fk:Nat->Prop),k<=m1/\i=.int .i64 (k:Int)/\Hid (le I blocks pb wl.heap.size wq Fk tk v L1)/\L1.length=k/\Hid (iw (eH (nums.length==r.length+1) nums lA j) (fun i=>cM (aV lA i)) (m1-k) k tk=.ok (L2,t2))/\Hid (nx=L1++L2)/\Hid (du Fj Fk pb wl.heap.size wl wq)/\Hid (∀ n∈L1,0<=n/\n<4096)) (fun i _ _=>m1-(intOf i).toNat)
       case atStart=>exact⟨0,[],nx,tj,Fj,by omega,rfl,LS0,rfl,Hly,hd0 rfl,hd0 (du.refl _ _ _ _),hd0 (by simp)⟩
       case round=>
        clear LS0 Hly cj;obtain⟨k,L1,L2,tk,Fk,hk,rfl,sI,yZ,V4,Cy,Om,uO⟩:=hrel;by_cases apQ:k<m1
        ·have dR:(k:Int)<(m1:Int):=by omega
         have Cr:60*k<lA.length:=by
          have h1:=ajS.out;apply avG;intro hc;have:=(aL (n:=lA.length) (each:=60) (k:=k) (by decide)).2 (by omega);omega
         have dj:iw (eH (nums.length==r.length+1) nums lA j) (fun i=>cM (aV lA i)) ((m1-k-1)+1) k tk=.ok (L2,t2):=by
          rw[show m1-k-1+1=m1-k by omega];exact V4.out
         have yn:=hd0 (Aa dj);have I1:L1.length<=100000:=by omega
         have HKq:=hd0 (afB.out.trans (Om.out.down HB.out) (auP _));obtain⟨sq1,_,_⟩:=Th.out _ _ HKq.out;have hnw:aI wr w3.heap.size (.slice an nl NQ) lA:=by
          have h:=HNw.out;rw[<-Hnl.out]at h ⊢;exact aA h fun g hg=>Om.out.mod.block g (aU h hg) (fun hh=>by
           have ha:=HNa.out;rw[<-Hnl.out]at ha;rcases hh with hh|hh|hh
           ·exact(ha g hg).1 hh
           ·exact(ha g hg).2 hh
           ·have:=aU h hg;omega)
         have G1:=hd0 (zP lA k (.slice an nl NQ) wr w3.heap.size hnw (by have:=Hnb.out;omega) Cr);have hgl:(aV lA k).length<=60:=by rw[jd];omega
         have hgr:∀ n∈aV lA k,0<=n/\n<4294967296:=fun n hn=>by
          have:=Jf.out n (List.mem_of_mem_drop (auR hn));omega
         have LD:=hd0 (fun W v (hv:eI W v (ba (aV lA k)))=>DG (aV lA k) v W hv (by omega) hgr);have aaO:(cM (aV lA k)).length<=240:=by rw[rR];omega
         have HSQ:=hd0 sq1;clear dj hnw hgl hgr sq1;go_wp2_with fail;refine G1.out.mono ?_;rintro e w5 ⟨v5,rfl,hv5,rfl⟩;have L5:=hd0 (LD.out _ _ hv5);clear hv5 LD G1;obtain⟨sg,hsg⟩:∃ sg,cM (aV lA k)=sg:=⟨_,rfl⟩
         rw[hsg]at L5 aaO;have Hsg:=hd0 hsg;have abf:=hd0 aaO;clear hsg aaO;go_wp2_with fail;refine L5.out.mono ?_;rintro e w6 ⟨rfl,rD⟩;have S6:=hd0 (sI.out.keep HS.out rD);have K6:=hd0 (Om.out.keep rD);have W6:=hd0 (HSQ.out.same (rD.on fun _ _=>id));clear rD L5 sI Om HKq HSQ Cr;by_cases OS:nums.length=L.length
         ·have aj4:((nums.length:Nat):Int)=(L.length:Int):=by omega
          have akj:(nums.length==r.length+1)=true:=by rw[OS,HLr.out];simp
          have Fy:j<nums.length:=by omega
          obtain⟨vj,hvj⟩:∃ vj,s1.rows[j]?=some vj:=⟨_,auM (by rw[Hrl.out];exact Fy)⟩
          have co:=W6.out.row j vj hvj;rw[HNr.out,aav.out j Fy]at co;obtain⟨aj,afy,ej,hxj⟩:=aY co;rw[fS]at ej;obtain⟨nj,Kt⟩:∃ nj,(nums.getD j []).length=nj:=⟨_,rfl⟩
          rw[Kt]at ej;subst ej;have cnj:w6.cell? ⟨s1.nb,j,none⟩=some (.slice aj nj afy):=by rw[aa W6.out.nums j];simpa using hvj
          have apa:(j:Int)<(nums.length:Int):=by omega
          have aoF:nj<=69:=by
           rw[<-Kt,fV HT.out,av4]
           cases hq:(au br.length)[j]? with
           |none=>simp
           |some y=>exact(pg hh y (auN hq)).2
          have Hnj:=hd0 Kt;have Hxj:=hd0 hxj;clear co hvj Kt hxj;have hlL:(((nums.length:Nat):Int)==(L.length:Int))=true:=by rw[OS];simp
          clear OS aj4;by_cases hkj:k<nj
          ·have aii:(k:Int)<(nj:Int):=by omega
           have akJ:decide ((k:Int)<(nj:Int))=true:=by simpa using aii
           obtain⟨vp,hvp⟩:∃ vp,s1.rows[j-1]?=some vp:=⟨_,auM (by rw[Hrl.out];omega)⟩
           have hrp:=W6.out.row (j-1) vp hvp;rw[HNr.out,aav.out (j-1) (by omega)]at hrp;have hjp:((j-1:Nat):Int)=(j:Int)-1:=by omega
           have cnp:w6.cell? ⟨s1.nb,j-1,none⟩=some vp:=by rw[aa W6.out.nums (j-1)];simpa using hvp
           have j8:60*k<(nums.getD (j-1) []).length:=by
            have h1:=Hnj.out;rw[fV HT.out]at h1 ⊢;have h2:=mG br.length hh (j-1) (by rw[<-LX HT.out];omega);rw[show j-1+1=j by omega,h1]at h2;apply avG;intro hc;have:=(aL (n:=(au br.length).getD (j-1) 0) (each:=60) (k:=k) (by decide)).2 (by omega);omega
           have ah8:(nums.getD (j-1) []).length<=69:=by
            rw[fV HT.out,av4]
            cases hq:(au br.length)[j-1]? with
            |none=>simp
            |some y=>exact(pg hh y (auN hq)).2
           have G2:=hd0 (zP (nums.getD (j-1) []) k vp w6 0 hrp (by omega) j8);have afT:∀ n∈aV (nums.getD (j-1) []) k,0<=n/\n<4294967296:=fun n hn=>by
            have hm:=List.mem_of_mem_drop (auR hn);obtain⟨q,hq⟩:=av1 hm;have:=mE HT.out hq;omega
           have ajX:(aV (nums.getD (j-1) []) k).length<=60:=by rw[jd];omega
           have LD2:=hd0 (fun W v (hv:eI W v (ba (aV (nums.getD (j-1) []) k)))=>DG (aV (nums.getD (j-1) []) k) v W hv (by omega) afT);obtain⟨avp,nvp,cvp,evp⟩:∃ a n c,vp=.slice a n c:=by
            rcases hrp.2 with⟨h,_⟩|⟨g,cap,dz,h,_⟩
            ·exact⟨_,_,_,h⟩
            ·exact⟨_,_,_,h⟩
           subst evp;clear hrp hvp j8 ah8 afT ajX;go_wp2_with fail;refine G2.out.mono ?_;rintro e w7 ⟨v7,rfl,hv7,rfl⟩;have L7:=hd0 (LD2.out _ _ hv7);clear hv7 LD2 G2;obtain⟨sw,hsw⟩:∃ sw,cM (aV (nums.getD (j-1) []) k)=sw:=⟨_,rfl⟩
           rw[hsw]at L7;have Hsw:=hd0 hsw;clear hsw;go_wp2_with fail;refine L7.out.mono ?_;rintro e w8 ⟨rfl,lI⟩;have S6:=hd0 (S6.out.keep HS.out lI);have K6:=hd0 (K6.out.keep lI);have W6:=hd0 (W6.out.same (lI.on fun _ _=>id));have arK:w8.cell? ⟨s1.nb,j,none⟩=some (.slice aj nj afy):=(lI.cell (p:=⟨s1.nb,j,none⟩) (am cnj) id).trans cnj;by_cases hss:sg=sw
           ·have aaC:(sg==sw)=true:=by rw[hss];simp
            obtain⟨x,hx⟩:∃ x,(nums.getD j [])[k]?=some x:=⟨_,auM (by rw[Hnj.out];exact hkj)⟩
            obtain⟨bj,oj,eaj,cxj⟩:=Hxj.out k (.int .i64 x) (by simp only[ba,avM,hx];rfl);subst eaj;have cx8:w8.cell? ⟨bj,oj+k,none⟩=some (.int .i64 x):=(lI.cell (p:=⟨bj,oj+k,none⟩) (am cxj) id).trans cxj;have hxr:=mE HT.out hx;have NZ:Hid (eH (nums.length==r.length+1) nums lA j k=some x):=hd0 (by
             unfold eH;rw[auT ⟨akj,by rw[Hnj.out];exact hkj,by rw[Hsg.out,Hsw.out,hss]⟩];simp only[av4]at hx ⊢;rw[hx];rfl)
            obtain⟨g9,ajs,w9,r9,S9,K9⟩:=S6.out.append HS.out I1 x;have HR9:=hd0 r9;have HS9:=hd0 S9;have Ch:=hd0 (K6.out.trans K9 (auP _));have Hxr:=hd0 hxr;clear r9 S9 K9 hx hxr S6 K6 W6 lI L7 cxj cnj Hxj hss;go_wp2_with (at_builtin;refine az HR9.out rfl rfl rfl rfl ?_)
            go_roundw
            case rel=>
             rcases yn.out with⟨n,I2,h1,h2,h3⟩|⟨h1,_⟩
             ·rw[NZ.out]at h1;injection h1 with h1;subst h1;refine⟨k+1,L1++[x],I2,tk,Fk,by omega,by go_num,hd0 (by have h:=HS9.out;rw[yZ]at h;exact h),by simp[yZ],hd0 (by rw[show m1-(k+1)=m1-k-1 by omega];exact h2),hd0 (by rw[Cy.out,h3];simp),Ch,hd0 (fun n hn=>?_)⟩;rcases avP.1 hn with hn|hn
              ·exact uO.out n hn
              ·simp at hn;subst hn;have:=Hxr.out;omega
             ·rw[NZ.out]at h1;cases h1
            case measure=>simp[intOf];omega
           ·have aaC:(sg==sw)=false:=by simpa using hss
            have NZ:Hid (eH (nums.length==r.length+1) nums lA j k=none):=hd0 (by
             unfold eH;rw[auV (fun h=>hss (by rw[<-Hsg.out,<-Hsw.out];exact h.2.2))])
            clear hss lI L7 cnj Hxj;obtain⟨l6,I2,h2,h3⟩:0<tk.pool.left/\∃ L',iw (eH (nums.length==r.length+1) nums lA j) (fun i=>cM (aV lA i)) (m1-k-1) (k+1) ⟨l8 tk.rd tk.pool.seek (cM (aV lA k)),tk.pool.took⟩=.ok (L',t2)/\L2=(tk.pool.seek:Int)::L':=by
             rcases yn.out with⟨n,I2,h1,_⟩|⟨_,h⟩
             ·rw[NZ.out]at h1;cases h1
             ·exact h
            rw[Hsg.out]at h2;have PT:=hd0 (nH HS.out S6.out.src S6.out.pool S6.out.npb S6.out.blocks l6 sg abf.out);have za:=pS S6.out.pool.ok l6;have yz:1<=tk.pool.seek/\tk.pool.seek<4096:=⟨za.1,by have:=za.2.1;have:=S6.out.blocks;omega⟩
            have IT:=hd0 yz;have H2:=hd0 h2;have H3:=hd0 h3;clear h2 h3 za yz;go_wp2_with fail;refine PT.out.mono ?_;rintro e w7 ⟨rfl,F7,KP,pE,R0,uQ,m7⟩;obtain⟨S7,K7⟩:=S6.out.put HS.out KP pE R0 uQ m7;have K7':=hd0 (K6.out.trans K7 (auP _));obtain⟨g8,rq,w8,r8,S8,K8⟩:=S7.append HS.out I1 (tk.pool.seek:Int);have HR8:=hd0 r8;have FZ:=hd0 S8;have sM:=hd0 (K7'.out.trans K8 (auP _));clear KP pE R0 uQ m7 S7 K7 r8 S8 K8 S6 K6 W6 PT;go_wp2_with (at_builtin;refine az HR8.out rfl rfl rfl rfl ?_)
            go_roundw
            case rel=>
             refine⟨k+1,L1++[(tk.pool.seek:Int)],I2,_,F7,by omega,by go_num,hd0 (by have h:=FZ.out;rw[yZ]at h;exact h),by simp[yZ],hd0 (by rw[show m1-(k+1)=m1-k-1 by omega];exact H2.out),hd0 (by rw[Cy.out,H3.out];simp),sM,hd0 (fun n hn=>?_)⟩;rcases avP.1 hn with hn|hn
             ·exact uO.out n hn
             ·simp at hn;subst hn;have:=IT.out;omega
            case measure=>simp[intOf];omega
          ·have akJ:decide ((k:Int)<(nj:Int))=false:=by simp;omega
           have aql:¬(k:Int)<(nj:Int):=by omega
           have NZ:Hid (eH (nums.length==r.length+1) nums lA j k=none):=hd0 (by
            unfold eH;rw[auV (fun h=>hkj (by rw[<-Hnj.out];exact h.2.1))])
           clear hkj Hxj;obtain⟨l6,I2,h2,h3⟩:0<tk.pool.left/\∃ L',iw (eH (nums.length==r.length+1) nums lA j) (fun i=>cM (aV lA i)) (m1-k-1) (k+1) ⟨l8 tk.rd tk.pool.seek (cM (aV lA k)),tk.pool.took⟩=.ok (L',t2)/\L2=(tk.pool.seek:Int)::L':=by
            rcases yn.out with⟨n,I2,h1,_⟩|⟨_,h⟩
            ·rw[NZ.out]at h1;cases h1
            ·exact h
           rw[Hsg.out]at h2;have PT:=hd0 (nH HS.out S6.out.src S6.out.pool S6.out.npb S6.out.blocks l6 sg abf.out);have za:=pS S6.out.pool.ok l6;have yz:1<=tk.pool.seek/\tk.pool.seek<4096:=⟨za.1,by have:=za.2.1;have:=S6.out.blocks;omega⟩
           have IT:=hd0 yz;have H2:=hd0 h2;have H3:=hd0 h3;clear h2 h3 za yz;go_wp2_with fail;refine PT.out.mono ?_;rintro e w7 ⟨rfl,F7,KP,pE,R0,uQ,m7⟩;obtain⟨S7,K7⟩:=S6.out.put HS.out KP pE R0 uQ m7;have K7':=hd0 (K6.out.trans K7 (auP _));obtain⟨g8,rq,w8,r8,S8,K8⟩:=S7.append HS.out I1 (tk.pool.seek:Int);have HR8:=hd0 r8;have FZ:=hd0 S8;have sM:=hd0 (K7'.out.trans K8 (auP _));clear KP pE R0 uQ m7 S7 K7 r8 S8 K8 S6 K6 W6 PT;go_wp2_with (at_builtin;refine az HR8.out rfl rfl rfl rfl ?_)
           go_roundw
           case rel=>
            refine⟨k+1,L1++[(tk.pool.seek:Int)],I2,_,F7,by omega,by go_num,hd0 (by have h:=FZ.out;rw[yZ]at h;exact h),by simp[yZ],hd0 (by rw[show m1-(k+1)=m1-k-1 by omega];exact H2.out),hd0 (by rw[Cy.out,H3.out];simp),sM,hd0 (fun n hn=>?_)⟩;rcases avP.1 hn with hn|hn
            ·exact uO.out n hn
            ·simp at hn;subst hn;have:=IT.out;omega
           case measure=>simp[intOf];omega
         ·have hlL:(((nums.length:Nat):Int)==(L.length:Int))=false:=by rw[avv];omega
          have NZ:Hid (eH (nums.length==r.length+1) nums lA j k=none):=hd0 (by
           unfold eH;rw[auV (fun h=>OS (by rw[HLr.out];simpa using h.1))])
          clear OS;obtain⟨l6,I2,h2,h3⟩:0<tk.pool.left/\∃ L',iw (eH (nums.length==r.length+1) nums lA j) (fun i=>cM (aV lA i)) (m1-k-1) (k+1) ⟨l8 tk.rd tk.pool.seek (cM (aV lA k)),tk.pool.took⟩=.ok (L',t2)/\L2=(tk.pool.seek:Int)::L':=by
           rcases yn.out with⟨n,I2,h1,_⟩|⟨_,h⟩
           ·rw[NZ.out]at h1;cases h1
           ·exact h
          rw[Hsg.out]at h2;have PT:=hd0 (nH HS.out S6.out.src S6.out.pool S6.out.npb S6.out.blocks l6 sg abf.out);have za:=pS S6.out.pool.ok l6;have yz:1<=tk.pool.seek/\tk.pool.seek<4096:=⟨za.1,by have:=za.2.1;have:=S6.out.blocks;omega⟩
          have IT:=hd0 yz;have H2:=hd0 h2;have H3:=hd0 h3;clear h2 h3 za yz;go_wp2_with fail;refine PT.out.mono ?_;rintro e w7 ⟨rfl,F7,KP,pE,R0,uQ,m7⟩;obtain⟨S7,K7⟩:=S6.out.put HS.out KP pE R0 uQ m7;have K7':=hd0 (K6.out.trans K7 (auP _));obtain⟨g8,rq,w8,r8,S8,K8⟩:=S7.append HS.out I1 (tk.pool.seek:Int);have HR8:=hd0 r8;have FZ:=hd0 S8;have sM:=hd0 (K7'.out.trans K8 (auP _));clear KP pE R0 uQ m7 S7 K7 r8 S8 K8 S6 K6 W6 PT;go_wp2_with (at_builtin;refine az HR8.out rfl rfl rfl rfl ?_)
          go_roundw
          case rel=>
           refine⟨k+1,L1++[(tk.pool.seek:Int)],I2,_,F7,by omega,by go_num,hd0 (by have h:=FZ.out;rw[yZ]at h;exact h),by simp[yZ],hd0 (by rw[show m1-(k+1)=m1-k-1 by omega];exact H2.out),hd0 (by rw[Cy.out,H3.out];simp),sM,hd0 (fun n hn=>?_)⟩;rcases avP.1 hn with hn|hn
           ·exact uO.out n hn
           ·simp at hn;subst hn;have:=IT.out;omega
          case measure=>simp[intOf];omega
        ·obtain rfl:k=m1:=by omega
         obtain⟨e1,e2⟩:=DV (by have h:=V4.out;rw[Nat.sub_self]at h;exact h);subst e2;have en:nx=L1:=by rw[Cy.out,e1];simp
         subst en;have HKf:=hd0 (afB.out.trans (Om.out.down HB.out) (auP _));have HLf:Hid (le I blocks pb w3.heap.size wr Fk tk u21 nx):=hd0 ⟨sI.out.src,sI.out.pool,sI.out.blocks,sI.out.npb,eX sI.out.row HB.out,sI.out.away,auI HB.out sI.out.B⟩;have HNx:Hid (nx.length=L.getD (j+1-1) 0):=hd0 (by rw[Nat.add_sub_cancel,Hmg.out];exact yZ);have zc:Hid (qE (nums.length==r.length+1) nums (r.drop (j+1-1)) (j+1) nx tk=.ok (Lx2,t)):=hd0 (by rw[Nat.add_sub_cancel];exact zi.out);have aeo:Hid (ns.getLastD []=(nx::Lx2).getLastD []):=hd0 (by rw[IV.out,HLx.out];rfl);clear e1 V4 Cy sI Om;go_wp2_with fail
         go_roundw
         case rel=>exact⟨j+1,nx,nx,Lx2,tk,Fk,by omega,by omega,by go_num,HLf,HNx,zc,aeo,HKf,uO,rfl⟩
         case measure=>simp[intOf];omega
      ·obtain rfl:j=L.length:=by omega
       have sE:Lx=[]/\tj=t:=by
        have h:=SW.out;rw[List.drop_of_length_le (by have:=HLr.out;omega)]at h;unfold qE at h;injection h with h;injection h with h1 h2;exact⟨h1.symm,h2⟩
       obtain⟨rfl,rfl⟩:=sE;have hN1:1<=lA.length:=by
        rw[HNl.out,av4,auM (show L.length-1<L.length by omega)];exact(ZS.out _ (avl _)).1
       obtain⟨x0,sP⟩:∃ x0,lA[0]?=some x0:=⟨_,auM (by omega)⟩
       obtain⟨an,NQ,en,sJ⟩:=aY sI.out.row;obtain⟨bn,on,ean,cn⟩:=sJ 0 (.int .i64 x0) (by simp[ba,sP]);rw[fS]at en;subst en ean;rw[Nat.add_zero]at cn;have akp:(0:Int)<(lA.length:Int):=by omega
       obtain⟨_,hrs,_⟩:=Th.out _ _ OC.out;have f0:=ae hrs ⟨ob+1,0,none⟩ rfl;have f1:=ae hrs ⟨ob+1,1,none⟩ rfl;have r0:wr.cell? ⟨ob+1,0,none⟩=some (.int .i64 0):=aa hrs 0;have r1:wr.cell? ⟨ob+1,1,none⟩=some (.int .i64 0):=aa hrs 1;have B4:=hd0 (ag (ag hrs 0 (.int .i64 x0)) 1 (.int .i64 (data.length:Int)));have m4:ah (fun g=>g=ob+1) wr ((wr.setCell ⟨ob+1,0,none⟩ (.int .i64 x0)).setCell ⟨ob+1,1,none⟩ (.int .i64 (data.length:Int))):=((ah.refl (fun g=>g=ob+1) wr).setCell (p:=⟨ob+1,0,none⟩) (.inl rfl) _).setCell (p:=⟨ob+1,1,none⟩) (.inl rfl) _;have ry:=hd0 m4;have Hx0:=hd0 sP;obtain⟨nl,yk⟩:∃ nl,lA.length=nl:=⟨_,rfl⟩
       rw[yk]at akp ⊢;clear hrs m4 sJ sP yk hN1;go_wp2_with fail;obtain⟨W4,hW4⟩:∃ W4,(wr.setCell ⟨ob+1,0,none⟩ (.int .i64 x0)).setCell ⟨ob+1,1,none⟩ (.int .i64 (data.length:Int))=W4:=⟨_,rfl⟩
       rw[hW4]at B4 ry ⊢;have q0:W4.cell? ⟨ob+1,0,none⟩=some (.int .i64 x0):=aa B4.out 0;have q1:W4.cell? ⟨ob+1,1,none⟩=some (.int .i64 (data.length:Int)):=aa B4.out 1;have rt:b=⟨x0,data.length⟩:=by
        rw[Hbl.out,auV hz]
        congr 1
        unfold iO;rw[IV.out];show lA.getD 0 0=x0;rw[av4,Hx0.out];rfl
       refine avi (v:=.tuple #[de ⟨x0,data.length⟩,.int .i64 0]) (by simp[results,Tryz.results212,go_sem,q0,q1,de]) rfl ?_;unfold tr;rw[rt];have vu:ah (fun g=>F g\/g=pb) w wr:=(nT.out.mono (T:=fun g=>F g\/g=pb) (fun _ _ h=>.inl h)).trans OC.out.mod (fun g hg hh=>by
        rcases hh with hh|hh|hh
        ·exact(Hf1.out g hh).elim .inl (fun h2=>by omega)
        ·exact .inr hh
        ·have:=nT.out.size;omega)
       refine⟨rfl,Fj,(HS.out.src _).same sI.out.src (ry.out.on fun g hg e=>?_) ry.out.size,sI.out.pool.mod ry.out (fun e=>Ku.out.2.1 e.symm),fun g hg=>?_,sI.out.npb,vu.trans ry.out (fun g hg e=>by have:=yl.out;omega)⟩
       ·subst e;exact(OC.out.foot _ hg).elim Ku.out.1 (fun h2=>by have:=ak IZ.out;omega)
       ·rcases OC.out.foot g hg with h|h
        ·exact Hf1.out g h
        ·exact .inr (auI nT.out.size h)
end
end Go.Proofs.YtkghpdcloaiflaaGreatDoor
