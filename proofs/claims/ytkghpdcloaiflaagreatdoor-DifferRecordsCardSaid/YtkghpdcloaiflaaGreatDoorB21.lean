import Derived.Test.YtkghpdcloaiflaaGreatDoorB20
set_option maxHeartbeats 8000000
set_option maxRecDepth 100000
namespace Go.Proofs.YtkghpdcloaiflaaGreatDoor
open _root_.Go.Proofs.Tryz
section
open Go.RowKit Go.Shelf
attribute [local go_sem] auV
theorem LR {rd:Rd}{data:ay}{nums:List (List Int)}(h:eK rd data nums):nums.length=(au data.length).length:=by rw[<-h.shape];simp
theorem LT {t t':gC}{old b:fU}{data:ay}(h:dG t old data=.ok (b,t')):∃ o ns,eg t.rd old true=.ok o/\kF o.2 data (nW old o.1) t=.ok (ns,t')/\b=if data.length=0 then⟨0,0⟩else⟨iL ns,data.length⟩:=by
 unfold dG at h;split at h
 ·cases h
 ·cases ho:eg t.rd old true with
  |error e=>rw[ho]at h;cases h
  |ok o=>
   rw[ho]at h;simp only at h
   cases hn:kF o.2 data (nW old o.1) t with
   |error e=>rw[hn]at h;cases h
   |ok x=>
    rw[hn]at h;simp only[Except.map]at h;injection h with h;injection h with h1 h2;subst h2;exact⟨o,x.1,rfl,by rw[hn],h1.symm⟩
def tc (I:Rd->World->(Nat->Prop)->Prop)(w:World)(F:Nat->Prop)(pb:Nat)(b:fU)(t:gC)(e:Ending)(w':World):Prop:=
 e=.returned (.tuple #[dc b,.int .i64 0])/\∃ F',I t.rd w' F'/\jP w' pb t.pool/\(∀ g,F' g->F g\/w.heap.size<=g)/\¬ F' pb/\ah (fun g=>F g\/g=pb) w w'
theorem LU {ty:TypeId}{rv:Value}{fr fw:FuncId}{I:Rd->World->(Nat->Prop)->Prop}{blocks:Nat}(S:z7 ty rv fr fw I blocks){rd:Rd}{w:World}{F:Nat->Prop}{pb:Nat}{p:Pl}(hI:I rd w F)(hp:jP w pb p)(hF:¬ F pb)(hb:p.blocks=blocks)(Kt:blocks<=4096)
  (bg:ay) (nums:List (List Int)) (hT:eK rd bg nums) (hh:bg.length<=16384) (data:ay) (hd:data.length<=16384) (b:fU) (t:gC) (hs:dG ⟨rd,p⟩ (du bg nums) data=.ok (b,t)):
  Calls prog 212 #[.iface ty rv,dc (du bg nums),.string ⟨data.toArray⟩,.pointer (some ⟨pb,0,none⟩)] w (tc I w F pb b t):=by
 obtain⟨o0,ns,ho,hn,ro⟩:=LT hs;obtain⟨o1,Ff,zh,_⟩:=kS hT hh true;rw[au8 rfl]at Ff;have eo:o0=(o1,bg):=by rw[ho]at Ff;injection Ff
 subst eo;simp only at hn;rw[zh]at hn;have hm:=qM hT hh;have aew:∀ l,l<nums.length->bL o1 l=nums.getD l []:=fun l hl=>by
  have:nums.getD l []=(nW (du bg nums) o1).getD l []:=by rw[zh]
  rw[this];have ls:l<(au (du bg nums).size.toNat).length:=by
   have h2:(nW (du bg nums) o1).length=nums.length:=by rw[zh]
   unfold nW at h2;rw[avv,List.length_range]at h2;omega
  unfold nW;rw[awi,av1,av2 ls];rfl
 have yc:(au (du bg nums).size.toNat).length=nums.length:=by
  have h2:(nW (du bg nums) o1).length=nums.length:=by rw[zh]
  unfold nW at h2;rw[avv,List.length_range]at h2;exact h2
 obtain⟨old,hold⟩:∃ old,du bg nums=old:=⟨_,rfl⟩
 rw[hold]at ho hm yc ⊢;have dt:af w ((w.alloc (.cells #[.int .i64 old.root,.int .i64 old.size] 42)).alloc (.cells #[.int .i64 0,.int .i64 0] 42)):=((ah.refl _ w).alloc _).alloc _;have hr0:World.blk ((w.alloc (.cells #[.int .i64 old.root,.int .i64 old.size] 42)).alloc (.cells #[.int .i64 0,.int .i64 0] 42)) (w.heap.size+1) #[.int .i64 0,.int .i64 0] 42:=aZ (by simp) _ _;have SV:World.blk ((w.alloc (.cells #[.int .i64 old.root,.int .i64 old.size] 42)).alloc (.cells #[.int .i64 0,.int .i64 0] 42)) w.heap.size #[.int .i64 old.root,.int .i64 old.size] 42:=aF (av _ _ _) _;obtain⟨W0,ux⟩:∃ W0,(w.alloc (.cells #[.int .i64 old.root,.int .i64 old.size] 42)).alloc (.cells #[.int .i64 0,.int .i64 0] 42)=W0:=⟨_,rfl⟩
 obtain⟨ob,ij⟩:∃ ob,w.heap.size=ob:=⟨_,rfl⟩
 rw[ux]at dt hr0 SV;rw[ij]at hr0;have T:=hd0 (ub (S.src rd) ((S.src rd).same hI (dt.on fun _ _=>id) dt.size) old true hm (o1,bg) ho);rw[yc]at T;have hdi:(data.length:Int)<=16384:=by omega
 have WB:decide ((16384:Int)<(data.length:Int))=false:=by simp;omega
 have oc0:W0.cell? ⟨ob,0,none⟩=some (.int .i64 old.root):=by rw[<-ij];exact aa SV 0
 have oc1:W0.cell? ⟨ob,1,none⟩=some (.int .i64 old.size):=by rw[<-ij];exact aa SV 1
 have HS:=hd0 S;have HP:=hd0 hp;have HF:=hd0 hF;have HI:=hd0 hI;have dT:=hd0 dt;have TU:=hd0 hr0;have Hn:=hd0 hn;have Hbl:=hd0 ro;have HT:=hd0 hT;have abk:=hd0 aew;have yv:=hd0 ij;have XD:=S.methW;clear hI hp hF dt hr0 SV ho hn ro hs hT aew Ff zh hold yc hm;unfold dc at T ⊢;go_enter func212,ntmps212;go_wp2_with fail;refine T.out.mono ?_;rintro e w1 ⟨wb,s1,F1,rfl,NV,TR,BW,hN1,hO1,hD1,kj,qv,nP,dF⟩;have I9:∀ g,F g->g<w.heap.size:=(HS.out.src rd).lt HI.out;have hFr:¬ F (ob+1):=fun h=>by have:=I9 _ h;have:=yv.out;omega
 have SJ:=hd0 (ab dF TU.out hFr);have BR:=hd0 ((HP.out.mod dT.out id).mod dF HF.out);have hF1:¬ F1 pb:=fun h=>(qv pb h).elim HF.out (fun h2=>by have:=ak HP.out.own;have:=dT.out.size;omega);have hM1:ah F w w1:=(dT.out.mono (T:=F) (fun _ _ h=>h.elim)).trans dF (fun _ _ h=>h);have hf1:∀ g,F1 g->F g\/w.heap.size<=g:=fun g hg=>(qv g hg).imp id (fun h=>auX dT.out.size h);have RV:¬ F1 (ob+1)/\ob+1≠pb/\s1.role (ob+1)=.none:=by
  have aiL:=ak TU.out;refine⟨fun h=>(qv _ h).elim hFr (fun h2=>by omega),by have:=ak HP.out.own;have:=yv.out;omega,?_⟩;apply avV;intro h;have:=kj _ h;omega
 have SX:∀ g,s1.role g≠.none->w.heap.size<=g:=fun g hg=>auX dT.out.size (kj g hg);have hpr:s1.role pb=.none:=by
  apply avV;intro h;have:=SX _ h;have:=ak HP.out.own;omega
 have vg:(s1.D=[]/\s1.dv=.slice none 0 0)\/(s1.D≠[]/\bR w1.drew 0 s1.dv s1.D):=by
  rcases TR.data with⟨_,h2,h3⟩|⟨_,h2,h3⟩
  ·exact .inl ⟨h3,h2⟩
  ·exact .inr ⟨h2,iw h3 ((ah.refl _ w1).drew)⟩
 have dr:=hd0 (DC wb w1.drew s1.D (show World.blk w1.drew wb _ _ from TR.own) vg);rw[hD1]at dr;have XC:=hd0 NV;have pZ:=hd0 TR;have Hn1:=hd0 BW;have HN1:=hd0 hN1;have Hap:=hd0 nP;have rk:=hd0 hM1;have Hf1:=hd0 hf1;have HF1:=hd0 hF1;have KB:=hd0 RV;have YA:=hd0 SX;have Hpr:=hd0 hpr;clear NV TR BW hN1 hO1 hD1 kj qv nP dF T I9 hFr hM1 hf1 hF1 RV SX hpr TU dT ux ij oc0 oc1;go_wp2_with fail;go_cut [12,13] (fun v12 v13 wx=>v12=.string ⟨bg.toArray⟩/\v13=.slice (some ⟨s1.nb,0,none⟩) s1.n s1.n/\ah (fun g=>s1.dv.ownBlock=some g) w1 wx)
 case first=>
  have c2:w1.cell? ⟨wb,2,none⟩=some (.slice (some ⟨s1.nb,0,none⟩) s1.n s1.n):=aa pZ.out.own 2;have hdn:s1.dv.ownBlock≠some wb:=fun e=>by have:=pZ.out.rdata wb e;rw[pZ.out.rb]at this;cases this
  have Hdn:=hd0 hdn;clear hdn
  go_region_with ((go_at_call 112;refine dr.out.mono ?_;rintro e w2 ⟨rfl,m2⟩;have c2:w2.cell? ⟨wb,2,none⟩=some (.slice (some ⟨s1.nb,0,none⟩) s1.n s1.n):=aa (ab m2 (show World.blk w1.drew wb _ _ from pZ.out.own) Hdn.out) 2;have ft:Hid (ah (fun g=>s1.dv.ownBlock=some g) w1 w2):=hd0 (((ah.refl _ w1).drew).trans m2 (fun _ _ h=>h));clear m2))
  all_goals (go_wp2_with fail;go_meet;case rel=>exact⟨rfl,rfl,ft.out⟩)
 case rest=>
  obtain⟨rfl,rfl,VQ⟩:=hcut;have Sv:∀ g,s1.dv.ownBlock=some g->s1.role g=.data:=pZ.out.rdata;have OI:=hd0 ((HS.out.src rd).same XC.out (VQ.on fun g hg hv=>Hap.out g (by rw[Sv g hv];exact aD.noConfusion) hg) VQ.size);have Yh:=hd0 (BR.out.mod VQ (fun hv=>by have:=Hpr.out;rw[Sv pb hv]at this;cases this));have qx:=hd0 (ab VQ SJ.out (fun hv=>by have:=KB.out.2.2;rw[Sv _ hv]at this;cases this));have HW2:Hid (DM wc s1.nb s1.rows s1.N):=hd0 ⟨ab VQ pZ.out.nums (fun hv=>by have:=pZ.out.rnb;rw[Sv _ hv]at this;cases this),fun l v hv=>az (pZ.out.row l v hv) fun g hg=>VQ.block g (aT (pZ.out.row l v hv) hg) (fun h=>by have:=pZ.out.rrow l v g hv hg;rw[Sv g h]at this;cases this)⟩;have Z0:∀ g,Qa s1.nb s1.rows g->s1.role g≠.none:=fun g hg=>by
   rcases hg with rfl|⟨l,v,hv,hg⟩
   ·rw[pZ.out.rnb];exact aD.noConfusion
   ·rw[pZ.out.rrow l v g hv hg];exact aD.noConfusion
  have Hwf:Hid (∀ g,Qa s1.nb s1.rows g->¬ F1 g/\g≠pb/\g≠ob+1/\w.heap.size<=g):=hd0 (fun g hg=>⟨Hap.out g (Z0 g hg),fun e=>Z0 g hg (by rw[e];exact Hpr.out),fun e=>Z0 g hg (by rw[e];exact KB.out.2.2),YA.out g (Z0 g hg)⟩);have ft:Hid (ah F w wc):=hd0 (rk.out.trans VQ (fun g hg hv=>by have:=YA.out g (by rw[Sv g hv];exact aD.noConfusion);omega));have aqR:=hd0 VQ.size;have HNr:Hid (∀ l,s1.N l=bL o1 l):=hd0 HN1.out;have Hrl:Hid (s1.rows.length=nums.length):=hd0 (by rw[pZ.out.rlen,Hn1.out]);have Jk:s1.n=nums.length:=Hn1.out;have LV:=hd0 (qR data.length wc hd);clear VQ Sv Z0 XC BR SJ pZ HN1 Hap Hpr rk dr vg;rw[Jk];clear Jk;go_wp2_with fail;refine LV.out.mono ?_;rintro e w3 ⟨sv,rfl,AC,dg⟩;have FG:=hd0 ((HS.out.src rd).same OI.out (dg.on fun _ _=>id) dg.size);have HP3:=hd0 (Yh.out.mod dg id);have yC:=hd0 (ab dg qx.out id);have HW3:=hd0 (HW2.out.same (dg.on fun _ _=>id));have lq:=hd0 (ft.out.keep dg);have Nx:=hd0 AC;obtain⟨a3,Z8,e3,XO⟩:=ba AC;obtain⟨L,hL⟩:∃ L,au data.length=L:=⟨_,rfl⟩
  have e3':sv=.slice a3 L.length Z8:=by rw[e3];simp[bi,gm,hL]
  rw[hL]at Nx;have HL:=hd0 hL;have Hsv:Hid (∀ g,(Value.slice a3 L.length Z8).ownBlock=some g->¬ F1 g/\g≠pb/\g≠ob+1/\¬ Qa s1.nb s1.rows g/\w.heap.size<=g):=hd0 (fun g hg=>by
   have h1:=(AC.lt g (by rw[e3'];exact hg)).1;refine⟨fun hf=>by have:=(HS.out.src rd).lt OI.out g hf;omega,fun e=>by have:=ak Yh.out.own;omega,fun e=>by have:=ak qx.out;omega,fun hf=>by have:=HW2.out.lt hf;omega,by have:=ft.out.size;omega⟩)
  have Kq:(L.length:Int)<=3:=by rw[<-hL];have:=rP data.length;omega
  subst e3';clear AC dg e3 hL LV OI Yh qx HW2 ft;have f0:=ae yC.out ⟨ob+1,0,none⟩ rfl;have f1:=ae yC.out ⟨ob+1,1,none⟩ rfl;have r0:w3.cell? ⟨ob+1,0,none⟩=some (.int .i64 0):=aa yC.out 0;have r1:w3.cell? ⟨ob+1,1,none⟩=some (.int .i64 0):=aa yC.out 1;by_cases hz:data.length=0
  ·have TG:L=[]:=by rw[<-HL.out,hz];rfl
   have hlz:(((L.length:Nat):Int)==0)=true:=by rw[TG];rfl
   have B4:=ag (ag yC.out 0 (.int .i64 0)) 1 (.int .i64 0);have m4:ah (fun g=>g=ob+1) w3 ((w3.setCell ⟨ob+1,0,none⟩ (.int .i64 0)).setCell ⟨ob+1,1,none⟩ (.int .i64 0)):=((ah.refl (fun g=>g=ob+1) w3).setCell (p:=⟨ob+1,0,none⟩) (.inl rfl) _).setCell (p:=⟨ob+1,1,none⟩) (.inl rfl) _;go_wp2_with fail;obtain⟨W4,hW4⟩:∃ W4,(w3.setCell ⟨ob+1,0,none⟩ (.int .i64 0)).setCell ⟨ob+1,1,none⟩ (.int .i64 0)=W4:=⟨_,rfl⟩
   rw[hW4]at B4 m4 ⊢;have q0:W4.cell? ⟨ob+1,0,none⟩=some (.int .i64 0):=aa B4 0;have q1:W4.cell? ⟨ob+1,1,none⟩=some (.int .i64 0):=aa B4 1;have iI:b=⟨0,0⟩:=by rw[Hbl.out,au8 hz]
   have ht0:t=⟨rd,p⟩:=by
    have h:=Hn.out;unfold kF at h;rw[HL.out,TG]at h;simp only at h;injection h with h;injection h with _ h;exact h.symm
   refine avy (v:=.tuple #[dc ⟨0,0⟩,.int .i64 0]) (by simp[results,Tryz.results212,go_sem,q0,q1,dc]) rfl ?_;unfold tc;rw[iI,ht0];exact⟨rfl,F1,(HS.out.src rd).same FG.out (m4.on fun g hg e=>KB.out.1 (e▸hg)) m4.size,HP3.out.mod m4 (fun e=>KB.out.2.1 e.symm),Hf1.out,HF1.out,(lq.out.mono (T:=fun g=>F g\/g=pb) (fun _ _ h=>.inl h)).trans m4 (fun g hg e=>by have:=yv.out;omega)⟩
  ·obtain⟨m0,r,X9⟩:∃ m0 r,L=m0::r:=by
    rcases aM data.length with⟨h,_⟩|⟨_,_,e⟩|⟨_,_,e⟩|⟨_,e⟩
    ·exact absurd h hz
    ·exact⟨_,_,by rw[<-HL.out,e]⟩
    ·exact⟨_,_,by rw[<-HL.out,e]⟩
    ·exact⟨_,_,by rw[<-HL.out,e]⟩
   have Tb:m0=bN data.length 240:=by have:=nC (size:=data.length);rw[HL.out,X9]at this;exact this
   have ari:m0<=69:=by rw[Tb];exact(aI (by decide)).2 (by omega)
   have hlz:(((L.length:Nat):Int)==0)=false:=by rw[X9,avK];simp;omega
   obtain⟨uD,t1,RY,ae5⟩:∃ uD t1,ip (fV bg data nums) (aO data) m0 0 ⟨rd,p⟩=.ok (uD,t1)/\(qC (nums.length==r.length+1) nums r 1 uD t1).map (fun x=>(uD::x.1,x.2))=.ok (ns,t):=by
    have h:=Hn.out;unfold kF at h;rw[HL.out,X9]at h;simp only at h
    cases hl:ip (fV bg data nums) (aO data) m0 0 ⟨rd,p⟩with
    |error e=>rw[hl]at h;cases h
    |ok x=>rw[hl]at h;exact⟨x.1,x.2,rfl,h⟩
   obtain⟨gs,os,ea3,Sr⟩:=XO 0 (.int .i64 (m0:Int)) (by rw[<-HL.out]at X9;simp[bi,gm,X9]);subst ea3;have hlp:(0:Int)<(L.length:Int):=by rw[X9];simp only[au0];omega
   rw[Nat.add_zero]at Sr;have LS0:Hid (lc I blocks pb w3.heap.size w3 F1 ⟨rd,p⟩ (.slice none 0 0) []):=hd0 ⟨FG.out,HP3.out,hb,HF1.out,⟨rfl,.inl ⟨rfl,rfl⟩⟩,fun g hg=>(by cases hg),au4 _⟩;have ae9:=hd0 RY;have Si:=hd0 ae5;have HLc:=hd0 X9;have Hm0:=hd0 Tb;have Hx3:=hd0 XO;have asc:(m0:Int)<=69:=by omega
   clear RY ae5 X9 Tb XO r0 r1 f0 f1;go_wp2_with fail
   go_loopw [58,15] (fun i v wr=>∃(k:Nat) (L1 L2:List Int) (tk:gC) (Fk:Nat->Prop),k<=m0/\i=.int .i64 (k:Int)/\Hid (lc I blocks pb w3.heap.size wr Fk tk v L1)/\L1.length=k/\Hid (ip (fV bg data nums) (aO data) (m0-k) k tk=.ok (L2,t1))/\Hid (uD=L1++L2)/\Hid (dp F1 Fk pb w3.heap.size w3 wr)/\Hid (∀ n∈L1,0<=n/\n<4096)) (fun i _ _=>m0-(intOf i).toNat)
   case atStart=>exact⟨0,[],uD,⟨rd,p⟩,F1,by omega,rfl,LS0.out |> hd0,rfl,ae9,hd0 rfl,hd0 (dp.refl _ _ _ _),hd0 (by simp)⟩
   case round=>
    clear LS0 ae9;obtain⟨k,L1,L2,tk,Fk,hk,rfl,sA,za,WJ,VZ,OM,Jg⟩:=hrel;by_cases aL:k<m0
    ·have dU:(k:Int)<(m0:Int):=by omega
     have P1:=hd0 (fun W=>zN data k W (by omega) (by omega));have P2:=hd0 (fun W=>zN bg k W (by omega) (by omega));have hfk:m0-k=(m0-k-1)+1:=by omega
     have dr:=WJ.out;rw[hfk]at dr;have yw:=hd0 (z8 dr);have Jt:L1.length<=100000:=by omega
     have zg:k*240<data.length:=by
      have h1:=Hm0.out;apply avV;intro hc;have:=(aI (n:=data.length) (each:=240) (k:=k) (by decide)).2 (by omega);omega
     clear dr;go_wp2_with fail;refine(P1.out _).mono ?_;rintro e w5 ⟨rfl,mj⟩;go_wp2_with fail;refine(P2.out _).mono ?_;rintro e w6 ⟨rfl,rz⟩;have aaV:af wr w6:=mj.keep rz;have S6:=hd0 (sA.out.keep HS.out aaV);have K6:=hd0 (OM.out.keep aaV);have W6:Hid (DM w6 s1.nb s1.rows s1.N):=hd0 (HW3.out.same (K6.out.mod.on fun g hg hh=>by
      obtain⟨a1,a2,_⟩:=Hwf.out g hg;have:=HW3.out.lt hg;rcases hh with hh|hh|hh
      ·exact a1 hh
      ·exact a2 hh
      ·omega))
     clear mj rz aaV sA OM P1 P2 Sr;by_cases he:aO data k=aO bg k
     ·have Z5:(aO data k==aO bg k)=true:=by rw[he];simp
      have hkh:k*240<bg.length:=by
       have h1:=kq data k;have h2:=kq bg k;rw[he]at h1;omega
      have hN0:(nums.getD 0 []).length=bN bg.length 240:=by rw[fP HT.out,nC]
      have dt:k<(nums.getD 0 []).length:=by
       rw[hN0];apply avV;intro hc;have:=(aI (n:=bg.length) (each:=240) (k:=k) (by decide)).1 (by omega);omega
      have adv:0<nums.length:=by
       rcases hq:nums with _|⟨a,c⟩
       ·rw[hq]at dt;simp at dt
       ·simp
      obtain⟨v0,FW⟩:∃ v0,s1.rows[0]?=some v0:=⟨_,au1 (by rw[Hrl.out];exact adv)⟩
      have cI:=W6.out.row 0 v0 FW;rw[HNr.out,abk.out 0 adv]at cI;obtain⟨a0,akg,e0,rq⟩:=ba cI;obtain⟨x,hx⟩:∃ x,(nums.getD 0 [])[k]?=some x:=⟨_,au1 dt⟩
      obtain⟨b0,ob0,ea0,c0⟩:=rq k (.int .i64 x) (by simp only[bi,av1,hx];rfl);subst ea0;rw[fM]at e0;obtain⟨nl0,yc⟩:∃ nl0,(nums.getD 0 []).length=nl0:=⟨_,rfl⟩
      rw[yc]at e0 dt;subst e0;have cn0:w6.cell? ⟨s1.nb,0,none⟩=some (.slice (some ⟨b0,ob0,none⟩) nl0 akg):=by rw[aa W6.out.nums 0];simpa using FW
      have aoZ:(k:Int)<(nl0:Int):=by omega
      have ape:(0:Int)<(nums.length:Int):=by omega
      have hxr:=mu HT.out hx;have Nw:Hid (fV bg data nums k=some x):=hd0 (by unfold fV;rw[au8 he];simp only[awi]at hx ⊢;rw[hx];rfl);obtain⟨g7,aq7,w7,r7,S7,K7⟩:=S6.out.append HS.out Jt x;have HR7:=hd0 r7;have HS7:=hd0 S7;have zi:=hd0 (K6.out.trans K7 (au4 _));have Hxr:=hd0 hxr;clear r7 S7 K7 he cI rq hx FW hN0 yc hkh zg hxr S6 K6 W6;go_wp2_with (at_builtin;refine aA HR7.out rfl rfl rfl rfl ?_)
      go_roundw
      case rel=>
       rcases yw.out with⟨n,I2,h1,h2,h3⟩|⟨h1,_⟩
       ·rw[Nw.out]at h1;injection h1 with h1;subst h1;refine⟨k+1,L1++[x],I2,tk,Fk,by omega,by go_num,hd0 (by have h:=HS7.out;rw[za]at h;exact h),by simp[za],hd0 (by rw[show m0-(k+1)=m0-k-1 by omega];exact h2),hd0 (by rw[VZ.out,h3];simp),zi,hd0 (fun n hn=>?_)⟩;rcases av4.1 hn with hn|hn
        ·exact Jg.out n hn
        ·simp at hn;subst hn;have:=Hxr.out;omega
       ·rw[Nw.out]at h1;cases h1
      case measure=>simp[intOf];omega
     ·have Z5:(aO data k==aO bg k)=false:=by simpa using he
      have Nw:Hid (fV bg data nums k=none):=hd0 (by unfold fV;rw[ava he]);obtain⟨lU,I2,h2,h3⟩:0<tk.pool.left/\∃ L',ip (fV bg data nums) (aO data) (m0-k-1) (k+1) ⟨lZ tk.rd tk.pool.seek (aO data k),tk.pool.took⟩=.ok (L',t1)/\L2=(tk.pool.seek:Int)::L':=by
       rcases yw.out with⟨n,I2,h1,_⟩|⟨_,h⟩
       ·rw[Nw.out]at h1;cases h1
       ·exact h
      have PT:=hd0 (nE HS.out S6.out.src S6.out.pool S6.out.npb S6.out.blocks lU (aO data k) (by rw[kq];omega));have yV:=pP S6.out.pool.ok lU;have yu:1<=tk.pool.seek/\tk.pool.seek<4096:=⟨yV.1,by have:=yV.2.1;have:=S6.out.blocks;omega⟩
      have Jm:=hd0 yu;have H2:=hd0 h2;have H3:=hd0 h3;clear he zg h2 h3 yV yu;go_wp2_with fail;refine PT.out.mono ?_;rintro e w7 ⟨rfl,F7,Kn,pB,SG,uK,m7⟩;obtain⟨S7,K7⟩:=S6.out.put HS.out Kn pB SG uK m7;have K7':=hd0 (K6.out.trans K7 (au4 _));obtain⟨g8,rp,w8,r8,S8,K8⟩:=S7.append HS.out Jt (tk.pool.seek:Int);have HR8:=hd0 r8;have FV:=hd0 S8;have sF:=hd0 (K7'.out.trans K8 (au4 _));clear Kn pB SG uK m7 S7 K7 r8 S8 K8 S6 K6 W6 PT;go_wp2_with (at_builtin;refine aA HR8.out rfl rfl rfl rfl ?_)
      go_roundw
      case rel=>
       refine⟨k+1,L1++[(tk.pool.seek:Int)],I2,_,F7,by omega,by go_num,hd0 (by have h:=FV.out;rw[za]at h;exact h),by simp[za],hd0 (by rw[show m0-(k+1)=m0-k-1 by omega];exact H2.out),hd0 (by rw[VZ.out,H3.out];simp),sF,hd0 (fun n hn=>?_)⟩;rcases av4.1 hn with hn|hn
       ·exact Jg.out n hn
       ·simp at hn;subst hn;have:=Jm.out;omega
      case measure=>simp[intOf];omega
    ·obtain rfl:k=m0:=by omega
     obtain⟨e1,e2⟩:=DN (by have h:=WJ.out;rw[Nat.sub_self]at h;exact h);subst e2;have en:uD=L1:=by rw[VZ.out,e1];simp
     subst en;clear e1 WJ VZ Sr;obtain⟨Lx0,YG,ae2⟩:∃ Lx0,qC (nums.length==r.length+1) nums r 1 uD tk=.ok (Lx0,t)/\ns=uD::Lx0:=by
      have h:=Si.out
      cases hq:qC (nums.length==r.length+1) nums r 1 uD tk with
      |error e=>rw[hq]at h;cases h
      |ok x=>
       rw[hq]at h;simp only[Except.map]at h;injection h with h;injection h with h1 h2;exact⟨x.1,by rw[<-h2],h1.symm⟩
     have Th:Hid (∀(W:World) (Fj:Nat->Prop),dp F1 Fj pb w3.heap.size w3 W->DM W s1.nb s1.rows s1.N/\World.blk W (ob+1) #[.int .i64 0,.int .i64 0] 42/\∀(j:Nat) (x:Nat),L[j]?=some x->W.cell? ⟨gs,os+j,none⟩=some (.int .i64 (x:Int))):=hd0 (fun W Fj K=>by
      refine⟨HW3.out.same (K.mod.on fun g hg hh=>?_),ab K.mod yC.out (fun hh=>?_),fun j x hj=>?_⟩
      ·obtain⟨a1,a2,_⟩:=Hwf.out g hg;have:=HW3.out.lt hg;rcases hh with hh|hh|hh
       ·exact a1 hh
       ·exact a2 hh
       ·omega
      ·rcases hh with hh|hh|hh
       ·exact KB.out.1 hh
       ·exact KB.out.2.1 hh
       ·have:=ak yC.out;omega
      ·obtain⟨b',o',e',c'⟩:=Hx3.out j (.int .i64 (x:Int)) (by rw[HL.out];simp[bi,gm,hj]);injection e' with e';injection e' with e1 e2;subst e1 e2;obtain⟨a1,a2,_⟩:=Hsv.out gs rfl;have hl:=ai c';rw[<-c'];exact K.mod.cell (p:=⟨gs,os+j,none⟩) hl (fun hh=>by
        rcases hh with hh|hh|hh
        ·exact a1 hh
        ·exact a2 hh
        ·have:gs<w3.heap.size:=hl;have hh':w3.heap.size<=gs:=hh;omega))
     have YD:=hd0 YG;have afk:=hd0 ae2;have hLr:L.length=r.length+1:=by rw[HLc.out];simp
     have aiR:Hid (∀ j,j+1<L.length->L.getD (j+1) 0=bN (L.getD j 0) 60):=hd0 (by rw[<-HL.out];exact mB _ hd);have aaH:Hid (∀ n∈L,1<=n/\n<=69):=hd0 (by rw[<-HL.out];exact o4 hd);have HLr:=hd0 hLr;have aoq:1<=L.length:=by omega
     clear YG ae2 hLr;go_wp2_with fail
     go_loopw [20,15] (fun lv v wr=>∃(j:Nat) (lw Lx':List Int) (Lx:List (List Int)) (tj:gC) (Fj:Nat->Prop),1<=j/\j<=L.length/\lv=.int .i64 (j:Int)/\Hid (lc I blocks pb w3.heap.size wr Fj tj v lw)/\Hid (lw.length=L.getD (j-1) 0)/\Hid (qC (nums.length==r.length+1) nums (r.drop (j-1)) j lw tj=.ok (Lx,t))/\Hid (ns.getLastD []=(lw::Lx).getLastD [])/\Hid (dp F1 Fj pb w3.heap.size w3 wr)/\Hid (∀ n∈lw,0<=n/\n<4096)/\Lx'=lw) (fun lv _ _=>L.length-(intOf lv).toNat)
     case atStart=>exact⟨1,uD,uD,Lx0,tk,Fk,au4 _,by omega,rfl,sA,hd0 (by rw[za,HLc.out];rfl),hd0 YD.out,hd0 (by rw[afk.out]),OM,Jg,rfl⟩
     case round=>
      clear sA OM Jg YD afk;obtain⟨j,lw,_,Lx,tj,Fj,TY,hj2,rfl,sA,HNl,Si,Jl,OM,Jg,_⟩:=hrel;by_cases Ch:j<L.length
      ·obtain⟨m1,ik⟩:∃ m1,L[j]?=some m1:=⟨_,au1 Ch⟩
       have hmg:L.getD j 0=m1:=by rw[awi,ik];rfl
       have Fr:r.drop (j-1)=m1::r.drop j:=by
        have h1:r[j-1]?=some m1:=by
         have h:=ik;rw[HLc.out,show j=(j-1)+1 by omega,List.getElem?_cons_succ]at h;exact h
        have h2:=(avf.1 h1)
        rw[List.drop_eq_getElem_cons h2.1,h2.2,show j-1+1=j by omega]
       obtain⟨nx,t2,hly,Lx2,adN,hLx⟩:∃ nx t2,ip (eE (nums.length==r.length+1) nums lw j) (fun i=>cM (aU lw i)) m1 0 tj=.ok (nx,t2)/\∃ Lx2,qC (nums.length==r.length+1) nums (r.drop j) (j+1) nx t2=.ok (Lx2,t)/\Lx=nx::Lx2:=by
        have h:=Si.out;rw[Fr]at h;unfold qC at h
        cases hq:ip (eE (nums.length==r.length+1) nums lw j) (fun i=>cM (aU lw i)) m1 0 tj with
        |error e=>rw[hq]at h;cases h
        |ok x=>
         rw[hq]at h;simp only at h
         cases Ob:qC (nums.length==r.length+1) nums (r.drop j) (j+1) x.1 x.2 with
         |error e=>rw[Ob]at h;cases h
         |ok y=>
          rw[Ob]at h;simp only[Except.map]at h;injection h with h;injection h with h1 h2;exact⟨x.1,x.2,rfl,y.1,by rw[Ob,<-h2],h1.symm⟩
       obtain⟨st1,st2,Ta⟩:=Th.out _ _ OM.out;have cj:=Ta j m1 ik;have ap6:=aaH.out m1 (au2 ik);have aev:m1=bN lw.length 60:=by
        have h:=aiR.out (j-1) (by omega);rw[show j-1+1=j by omega,hmg,<-HNl.out]at h;exact h
       have Yo:lw.length<=69:=by
        rw[HNl.out,awi,au1 (show j-1<L.length by omega)];exact(aaH.out _ (avB _)).2
       have ahY:(j:Int)<(L.length:Int):=by omega
       have ar1:(m1:Int)<=69:=by omega
       have hgj:gs<wr.heap.size:=by have:=ai cj;exact this
       obtain⟨an,N7,en,sp⟩:=ba sA.out.row;rw[fM]at en;subst en;have LS0:Hid (lc I blocks pb wr.heap.size wr Fj tj (.slice none 0 0) []):=hd0 ⟨sA.out.src,sA.out.pool,sA.out.blocks,sA.out.npb,⟨rfl,.inl ⟨rfl,rfl⟩⟩,fun g hg=>(by cases hg),au4 _⟩;have HWl:=hd0 st1;have Hly:=hd0 hly;have zj:=hd0 adN;have HLx:=hd0 hLx;have aib:=hd0 aev;have HNw:=hd0 sA.out.row;have HNa:=hd0 sA.out.away;have Hmg:=hd0 hmg;have adp:w3.heap.size<=wr.heap.size:=sA.out.B;have HB:=hd0 adp;have Hnb:=hd0 Yo;have adZ:=hd0 OM.out;obtain⟨nl,yc⟩:∃ nl,lw.length=nl:=⟨_,rfl⟩
       have Hnl:=hd0 yc;rw[yc]at HNw HNa ⊢;clear Fr hly adN hLx st1 st2 Ta aev sp yc adp hmg ik sA Si OM Yo;obtain⟨wl,rfl⟩:∃ wl,wl=wr:=⟨_,rfl⟩
       go_wp2_with fail
       go_loopw [104,21] (fun i v wq=>∃(k:Nat) (L1 L2:List Int) (tk:gC) (Fk:Nat->Prop),k<=m1/\i=.int .i64 (k:Int)/\Hid (lc I blocks pb wl.heap.size wq Fk tk v L1)/\L1.length=k/\Hid (ip (eE (nums.length==r.length+1) nums lw j) (fun i=>cM (aU lw i)) (m1-k) k tk=.ok (L2,t2))/\Hid (nx=L1++L2)/\Hid (dp Fj Fk pb wl.heap.size wl wq)/\Hid (∀ n∈L1,0<=n/\n<4096)) (fun i _ _=>m1-(intOf i).toNat)
       case atStart=>exact⟨0,[],nx,tj,Fj,by omega,rfl,LS0,rfl,Hly,hd0 rfl,hd0 (dp.refl _ _ _ _),hd0 (by simp)⟩
       case round=>
        clear LS0 Hly cj;obtain⟨k,L1,L2,tk,Fk,hk,rfl,sA,za,WJ,yn,NL,uH⟩:=hrel;by_cases ao5:k<m1
        ·have dU:(k:Int)<(m1:Int):=by omega
         have BX:60*k<lw.length:=by
          have h1:=aib.out;apply avV;intro hc;have:=(aI (n:=lw.length) (each:=60) (k:=k) (by decide)).2 (by omega);omega
         have dr:ip (eE (nums.length==r.length+1) nums lw j) (fun i=>cM (aU lw i)) ((m1-k-1)+1) k tk=.ok (L2,t2):=by
          rw[show m1-k-1+1=m1-k by omega];exact WJ.out
         have yw:=hd0 (z8 dr);have Jt:L1.length<=100000:=by omega
         have HKq:=hd0 (adZ.out.trans (NL.out.down HB.out) (au4 _));obtain⟨sq1,_,_⟩:=Th.out _ _ HKq.out;have hnw:aN wr w3.heap.size (.slice an nl N7) lw:=by
          have h:=HNw.out;rw[<-Hnl.out]at h ⊢;exact az h fun g hg=>NL.out.mod.block g (aT h hg) (fun hh=>by
           have ha:=HNa.out;rw[<-Hnl.out]at ha;rcases hh with hh|hh|hh
           ·exact(ha g hg).1 hh
           ·exact(ha g hg).2 hh
           ·have:=aT h hg;omega)
         have G1:=hd0 (zO lw k (.slice an nl N7) wr w3.heap.size hnw (by have:=Hnb.out;omega) BX);have hgl:(aU lw k).length<=60:=by rw[ku];omega
         have hgr:∀ n∈aU lw k,0<=n/\n<4294967296:=fun n hn=>by
          have:=Jg.out n (List.mem_of_mem_drop (au6 hn));omega
         have LD:=hd0 (fun W v (hv:eF W v (bi (aU lw k)))=>DA (aU lw k) v W hv (by omega) hgr);have aax:(cM (aU lw k)).length<=240:=by rw[wh];omega
         have HSQ:=hd0 sq1;clear dr hnw hgl hgr sq1;go_wp2_with fail;refine G1.out.mono ?_;rintro e w5 ⟨v5,rfl,hv5,rfl⟩;have L5:=hd0 (LD.out _ _ hv5);clear hv5 LD G1;obtain⟨sg,hsg⟩:∃ sg,cM (aU lw k)=sg:=⟨_,rfl⟩
         rw[hsg]at L5 aax;have Hsg:=hd0 hsg;have abp:=hd0 aax;clear hsg aax;go_wp2_with fail;refine L5.out.mono ?_;rintro e w6 ⟨rfl,rz⟩;have S6:=hd0 (sA.out.keep HS.out rz);have K6:=hd0 (NL.out.keep rz);have W6:=hd0 (HSQ.out.same (rz.on fun _ _=>id));clear rz L5 sA NL HKq HSQ BX;by_cases ON:nums.length=L.length
         ·have ah0:((nums.length:Nat):Int)=(L.length:Int):=by omega
          have aim:(nums.length==r.length+1)=true:=by rw[ON,HLr.out];simp
          have FB:j<nums.length:=by omega
          obtain⟨vj,hvj⟩:∃ vj,s1.rows[j]?=some vj:=⟨_,au1 (by rw[Hrl.out];exact FB)⟩
          have cI:=W6.out.row j vj hvj;rw[HNr.out,abk.out j FB]at cI;obtain⟨aj,ad1,ej,hxj⟩:=ba cI;rw[fM]at ej;obtain⟨nj,Kj⟩:∃ nj,(nums.getD j []).length=nj:=⟨_,rfl⟩
          rw[Kj]at ej;subst ej;have cnj:w6.cell? ⟨s1.nb,j,none⟩=some (.slice aj nj ad1):=by rw[aa W6.out.nums j];simpa using hvj
          have aqs:(j:Int)<(nums.length:Int):=by omega
          have aqw:nj<=69:=by
           rw[<-Kj,fP HT.out,awi]
           cases hq:(au bg.length)[j]? with
           |none=>simp
           |some y=>exact(o4 hh y (au2 hq)).2
          have Hnj:=hd0 Kj;have Hxj:=hd0 hxj;clear cI hvj Kj hxj;have hlL:(((nums.length:Nat):Int)==(L.length:Int))=true:=by rw[ON];simp
          clear ON ah0;by_cases hkj:k<nj
          ·have ai1:(k:Int)<(nj:Int):=by omega
           have aiv:decide ((k:Int)<(nj:Int))=true:=by simpa using ai1
           obtain⟨vp,hvp⟩:∃ vp,s1.rows[j-1]?=some vp:=⟨_,au1 (by rw[Hrl.out];omega)⟩
           have hrp:=W6.out.row (j-1) vp hvp;rw[HNr.out,abk.out (j-1) (by omega)]at hrp;have hjp:((j-1:Nat):Int)=(j:Int)-1:=by omega
           have cnp:w6.cell? ⟨s1.nb,j-1,none⟩=some vp:=by rw[aa W6.out.nums (j-1)];simpa using hvp
           have nQ:60*k<(nums.getD (j-1) []).length:=by
            have h1:=Hnj.out;rw[fP HT.out]at h1 ⊢;have h2:=mB bg.length hh (j-1) (by rw[<-LR HT.out];omega);rw[show j-1+1=j by omega,h1]at h2;apply avV;intro hc;have:=(aI (n:=(au bg.length).getD (j-1) 0) (each:=60) (k:=k) (by decide)).2 (by omega);omega
           have akP:(nums.getD (j-1) []).length<=69:=by
            rw[fP HT.out,awi]
            cases hq:(au bg.length)[j-1]? with
            |none=>simp
            |some y=>exact(o4 hh y (au2 hq)).2
           have G2:=hd0 (zO (nums.getD (j-1) []) k vp w6 0 hrp (by omega) nQ);have aeX:∀ n∈aU (nums.getD (j-1) []) k,0<=n/\n<4294967296:=fun n hn=>by
            have hm:=List.mem_of_mem_drop (au6 hn);obtain⟨q,hq⟩:=awf hm;have:=mu HT.out hq;omega
           have ah6:(aU (nums.getD (j-1) []) k).length<=60:=by rw[ku];omega
           have LD2:=hd0 (fun W v (hv:eF W v (bi (aU (nums.getD (j-1) []) k)))=>DA (aU (nums.getD (j-1) []) k) v W hv (by omega) aeX);obtain⟨avp,nvp,cvp,evp⟩:∃ a n c,vp=.slice a n c:=by
            rcases hrp.2 with⟨h,_⟩|⟨g,cap,d7,h,_⟩
            ·exact⟨_,_,_,h⟩
            ·exact⟨_,_,_,h⟩
           subst evp;clear hrp hvp nQ akP aeX ah6;go_wp2_with fail;refine G2.out.mono ?_;rintro e w7 ⟨v7,rfl,hv7,rfl⟩;have L7:=hd0 (LD2.out _ _ hv7);clear hv7 LD2 G2;obtain⟨sw,hsw⟩:∃ sw,cM (aU (nums.getD (j-1) []) k)=sw:=⟨_,rfl⟩
           rw[hsw]at L7;have Hsw:=hd0 hsw;clear hsw;go_wp2_with fail;refine L7.out.mono ?_;rintro e w8 ⟨rfl,kB⟩;have S6:=hd0 (S6.out.keep HS.out kB);have K6:=hd0 (K6.out.keep kB);have W6:=hd0 (W6.out.same (kB.on fun _ _=>id));have aoA:w8.cell? ⟨s1.nb,j,none⟩=some (.slice aj nj ad1):=(kB.cell (p:=⟨s1.nb,j,none⟩) (ai cnj) id).trans cnj;by_cases hss:sg=sw
           ·have Z5:(sg==sw)=true:=by rw[hss];simp
            obtain⟨x,hx⟩:∃ x,(nums.getD j [])[k]?=some x:=⟨_,au1 (by rw[Hnj.out];exact hkj)⟩
            obtain⟨bj,oj,eaj,cxj⟩:=Hxj.out k (.int .i64 x) (by simp only[bi,av1,hx];rfl);subst eaj;have cx8:w8.cell? ⟨bj,oj+k,none⟩=some (.int .i64 x):=(kB.cell (p:=⟨bj,oj+k,none⟩) (ai cxj) id).trans cxj;have hxr:=mu HT.out hx;have Nw:Hid (eE (nums.length==r.length+1) nums lw j k=some x):=hd0 (by
             unfold eE;rw[au8 ⟨aim,by rw[Hnj.out];exact hkj,by rw[Hsg.out,Hsw.out,hss]⟩];simp only[awi]at hx ⊢;rw[hx];rfl)
            obtain⟨g9,ajN,w9,r9,S9,K9⟩:=S6.out.append HS.out Jt x;have HR9:=hd0 r9;have HS9:=hd0 S9;have Cg:=hd0 (K6.out.trans K9 (au4 _));have Hxr:=hd0 hxr;clear r9 S9 K9 hx hxr S6 K6 W6 kB L7 cxj cnj Hxj hss;go_wp2_with (at_builtin;refine aA HR9.out rfl rfl rfl rfl ?_)
            go_roundw
            case rel=>
             rcases yw.out with⟨n,I2,h1,h2,h3⟩|⟨h1,_⟩
             ·rw[Nw.out]at h1;injection h1 with h1;subst h1;refine⟨k+1,L1++[x],I2,tk,Fk,by omega,by go_num,hd0 (by have h:=HS9.out;rw[za]at h;exact h),by simp[za],hd0 (by rw[show m1-(k+1)=m1-k-1 by omega];exact h2),hd0 (by rw[yn.out,h3];simp),Cg,hd0 (fun n hn=>?_)⟩;rcases av4.1 hn with hn|hn
              ·exact uH.out n hn
              ·simp at hn;subst hn;have:=Hxr.out;omega
             ·rw[Nw.out]at h1;cases h1
            case measure=>simp[intOf];omega
           ·have Z5:(sg==sw)=false:=by simpa using hss
            have Nw:Hid (eE (nums.length==r.length+1) nums lw j k=none):=hd0 (by
             unfold eE;rw[ava (fun h=>hss (by rw[<-Hsg.out,<-Hsw.out];exact h.2.2))])
            clear hss kB L7 cnj Hxj;obtain⟨lU,I2,h2,h3⟩:0<tk.pool.left/\∃ L',ip (eE (nums.length==r.length+1) nums lw j) (fun i=>cM (aU lw i)) (m1-k-1) (k+1) ⟨lZ tk.rd tk.pool.seek (cM (aU lw k)),tk.pool.took⟩=.ok (L',t2)/\L2=(tk.pool.seek:Int)::L':=by
             rcases yw.out with⟨n,I2,h1,_⟩|⟨_,h⟩
             ·rw[Nw.out]at h1;cases h1
             ·exact h
            rw[Hsg.out]at h2;have PT:=hd0 (nE HS.out S6.out.src S6.out.pool S6.out.npb S6.out.blocks lU sg abp.out);have yV:=pP S6.out.pool.ok lU;have yu:1<=tk.pool.seek/\tk.pool.seek<4096:=⟨yV.1,by have:=yV.2.1;have:=S6.out.blocks;omega⟩
            have Jm:=hd0 yu;have H2:=hd0 h2;have H3:=hd0 h3;clear h2 h3 yV yu;go_wp2_with fail;refine PT.out.mono ?_;rintro e w7 ⟨rfl,F7,Kn,pB,SG,uK,m7⟩;obtain⟨S7,K7⟩:=S6.out.put HS.out Kn pB SG uK m7;have K7':=hd0 (K6.out.trans K7 (au4 _));obtain⟨g8,rp,w8,r8,S8,K8⟩:=S7.append HS.out Jt (tk.pool.seek:Int);have HR8:=hd0 r8;have FV:=hd0 S8;have sF:=hd0 (K7'.out.trans K8 (au4 _));clear Kn pB SG uK m7 S7 K7 r8 S8 K8 S6 K6 W6 PT;go_wp2_with (at_builtin;refine aA HR8.out rfl rfl rfl rfl ?_)
            go_roundw
            case rel=>
             refine⟨k+1,L1++[(tk.pool.seek:Int)],I2,_,F7,by omega,by go_num,hd0 (by have h:=FV.out;rw[za]at h;exact h),by simp[za],hd0 (by rw[show m1-(k+1)=m1-k-1 by omega];exact H2.out),hd0 (by rw[yn.out,H3.out];simp),sF,hd0 (fun n hn=>?_)⟩;rcases av4.1 hn with hn|hn
             ·exact uH.out n hn
             ·simp at hn;subst hn;have:=Jm.out;omega
            case measure=>simp[intOf];omega
          ·have aiv:decide ((k:Int)<(nj:Int))=false:=by simp;omega
           have arf:¬(k:Int)<(nj:Int):=by omega
           have Nw:Hid (eE (nums.length==r.length+1) nums lw j k=none):=hd0 (by
            unfold eE;rw[ava (fun h=>hkj (by rw[<-Hnj.out];exact h.2.1))])
           clear hkj Hxj;obtain⟨lU,I2,h2,h3⟩:0<tk.pool.left/\∃ L',ip (eE (nums.length==r.length+1) nums lw j) (fun i=>cM (aU lw i)) (m1-k-1) (k+1) ⟨lZ tk.rd tk.pool.seek (cM (aU lw k)),tk.pool.took⟩=.ok (L',t2)/\L2=(tk.pool.seek:Int)::L':=by
            rcases yw.out with⟨n,I2,h1,_⟩|⟨_,h⟩
            ·rw[Nw.out]at h1;cases h1
            ·exact h
           rw[Hsg.out]at h2;have PT:=hd0 (nE HS.out S6.out.src S6.out.pool S6.out.npb S6.out.blocks lU sg abp.out);have yV:=pP S6.out.pool.ok lU;have yu:1<=tk.pool.seek/\tk.pool.seek<4096:=⟨yV.1,by have:=yV.2.1;have:=S6.out.blocks;omega⟩
           have Jm:=hd0 yu;have H2:=hd0 h2;have H3:=hd0 h3;clear h2 h3 yV yu;go_wp2_with fail;refine PT.out.mono ?_;rintro e w7 ⟨rfl,F7,Kn,pB,SG,uK,m7⟩;obtain⟨S7,K7⟩:=S6.out.put HS.out Kn pB SG uK m7;have K7':=hd0 (K6.out.trans K7 (au4 _));obtain⟨g8,rp,w8,r8,S8,K8⟩:=S7.append HS.out Jt (tk.pool.seek:Int);have HR8:=hd0 r8;have FV:=hd0 S8;have sF:=hd0 (K7'.out.trans K8 (au4 _));clear Kn pB SG uK m7 S7 K7 r8 S8 K8 S6 K6 W6 PT;go_wp2_with (at_builtin;refine aA HR8.out rfl rfl rfl rfl ?_)
           go_roundw
           case rel=>
            refine⟨k+1,L1++[(tk.pool.seek:Int)],I2,_,F7,by omega,by go_num,hd0 (by have h:=FV.out;rw[za]at h;exact h),by simp[za],hd0 (by rw[show m1-(k+1)=m1-k-1 by omega];exact H2.out),hd0 (by rw[yn.out,H3.out];simp),sF,hd0 (fun n hn=>?_)⟩;rcases av4.1 hn with hn|hn
            ·exact uH.out n hn
            ·simp at hn;subst hn;have:=Jm.out;omega
           case measure=>simp[intOf];omega
         ·have hlL:(((nums.length:Nat):Int)==(L.length:Int))=false:=by rw[avK];omega
          have Nw:Hid (eE (nums.length==r.length+1) nums lw j k=none):=hd0 (by
           unfold eE;rw[ava (fun h=>ON (by rw[HLr.out];simpa using h.1))])
          clear ON;obtain⟨lU,I2,h2,h3⟩:0<tk.pool.left/\∃ L',ip (eE (nums.length==r.length+1) nums lw j) (fun i=>cM (aU lw i)) (m1-k-1) (k+1) ⟨lZ tk.rd tk.pool.seek (cM (aU lw k)),tk.pool.took⟩=.ok (L',t2)/\L2=(tk.pool.seek:Int)::L':=by
           rcases yw.out with⟨n,I2,h1,_⟩|⟨_,h⟩
           ·rw[Nw.out]at h1;cases h1
           ·exact h
          rw[Hsg.out]at h2;have PT:=hd0 (nE HS.out S6.out.src S6.out.pool S6.out.npb S6.out.blocks lU sg abp.out);have yV:=pP S6.out.pool.ok lU;have yu:1<=tk.pool.seek/\tk.pool.seek<4096:=⟨yV.1,by have:=yV.2.1;have:=S6.out.blocks;omega⟩
          have Jm:=hd0 yu;have H2:=hd0 h2;have H3:=hd0 h3;clear h2 h3 yV yu;go_wp2_with fail;refine PT.out.mono ?_;rintro e w7 ⟨rfl,F7,Kn,pB,SG,uK,m7⟩;obtain⟨S7,K7⟩:=S6.out.put HS.out Kn pB SG uK m7;have K7':=hd0 (K6.out.trans K7 (au4 _));obtain⟨g8,rp,w8,r8,S8,K8⟩:=S7.append HS.out Jt (tk.pool.seek:Int);have HR8:=hd0 r8;have FV:=hd0 S8;have sF:=hd0 (K7'.out.trans K8 (au4 _));clear Kn pB SG uK m7 S7 K7 r8 S8 K8 S6 K6 W6 PT;go_wp2_with (at_builtin;refine aA HR8.out rfl rfl rfl rfl ?_)
          go_roundw
          case rel=>
           refine⟨k+1,L1++[(tk.pool.seek:Int)],I2,_,F7,by omega,by go_num,hd0 (by have h:=FV.out;rw[za]at h;exact h),by simp[za],hd0 (by rw[show m1-(k+1)=m1-k-1 by omega];exact H2.out),hd0 (by rw[yn.out,H3.out];simp),sF,hd0 (fun n hn=>?_)⟩;rcases av4.1 hn with hn|hn
           ·exact uH.out n hn
           ·simp at hn;subst hn;have:=Jm.out;omega
          case measure=>simp[intOf];omega
        ·obtain rfl:k=m1:=by omega
         obtain⟨e1,e2⟩:=DN (by have h:=WJ.out;rw[Nat.sub_self]at h;exact h);subst e2;have en:nx=L1:=by rw[yn.out,e1];simp
         subst en;have HKf:=hd0 (adZ.out.trans (NL.out.down HB.out) (au4 _));have HLf:Hid (lc I blocks pb w3.heap.size wr Fk tk u21 nx):=hd0 ⟨sA.out.src,sA.out.pool,sA.out.blocks,sA.out.npb,eQ sA.out.row HB.out,sA.out.away,auX HB.out sA.out.B⟩;have HNx:Hid (nx.length=L.getD (j+1-1) 0):=hd0 (by rw[Nat.add_sub_cancel,Hmg.out];exact za);have zf:Hid (qC (nums.length==r.length+1) nums (r.drop (j+1-1)) (j+1) nx tk=.ok (Lx2,t)):=hd0 (by rw[Nat.add_sub_cancel];exact zj.out);have adH:Hid (ns.getLastD []=(nx::Lx2).getLastD []):=hd0 (by rw[Jl.out,HLx.out];rfl);clear e1 WJ yn sA NL;go_wp2_with fail
         go_roundw
         case rel=>exact⟨j+1,nx,nx,Lx2,tk,Fk,by omega,by omega,by go_num,HLf,HNx,zf,adH,HKf,uH,rfl⟩
         case measure=>simp[intOf];omega
      ·obtain rfl:j=L.length:=by omega
       have yU:Lx=[]/\tj=t:=by
        have h:=Si.out;rw[List.drop_of_length_le (by have:=HLr.out;omega)]at h;unfold qC at h;injection h with h;injection h with h1 h2;exact⟨h1.symm,h2⟩
       obtain⟨rfl,rfl⟩:=yU;have hN1:1<=lw.length:=by
        rw[HNl.out,awi,au1 (show L.length-1<L.length by omega)];exact(aaH.out _ (avB _)).1
       obtain⟨x0,rq⟩:∃ x0,lw[0]?=some x0:=⟨_,au1 (by omega)⟩
       obtain⟨an,N7,en,sp⟩:=ba sA.out.row;obtain⟨bn,on,ean,cn⟩:=sp 0 (.int .i64 x0) (by simp[bi,rq]);rw[fM]at en;subst en ean;rw[Nat.add_zero]at cn;have aiT:(0:Int)<(lw.length:Int):=by omega
       obtain⟨_,hrs,_⟩:=Th.out _ _ OM.out;have f0:=ae hrs ⟨ob+1,0,none⟩ rfl;have f1:=ae hrs ⟨ob+1,1,none⟩ rfl;have r0:wr.cell? ⟨ob+1,0,none⟩=some (.int .i64 0):=aa hrs 0;have r1:wr.cell? ⟨ob+1,1,none⟩=some (.int .i64 0):=aa hrs 1;have B4:=hd0 (ag (ag hrs 0 (.int .i64 x0)) 1 (.int .i64 (data.length:Int)));have m4:ah (fun g=>g=ob+1) wr ((wr.setCell ⟨ob+1,0,none⟩ (.int .i64 x0)).setCell ⟨ob+1,1,none⟩ (.int .i64 (data.length:Int))):=((ah.refl (fun g=>g=ob+1) wr).setCell (p:=⟨ob+1,0,none⟩) (.inl rfl) _).setCell (p:=⟨ob+1,1,none⟩) (.inl rfl) _;have ne:=hd0 m4;have Hx0:=hd0 rq;obtain⟨nl,yc⟩:∃ nl,lw.length=nl:=⟨_,rfl⟩
       rw[yc]at aiT ⊢;clear hrs m4 sp rq yc hN1;go_wp2_with fail;obtain⟨W4,hW4⟩:∃ W4,(wr.setCell ⟨ob+1,0,none⟩ (.int .i64 x0)).setCell ⟨ob+1,1,none⟩ (.int .i64 (data.length:Int))=W4:=⟨_,rfl⟩
       rw[hW4]at B4 ne ⊢;have q0:W4.cell? ⟨ob+1,0,none⟩=some (.int .i64 x0):=aa B4.out 0;have q1:W4.cell? ⟨ob+1,1,none⟩=some (.int .i64 (data.length:Int)):=aa B4.out 1;have rm:b=⟨x0,data.length⟩:=by
        rw[Hbl.out,ava hz]
        congr 1
        unfold iL;rw[Jl.out];show lw.getD 0 0=x0;rw[awi,Hx0.out];rfl
       refine avy (v:=.tuple #[dc ⟨x0,data.length⟩,.int .i64 0]) (by simp[results,Tryz.results212,go_sem,q0,q1,dc]) rfl ?_;unfold tc;rw[rm];have ve:ah (fun g=>F g\/g=pb) w wr:=(lq.out.mono (T:=fun g=>F g\/g=pb) (fun _ _ h=>.inl h)).trans OM.out.mod (fun g hg hh=>by
        rcases hh with hh|hh|hh
        ·exact(Hf1.out g hh).elim .inl (fun h2=>by omega)
        ·exact .inr hh
        ·have:=lq.out.size;omega)
       refine⟨rfl,Fj,(HS.out.src _).same sA.out.src (ne.out.on fun g hg e=>?_) ne.out.size,sA.out.pool.mod ne.out (fun e=>KB.out.2.1 e.symm),fun g hg=>?_,sA.out.npb,ve.trans ne.out (fun g hg e=>by have:=yv.out;omega)⟩
       ·subst e;exact(OM.out.foot _ hg).elim KB.out.1 (fun h2=>by have:=ak yC.out;omega)
       ·rcases OM.out.foot g hg with h|h
        ·exact Hf1.out g h
        ·exact .inr (auX lq.out.size h)
end
end Go.Proofs.YtkghpdcloaiflaaGreatDoor
