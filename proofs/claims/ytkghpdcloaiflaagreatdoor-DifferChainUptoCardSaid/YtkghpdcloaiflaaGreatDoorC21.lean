import Derived.Test.YtkghpdcloaiflaaGreatDoorC20
set_option maxHeartbeats 8000000
set_option maxRecDepth 100000
namespace Go.Proofs.YtkghpdcloaiflaaGreatDoor
open _root_.Go.Proofs.Tryz
section
open Go.RowKit Go.Shelf
attribute [local go_sem] atC
theorem Lq {rd:Rd}{data:ay}{nums:List (List Int)}(h:eG rd data nums):nums.length=(au data.length).length:=by rw[<-h.shape];simp
theorem Lr {t t':gA}{old b:fR}{data:ay}(h:dE t old data=.ok (b,t')):∃ o ns,d7 t.rd old true=.ok o/\ku o.2 data (nP old o.1) t=.ok (ns,t')/\b=if data.length=0 then⟨0,0⟩else⟨iF ns,data.length⟩:=by
 unfold dE at h;split at h
 ·cases h
 ·cases ho:d7 t.rd old true with
  |error e=>rw[ho]at h;cases h
  |ok o=>
   rw[ho]at h;simp only at h
   cases hn:ku o.2 data (nP old o.1) t with
   |error e=>rw[hn]at h;cases h
   |ok x=>
    rw[hn]at h;simp only[Except.map]at h;injection h with h;injection h with h1 h2;subst h2;exact⟨o,x.1,rfl,by rw[hn],h1.symm⟩
def sR (I:Rd->World->(Nat->Prop)->Prop)(w:World)(F:Nat->Prop)(pb:Nat)(b:fR)(t:gA)(e:Ending)(w':World):Prop:=
 e=.returned (.tuple #[db b,.int .i64 0])/\∃ F',I t.rd w' F'/\jF w' pb t.pool/\(∀ g,F' g->F g\/w.heap.size<=g)/\¬ F' pb/\ah (fun g=>F g\/g=pb) w w'
theorem Ls {ty:TypeId}{rv:Value}{fr fw:FuncId}{I:Rd->World->(Nat->Prop)->Prop}{blocks:Nat}(S:zJ ty rv fr fw I blocks){rd:Rd}{w:World}{F:Nat->Prop}{pb:Nat}{p:Pl}(hI:I rd w F)(hp:jF w pb p)(hF:¬ F pb)(hb:p.blocks=blocks)(J9:blocks<=4096)
  (bg:ay) (nums:List (List Int)) (hT:eG rd bg nums) (hh:bg.length<=16384) (data:ay) (hd:data.length<=16384) (b:fR) (t:gA) (hs:dE ⟨rd,p⟩ (dp bg nums) data=.ok (b,t)):
  Calls prog 212 #[.iface ty rv,db (dp bg nums),.string ⟨data.toArray⟩,.pointer (some ⟨pb,0,none⟩)] w (sR I w F pb b t):=by
 obtain⟨o0,ns,ho,hn,qZ⟩:=Lr hs;obtain⟨o1,E6,yJ,_⟩:=kJ hT hh true;rw[atP rfl]at E6;have eo:o0=(o1,bg):=by rw[ho]at E6;injection E6
 subst eo;simp only at hn;rw[yJ]at hn;have hm:=qA hT hh;have ac1:∀ l,l<nums.length->bJ o1 l=nums.getD l []:=fun l hl=>by
  have:nums.getD l []=(nP (dp bg nums) o1).getD l []:=by rw[yJ]
  rw[this];have lj:l<(au (dp bg nums).size.toNat).length:=by
   have h2:(nP (dp bg nums) o1).length=nums.length:=by rw[yJ]
   unfold nP at h2;rw[aug,List.length_range]at h2;omega
  unfold nP;rw[au3,auM,auN lj];rfl
 have xX:(au (dp bg nums).size.toNat).length=nums.length:=by
  have h2:(nP (dp bg nums) o1).length=nums.length:=by rw[yJ]
  unfold nP at h2;rw[aug,List.length_range]at h2;exact h2
 obtain⟨old,hold⟩:∃ old,dp bg nums=old:=⟨_,rfl⟩
 rw[hold]at ho hm xX ⊢;have dA:af w ((w.alloc (.cells #[.int .i64 old.root,.int .i64 old.size] 42)).alloc (.cells #[.int .i64 0,.int .i64 0] 42)):=((ah.refl _ w).alloc _).alloc _;have XD:World.blk ((w.alloc (.cells #[.int .i64 old.root,.int .i64 old.size] 42)).alloc (.cells #[.int .i64 0,.int .i64 0] 42)) (w.heap.size+1) #[.int .i64 0,.int .i64 0] 42:=aY (by simp) _ _;have R9:World.blk ((w.alloc (.cells #[.int .i64 old.root,.int .i64 old.size] 42)).alloc (.cells #[.int .i64 0,.int .i64 0] 42)) w.heap.size #[.int .i64 old.root,.int .i64 old.size] 42:=aG (aw _ _ _) _;obtain⟨W0,ui⟩:∃ W0,(w.alloc (.cells #[.int .i64 old.root,.int .i64 old.size] 42)).alloc (.cells #[.int .i64 0,.int .i64 0] 42)=W0:=⟨_,rfl⟩
 obtain⟨ob,ic⟩:∃ ob,w.heap.size=ob:=⟨_,rfl⟩
 rw[ui]at dA XD R9;rw[ic]at XD;have T:=hd0 (tV (S.src rd) ((S.src rd).same hI (dA.on fun _ _=>id) dA.size) old true hm (o1,bg) ho);rw[xX]at T;have hdi:(data.length:Int)<=16384:=by omega
 have VV:decide ((16384:Int)<(data.length:Int))=false:=by simp;omega
 have oc0:W0.cell? ⟨ob,0,none⟩=some (.int .i64 old.root):=by rw[<-ic];exact aa R9 0
 have oc1:W0.cell? ⟨ob,1,none⟩=some (.int .i64 old.size):=by rw[<-ic];exact aa R9 1
 have HS:=hd0 S;have HP:=hd0 hp;have HF:=hd0 hF;have HI:=hd0 hI;have dN:=hd0 dA;have SV:=hd0 XD;have Hn:=hd0 hn;have Hbl:=hd0 qZ;have HT:=hd0 hT;have Zv:=hd0 ac1;have xU:=hd0 ic;have XC:=S.methW;clear hI hp hF dA XD R9 ho hn qZ hs hT ac1 E6 yJ hold xX hm;unfold db at T ⊢;go_enter func212,ntmps212;go_wp2_with fail;refine T.out.mono ?_;rintro e w1 ⟨wb,s1,F1,rfl,Nr,Ta,By,hN1,hO1,hD1,j4,qk,nJ,de⟩;have I0:∀ g,F g->g<w.heap.size:=(HS.out.src rd).lt HI.out;have hFr:¬ F (ob+1):=fun h=>by have:=I0 _ h;have:=xU.out;omega
 have U6:=hd0 (ab de SV.out hFr);have BN:=hd0 ((HP.out.mod dN.out id).mod de HF.out);have hF1:¬ F1 pb:=fun h=>(qk pb h).elim HF.out (fun h2=>by have:=ai HP.out.own;have:=dN.out.size;omega);have hM1:ah F w w1:=(dN.out.mono (T:=F) (fun _ _ h=>h.elim)).trans de (fun _ _ h=>h);have hf1:∀ g,F1 g->F g\/w.heap.size<=g:=fun g hg=>(qk g hg).imp id (fun h=>atE dN.out.size h);have Ry:¬ F1 (ob+1)/\ob+1≠pb/\s1.role (ob+1)=.none:=by
  have ajK:=ai SV.out;refine⟨fun h=>(qk _ h).elim hFr (fun h2=>by omega),by have:=ai HP.out.own;have:=xU.out;omega,?_⟩;apply auG;intro h;have:=j4 _ h;omega
 have Rm:∀ g,s1.role g≠.none->w.heap.size<=g:=fun g hg=>atE dN.out.size (j4 g hg);have hpr:s1.role pb=.none:=by
  apply auG;intro h;have:=Rm _ h;have:=ai HP.out.own;omega
 have uR:(s1.D=[]/\s1.dv=.slice none 0 0)\/(s1.D≠[]/\bP w1.drew 0 s1.dv s1.D):=by
  rcases Ta.data with⟨_,h2,h3⟩|⟨_,h2,h3⟩
  ·exact .inl ⟨h3,h2⟩
  ·exact .inr ⟨h2,io h3 ((ah.refl _ w1).drew)⟩
 have dr:=hd0 (Di wb w1.drew s1.D (show World.blk w1.drew wb _ _ from Ta.own) uR);rw[hD1]at dr;have XH:=hd0 Nr;have pQ:=hd0 Ta;have Hn1:=hd0 By;have HN1:=hd0 hN1;have Hap:=hd0 nJ;have yl:=hd0 hM1;have Hf1:=hd0 hf1;have HF1:=hd0 hF1;have Ko:=hd0 Ry;have Xu:=hd0 Rm;have Hpr:=hd0 hpr;clear Nr Ta By hN1 hO1 hD1 j4 qk nJ de T I0 hFr hM1 hf1 hF1 Ry Rm hpr SV dN ui ic oc0 oc1;go_wp2_with fail;go_cut [12,13] (fun v12 v13 wx=>v12=.string ⟨bg.toArray⟩/\v13=.slice (some ⟨s1.nb,0,none⟩) s1.n s1.n/\ah (fun g=>s1.dv.ownBlock=some g) w1 wx)
 case first=>
  have c2:w1.cell? ⟨wb,2,none⟩=some (.slice (some ⟨s1.nb,0,none⟩) s1.n s1.n):=aa pQ.out.own 2;have hdn:s1.dv.ownBlock≠some wb:=fun e=>by have:=pQ.out.rdata wb e;rw[pQ.out.rb]at this;cases this
  have Hdn:=hd0 hdn;clear hdn
  go_region_with ((go_at_call 112;refine dr.out.mono ?_;rintro e w2 ⟨rfl,m2⟩;have c2:w2.cell? ⟨wb,2,none⟩=some (.slice (some ⟨s1.nb,0,none⟩) s1.n s1.n):=aa (ab m2 (show World.blk w1.drew wb _ _ from pQ.out.own) Hdn.out) 2;have oh:Hid (ah (fun g=>s1.dv.ownBlock=some g) w1 w2):=hd0 (((ah.refl _ w1).drew).trans m2 (fun _ _ h=>h));clear m2))
  all_goals (go_wp2_with fail;go_meet;case rel=>exact⟨rfl,rfl,oh.out⟩)
 case rest=>
  obtain⟨rfl,rfl,Od⟩:=hcut;have RF:∀ g,s1.dv.ownBlock=some g->s1.role g=.data:=pQ.out.rdata;have Om:=hd0 ((HS.out.src rd).same XH.out (Od.on fun g hg hv=>Hap.out g (by rw[RF g hv];exact aE.noConfusion) hg) Od.size);have WT:=hd0 (BN.out.mod Od (fun hv=>by have:=Hpr.out;rw[RF pb hv]at this;cases this));have rj:=hd0 (ab Od U6.out (fun hv=>by have:=Ko.out.2.2;rw[RF _ hv]at this;cases this));have HW2:Hid (Dq wc s1.nb s1.rows s1.N):=hd0 ⟨ab Od pQ.out.nums (fun hv=>by have:=pQ.out.rnb;rw[RF _ hv]at this;cases this),fun l v hv=>az (pQ.out.row l v hv) fun g hg=>Od.block g (aS (pQ.out.row l v hv) hg) (fun h=>by have:=pQ.out.rrow l v g hv hg;rw[RF g h]at this;cases this)⟩;have Z8:∀ g,PG s1.nb s1.rows g->s1.role g≠.none:=fun g hg=>by
   rcases hg with rfl|⟨l,v,hv,hg⟩
   ·rw[pQ.out.rnb];exact aE.noConfusion
   ·rw[pQ.out.rrow l v g hv hg];exact aE.noConfusion
  have Hwf:Hid (∀ g,PG s1.nb s1.rows g->¬ F1 g/\g≠pb/\g≠ob+1/\w.heap.size<=g):=hd0 (fun g hg=>⟨Hap.out g (Z8 g hg),fun e=>Z8 g hg (by rw[e];exact Hpr.out),fun e=>Z8 g hg (by rw[e];exact Ko.out.2.2),Xu.out g (Z8 g hg)⟩);have oh:Hid (ah F w wc):=hd0 (yl.out.trans Od (fun g hg hv=>by have:=Xu.out g (by rw[RF g hv];exact aE.noConfusion);omega));have ap2:=hd0 Od.size;have HNr:Hid (∀ l,s1.N l=bJ o1 l):=hd0 HN1.out;have Hrl:Hid (s1.rows.length=nums.length):=hd0 (by rw[pQ.out.rlen,Hn1.out]);have IE:s1.n=nums.length:=Hn1.out;have LV:=hd0 (qE data.length wc hd);clear Od RF Z8 XH BN U6 pQ HN1 Hap Hpr yl dr uR;rw[IE];clear IE;go_wp2_with fail;refine LV.out.mono ?_;rintro e w3 ⟨sv,rfl,An,dq⟩;have Fe:=hd0 ((HS.out.src rd).same Om.out (dq.on fun _ _=>id) dq.size);have ZA:=hd0 (WT.out.mod dq id);have Is:=hd0 (ab dq rj.out id);have HW3:=hd0 (HW2.out.same (dq.on fun _ _=>id));have nL:=hd0 (oh.out.keep dq);have Nj:=hd0 An;obtain⟨a3,Zy,e3,WD⟩:=aZ An;obtain⟨L,hL⟩:∃ L,au data.length=L:=⟨_,rfl⟩
  have e3':sv=.slice a3 L.length Zy:=by rw[e3];simp[bi,gh,hL]
  rw[hL]at Nj;have HL:=hd0 hL;have Hsv:Hid (∀ g,(Value.slice a3 L.length Zy).ownBlock=some g->¬ F1 g/\g≠pb/\g≠ob+1/\¬ PG s1.nb s1.rows g/\w.heap.size<=g):=hd0 (fun g hg=>by
   have h1:=(An.lt g (by rw[e3'];exact hg)).1;refine⟨fun hf=>by have:=(HS.out.src rd).lt Om.out g hf;omega,fun e=>by have:=ai WT.out.own;omega,fun e=>by have:=ai rj.out;omega,fun hf=>by have:=HW2.out.lt hf;omega,by have:=oh.out.size;omega⟩)
  have J4:(L.length:Int)<=3:=by rw[<-hL];have:=rE data.length;omega
  subst e3';clear An dq e3 hL LV Om WT rj HW2 oh;have f0:=ae Is.out ⟨ob+1,0,none⟩ rfl;have f1:=ae Is.out ⟨ob+1,1,none⟩ rfl;have r0:w3.cell? ⟨ob+1,0,none⟩=some (.int .i64 0):=aa Is.out 0;have r1:w3.cell? ⟨ob+1,1,none⟩=some (.int .i64 0):=aa Is.out 1;by_cases hz:data.length=0
  ·have Ti:L=[]:=by rw[<-HL.out,hz];rfl
   have hlz:(((L.length:Nat):Int)==0)=true:=by rw[Ti];rfl
   have B4:=ag (ag Is.out 0 (.int .i64 0)) 1 (.int .i64 0);have m4:ah (fun g=>g=ob+1) w3 ((w3.setCell ⟨ob+1,0,none⟩ (.int .i64 0)).setCell ⟨ob+1,1,none⟩ (.int .i64 0)):=((ah.refl (fun g=>g=ob+1) w3).setCell (p:=⟨ob+1,0,none⟩) (.inl rfl) _).setCell (p:=⟨ob+1,1,none⟩) (.inl rfl) _;go_wp2_with fail;obtain⟨W4,hW4⟩:∃ W4,(w3.setCell ⟨ob+1,0,none⟩ (.int .i64 0)).setCell ⟨ob+1,1,none⟩ (.int .i64 0)=W4:=⟨_,rfl⟩
   rw[hW4]at B4 m4 ⊢;have q0:W4.cell? ⟨ob+1,0,none⟩=some (.int .i64 0):=aa B4 0;have q1:W4.cell? ⟨ob+1,1,none⟩=some (.int .i64 0):=aa B4 1;have iC:b=⟨0,0⟩:=by rw[Hbl.out,atP hz]
   have ht0:t=⟨rd,p⟩:=by
    have h:=Hn.out;unfold ku at h;rw[HL.out,Ti]at h;simp only at h;injection h with h;injection h with _ h;exact h.symm
   refine auj (v:=.tuple #[db ⟨0,0⟩,.int .i64 0]) (by simp[results,Tryz.results212,go_sem,q0,q1,db]) rfl ?_;unfold sR;rw[iC,ht0];exact⟨rfl,F1,(HS.out.src rd).same Fe.out (m4.on fun g hg e=>Ko.out.1 (e▸hg)) m4.size,ZA.out.mod m4 (fun e=>Ko.out.2.1 e.symm),Hf1.out,HF1.out,(nL.out.mono (T:=fun g=>F g\/g=pb) (fun _ _ h=>.inl h)).trans m4 (fun g hg e=>by have:=xU.out;omega)⟩
  ·obtain⟨m0,r,Wp⟩:∃ m0 r,L=m0::r:=by
    rcases aK data.length with⟨h,_⟩|⟨_,_,e⟩|⟨_,_,e⟩|⟨_,e⟩
    ·exact absurd h hz
    ·exact⟨_,_,by rw[<-HL.out,e]⟩
    ·exact⟨_,_,by rw[<-HL.out,e]⟩
    ·exact⟨_,_,by rw[<-HL.out,e]⟩
   have SK:m0=bN data.length 240:=by have:=mZ (size:=data.length);rw[HL.out,Wp]at this;exact this
   have ao2:m0<=69:=by rw[SK];exact(aJ (by decide)).2 (by omega)
   have hlz:(((L.length:Nat):Int)==0)=false:=by rw[Wp,auv];simp;omega
   obtain⟨uA,t1,Rw,acn⟩:∃ uA t1,ij (fS bg data nums) (aN data) m0 0 ⟨rd,p⟩=.ok (uA,t1)/\(qq (nums.length==r.length+1) nums r 1 uA t1).map (fun x=>(uA::x.1,x.2))=.ok (ns,t):=by
    have h:=Hn.out;unfold ku at h;rw[HL.out,Wp]at h;simp only at h
    cases hl:ij (fS bg data nums) (aN data) m0 0 ⟨rd,p⟩with
    |error e=>rw[hl]at h;cases h
    |ok x=>rw[hl]at h;exact⟨x.1,x.2,rfl,h⟩
   obtain⟨gs,os,ea3,NI⟩:=WD 0 (.int .i64 (m0:Int)) (by rw[<-HL.out]at Wp;simp[bi,gh,Wp]);subst ea3;have hlp:(0:Int)<(L.length:Int):=by rw[Wp];simp only[atH];omega
   rw[Nat.add_zero]at NI;have LS0:Hid (kU I blocks pb w3.heap.size w3 F1 ⟨rd,p⟩ (.slice none 0 0) []):=hd0 ⟨Fe.out,ZA.out,hb,HF1.out,⟨rfl,.inl ⟨rfl,rfl⟩⟩,fun g hg=>(by cases hg),atL _⟩;have acH:=hd0 Rw;have RP:=hd0 acn;have HLc:=hd0 Wp;have Hm0:=hd0 SK;have Hx3:=hd0 WD;have arb:(m0:Int)<=69:=by omega
   clear Rw acn Wp SK WD r0 r1 f0 f1;go_wp2_with fail
   go_loopw [58,15] (fun i v wr=>∃(k:Nat) (L1 L2:List Int) (tk:gA) (Fk:Nat->Prop),k<=m0/\i=.int .i64 (k:Int)/\Hid (kU I blocks pb w3.heap.size wr Fk tk v L1)/\L1.length=k/\Hid (ij (fS bg data nums) (aN data) (m0-k) k tk=.ok (L2,t1))/\Hid (uA=L1++L2)/\Hid (dj F1 Fk pb w3.heap.size w3 wr)/\Hid (∀ n∈L1,0<=n/\n<4096)) (fun i _ _=>m0-(intOf i).toNat)
   case atStart=>exact⟨0,[],uA,⟨rd,p⟩,F1,by omega,rfl,LS0.out |> hd0,rfl,acH,hd0 rfl,hd0 (dj.refl _ _ _ _),hd0 (by simp)⟩
   case round=>
    clear LS0 acH;obtain⟨k,L1,L2,tk,Fk,hk,rfl,rU,yE,Vn,VU,Ov,IW⟩:=hrel;by_cases aM:k<m0
    ·have dS:(k:Int)<(m0:Int):=by omega
     have P1:=hd0 (fun W=>zv data k W (by omega) (by omega));have P2:=hd0 (fun W=>zv bg k W (by omega) (by omega));have hfk:m0-k=(m0-k-1)+1:=by omega
     have dr:=Vn.out;rw[hfk]at dr;have yg:=hd0 (zK dr);have I5:L1.length<=100000:=by omega
     have yR:k*240<data.length:=by
      have h1:=Hm0.out;apply auG;intro hc;have:=(aJ (n:=data.length) (each:=240) (k:=k) (by decide)).2 (by omega);omega
     clear dr;go_wp2_with fail;refine(P1.out _).mono ?_;rintro e w5 ⟨rfl,mi⟩;go_wp2_with fail;refine(P2.out _).mono ?_;rintro e w6 ⟨rfl,re⟩;have Y9:af wr w6:=mi.keep re;have S6:=hd0 (rU.out.keep HS.out Y9);have K6:=hd0 (Ov.out.keep Y9);have W6:Hid (Dq w6 s1.nb s1.rows s1.N):=hd0 (HW3.out.same (K6.out.mod.on fun g hg hh=>by
      obtain⟨a1,a2,_⟩:=Hwf.out g hg;have:=HW3.out.lt hg;rcases hh with hh|hh|hh
      ·exact a1 hh
      ·exact a2 hh
      ·omega))
     clear mi re Y9 rU Ov P1 P2 NI;by_cases he:aN data k=aN bg k
     ·have Z7:(aN data k==aN bg k)=true:=by rw[he];simp
      have hkh:k*240<bg.length:=by
       have h1:=ke data k;have h2:=ke bg k;rw[he]at h1;omega
      have hN0:(nums.getD 0 []).length=bN bg.length 240:=by rw[fO HT.out,mZ]
      have dA:k<(nums.getD 0 []).length:=by
       rw[hN0];apply auG;intro hc;have:=(aJ (n:=bg.length) (each:=240) (k:=k) (by decide)).1 (by omega);omega
      have aej:0<nums.length:=by
       rcases hq:nums with _|⟨a,c⟩
       ·rw[hq]at dA;simp at dA
       ·simp
      obtain⟨v0,IY⟩:∃ v0,s1.rows[0]?=some v0:=⟨_,atI (by rw[Hrl.out];exact aej)⟩
      have cH:=W6.out.row 0 v0 IY;rw[HNr.out,Zv.out 0 aej]at cH;obtain⟨a0,ajx,e0,sD⟩:=aZ cH;obtain⟨x,hx⟩:∃ x,(nums.getD 0 [])[k]?=some x:=⟨_,atI dA⟩
      obtain⟨b0,ob0,ea0,c0⟩:=sD k (.int .i64 x) (by simp only[bi,auM,hx];rfl);subst ea0;rw[fL]at e0;obtain⟨nl0,xX⟩:∃ nl0,(nums.getD 0 []).length=nl0:=⟨_,rfl⟩
      rw[xX]at e0 dA;subst e0;have cn0:w6.cell? ⟨s1.nb,0,none⟩=some (.slice (some ⟨b0,ob0,none⟩) nl0 ajx):=by rw[aa W6.out.nums 0];simpa using IY
      have arJ:(k:Int)<(nl0:Int):=by omega
      have aok:(0:Int)<(nums.length:Int):=by omega
      have hxr:=ms HT.out hx;have Nk:Hid (fS bg data nums k=some x):=hd0 (by unfold fS;rw[atP he];simp only[au3]at hx ⊢;rw[hx];rfl);obtain⟨g7,apL,w7,r7,S7,K7⟩:=S6.out.append HS.out I5 x;have HR7:=hd0 r7;have HS7:=hd0 S7;have yi:=hd0 (K6.out.trans K7 (atL _));have Hxr:=hd0 hxr;clear r7 S7 K7 he cH sD hx IY hN0 xX hkh yR hxr S6 K6 W6;go_wp2_with (at_builtin;refine aA HR7.out rfl rfl rfl rfl ?_)
      go_roundw
      case rel=>
       rcases yg.out with⟨n,IA,h1,h2,h3⟩|⟨h1,_⟩
       ·rw[Nk.out]at h1;injection h1 with h1;subst h1;refine⟨k+1,L1++[x],IA,tk,Fk,by omega,by go_num,hd0 (by have h:=HS7.out;rw[yE]at h;exact h),by simp[yE],hd0 (by rw[show m0-(k+1)=m0-k-1 by omega];exact h2),hd0 (by rw[VU.out,h3];simp),yi,hd0 (fun n hn=>?_)⟩;rcases auP.1 hn with hn|hn
        ·exact IW.out n hn
        ·simp at hn;subst hn;have:=Hxr.out;omega
       ·rw[Nk.out]at h1;cases h1
      case measure=>simp[intOf];omega
     ·have Z7:(aN data k==aN bg k)=false:=by simpa using he
      have Nk:Hid (fS bg data nums k=none):=hd0 (by unfold fS;rw[atR he]);obtain⟨lT,IA,h2,h3⟩:0<tk.pool.left/\∃ L',ij (fS bg data nums) (aN data) (m0-k-1) (k+1) ⟨lW tk.rd tk.pool.seek (aN data k),tk.pool.took⟩=.ok (L',t1)/\L2=(tk.pool.seek:Int)::L':=by
       rcases yg.out with⟨n,IA,h1,_⟩|⟨_,h⟩
       ·rw[Nk.out]at h1;cases h1
       ·exact h
      have PT:=hd0 (ng HS.out S6.out.src S6.out.pool S6.out.npb S6.out.blocks lT (aN data k) (by rw[ke];omega));have yL:=pF S6.out.pool.ok lT;have xQ:1<=tk.pool.seek/\tk.pool.seek<4096:=⟨yL.1,by have:=yL.2.1;have:=S6.out.blocks;omega⟩
      have IJ:=hd0 xQ;have H2:=hd0 h2;have H3:=hd0 h3;clear he yR h2 h3 yL xQ;go_wp2_with fail;refine PT.out.mono ?_;rintro e w7 ⟨rfl,F7,JY,pk,RS,ux,m7⟩;obtain⟨S7,K7⟩:=S6.out.put HS.out JY pk RS ux m7;have Zo:=hd0 (K6.out.trans K7 (atL _));obtain⟨g8,qW,w8,r8,S8,K8⟩:=S7.append HS.out I5 (tk.pool.seek:Int);have Zx:=hd0 r8;have Fr:=hd0 S8;have rR:=hd0 (Zo.out.trans K8 (atL _));clear JY pk RS ux m7 S7 K7 r8 S8 K8 S6 K6 W6 PT;go_wp2_with (at_builtin;refine aA Zx.out rfl rfl rfl rfl ?_)
      go_roundw
      case rel=>
       refine⟨k+1,L1++[(tk.pool.seek:Int)],IA,_,F7,by omega,by go_num,hd0 (by have h:=Fr.out;rw[yE]at h;exact h),by simp[yE],hd0 (by rw[show m0-(k+1)=m0-k-1 by omega];exact H2.out),hd0 (by rw[VU.out,H3.out];simp),rR,hd0 (fun n hn=>?_)⟩;rcases auP.1 hn with hn|hn
       ·exact IW.out n hn
       ·simp at hn;subst hn;have:=IJ.out;omega
      case measure=>simp[intOf];omega
    ·obtain rfl:k=m0:=by omega
     obtain⟨e1,e2⟩:=Dr (by have h:=Vn.out;rw[Nat.sub_self]at h;exact h);subst e2;have en:uA=L1:=by rw[VU.out,e1];simp
     subst en;clear e1 Vn VU NI;obtain⟨Lx0,XN,adS⟩:∃ Lx0,qq (nums.length==r.length+1) nums r 1 uA tk=.ok (Lx0,t)/\ns=uA::Lx0:=by
      have h:=RP.out
      cases hq:qq (nums.length==r.length+1) nums r 1 uA tk with
      |error e=>rw[hq]at h;cases h
      |ok x=>
       rw[hq]at h;simp only[Except.map]at h;injection h with h;injection h with h1 h2;exact⟨x.1,by rw[<-h2],h1.symm⟩
     have R3:Hid (∀(W:World) (Fj:Nat->Prop),dj F1 Fj pb w3.heap.size w3 W->Dq W s1.nb s1.rows s1.N/\World.blk W (ob+1) #[.int .i64 0,.int .i64 0] 42/\∀(j:Nat) (x:Nat),L[j]?=some x->W.cell? ⟨gs,os+j,none⟩=some (.int .i64 (x:Int))):=hd0 (fun W Fj K=>by
      refine⟨HW3.out.same (K.mod.on fun g hg hh=>?_),ab K.mod Is.out (fun hh=>?_),fun j x hj=>?_⟩
      ·obtain⟨a1,a2,_⟩:=Hwf.out g hg;have:=HW3.out.lt hg;rcases hh with hh|hh|hh
       ·exact a1 hh
       ·exact a2 hh
       ·omega
      ·rcases hh with hh|hh|hh
       ·exact Ko.out.1 hh
       ·exact Ko.out.2.1 hh
       ·have:=ai Is.out;omega
      ·obtain⟨b',o',e',c'⟩:=Hx3.out j (.int .i64 (x:Int)) (by rw[HL.out];simp[bi,gh,hj]);injection e' with e';injection e' with e1 e2;subst e1 e2;obtain⟨a1,a2,_⟩:=Hsv.out gs rfl;have hl:=am c';rw[<-c'];exact K.mod.cell (p:=⟨gs,os+j,none⟩) hl (fun hh=>by
        rcases hh with hh|hh|hh
        ·exact a1 hh
        ·exact a2 hh
        ·have:gs<w3.heap.size:=hl;have hh':w3.heap.size<=gs:=hh;omega))
     have WX:=hd0 XN;have adw:=hd0 adS;have hLr:L.length=r.length+1:=by rw[HLc.out];simp
     have ajv:Hid (∀ j,j+1<L.length->L.getD (j+1) 0=bN (L.getD j 0) 60):=hd0 (by rw[<-HL.out];exact mw _ hd);have aat:Hid (∀ n∈L,1<=n/\n<=69):=hd0 (by rw[<-HL.out];exact oS hd);have HLr:=hd0 hLr;have anp:1<=L.length:=by omega
     clear XN adS hLr;go_wp2_with fail
     go_loopw [20,15] (fun lv v wr=>∃(j:Nat) (lp Lx':List Int) (Lx:List (List Int)) (tj:gA) (Fj:Nat->Prop),1<=j/\j<=L.length/\lv=.int .i64 (j:Int)/\Hid (kU I blocks pb w3.heap.size wr Fj tj v lp)/\Hid (lp.length=L.getD (j-1) 0)/\Hid (qq (nums.length==r.length+1) nums (r.drop (j-1)) j lp tj=.ok (Lx,t))/\Hid (ns.getLastD []=(lp::Lx).getLastD [])/\Hid (dj F1 Fj pb w3.heap.size w3 wr)/\Hid (∀ n∈lp,0<=n/\n<4096)/\Lx'=lp) (fun lv _ _=>L.length-(intOf lv).toNat)
     case atStart=>exact⟨1,uA,uA,Lx0,tk,Fk,atL _,by omega,rfl,rU,hd0 (by rw[yE,HLc.out];rfl),hd0 WX.out,hd0 (by rw[adw.out]),Ov,IW,rfl⟩
     case round=>
      clear rU Ov IW WX adw;obtain⟨j,lp,_,Lx,tj,Fj,SP,ZT,rfl,rU,HNl,RP,I4,Ov,IW,_⟩:=hrel;by_cases Bq:j<L.length
      ·obtain⟨m1,mM⟩:∃ m1,L[j]?=some m1:=⟨_,atI Bq⟩
       have hmg:L.getD j 0=m1:=by rw[au3,mM];rfl
       have EM:r.drop (j-1)=m1::r.drop j:=by
        have h1:r[j-1]?=some m1:=by
         have h:=mM;rw[HLc.out,show j=(j-1)+1 by omega,List.getElem?_cons_succ]at h;exact h
        have h2:=(atX.1 h1)
        rw[List.drop_eq_getElem_cons h2.1,h2.2,show j-1+1=j by omega]
       obtain⟨nx,t2,hly,Lx2,acL,hLx⟩:∃ nx t2,ij (em (nums.length==r.length+1) nums lp j) (fun i=>cL (aT lp i)) m1 0 tj=.ok (nx,t2)/\∃ Lx2,qq (nums.length==r.length+1) nums (r.drop j) (j+1) nx t2=.ok (Lx2,t)/\Lx=nx::Lx2:=by
        have h:=RP.out;rw[EM]at h;unfold qq at h
        cases hq:ij (em (nums.length==r.length+1) nums lp j) (fun i=>cL (aT lp i)) m1 0 tj with
        |error e=>rw[hq]at h;cases h
        |ok x=>
         rw[hq]at h;simp only at h
         cases J0:qq (nums.length==r.length+1) nums (r.drop j) (j+1) x.1 x.2 with
         |error e=>rw[J0]at h;cases h
         |ok y=>
          rw[J0]at h;simp only[Except.map]at h;injection h with h;injection h with h1 h2;exact⟨x.1,x.2,rfl,y.1,by rw[J0,<-h2],h1.symm⟩
       obtain⟨st1,st2,RL⟩:=R3.out _ _ Ov.out;have cj:=RL j m1 mM;have anH:=aat.out m1 (atJ mM);have ae3:m1=bN lp.length 60:=by
        have h:=ajv.out (j-1) (by omega);rw[show j-1+1=j by omega,hmg,<-HNl.out]at h;exact h
       have Wt:lp.length<=69:=by
        rw[HNl.out,au3,atI (show j-1<L.length by omega)];exact(aat.out _ (aum _)).2
       have aix:(j:Int)<(L.length:Int):=by omega
       have apf:(m1:Int)<=69:=by omega
       have hgj:gs<wr.heap.size:=by have:=am cj;exact this
       obtain⟨an,NG,en,sj⟩:=aZ rU.out.row;rw[fL]at en;subst en;have LS0:Hid (kU I blocks pb wr.heap.size wr Fj tj (.slice none 0 0) []):=hd0 ⟨rU.out.src,rU.out.pool,rU.out.blocks,rU.out.npb,⟨rfl,.inl ⟨rfl,rfl⟩⟩,fun g hg=>(by cases hg),atL _⟩;have HWl:=hd0 st1;have Hly:=hd0 hly;have yQ:=hd0 acL;have HLx:=hd0 hLx;have ai6:=hd0 ae3;have HNw:=hd0 rU.out.row;have HNa:=hd0 rU.out.away;have Hmg:=hd0 hmg;have adH:w3.heap.size<=wr.heap.size:=rU.out.B;have HB:=hd0 adH;have Hnb:=hd0 Wt;have aex:=hd0 Ov.out;obtain⟨nl,xX⟩:∃ nl,lp.length=nl:=⟨_,rfl⟩
       have Hnl:=hd0 xX;rw[xX]at HNw HNa ⊢;clear EM hly acL hLx st1 st2 RL ae3 sj xX adH hmg mM rU RP Ov Wt;obtain⟨wl,rfl⟩:∃ wl,wl=wr:=⟨_,rfl⟩
       go_wp2_with fail
       go_loopw [104,21] (fun i v wq=>∃(k:Nat) (L1 L2:List Int) (tk:gA) (Fk:Nat->Prop),k<=m1/\i=.int .i64 (k:Int)/\Hid (kU I blocks pb wl.heap.size wq Fk tk v L1)/\L1.length=k/\Hid (ij (em (nums.length==r.length+1) nums lp j) (fun i=>cL (aT lp i)) (m1-k) k tk=.ok (L2,t2))/\Hid (nx=L1++L2)/\Hid (dj Fj Fk pb wl.heap.size wl wq)/\Hid (∀ n∈L1,0<=n/\n<4096)) (fun i _ _=>m1-(intOf i).toNat)
       case atStart=>exact⟨0,[],nx,tj,Fj,by omega,rfl,LS0,rfl,Hly,hd0 rfl,hd0 (dj.refl _ _ _ _),hd0 (by simp)⟩
       case round=>
        clear LS0 Hly cj;obtain⟨k,L1,L2,tk,Fk,hk,rfl,rU,yE,Vn,B9,Nn,uv⟩:=hrel;by_cases aqT:k<m1
        ·have dS:(k:Int)<(m1:Int):=by omega
         have BV:60*k<lp.length:=by
          have h1:=ai6.out;apply auG;intro hc;have:=(aJ (n:=lp.length) (each:=60) (k:=k) (by decide)).2 (by omega);omega
         have dr:ij (em (nums.length==r.length+1) nums lp j) (fun i=>cL (aT lp i)) ((m1-k-1)+1) k tk=.ok (L2,t2):=by
          rw[show m1-k-1+1=m1-k by omega];exact Vn.out
         have yg:=hd0 (zK dr);have I5:L1.length<=100000:=by omega
         have HKq:=hd0 (aex.out.trans (Nn.out.down HB.out) (atL _));obtain⟨sq1,_,_⟩:=R3.out _ _ HKq.out;have hnw:aL wr w3.heap.size (.slice an nl NG) lp:=by
          have h:=HNw.out;rw[<-Hnl.out]at h ⊢;exact az h fun g hg=>Nn.out.mod.block g (aS h hg) (fun hh=>by
           have ha:=HNa.out;rw[<-Hnl.out]at ha;rcases hh with hh|hh|hh
           ·exact(ha g hg).1 hh
           ·exact(ha g hg).2 hh
           ·have:=aS h hg;omega)
         have G1:=hd0 (zw lp k (.slice an nl NG) wr w3.heap.size hnw (by have:=Hnb.out;omega) BV);have hgl:(aT lp k).length<=60:=by rw[kg];omega
         have hgr:∀ n∈aT lp k,0<=n/\n<4294967296:=fun n hn=>by
          have:=IW.out n (List.mem_of_mem_drop (atN hn));omega
         have LD:=hd0 (fun W v (hv:ez W v (bi (aT lp k)))=>Dg (aT lp k) v W hv (by omega) hgr);have ZV:(cL (aT lp k)).length<=240:=by rw[vT];omega
         have HSQ:=hd0 sq1;clear dr hnw hgl hgr sq1;go_wp2_with fail;refine G1.out.mono ?_;rintro e w5 ⟨v5,rfl,hv5,rfl⟩;have L5:=hd0 (LD.out _ _ hv5);clear hv5 LD G1;obtain⟨sg,hsg⟩:∃ sg,cL (aT lp k)=sg:=⟨_,rfl⟩
         rw[hsg]at L5 ZV;have Hsg:=hd0 hsg;have ZF:=hd0 ZV;clear hsg ZV;go_wp2_with fail;refine L5.out.mono ?_;rintro e w6 ⟨rfl,re⟩;have S6:=hd0 (rU.out.keep HS.out re);have K6:=hd0 (Nn.out.keep re);have W6:=hd0 (HSQ.out.same (re.on fun _ _=>id));clear re L5 rU Nn HKq HSQ BV;by_cases Ob:nums.length=L.length
         ·have ajh:((nums.length:Nat):Int)=(L.length:Int):=by omega
          have ai9:(nums.length==r.length+1)=true:=by rw[Ob,HLr.out];simp
          have ED:j<nums.length:=by omega
          obtain⟨vj,hvj⟩:∃ vj,s1.rows[j]?=some vj:=⟨_,atI (by rw[Hrl.out];exact ED)⟩
          have cH:=W6.out.row j vj hvj;rw[HNr.out,Zv.out j ED]at cH;obtain⟨aj,adi,ej,hxj⟩:=aZ cH;rw[fL]at ej;obtain⟨nj,Kt⟩:∃ nj,(nums.getD j []).length=nj:=⟨_,rfl⟩
          rw[Kt]at ej;subst ej;have cnj:w6.cell? ⟨s1.nb,j,none⟩=some (.slice aj nj adi):=by rw[aa W6.out.nums j];simpa using hvj
          have aq7:(j:Int)<(nums.length:Int):=by omega
          have apj:nj<=69:=by
           rw[<-Kt,fO HT.out,au3]
           cases hq:(au bg.length)[j]? with
           |none=>simp
           |some y=>exact(oS hh y (atJ hq)).2
          have Hnj:=hd0 Kt;have Hxj:=hd0 hxj;clear cH hvj Kt hxj;have hlL:(((nums.length:Nat):Int)==(L.length:Int))=true:=by rw[Ob];simp
          clear Ob ajh;by_cases hkj:k<nj
          ·have aiC:(k:Int)<(nj:Int):=by omega
           have ahV:decide ((k:Int)<(nj:Int))=true:=by simpa using aiC
           obtain⟨vp,hvp⟩:∃ vp,s1.rows[j-1]?=some vp:=⟨_,atI (by rw[Hrl.out];omega)⟩
           have hrp:=W6.out.row (j-1) vp hvp;rw[HNr.out,Zv.out (j-1) (by omega)]at hrp;have hjp:((j-1:Nat):Int)=(j:Int)-1:=by omega
           have cnp:w6.cell? ⟨s1.nb,j-1,none⟩=some vp:=by rw[aa W6.out.nums (j-1)];simpa using hvp
           have nI:60*k<(nums.getD (j-1) []).length:=by
            have h1:=Hnj.out;rw[fO HT.out]at h1 ⊢;have h2:=mw bg.length hh (j-1) (by rw[<-Lq HT.out];omega);rw[show j-1+1=j by omega,h1]at h2;apply auG;intro hc;have:=(aJ (n:=(au bg.length).getD (j-1) 0) (each:=60) (k:=k) (by decide)).2 (by omega);omega
           have ahG:(nums.getD (j-1) []).length<=69:=by
            rw[fO HT.out,au3]
            cases hq:(au bg.length)[j-1]? with
            |none=>simp
            |some y=>exact(oS hh y (atJ hq)).2
           have G2:=hd0 (zw (nums.getD (j-1) []) k vp w6 0 hrp (by omega) nI);have ack:∀ n∈aT (nums.getD (j-1) []) k,0<=n/\n<4294967296:=fun n hn=>by
            have hm:=List.mem_of_mem_drop (atN hn);obtain⟨q,hq⟩:=au0 hm;have:=ms HT.out hq;omega
           have aiI:(aT (nums.getD (j-1) []) k).length<=60:=by rw[kg];omega
           have LD2:=hd0 (fun W v (hv:ez W v (bi (aT (nums.getD (j-1) []) k)))=>Dg (aT (nums.getD (j-1) []) k) v W hv (by omega) ack);obtain⟨avp,nvp,cvp,evp⟩:∃ a n c,vp=.slice a n c:=by
            rcases hrp.2 with⟨h,_⟩|⟨g,cap,du,h,_⟩
            ·exact⟨_,_,_,h⟩
            ·exact⟨_,_,_,h⟩
           subst evp;clear hrp hvp nI ahG ack aiI;go_wp2_with fail;refine G2.out.mono ?_;rintro e w7 ⟨v7,rfl,hv7,rfl⟩;have L7:=hd0 (LD2.out _ _ hv7);clear hv7 LD2 G2;obtain⟨sw,hsw⟩:∃ sw,cL (aT (nums.getD (j-1) []) k)=sw:=⟨_,rfl⟩
           rw[hsw]at L7;have Hsw:=hd0 hsw;clear hsw;go_wp2_with fail;refine L7.out.mono ?_;rintro e w8 ⟨rfl,lA⟩;have S6:=hd0 (S6.out.keep HS.out lA);have K6:=hd0 (K6.out.keep lA);have W6:=hd0 (W6.out.same (lA.on fun _ _=>id));have aoM:w8.cell? ⟨s1.nb,j,none⟩=some (.slice aj nj adi):=(lA.cell (p:=⟨s1.nb,j,none⟩) (am cnj) id).trans cnj;by_cases hss:sg=sw
           ·have Z7:(sg==sw)=true:=by rw[hss];simp
            obtain⟨x,hx⟩:∃ x,(nums.getD j [])[k]?=some x:=⟨_,atI (by rw[Hnj.out];exact hkj)⟩
            obtain⟨bj,oj,eaj,cxj⟩:=Hxj.out k (.int .i64 x) (by simp only[bi,auM,hx];rfl);subst eaj;have cx8:w8.cell? ⟨bj,oj+k,none⟩=some (.int .i64 x):=(lA.cell (p:=⟨bj,oj+k,none⟩) (am cxj) id).trans cxj;have hxr:=ms HT.out hx;have Nk:Hid (em (nums.length==r.length+1) nums lp j k=some x):=hd0 (by
             unfold em;rw[atP ⟨ai9,by rw[Hnj.out];exact hkj,by rw[Hsg.out,Hsw.out,hss]⟩];simp only[au3]at hx ⊢;rw[hx];rfl)
            obtain⟨g9,ajs,w9,r9,S9,K9⟩:=S6.out.append HS.out I5 x;have HR9:=hd0 r9;have HS9:=hd0 S9;have Bu:=hd0 (K6.out.trans K9 (atL _));have Hxr:=hd0 hxr;clear r9 S9 K9 hx hxr S6 K6 W6 lA L7 cxj cnj Hxj hss;go_wp2_with (at_builtin;refine aA HR9.out rfl rfl rfl rfl ?_)
            go_roundw
            case rel=>
             rcases yg.out with⟨n,IA,h1,h2,h3⟩|⟨h1,_⟩
             ·rw[Nk.out]at h1;injection h1 with h1;subst h1;refine⟨k+1,L1++[x],IA,tk,Fk,by omega,by go_num,hd0 (by have h:=HS9.out;rw[yE]at h;exact h),by simp[yE],hd0 (by rw[show m1-(k+1)=m1-k-1 by omega];exact h2),hd0 (by rw[B9.out,h3];simp),Bu,hd0 (fun n hn=>?_)⟩;rcases auP.1 hn with hn|hn
              ·exact uv.out n hn
              ·simp at hn;subst hn;have:=Hxr.out;omega
             ·rw[Nk.out]at h1;cases h1
            case measure=>simp[intOf];omega
           ·have Z7:(sg==sw)=false:=by simpa using hss
            have Nk:Hid (em (nums.length==r.length+1) nums lp j k=none):=hd0 (by
             unfold em;rw[atR (fun h=>hss (by rw[<-Hsg.out,<-Hsw.out];exact h.2.2))])
            clear hss lA L7 cnj Hxj;obtain⟨lT,IA,h2,h3⟩:0<tk.pool.left/\∃ L',ij (em (nums.length==r.length+1) nums lp j) (fun i=>cL (aT lp i)) (m1-k-1) (k+1) ⟨lW tk.rd tk.pool.seek (cL (aT lp k)),tk.pool.took⟩=.ok (L',t2)/\L2=(tk.pool.seek:Int)::L':=by
             rcases yg.out with⟨n,IA,h1,_⟩|⟨_,h⟩
             ·rw[Nk.out]at h1;cases h1
             ·exact h
            rw[Hsg.out]at h2;have PT:=hd0 (ng HS.out S6.out.src S6.out.pool S6.out.npb S6.out.blocks lT sg ZF.out);have yL:=pF S6.out.pool.ok lT;have xQ:1<=tk.pool.seek/\tk.pool.seek<4096:=⟨yL.1,by have:=yL.2.1;have:=S6.out.blocks;omega⟩
            have IJ:=hd0 xQ;have H2:=hd0 h2;have H3:=hd0 h3;clear h2 h3 yL xQ;go_wp2_with fail;refine PT.out.mono ?_;rintro e w7 ⟨rfl,F7,JY,pk,RS,ux,m7⟩;obtain⟨S7,K7⟩:=S6.out.put HS.out JY pk RS ux m7;have Zo:=hd0 (K6.out.trans K7 (atL _));obtain⟨g8,qW,w8,r8,S8,K8⟩:=S7.append HS.out I5 (tk.pool.seek:Int);have Zx:=hd0 r8;have Fr:=hd0 S8;have rR:=hd0 (Zo.out.trans K8 (atL _));clear JY pk RS ux m7 S7 K7 r8 S8 K8 S6 K6 W6 PT;go_wp2_with (at_builtin;refine aA Zx.out rfl rfl rfl rfl ?_)
            go_roundw
            case rel=>
             refine⟨k+1,L1++[(tk.pool.seek:Int)],IA,_,F7,by omega,by go_num,hd0 (by have h:=Fr.out;rw[yE]at h;exact h),by simp[yE],hd0 (by rw[show m1-(k+1)=m1-k-1 by omega];exact H2.out),hd0 (by rw[B9.out,H3.out];simp),rR,hd0 (fun n hn=>?_)⟩;rcases auP.1 hn with hn|hn
             ·exact uv.out n hn
             ·simp at hn;subst hn;have:=IJ.out;omega
            case measure=>simp[intOf];omega
          ·have ahV:decide ((k:Int)<(nj:Int))=false:=by simp;omega
           have ap6:¬(k:Int)<(nj:Int):=by omega
           have Nk:Hid (em (nums.length==r.length+1) nums lp j k=none):=hd0 (by
            unfold em;rw[atR (fun h=>hkj (by rw[<-Hnj.out];exact h.2.1))])
           clear hkj Hxj;obtain⟨lT,IA,h2,h3⟩:0<tk.pool.left/\∃ L',ij (em (nums.length==r.length+1) nums lp j) (fun i=>cL (aT lp i)) (m1-k-1) (k+1) ⟨lW tk.rd tk.pool.seek (cL (aT lp k)),tk.pool.took⟩=.ok (L',t2)/\L2=(tk.pool.seek:Int)::L':=by
            rcases yg.out with⟨n,IA,h1,_⟩|⟨_,h⟩
            ·rw[Nk.out]at h1;cases h1
            ·exact h
           rw[Hsg.out]at h2;have PT:=hd0 (ng HS.out S6.out.src S6.out.pool S6.out.npb S6.out.blocks lT sg ZF.out);have yL:=pF S6.out.pool.ok lT;have xQ:1<=tk.pool.seek/\tk.pool.seek<4096:=⟨yL.1,by have:=yL.2.1;have:=S6.out.blocks;omega⟩
           have IJ:=hd0 xQ;have H2:=hd0 h2;have H3:=hd0 h3;clear h2 h3 yL xQ;go_wp2_with fail;refine PT.out.mono ?_;rintro e w7 ⟨rfl,F7,JY,pk,RS,ux,m7⟩;obtain⟨S7,K7⟩:=S6.out.put HS.out JY pk RS ux m7;have Zo:=hd0 (K6.out.trans K7 (atL _));obtain⟨g8,qW,w8,r8,S8,K8⟩:=S7.append HS.out I5 (tk.pool.seek:Int);have Zx:=hd0 r8;have Fr:=hd0 S8;have rR:=hd0 (Zo.out.trans K8 (atL _));clear JY pk RS ux m7 S7 K7 r8 S8 K8 S6 K6 W6 PT;go_wp2_with (at_builtin;refine aA Zx.out rfl rfl rfl rfl ?_)
           go_roundw
           case rel=>
            refine⟨k+1,L1++[(tk.pool.seek:Int)],IA,_,F7,by omega,by go_num,hd0 (by have h:=Fr.out;rw[yE]at h;exact h),by simp[yE],hd0 (by rw[show m1-(k+1)=m1-k-1 by omega];exact H2.out),hd0 (by rw[B9.out,H3.out];simp),rR,hd0 (fun n hn=>?_)⟩;rcases auP.1 hn with hn|hn
            ·exact uv.out n hn
            ·simp at hn;subst hn;have:=IJ.out;omega
           case measure=>simp[intOf];omega
         ·have hlL:(((nums.length:Nat):Int)==(L.length:Int))=false:=by rw[auv];omega
          have Nk:Hid (em (nums.length==r.length+1) nums lp j k=none):=hd0 (by
           unfold em;rw[atR (fun h=>Ob (by rw[HLr.out];simpa using h.1))])
          clear Ob;obtain⟨lT,IA,h2,h3⟩:0<tk.pool.left/\∃ L',ij (em (nums.length==r.length+1) nums lp j) (fun i=>cL (aT lp i)) (m1-k-1) (k+1) ⟨lW tk.rd tk.pool.seek (cL (aT lp k)),tk.pool.took⟩=.ok (L',t2)/\L2=(tk.pool.seek:Int)::L':=by
           rcases yg.out with⟨n,IA,h1,_⟩|⟨_,h⟩
           ·rw[Nk.out]at h1;cases h1
           ·exact h
          rw[Hsg.out]at h2;have PT:=hd0 (ng HS.out S6.out.src S6.out.pool S6.out.npb S6.out.blocks lT sg ZF.out);have yL:=pF S6.out.pool.ok lT;have xQ:1<=tk.pool.seek/\tk.pool.seek<4096:=⟨yL.1,by have:=yL.2.1;have:=S6.out.blocks;omega⟩
          have IJ:=hd0 xQ;have H2:=hd0 h2;have H3:=hd0 h3;clear h2 h3 yL xQ;go_wp2_with fail;refine PT.out.mono ?_;rintro e w7 ⟨rfl,F7,JY,pk,RS,ux,m7⟩;obtain⟨S7,K7⟩:=S6.out.put HS.out JY pk RS ux m7;have Zo:=hd0 (K6.out.trans K7 (atL _));obtain⟨g8,qW,w8,r8,S8,K8⟩:=S7.append HS.out I5 (tk.pool.seek:Int);have Zx:=hd0 r8;have Fr:=hd0 S8;have rR:=hd0 (Zo.out.trans K8 (atL _));clear JY pk RS ux m7 S7 K7 r8 S8 K8 S6 K6 W6 PT;go_wp2_with (at_builtin;refine aA Zx.out rfl rfl rfl rfl ?_)
          go_roundw
          case rel=>
           refine⟨k+1,L1++[(tk.pool.seek:Int)],IA,_,F7,by omega,by go_num,hd0 (by have h:=Fr.out;rw[yE]at h;exact h),by simp[yE],hd0 (by rw[show m1-(k+1)=m1-k-1 by omega];exact H2.out),hd0 (by rw[B9.out,H3.out];simp),rR,hd0 (fun n hn=>?_)⟩;rcases auP.1 hn with hn|hn
           ·exact uv.out n hn
           ·simp at hn;subst hn;have:=IJ.out;omega
          case measure=>simp[intOf];omega
        ·obtain rfl:k=m1:=by omega
         obtain⟨e1,e2⟩:=Dr (by have h:=Vn.out;rw[Nat.sub_self]at h;exact h);subst e2;have en:nx=L1:=by rw[B9.out,e1];simp
         subst en;have HKf:=hd0 (aex.out.trans (Nn.out.down HB.out) (atL _));have HLf:Hid (kU I blocks pb w3.heap.size wr Fk tk u21 nx):=hd0 ⟨rU.out.src,rU.out.pool,rU.out.blocks,rU.out.npb,eL rU.out.row HB.out,rU.out.away,atE HB.out rU.out.B⟩;have HNx:Hid (nx.length=L.getD (j+1-1) 0):=hd0 (by rw[Nat.add_sub_cancel,Hmg.out];exact yE);have yH:Hid (qq (nums.length==r.length+1) nums (r.drop (j+1-1)) (j+1) nx tk=.ok (Lx2,t)):=hd0 (by rw[Nat.add_sub_cancel];exact yQ.out);have adR:Hid (ns.getLastD []=(nx::Lx2).getLastD []):=hd0 (by rw[I4.out,HLx.out];rfl);clear e1 Vn B9 rU Nn;go_wp2_with fail
         go_roundw
         case rel=>exact⟨j+1,nx,nx,Lx2,tk,Fk,by omega,by omega,by go_num,HLf,HNx,yH,adR,HKf,uv,rfl⟩
         case measure=>simp[intOf];omega
      ·obtain rfl:j=L.length:=by omega
       have sq:Lx=[]/\tj=t:=by
        have h:=RP.out;rw[List.drop_of_length_le (by have:=HLr.out;omega)]at h;unfold qq at h;injection h with h;injection h with h1 h2;exact⟨h1.symm,h2⟩
       obtain⟨rfl,rfl⟩:=sq;have hN1:1<=lp.length:=by
        rw[HNl.out,au3,atI (show L.length-1<L.length by omega)];exact(aat.out _ (aum _)).1
       obtain⟨x0,sD⟩:∃ x0,lp[0]?=some x0:=⟨_,atI (by omega)⟩
       obtain⟨an,NG,en,sj⟩:=aZ rU.out.row;obtain⟨bn,on,ean,cn⟩:=sj 0 (.int .i64 x0) (by simp[bi,sD]);rw[fL]at en;subst en ean;rw[Nat.add_zero]at cn;have aiR:(0:Int)<(lp.length:Int):=by omega
       obtain⟨_,hrs,_⟩:=R3.out _ _ Ov.out;have f0:=ae hrs ⟨ob+1,0,none⟩ rfl;have f1:=ae hrs ⟨ob+1,1,none⟩ rfl;have r0:wr.cell? ⟨ob+1,0,none⟩=some (.int .i64 0):=aa hrs 0;have r1:wr.cell? ⟨ob+1,1,none⟩=some (.int .i64 0):=aa hrs 1;have B4:=hd0 (ag (ag hrs 0 (.int .i64 x0)) 1 (.int .i64 (data.length:Int)));have m4:ah (fun g=>g=ob+1) wr ((wr.setCell ⟨ob+1,0,none⟩ (.int .i64 x0)).setCell ⟨ob+1,1,none⟩ (.int .i64 (data.length:Int))):=((ah.refl (fun g=>g=ob+1) wr).setCell (p:=⟨ob+1,0,none⟩) (.inl rfl) _).setCell (p:=⟨ob+1,1,none⟩) (.inl rfl) _;have rf:=hd0 m4;have Hx0:=hd0 sD;obtain⟨nl,xX⟩:∃ nl,lp.length=nl:=⟨_,rfl⟩
       rw[xX]at aiR ⊢;clear hrs m4 sj sD xX hN1;go_wp2_with fail;obtain⟨W4,hW4⟩:∃ W4,(wr.setCell ⟨ob+1,0,none⟩ (.int .i64 x0)).setCell ⟨ob+1,1,none⟩ (.int .i64 (data.length:Int))=W4:=⟨_,rfl⟩
       rw[hW4]at B4 rf ⊢;have q0:W4.cell? ⟨ob+1,0,none⟩=some (.int .i64 x0):=aa B4.out 0;have q1:W4.cell? ⟨ob+1,1,none⟩=some (.int .i64 (data.length:Int)):=aa B4.out 1;have qS:b=⟨x0,data.length⟩:=by
        rw[Hbl.out,atR hz]
        congr 1
        unfold iF;rw[I4.out];show lp.getD 0 0=x0;rw[au3,Hx0.out];rfl
       refine auj (v:=.tuple #[db ⟨x0,data.length⟩,.int .i64 0]) (by simp[results,Tryz.results212,go_sem,q0,q1,db]) rfl ?_;unfold sR;rw[qS];have uU:ah (fun g=>F g\/g=pb) w wr:=(nL.out.mono (T:=fun g=>F g\/g=pb) (fun _ _ h=>.inl h)).trans Ov.out.mod (fun g hg hh=>by
        rcases hh with hh|hh|hh
        ·exact(Hf1.out g hh).elim .inl (fun h2=>by omega)
        ·exact .inr hh
        ·have:=nL.out.size;omega)
       refine⟨rfl,Fj,(HS.out.src _).same rU.out.src (rf.out.on fun g hg e=>?_) rf.out.size,rU.out.pool.mod rf.out (fun e=>Ko.out.2.1 e.symm),fun g hg=>?_,rU.out.npb,uU.trans rf.out (fun g hg e=>by have:=xU.out;omega)⟩
       ·subst e;exact(Ov.out.foot _ hg).elim Ko.out.1 (fun h2=>by have:=ai Is.out;omega)
       ·rcases Ov.out.foot g hg with h|h
        ·exact Hf1.out g h
        ·exact .inr (atE nL.out.size h)
end
end Go.Proofs.YtkghpdcloaiflaaGreatDoor
