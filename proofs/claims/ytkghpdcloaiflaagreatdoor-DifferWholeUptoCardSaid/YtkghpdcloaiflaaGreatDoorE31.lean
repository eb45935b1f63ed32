import Derived.Test.YtkghpdcloaiflaaGreatDoorE30
import Derived.Lib.SliceRun
set_option maxHeartbeats 4000000
set_option maxRecDepth 100000
namespace Go.Proofs.YtkghpdcloaiflaaGreatDoor
open _root_.Go.Proofs.Tryz
section
open Go
section
variable {P:Program}{aD:Array Oper}{md:Region.Mode}{D1 D2:World->Prop}{Q:Exit->Act->World->Prop}
def yO (P:Program)(md:Region.Mode)(aD:Array Oper)(Q:Exit->Act->World->Prop)(p:Nat)(D1 D2:World->Prop):Nat->Bool->Array Bool->Act->World->Prop
 |0,pl,_,a,w=>(D1 w/\(pl=true\/D2 w))/\Q .normal a w
 |f+1,pl,listed,a,w=>(D1 w/\(pl=true\/D2 w))/\∀ i∈Region.ready md aD listed,match aD[i]? with
  |none=>False
  |some o=>wpList P aD (fun e a' w'=>match e with | .normal=>yO P md aD Q p D1 D2 f (pl||i==p) (listed.setIfInBounds i true) a' w'|e=>Q e a' w') [o] a w
def Ev (md:Region.Mode)(aD:Array Oper):Nat->Array Bool->Bool
 |0,listed=>(Region.ready md aD listed).isEmpty
 |f+1,listed=>!(Region.ready md aD listed).isEmpty&&(Region.ready md aD listed).all fun i=>Ev md aD f (listed.setIfInBounds i true)
theorem sB {p:Nat}:∀(f:Nat) (pl:Bool) (listed:Array Bool) (a:Act) (w:World),Ev md aD f listed=true->(pl=true->listed.getD p false=true)->listed.size=aD.size->yO P md aD Q p D1 D2 f pl listed a w->gP P md aD Q (DP p D1 D2) f listed a w
 |0,pl,listed,a,w,hB,hp,_,h=>⟨⟨h.1.1,h.1.2.imp hp id⟩,by simpa[Ev]using hB,h.2⟩
 |f+1,pl,listed,a,w,hB,hp,hls,h=>by
  simp only[Ev,auT,Bool.not_eq_true',auU]at hB;refine⟨⟨h.1.1,h.1.2.imp hp id⟩,fun h1=>(by rw[h1]at hB;simp at hB),fun k hk=>?_⟩;have h2:=h.2 k hk;have hBk:=hB.2 k hk
  cases h0:aD[k]? with
  |none=>rw[h0]at h2;exact h2.elim
  |some o=>
   rw[h0]at h2;simp only at h2;have hw:wpOp P aD Q k (yO P md aD Q p D1 D2 f (pl||k==p) (listed.setIfInBounds k true)) a w:=by
    unfold wpOp;simp only[h0];unfold wpList at h2;split
    ·rename_i hwt
     rw[auI hwt]at h2;rcases h2 with h2|⟨h2,h3⟩
     ·exact .inl (oU h2)
     ·exact .inr ⟨h2,h3⟩
    ·rename_i hwt
     rw[auK hwt]at h2;exact h2
   refine wpOp_mono (fun a' w' h'=>sB f (pl||k==p) _ a' w' hBk (fun e=>?_) (by simpa using hls) h') hw;rw[auV]at e;by_cases TB:k=p
   ·subst TB;have aL:k<listed.size:=by rw[hls];exact(auW.1 h0).1
    simp[aL]
   ·exact getD_set_true (hp (e.resolve_right (by simpa using TB)))
theorem gI {p:Nat}{pl:Bool}{listed:Array Bool}{a:Act}{w:World}(hd:D1 w/\(pl=true\/D2 w))(h:Q .normal a w):yO P md aD Q p D1 D2 0 pl listed a w:=⟨hd,h⟩
theorem aY {p f i:Nat}{pl:Bool}{listed:Array Bool}{a:Act}{w:World}{o:Oper}(hr:Region.ready md aD listed=[i])(h0:aD[i]?=some o)(hd:D1 w/\(pl=true\/D2 w))
  (h:wpList P aD (fun e a' w'=>match e with | .normal=>yO P md aD Q p D1 D2 f (pl||i==p) (listed.setIfInBounds i true) a' w'|e=>Q e a' w') [o] a w):yO P md aD Q p D1 D2 (f+1) pl listed a w:=by
 refine⟨hd,fun k hk=>?_⟩;rw[hr]at hk;obtain rfl:k=i:=by simpa using hk
 rw[h0];exact h
theorem lu {p f i j:Nat}{pl:Bool}{listed:Array Bool}{a:Act}{w:World}{o o':Oper}(hr:Region.ready md aD listed=[i,j])(h0:aD[i]?=some o)(h1:aD[j]?=some o')(hd:D1 w/\(pl=true\/D2 w))
  (h:wpList P aD (fun e a' w'=>match e with | .normal=>yO P md aD Q p D1 D2 f (pl||i==p) (listed.setIfInBounds i true) a' w'|e=>Q e a' w') [o] a w)
  (h':wpList P aD (fun e a' w'=>match e with | .normal=>yO P md aD Q p D1 D2 f (pl||j==p) (listed.setIfInBounds j true) a' w'|e=>Q e a' w') [o'] a w):yO P md aD Q p D1 D2 (f+1) pl listed a w:=by
 refine⟨hd,fun k hk=>?_⟩;rw[hr]at hk;rcases auX.1 hk with rfl|hk
 ·rw[h0];exact h
 ·obtain rfl:k=j:=by simpa using hk
  rw[h1];exact h'
def QM (md:Region.Mode)(aD:Array Oper)(p:Nat)(js:List Nat)(f:Nat):Bool:=
 Region.noSelect aD&&decide (js.length+f=aD.size)&&Dg md aD p js (Array.replicate aD.size false)&&Ev md aD f (wj js (Array.replicate aD.size false))
theorem jX {P:Program}{id:Nat}{Q:Exit->Act->World->Prop}{a:Act}{w:World}{l:List Oper}(p:Nat)(js:List Nat)(f:Nat)(D1 D2:World->Prop)(hm:P.follows .mixedOrders=true)(hB:QM .any l.toArray p js f=true)
  (hQ:∀ c o v a w,Q (.panic c) (Act.put a o v) w->Q (.panic c) a w)
  (h:lP P .any l.toArray p D1 D2 (fun a'=>yO P .any l.toArray Q p D1 D2 f false (wj js (Array.replicate l.toArray.size false)) a' { w with drawn:=w.drawn+1 }) js a):(Code.region id l.toArray true).wp P Q a w:=by
 simp only[QM,auT,auY]at hB;obtain⟨⟨⟨fO,aV⟩,dg⟩,Jr⟩:=hB;refine wp_region_any hm ?_;have H:=mc (md:=.any) (Q:=Q) (g:=f) fO hQ { w with drawn:=w.drawn+1 } js (Array.replicate l.toArray.size false) a (fun j oj _ hl=>by rw[auZ]at hl;simp at hl)
  (fun a' FS=>sB f false _ a' _ Jr (fun e=>by cases e) (by rw[qM];simp) FS) dg h
 rw[aV]at H;exact rS H
end
end
section
open Go.RowKit Go.Shelf
attribute [local go_sem] auv
theorem QN {w:World}{base:Nat}{v:Value}{l:List Int}(h:aN w base v l)(h0:∀ n∈l,0<=n):eJ w v (qj (l.map Int.toNat)):=by
 have h1:=bd h;have e:qj (l.map Int.toNat)=bo l:=by
  unfold qj bo;rw[au0];apply au1;intro n hn;have:=h0 n hn;show Value.int .i64 ((n.toNat:Nat):Int)=Value.int .i64 n;rw[Int.toNat_of_nonneg this]
 rw[e];exact h1
theorem Ew:∀(s:az),4*(cr s).length<=s.length
 |[]=>by simp[cr]
 |[_]=>by simp[cr]
 |[_,_]=>by simp[cr]
 |[_,_,_]=>by simp[cr]
 |a::b::c::d::r=>by
  have:=Ew r;simp only[cr,auA];omega
theorem Ex {f:Nat->Int->Except Int ry}{B:Nat}:∀(l:List Int) (i:Nat) (o:ry),(∀ i n o,f i n=.ok o->o.1.length<=B)->cL f i l=.ok o->o.1.length<=B*l.length
 |[],_,o,_,h=>by
  simp only[cL]at h;injection h with h;subst h;simp
 |n::r,i,o,hf,h=>by
  simp only[cL]at h
  cases ha:f i n with
  |error e=>rw[ha]at h;cases h
  |ok a=>
   rw[ha]at h;simp only at h
   cases hb:cL f (i+1) r with
   |error e=>rw[hb]at h;cases h
   |ok b=>
    rw[hb]at h;simp only at h;injection h with h;subst h;have h1:=hf i n a ha;have h2:=Ex r (i+1) b hf hb;simp only[auS,auA,Nat.mul_succ];omega
theorem QO (rd:Rd)(ch:Bool)(size:Nat):∀(l i:Nat) (n:Int) (o:ry),oc rd ch size l i n=.ok o->o.1.length<=61 ^ l
 |0,i,n,o,h=>by
  unfold oc at h;split at h
  ·split at h
   ·cases h
   ·split at h
    ·cases h
    ·injection h with h;subst h;simp
  ·injection h with h;subst h;simp
 |l+1,i,n,o,h=>by
  unfold oc at h;split at h
  ·cases h
  ·rename_i s _
   split at h
   ·cases h
   ·rename_i hs
    split at h
    ·cases h
    ·rename_i o' ho
     injection h with h;subst h;have h1:=Ex _ _ _ (fun i n o h=>QO rd ch size l i n o h) ho;have h2:=Ew s;have h3:(cr s).length<=60:=by omega
     have h4:61 ^ l*(cr s).length<=61 ^ l*60:=au2 _ h3;have h5:1<=61 ^ l:=Nat.one_le_pow _ _ (by decide);simp only[auA];rw[au3];omega
theorem Mz {rd:Rd}{b:fP}{l:List Int}(h:oM rd b=.ok l):l.length<=4000:=by
 unfold oM at h
 cases ho:ei rd b false with
 |error e=>rw[ho]at h;cases h
 |ok o=>
  rw[ho]at h;injection h with h;subst h;show(dP o.1).length<=4000;unfold dP;rw[au4];unfold ei at ho;split at ho
  ·cases ho
  ·split at ho
   ·injection ho with ho;subst ho;simp
   ·have h1:=QO _ _ _ _ _ _ _ ho;have h2:(au b.size.toNat).length-1<=2:=by
     rcases aM b.size.toNat with⟨_,e⟩|⟨_,_,e⟩|⟨_,_,e⟩|⟨_,e⟩<;>rw[e]<;>simp
    have h3:61 ^ ((au b.size.toNat).length-1)<=61 ^ 2:=au5 (by decide) h2;omega
theorem Ey {rd:Rd}{data:az}{b:fP}{S:Nat->Prop}(h:aR rd data b S){set s:az}(hl:set.length<=600)(e:dL rd set b=.ok s):s.length<=600:=by
 obtain⟨l,e1,vw⟩:=h.reach;unfold dL at e;rw[e1]at e;simp only at e;split at e
 ·injection e with e;rw[<-e];refine aux (lS _ _) ?_;have:(iO (l.map Int.toNat)).length<=4095/8+1:=Ba fun x hx=>by
   obtain⟨n,hn,rfl⟩:=au6.1 hx;obtain⟨k,rfl,hk⟩:=(vw n).1 hn;have:=h.lt hk;simp;omega
  omega
 ·cases e
theorem Ez {ty:TypeId}{rv:Value}{f:FuncId}{I:World->(Nat->Prop)->Prop}{rd:Rd}(S:qr ty rv f I rd){w:World}{F:Nat->Prop}(hI:I w F)(set:az)(ac8:set.length<=600){data:az}{b:fP}{S0:Nat->Prop}(hb:aR rd data b S0)(s:az)(hs:dL rd set b=.ok s):
  Calls prog 79 #[.iface ty rv,aC set,dd b] w fun e w'=>e=.returned (.tuple #[aC s,.int .i64 0])/\∃ F',I w' F'/\d6 F F' w w':=by
 obtain⟨l,e1,vw⟩:=hb.reach;have hr:∀ n∈l,0<=n/\n<=4095:=fun n hn=>by
  obtain⟨k,rfl,hk⟩:=(vw n).1 hn;have:=hb.lt hk;omega
 have es:eH set (iO (l.map Int.toNat))=s:=by
  unfold dL at hs;rw[e1]at hs;simp only at hs;rw[auI (by rw[auU];intro x hx;have:=hr x hx;simp;omega)]at hs;injection hs
 have hm:b.may=true:=by
  have:=hb.may;unfold fP.ok at this;simp only[auT]at this;exact this.1.1
 have tX:l.length<=1000000:=by have:=Mz e1;omega
 have dE:af w (w.alloc (.cells #[.int .i64 b.root,.int .i64 b.size] 42)):=(ah.refl _ w).alloc _;have R:=hd0 (LZ S (S.same hI (dE.on fun _ _=>id) dE.size) b hm l e1);have dO:=hd0 dE;have HS:=hd0 S;have Hr:=hd0 hr;have Hes:=hd0 es;clear hI hs dE hr es vw e1 hb;unfold dd at R ⊢;go_enter func79,ntmps79;go_wp2_with fail;refine R.out.mono ?_;rintro e w1 ⟨v,rfl,ho,F1,NR,hk1,nT⟩;have OF:=hd0 (Bc (l.map Int.toNat) v w1 (QN ho fun n hn=>(Hr.out n hn).1) (by simpa using tX) (fun n hn=>by
  obtain⟨z,hz,rfl⟩:=au6.1 hn;have:=Hr.out z hz;omega))
 have Ym:=hd0 NR;have bU:Hid (d6 F F1 w w1):=hd0 ⟨(dO.out.mono (T:=F) (fun _ _ h=>h.elim)).trans hk1.mod (fun _ _ h=>h),fun g hg=>(hk1.foot g hg).imp id (fun h=>aux dO.out.size h)⟩;clear ho NR hk1 nT R;go_wp2_with fail;refine OF.out.mono ?_;rintro e w2 ⟨rfl,k2⟩;have OR:=hd0 (fun W=>lT set (iO (l.map Int.toNat)) W (by omega) (by
  have:(iO (l.map Int.toNat)).length<=4095/8+1:=Ba fun x hx=>by
   obtain⟨n,hn,rfl⟩:=au6.1 hx;have:=Hr.out n hn;omega
  omega))
 have Oy:=hd0 (HS.out.same Ym.out (k2.on fun _ _=>id) k2.size);have bu:Hid (d6 F F1 w w2):=hd0 ⟨bU.out.mod.keep k2,bU.out.foot⟩;clear k2 OF;go_wp2_with fail;refine(OR.out _).mono ?_;rintro e w3 ⟨rfl,k3⟩;rw[Hes.out];have FU:=hd0 (HS.out.same Oy.out (k3.on fun _ _=>id) k3.size);have dZ:Hid (d6 F F1 w w3):=hd0 ⟨bu.out.mod.keep k3,bu.out.foot⟩;clear k3 OR;go_wp2;go_ret2;exact⟨rfl,F1,FU.out,dZ.out⟩
end
section
open Go.RowKit Go.Shelf
attribute [local go_sem] auv
structure xH (pv size:Nat)(text:az)(num pb:Nat)(F:Nat->Prop)(t:gK)(w w':World)(F':Nat->Prop):Prop where
 vol:lD pv size text num t.rd w' F'
 pool:jR w' pb t.pool
 foot:∀ g,F' g->F g\/w.heap.size<=g
 npb:¬ F' pb
 mod:ah (fun g=>F g\/g=pb) w w'
theorem lD.same {pv size:Nat}{text:az}{num:Nat}{rd:Rd}{w w':World}{F:Nat->Prop}(h:lD pv size text num rd w F)(m:fG F w w')(hs:w.heap.size<=w'.heap.size):lD pv size text num rd w' F:=(nN pv size text num rd).same h m hs
theorem lD.lt {pv size:Nat}{text:az}{num:Nat}{rd:Rd}{w:World}{F:Nat->Prop}(h:lD pv size text num rd w F)(b:Nat)(hb:F b):b<w.heap.size:=(nN pv size text num rd).lt h b hb
theorem xH.put {pv size:Nat}{text:az}{num pb:Nat}{F F':Nat->Prop}{t:gK}{w w1 w2:World}{B:Nat}(h:xH pv size text num pb F t w w1 F')(m:ah (fun g=>g=B) w1 w2)(hB:¬ F' B)(hp:B≠pb)(hw:w.heap.size<=B):xH pv size text num pb F t w w2 F' where
 vol:=h.vol.same (m.on fun g hg e=>hB (e▸hg)) m.size
 pool:=h.pool.mod m fun e=>hp e.symm
 foot:=h.foot
 npb:=h.npb
 mod:=h.mod.trans m fun g hg e=>by omega
theorem xH.keep {pv size:Nat}{text:az}{num pb:Nat}{F F':Nat->Prop}{t:gK}{w w1 w2:World}(h:xH pv size text num pb F t w w1 F')(m:af w1 w2):xH pv size text num pb F t w w2 F' where
 vol:=h.vol.same (m.on fun _ _=>id) m.size
 pool:=h.pool.mod m id
 foot:=h.foot
 npb:=h.npb
 mod:=h.mod.keep m
theorem nO {pv size:Nat}{text:az}{num:Nat}{rd:Rd}{w:World}{F:Nat->Prop}{pb:Nat}{p:Pl}(hI:lD pv size text num rd w F)(hp:jR w pb p)(hF:¬ F pb)(hb:p.blocks=size/4)(Kn:size/4<=4096)(v:Nat)(hv:w.cell? ⟨v,0,none⟩=some (aq pv))
  {bh:az} {old:fP} {S:Nat->Prop} (hT:aR rd bh old S) (data:az) (hd:data.length<=16384) (b:fP) (t:gK) (hs:dI ⟨rd,p⟩ old data=.ok (b,t)):
  Calls prog 137 #[aq v,dd old,aC data,aq pb] w fun e w'=>e=.returned (dd b)/\∃ F',xH pv size text num pb F t w w' F':=by
 obtain⟨hh,nums,rfl,hT,_⟩:=hT;obtain⟨old,hold⟩:∃ old,dt bh nums=old:=⟨_,rfl⟩
 have ST:=fun(W:World) (F:Nat->Prop) (hI:lD pv size text num rd W F) (hp:jR W pb p) (hF:¬ F pb)=>L8 (Iq pv size text num) hI hp hF hb Kn bh nums hT hh data hd b t hs;rw[hold]at ST ⊢;clear hs;have rB:=hd0 ST;have HI:=hd0 hI;have HP:=hd0 hp;have HF:=hd0 hF;have vlt:=ak hv;have HV:=hd0 hv;clear hI hp hF ST hT hold hv;obtain⟨root,sz⟩:=old;unfold dd at rB ⊢;go_enter func137,ntmps137
 go_upto_region 1 with fail
 have HK:Hid (af w ((w.alloc (.cells #[.int .i64 root,.int .i64 sz] 42)).alloc (.cells #[.int .i64 0,.int .i64 0] 42))):=hd0 (((ah.refl _ w).alloc _).alloc _);have I0:World.blk ((w.alloc (.cells #[.int .i64 root,.int .i64 sz] 42)).alloc (.cells #[.int .i64 0,.int .i64 0] 42)) w.heap.size #[.int .i64 root,.int .i64 sz] 42:=aH (aw _ _ _) _;have Vz:World.blk ((w.alloc (.cells #[.int .i64 root,.int .i64 sz] 42)).alloc (.cells #[.int .i64 0,.int .i64 0] 42)) (w.heap.size+1) #[.int .i64 0,.int .i64 0] 42:=ba (by simp) _ _;obtain⟨W,hW⟩:∃ W,(w.alloc (.cells #[.int .i64 root,.int .i64 sz] 42)).alloc (.cells #[.int .i64 0,.int .i64 0] 42)=W:=⟨_,rfl⟩
 have cK:W.heap.size=w.heap.size+2:=by rw[<-hW];simp
 rw[hW]at HK I0 Vz ⊢;have Ym:=hd0 (HI.out.same (HK.out.on fun _ _=>id) HK.out.size);have BJ:=hd0 (HP.out.mod HK.out id);obtain⟨ob,ip⟩:∃ ob,w.heap.size=ob:=⟨_,rfl⟩
 obtain⟨zb,hzb⟩:∃ zb,w.heap.size+1=zb:=⟨_,rfl⟩
 rw[hzb]at Vz
 try rw[hzb]
 rw[ip]at I0
 try rw[ip]
 have vc:W.cell? ⟨v,0,none⟩=some (aq pv):=(HK.out.cell (p:=⟨v,0,none⟩) vlt id).trans HV.out;have oc0:W.cell? ⟨ob,0,none⟩=some (.int .i64 root):=aa I0 0;have oc1:W.cell? ⟨ob,1,none⟩=some (.int .i64 sz):=aa I0 1;have vl2:v<W.heap.size:=auL vlt HK.out.size;have ol2:ob<W.heap.size:=ai I0;have HB:=hd0 (And.intro I0 Vz);have yz:=hd0 ip;have Hzb:=hd0 hzb;have Hsz:=hd0 cK;clear hW I0 Vz ip hzb cK;have Jq:∀ g,F g\/g=pb->g<w.heap.size:=fun g hg=>hg.elim (HI.out.lt g) (fun e=>e▸ai HP.out.own);have HC:Hid (∀ W',af W W'->Calls prog 212 #[.iface 94 (aq pv),.agg #[.int .i64 root,.int .i64 sz],aC data,aq pb] W' fun e w2=>e=.returned (.tuple #[.agg #[.int .i64 b.root,.int .i64 b.size],.int .i64 0])/\(∃ F',xH pv size text num pb F t w w2 F'/\∀ g,F' g->F g\/W'.heap.size<=g)/\ah (fun g=>F g\/g=pb) W' w2):=hd0 (fun W' k=>by
  refine(rB.out W' F (Ym.out.same (k.on fun _ _=>id) k.size) (BJ.out.mod k id) HF.out).mono ?_;rintro e w2 ⟨rfl,F',h1,h2,h3,h4,h5⟩;have k0:=HK.out.keep k;exact⟨rfl,⟨F',⟨h1,h2,fun g hg=>(h3 g hg).imp id (fun h=>aux k0.size h),h4,(k0.mono (T:=fun g=>F g\/g=pb) (fun _ _ h=>h.elim)).trans h5 (fun _ _ h=>h)⟩,h3⟩,h5⟩)
 have HFl:=hd0 Jq;clear rB Jq;go_cut [9,10] (fun v9 v10 wx=>∃(B:Nat) (F':Nat->Prop),v9=.pointer (some ⟨B,0,none⟩)/\v10=.int .i64 0/\World.blk wx B #[.int .i64 b.root,.int .i64 b.size] 42/\World.blk wx zb #[.int .i64 0,.int .i64 0] 42/\xH pv size text num pb F t w wx F'/\¬ F' zb)
 case first=>
  go_region_with ((go_at_call 212;first
   |(refine auN (HC.out _ ((ah.refl _ W).drew)) ?_;rintro e w2 ⟨rfl,kp,gV⟩;have BV:=hd0 kp;have fi:=ab gV (show World.blk W.drew zb _ _ from HB.out.2) (fun h=>by have:=HFl.out _ h;have:=Hzb.out;omega);have HZ2:=hd0 fi;clear kp gV fi)
   |(refine auN (HC.out _ (((ah.refl _ W).alloc _).drew)) ?_;rintro e w2 ⟨rfl,kp,gV⟩;have BV:=hd0 kp;have fi:=ab gV (show World.blk (W.alloc (.cells #[.int .i64 0,.int .i64 0] 42)).drew zb _ _ from aH HB.out.2 _) (fun h=>by have:=HFl.out _ h;have:=Hzb.out;omega);have HZ2:=hd0 fi;have vz:=ab gV (show World.blk (W.alloc (.cells #[.int .i64 0,.int .i64 0] 42)).drew W.heap.size _ _ from aw W _ _) (fun h=>by have:=HFl.out _ h;have:=HK.out.size;omega);have lE:=hd0 vz;have x0:w2.cell? ⟨W.heap.size,0,none⟩=some (.int .i64 0):=aa vz 0;have x1:w2.cell? ⟨W.heap.size,1,none⟩=some (.int .i64 0):=aa vz 1;have y0:w2.frozen? ⟨W.heap.size,0,none⟩=false:=ae vz ⟨W.heap.size,0,none⟩ rfl;have y1:w2.frozen? ⟨W.heap.size,1,none⟩=false:=ae vz ⟨W.heap.size,1,none⟩ rfl;clear kp gV fi vz)))
  all_goals (go_wp2_with fail;go_meet)
  all_goals (case rel=>
   obtain⟨F',hs,hf⟩:=BV.out;have hz:¬ F' zb:=fun h=>(hf zb h).elim (fun h=>by have:=HFl.out zb (.inl h);have:=Hzb.out;omega) (fun h=>by have:=ai HB.out.2;simp at h;omega)
   first
   |exact⟨_,F',rfl,rfl,aw _ _ _,aH HZ2.out _,hs.keep ((ah.refl _ _).alloc _),hz⟩
   |(have hB:¬ F' W.heap.size:=fun h=>(hf _ h).elim (fun h=>by have:=HFl.out _ (.inl h);have:=HK.out.size;omega) (fun h=>by simp at h;omega)
     exact⟨_,F',rfl,rfl,ag (ag lE.out 0 _) 1 _,bE (bE HZ2.out _ (fun e=>by have:=ai HB.out.2;simp at e;omega) _) _ (fun e=>by have:=ai HB.out.2;simp at e;omega) _,hs.put (((ah.refl (fun g=>g=W.heap.size) _).setCell (p:=⟨W.heap.size,0,none⟩) (.inl rfl) _).setCell (p:=⟨W.heap.size,1,none⟩) (.inl rfl) _) hB (fun e=>by have:=ai BJ.out.own;omega) HK.out.size,hz⟩))
 case rest=>
  obtain⟨B,F',rfl,rfl,hB,hz,hs,hnz⟩:=hcut;have b0:wc.cell? ⟨B,0,none⟩=some (.int .i64 b.root):=aa hB 0;have b1:wc.cell? ⟨B,1,none⟩=some (.int .i64 b.size):=aa hB 1;have z0:wc.cell? ⟨zb,0,none⟩=some (.int .i64 0):=aa hz 0;have z1:wc.cell? ⟨zb,1,none⟩=some (.int .i64 0):=aa hz 1;have f0:=ae hz ⟨zb,0,none⟩ rfl;have f1:=ae hz ⟨zb,1,none⟩ rfl;have MU:=hd0 (mQ wc);have I8:=hd0 (hs.put (((ah.refl (fun g=>g=zb) wc).setCell (p:=⟨zb,0,none⟩) (.inl rfl) (.int .i64 b.root)).setCell (p:=⟨zb,1,none⟩) (.inl rfl) (.int .i64 b.size)) hnz (fun e=>by have:=ai HP.out.own;have:=Hzb.out;omega) (by have:=Hzb.out;omega));have B4:=hd0 (ag (ag hz 0 (.int .i64 b.root)) 1 (.int .i64 b.size));clear hs hnz hB hz;go_wp2_with fail;refine MU.out.mono ?_;rintro e w5 ⟨rfl,rfl⟩;go_wp2_with fail;obtain⟨W4,hW4⟩:∃ W4,(w5.setCell ⟨zb,0,none⟩ (.int .i64 b.root)).setCell ⟨zb,1,none⟩ (.int .i64 b.size)=W4:=⟨_,rfl⟩
  rw[hW4]at B4 I8 ⊢;have q0:W4.cell? ⟨zb,0,none⟩=some (.int .i64 b.root):=aa B4.out 0;have q1:W4.cell? ⟨zb,1,none⟩=some (.int .i64 b.size):=aa B4.out 1;refine au7 (v:=dd b) (by simp[results,Tryz.results137,go_sem,q0,q1,dd]) rfl ?_;exact⟨rfl,F',I8.out⟩
theorem xI {pv size:Nat}{text:az}{num:Nat}{rd:Rd}{w:World}{F:Nat->Prop}(hI:lD pv size text num rd w F)(v:Nat)(hv:w.cell? ⟨v,0,none⟩=some (aq pv))(set:az)(ac8:set.length<=600)
  {data:az} {b:fP} {S:Nat->Prop} (hb:aR rd data b S) (s:az) (hs:dL rd set b=.ok s):
  Calls prog 139 #[aq v,aC set,dd b] w fun e w'=>e=.returned (aC s)/\∃ F',lD pv size text num rd w' F'/\d6 F F' w w':=by
 have RE:=fun(W:World) (h:lD pv size text num rd W F)=>Ez (nN pv size text num rd) h set ac8 hb s hs;have Jq:∀ g,F g->g<w.heap.size:=fun g hg=>hI.lt g hg;have HI:=hd0 hI;have vlt:=ak hv;have HV:=hd0 hv;clear hI hb hs hv;obtain⟨root,sz⟩:=b;unfold dd at RE ⊢;simp only at RE;go_enter func139,ntmps139
 go_upto_region 1 with fail
 have HK:Hid (af w (w.alloc (.cells #[.int .i64 root,.int .i64 sz] 42))):=hd0 ((ah.refl _ w).alloc _);have I0:World.blk (w.alloc (.cells #[.int .i64 root,.int .i64 sz] 42)) w.heap.size #[.int .i64 root,.int .i64 sz] 42:=aw _ _ _;obtain⟨W,hW⟩:∃ W,w.alloc (.cells #[.int .i64 root,.int .i64 sz] 42)=W:=⟨_,rfl⟩
 rw[hW]at HK I0 ⊢;obtain⟨ob,ip⟩:∃ ob,w.heap.size=ob:=⟨_,rfl⟩
 rw[ip]at I0 ⊢;have vc:W.cell? ⟨v,0,none⟩=some (aq pv):=(HK.out.cell (p:=⟨v,0,none⟩) vlt id).trans HV.out;have oc0:W.cell? ⟨ob,0,none⟩=some (.int .i64 root):=aa I0 0;have oc1:W.cell? ⟨ob,1,none⟩=some (.int .i64 sz):=aa I0 1;have R:=hd0 (RE W.drew (HI.out.same ((HK.out.drew).on fun _ _=>id) HK.out.drew.size));clear hW I0 RE Jq ip;go_cut [7,8] (fun v7 v8 wx=>v7=aC s/\v8=.int .i64 0/\∃ F',lD pv size text num rd wx F'/\d6 F F' w wx)
 case first=>
  go_region_with ((go_at_call 79;refine R.out.mono ?_;rintro e w2 ⟨rfl,F2,hI2,de⟩;have Oy:=hd0 hI2;have bu:Hid (d6 F F2 w w2):=hd0 ⟨(HK.out.drew.mono (T:=F) (fun _ _ h=>h.elim)).trans de.mod (fun _ _ h=>h),fun g hg=>(de.foot g hg).imp id (fun h=>aux HK.out.size h)⟩;clear hI2 de))
  all_goals (go_wp2_with fail;go_meet)
  all_goals (case rel=>exact⟨rfl,rfl,_,Oy.out,bu.out⟩)
 case rest=>
  obtain⟨rfl,rfl,F',hI',FQ⟩:=hcut;have HI':=hd0 hI';have Xm:=hd0 FQ;have MU:=hd0 (mQ wc);clear hI' FQ R vc oc0 oc1;go_wp2_with fail;refine MU.out.mono ?_;rintro e w5 ⟨rfl,rfl⟩;go_wp2;go_ret;exact⟨rfl,F',HI'.out,Xm.out⟩
end
section
open Go.RowKit
theorem EA (l:List fC)(v:Value)(w:World)(cJ:jS jF 5 w v l)(cq:qQ l=true):
  Calls prog 207 #[v] w fun e w'=>e=.returned (.tuple #[aC (j9 l),.int .i64 0])/\af w w':=by
 have HR:=hd0 cJ;have IF:=hd0 (En w);clear cJ;go_enter func207,ntmps207;go_wp2_with fail;refine IF.out.mono ?_;rintro e w1 ⟨rfl,k1⟩;have L:=hd0 (Et l v w1 (eZ HR.out k1) cq);have HK:=hd0 k1;clear k1 IF cq;unfold vr at L ⊢;go_wp2_with fail;refine L.out.mono ?_;rintro e w2 ⟨rfl,k2⟩;have bu:=hd0 (HK.out.keep k2);clear k2 L;go_wp2;go_ret2;exact⟨rfl,bu.out⟩
theorem It (l:List Sn)(v:Value)(w:World)(cJ:jS oC 5 w v l)(cq:zI l=true):
  Calls prog 136 #[v] w fun e w'=>e=.returned (.tuple #[aC (kc l),.int .i64 0])/\af w w':=by
 have HR:=hd0 cJ;have IF:=hd0 (Il w);clear cJ;go_enter func136,ntmps136;go_wp2_with fail;refine IF.out.mono ?_;rintro e w1 ⟨rfl,k1⟩;have L:=hd0 (Is l v w1 (eZ HR.out k1) cq);have HK:=hd0 k1;clear k1 IF cq;unfold Br at L ⊢;go_wp2_with fail;refine L.out.mono ?_;rintro e w2 ⟨rfl,k2⟩;have bu:=hd0 (HK.out.keep k2);clear k2 L;go_wp2;go_ret2;exact⟨rfl,bu.out⟩
end
section
open Go.RowKit
attribute [local go_sem] auv
theorem tI:(prog.info? 85).map (fun i=>(i.zero,i.size,i.bytes))=some (some (.agg #[.string ⟨#[]⟩,.int .i64 0,.int .i64 0,.int .i64 0,.int .i64 0]),5,48):=by kernel_rfl
theorem pw (v:Value)(l:List Sn)(w:World)(h:dU oC 5 85 w 0 v l)(hl:l.length<=1000):
  Calls prog 68 #[v] w fun e w'=>∃ v',e=.returned v'/\dU oC 5 85 w' w.heap.size v' l/\af w w':=by
 have hr:=bZ eQ h;have qT:∀(w:World) (a:Option Addr) (n c n' c':Nat),(binOp .eql 92 (.slice a n c) (.slice none n' c')).run prog w=.ok (.bool a.isNone) w:=fun w a n c n' c'=>Lib.run_eql_slice_nil w _ _ a n c n' c' underlying92;rcases h.2 with⟨rfl,h0⟩|⟨g,cap,dz,rfl,hb,hg,Kk,Cq,Ks,vt⟩
 ·have tY:l=[]:=au8.1 (by omega);subst tY;clear h hr;go_enter func68,ntmps68;go_wp2;go_ret;exact⟨_,rfl,World.ownsRow_nil _ _ _ _,ah.refl _ _⟩
 ·obtain⟨v',w',bi,ho,hk,_⟩:=Eu (P:=prog) (ts:=92) (te:=85) underlying92 tI (by decide) (by decide) eQ w.heap.size _ [] (w.alloc (.cells #[] 85)) w (My w _) _ l (eZ hr ((ah.refl _ w).alloc _)) (fun y _=>Bq y) (by simp[maxLen];omega) (by simp;omega) (by simp) ((ah.refl _ w).alloc _) (auE _);rw[au9]at ho;have HO:=hd0 ho;have HK:=hd0 hk;clear h hr ho hk hg vt hb Ks;go_enter func68,ntmps68;go_wp2_with (at_builtin;refine aB bi rfl rfl rfl rfl ?_);go_ret;exact⟨v',rfl,HO.out,HK.out⟩
structure U5 (G:FuncId)(c:Value)(w:World)(l:List Sn)(q:Sn->Bool):Prop where
 call:∀(x:Value) (W:World),(callFunc G #[x,c]).run prog W=.ok (.enter G #[x,c]) W
 is:∀ x∈l,∀ W,af w W->Calls prog G #[Bp x,c] W fun e w'=>e=.returned (.bool (q x))/\af W w'
def xJ (o:Option Nat):Int:=match o with
 |some i=>i
 |none=>-1
theorem Ai {G:FuncId}{c:Value}{q:Sn->Bool}(l:List Sn)(v:Value)(w:World)(hr:jS oC 5 w v l)(hl:l.length<=1000)(hC:U5 G c w l q):
  Calls prog 148 #[v,.func (.func G) #[] #[c]] w fun e w'=>e=.returned (.int .i64 (xJ (l.findIdx? q)))/\af w w':=by
 obtain⟨a,cap,rfl,hx⟩:=hr;have HX:=hd0 hx;have HC:=hd0 hC.is;have cY:=hC.call;have E9:(l.length:Int)<=1000:=by omega
 clear hx hC;go_enter func148,ntmps148;go_wp2_with fail
 go_loopw [8] (fun i wr=>∃ k:Nat,k<=l.length/\i=.int .i64 (k:Int)/\Hid (af w wr)/\Hid (∀ j x,j<k->l[j]?=some x->q x=false)) (fun i _=>l.length-(intOf i).toNat)
 case atStart=>exact⟨0,by omega,rfl,hd0 (ah.refl _ _),hd0 fun j x h=>by omega⟩
 case round=>
  obtain⟨k,hk,rfl,HK,HN⟩:=hrel;by_cases aL:k<l.length
  ·have dN:(k:Int)<l.length:=by omega
   obtain⟨x,hx⟩:∃ x,l[k]?=some x:=⟨_,auB aL⟩
   obtain⟨b,o,rfl,hc⟩:=HX.out k x hx;have c0:wr.cell? ⟨b,o+k*5,none⟩=some (.string ⟨x.name.toArray⟩):=by have h:=hc 0 _ rfl;rw[HK.out.cell (p:=⟨b,o+k*5,none⟩) (ak h) id];exact h
   have c1:wr.cell? ⟨b,o+k*5+1,none⟩=some (.int .i64 x.id):=by have h:=hc 1 _ rfl;rw[HK.out.cell (p:=⟨b,o+k*5+1,none⟩) (ak h) id];exact h
   have c2:wr.cell? ⟨b,o+k*5+2,none⟩=some (.int .i64 x.plane):=by have h:=hc 2 _ rfl;rw[HK.out.cell (p:=⟨b,o+k*5+2,none⟩) (ak h) id];exact h
   have c3:wr.cell? ⟨b,o+k*5+3,none⟩=some (.int .i64 x.table.root):=by have h:=hc 3 _ rfl;rw[HK.out.cell (p:=⟨b,o+k*5+3,none⟩) (ak h) id];exact h
   have c4:wr.cell? ⟨b,o+k*5+4,none⟩=some (.int .i64 x.table.size):=by have h:=hc 4 _ rfl;rw[HK.out.cell (p:=⟨b,o+k*5+4,none⟩) (ak h) id];exact h
   have T:=hd0 (HC.out x (auC hx) wr HK.out);have Hx:=hd0 hx;clear hx hc
   cases hq:q x with
   |true=>
    rw[hq]at T;have hf:l.findIdx? q=some k:=by
     rw[List.findIdx?_eq_some_iff_getElem];have hxk:l[k]=x:=by have h:=Hx.out;rw[auB aL]at h;injection h
     exact⟨aL,by rw[hxk];exact hq,fun j hj=>by rw[HN.out j _ hj (auB (by omega))];simp⟩
    have Hf:=hd0 hf;clear hf hq;go_wp2_with fail;refine T.out.mono ?_;rintro e w2 ⟨rfl,k2⟩;have bu:=hd0 (HK.out.keep k2);clear k2;go_wp2;go_ret;exact⟨by rw[Hf.out];rfl,bu.out⟩
   |false=>
    rw[hq]at T;have HN2:Hid (∀ j x,j<k+1->l[j]?=some x->q x=false):=hd0 (fun j y hj hy=>by
     by_cases e:j=k
     ·subst e;have h:=Hx.out;rw[hy]at h;injection h with h;rw[h];exact hq
     ·exact HN.out j y (by omega) hy)
    clear hq;go_wp2_with fail;refine T.out.mono ?_;rintro e w2 ⟨rfl,k2⟩;have bu:=hd0 (HK.out.keep k2);clear k2;go_wp2_with fail;exact⟨⟨k+1,by omega,by go_num,bu,HN2⟩,by simp[intOf];omega⟩
  ·have dN:¬(k:Int)<l.length:=by omega
   have hf:l.findIdx? q=none:=by
    rw[List.findIdx?_eq_none_iff];intro x hx;obtain⟨j,hj,rfl⟩:=List.getElem_of_mem hx;exact HN.out j _ (by omega) (auB hj)
   have Hf:=hd0 hf;clear hf;go_wp2;go_ret;exact⟨by rw[Hf.out];rfl,HK.out⟩
theorem U6 {α:Type}(l:List α)(q:α->Bool):decide (0<=xJ (l.findIdx? q))=l.any q:=by
 cases h:l.findIdx? q with
 |none=>
  rw[List.findIdx?_eq_none_iff]at h;have:l.any q=false:=by rw[List.any_eq_false];intro x hx;rw[h x hx];simp
  rw[this];rfl
 |some i=>
  rw[List.findIdx?_eq_some_iff_getElem]at h;obtain⟨hi,h1,_⟩:=h;have:l.any q=true:=by rw[List.any_eq_true];exact⟨_,ava hi,h1⟩
  rw[this];simp[xJ]
theorem Aj {G:FuncId}{c:Value}{q:Sn->Bool}(l:List Sn)(v:Value)(w:World)(hr:jS oC 5 w v l)(hl:l.length<=1000)(hC:U5 G c w l q):
  Calls prog 131 #[v,.func (.func G) #[] #[c]] w fun e w'=>e=.returned (.bool (l.any q))/\af w w':=by
 have IX:=hd0 (Ai l v w hr hl hC);have hb:=U6 l q;clear hr hl hC;generalize xJ (l.findIdx? q)=z at*;generalize l.any q=r at*;subst hb;go_enter func131,ntmps131;go_wp2_with fail;refine IX.out.mono ?_;rintro e w2 ⟨rfl,k2⟩;go_wp2;go_ret;exact⟨rfl,k2⟩
theorem EC {G:FuncId}(hG:G=208\/G=132)(w:World)(b p:Nat)(l:List Sn)(h:w.cell? ⟨b,0,none⟩=some (.int .i64 (p:Int))):U5 G (.pointer (some ⟨b,0,none⟩)) w l (fun x=>x.plane==(p:Int)) where
 call x W:=by rcases hG with rfl|rfl<;>kernel_rfl
 is x hx W k:=by
  have aL:=ak h;have c:W.cell? ⟨b,0,none⟩=some (.int .i64 (p:Int)):=(k.cell (p:=⟨b,0,none⟩) aL id).trans h;have lA:b<W.heap.size:=auL aL k.size;clear h aL k hx;rcases hG with rfl|rfl
  ·go_enter func208,ntmps208;go_wp2;go_ret;exact⟨rfl,(ah.refl _ _).alloc _⟩
  ·go_enter func132,ntmps132;go_wp2;go_ret;exact⟨rfl,(ah.refl _ _).alloc _⟩
theorem U7 (w:World)(b:Nat)(s:az)(l:List Sn)(h:w.cell? ⟨b,0,none⟩=some (aC s)):U5 149 (.pointer (some ⟨b,0,none⟩)) w l (fun x=>x.name==s) where
 call x W:=by kernel_rfl
 is x hx W k:=by
  have aL:=ak h;have c:W.cell? ⟨b,0,none⟩=some (aC s):=(k.cell (p:=⟨b,0,none⟩) aL id).trans h;have lA:b<W.heap.size:=auL aL k.size;clear h aL k hx;go_enter func149,ntmps149;go_wp2;go_ret;exact⟨rfl,(ah.refl _ _).alloc _⟩
end
section
open Go.RowKit
attribute [local go_sem] auv
theorem Iu {l:List Sn}(h:l.length<7){p:Nat}(h1:1<=p)(h2:p<aW l):l.any (fun x=>x.plane==(p:Int))=true:=by
 obtain⟨k1,k2,_⟩:=ee h;unfold aW at h2
 cases hf:(List.range' 1 8).find? fun(p:Nat)=>!l.any fun x=>x.plane==(p:Int)with
 |none=>rw[hf]at h2;simp at h2
 |some q=>
  rw[hf]at h2;rw[List.find?_eq_some_iff_getElem]at hf;obtain⟨_,i,hi,hq,nV⟩:=hf;simp only[List.length_range']at hi;simp only[List.getElem_range']at hq nV;simp only[avb]at h2;have:=nV (p-1) (by omega);rw[show 1+1*(p-1)=p by omega]at this;simpa using this
theorem ED {l:List Sn}(h:l.length<7):l.any (fun x=>x.plane==(aW l:Int))=false:=by
 obtain⟨_,_,k⟩:=ee h;rw[List.any_eq_false];intro x hx;simpa using k x hx
theorem MB (l:List Sn)(v:Value)(w:World)(hr:jS oC 5 w v l)(hl:l.length<7):
  Calls prog 134 #[v] w fun e w'=>e=.returned (.int .i64 (aW l:Int))/\af w w':=by
 have hmf:∀(fn:Fn) (first cap:Array Value) (w:World),(Instr.makeFunc fn first cap).run prog w=.ok (.func fn first cap) w:=fun _ _ _ _=>rfl;have HR:=hd0 hr;have Hl:=hd0 hl;have hp:=ee hl;have Ce:=hp.1;have pG:=hp.2.1;obtain⟨B,hB⟩:∃ B,w.heap.size=B:=⟨_,rfl⟩
 have iM:World.blk (w.alloc (.cells #[.int .i64 1] 3)) B #[.int .i64 1] 3:=by rw[<-hB];exact aw _ _ _
 have HB:=hd0 hB;have nU:=hd0 iM;clear hr hl hp iM;go_enter func134,ntmps134;go_wp2_with fail;have dO:Hid (af w (w.alloc (.cells #[.int .i64 1] 3))):=hd0 ((ah.refl _ w).alloc _)
 try rw[hB]
 clear hB;generalize w.alloc (.cells #[.int .i64 1] 3)=w0 at*
 go_loopw [4] (fun _ wr=>∃ p:Nat,1<=p/\p<=aW l/\Hid (World.blk wr B #[.int .i64 (p:Int)] 3)/\Hid (af w wr)) (fun _ wr=>aW l+1-(match wr.cell? ⟨B,0,none⟩with|some v=>(intOf v).toNat|none=>0))
 case atStart=>exact⟨1,auE _,Ce,nU,dO⟩
 case round=>
  obtain⟨p,h1,h2,HX,HK⟩:=hrel;have cp:wr.cell? ⟨B,0,none⟩=some (.int .i64 (p:Int)):=aa HX.out 0;have fp:=ae HX.out ⟨B,0,none⟩ rfl;have CF:=hd0 (Aj l v wr (eZ HR.out HK.out) (by have:=Hl.out;omega) (EC (.inl rfl) wr B p l cp));by_cases hq:p=aW l
  ·have ha:=ED Hl.out;rw[<-hq]at ha;rw[ha]at CF;have Hq:=hd0 hq;clear ha hq;go_wp2_with fail;refine CF.out.mono ?_;rintro e w2 ⟨rfl,k2⟩;have bu:=hd0 (HK.out.keep k2);have cp2:w2.cell? ⟨B,0,none⟩=some (.int .i64 (p:Int)):=aa (ab k2 HX.out id) 0;clear k2 cp fp;go_wp2;go_ret;exact⟨by rw[<-Hq.out];rfl,bu.out⟩
  ·have ha:=Iu Hl.out h1 (by omega);rw[ha]at CF;have Hq:Hid (p+1<=aW l):=hd0 (by omega);have hpi:(p:Int)<=6:=by omega
   clear ha hq;go_wp2_with fail;refine CF.out.mono ?_;rintro e w2 ⟨rfl,k2⟩;have vz:=ab k2 HX.out id;have cp2:w2.cell? ⟨B,0,none⟩=some (.int .i64 (p:Int)):=aa vz 0;have fp2:=ae vz ⟨B,0,none⟩ rfl;have qw:=hd0 (ag vz 0 (.int .i64 ((p:Int)+1)));have dZ:Hid (af w (w2.setCell ⟨B,0,none⟩ (.int .i64 ((p:Int)+1)))):=hd0 ((HK.out.keep k2).setCell (p:=⟨B,0,none⟩) (.inr (by have:=HB.out;exact Nat.le_of_eq this)) _);have cp0:=cp;clear k2 fp vz cp;go_wp2_with fail;have e1:((p:Int)+1)=((p+1:Nat):Int):=by omega
   rw[e1]at qw dZ ⊢;refine⟨⟨p+1,by omega,Hq.out,qw,dZ⟩,?_⟩;have c3:(w2.setCell ⟨B,0,none⟩ (.int .i64 ((p+1:Nat):Int))).cell? ⟨B,0,none⟩=some (.int .i64 ((p+1:Nat):Int)):=aa qw.out 0;have:=Hq.out;simp only[c3,cp0,intOf,avc];exact Nat.sub_lt_sub_left (by have h1:=Hq.out;exact Nat.lt_succ_of_lt h1) (Nat.lt_succ_self p)
theorem EE (n:Nat)(w:World)(hn:n<=100000):
  Calls prog 217 #[.int .i64 (n:Int)] w fun e w'=>∃ v,e=.returned v/\aN w' w.heap.size v (gy (List.range n))/\af w w':=by
 have hni:(n:Int)<=100000:=by omega
 go_enter func217,ntmps217;go_wp2_with fail
 go_loopw [3,6] (fun v i wr=>∃ k:Nat,k<=n/\i=.int .i64 (k:Int)/\Hid (aN wr w.heap.size v (gy (List.range k)))/\Hid (af w wr)) (fun _ i _=>n-(intOf i).toNat)
 case atStart=>exact⟨0,by omega,rfl,hd0 ⟨rfl,.inl ⟨rfl,rfl⟩⟩,hd0 (ah.refl _ _)⟩
 case round=>
  obtain⟨k,hk,rfl,HO,HK⟩:=hrel;by_cases aL:k<n
  ·have dN:(k:Int)<(n:Int):=by omega
   have Ha:=kM (P:=prog) underlying46 iX rfl w.heap.size u3 _ _ wr w HO.out [.int .i64 (k:Int)] (by simp[Value.oneCell']) (by unfold maxLen;simp[gy];omega) (by simp[gy];omega) HK.out.size HK.out (auE _);obtain⟨v',w3',bi,bw,dw,_⟩:=Ha;have HR:=hd0 bi;have Oe:Hid (aN w3' w.heap.size v' (gy (List.range (k+1)))):=hd0 (by
    have:=kv bw;rw[List.range_succ];simpa[gy]using this)
   have dZ:=hd0 dw;clear bi bw dw;go_wp2_with (at_builtin;refine aB HR.out rfl rfl rfl rfl ?_);exact⟨⟨k+1,by omega,by go_num,Oe,dZ⟩,by simp[intOf];omega⟩
  ·obtain rfl:k=n:=by omega
   go_wp2;go_ret;exact⟨_,rfl,HO.out,HK.out⟩
end
end Go.Proofs.YtkghpdcloaiflaaGreatDoor
