import Derived.Test.YtkghpdcloaiflaaGreatDoorD30
import Derived.Lib.SliceRun
set_option maxHeartbeats 4000000
set_option maxRecDepth 100000
namespace Go.Proofs.YtkghpdcloaiflaaGreatDoor
open _root_.Go.Proofs.Tryz
section
open Go
section
variable {P:Program}{aC:Array Oper}{md:Region.Mode}{D1 D2:World->Prop}{Q:Exit->Act->World->Prop}
def yQ (P:Program)(md:Region.Mode)(aC:Array Oper)(Q:Exit->Act->World->Prop)(p:Nat)(D1 D2:World->Prop):Nat->Bool->Array Bool->Act->World->Prop
 |0,pl,_,a,w=>(D1 w/\(pl=true\/D2 w))/\Q .normal a w
 |f+1,pl,listed,a,w=>(D1 w/\(pl=true\/D2 w))/\∀ i∈Region.ready md aC listed,match aC[i]? with
  |none=>False
  |some o=>wpList P aC (fun e a' w'=>match e with | .normal=>yQ P md aC Q p D1 D2 f (pl||i==p) (listed.setIfInBounds i true) a' w'|e=>Q e a' w') [o] a w
def Eu (md:Region.Mode)(aC:Array Oper):Nat->Array Bool->Bool
 |0,listed=>(Region.ready md aC listed).isEmpty
 |f+1,listed=>!(Region.ready md aC listed).isEmpty&&(Region.ready md aC listed).all fun i=>Eu md aC f (listed.setIfInBounds i true)
theorem sr {p:Nat}:∀(f:Nat) (pl:Bool) (listed:Array Bool) (a:Act) (w:World),Eu md aC f listed=true->(pl=true->listed.getD p false=true)->listed.size=aC.size->yQ P md aC Q p D1 D2 f pl listed a w->gO P md aC Q (DP p D1 D2) f listed a w
 |0,pl,listed,a,w,hB,hp,_,h=>⟨⟨h.1.1,h.1.2.imp hp id⟩,by simpa[Eu]using hB,h.2⟩
 |f+1,pl,listed,a,w,hB,hp,hls,h=>by
  simp only[Eu,au4,Bool.not_eq_true',au5]at hB;refine⟨⟨h.1.1,h.1.2.imp hp id⟩,fun h1=>(by rw[h1]at hB;simp at hB),fun k hk=>?_⟩;have h2:=h.2 k hk;have hBk:=hB.2 k hk
  cases h0:aC[k]? with
  |none=>rw[h0]at h2;exact h2.elim
  |some o=>
   rw[h0]at h2;simp only at h2;have hw:wpOp P aC Q k (yQ P md aC Q p D1 D2 f (pl||k==p) (listed.setIfInBounds k true)) a w:=by
    unfold wpOp;simp only[h0];unfold wpList at h2;split
    ·rename_i hwt
     rw[auT hwt]at h2;rcases h2 with h2|⟨h2,h3⟩
     ·exact .inl (oS h2)
     ·exact .inr ⟨h2,h3⟩
    ·rename_i hwt
     rw[auV hwt]at h2;exact h2
   refine wpOp_mono (fun a' w' h'=>sr f (pl||k==p) _ a' w' hBk (fun e=>?_) (by simpa using hls) h') hw;rw[au6]at e;by_cases TZ:k=p
   ·subst TZ;have aK:k<listed.size:=by rw[hls];exact(au7.1 h0).1
    simp[aK]
   ·exact getD_set_true (hp (e.resolve_right (by simpa using TZ)))
theorem gH {p:Nat}{pl:Bool}{listed:Array Bool}{a:Act}{w:World}(hd:D1 w/\(pl=true\/D2 w))(h:Q .normal a w):yQ P md aC Q p D1 D2 0 pl listed a w:=⟨hd,h⟩
theorem bg {p f i:Nat}{pl:Bool}{listed:Array Bool}{a:Act}{w:World}{o:Oper}(hr:Region.ready md aC listed=[i])(h0:aC[i]?=some o)(hd:D1 w/\(pl=true\/D2 w))
  (h:wpList P aC (fun e a' w'=>match e with | .normal=>yQ P md aC Q p D1 D2 f (pl||i==p) (listed.setIfInBounds i true) a' w'|e=>Q e a' w') [o] a w):yQ P md aC Q p D1 D2 (f+1) pl listed a w:=by
 refine⟨hd,fun k hk=>?_⟩;rw[hr]at hk;obtain rfl:k=i:=by simpa using hk
 rw[h0];exact h
theorem lq {p f i j:Nat}{pl:Bool}{listed:Array Bool}{a:Act}{w:World}{o o':Oper}(hr:Region.ready md aC listed=[i,j])(h0:aC[i]?=some o)(h1:aC[j]?=some o')(hd:D1 w/\(pl=true\/D2 w))
  (h:wpList P aC (fun e a' w'=>match e with | .normal=>yQ P md aC Q p D1 D2 f (pl||i==p) (listed.setIfInBounds i true) a' w'|e=>Q e a' w') [o] a w)
  (h':wpList P aC (fun e a' w'=>match e with | .normal=>yQ P md aC Q p D1 D2 f (pl||j==p) (listed.setIfInBounds j true) a' w'|e=>Q e a' w') [o'] a w):yQ P md aC Q p D1 D2 (f+1) pl listed a w:=by
 refine⟨hd,fun k hk=>?_⟩;rw[hr]at hk;rcases au8.1 hk with rfl|hk
 ·rw[h0];exact h
 ·obtain rfl:k=j:=by simpa using hk
  rw[h1];exact h'
def QR (md:Region.Mode)(aC:Array Oper)(p:Nat)(js:List Nat)(f:Nat):Bool:=
 Region.noSelect aC&&decide (js.length+f=aC.size)&&Dg md aC p js (Array.replicate aC.size false)&&Eu md aC f (we js (Array.replicate aC.size false))
theorem jZ {P:Program}{id:Nat}{Q:Exit->Act->World->Prop}{a:Act}{w:World}{l:List Oper}(p:Nat)(js:List Nat)(f:Nat)(D1 D2:World->Prop)(hm:P.follows .mixedOrders=true)(hB:QR .any l.toArray p js f=true)
  (hQ:∀ c o v a w,Q (.panic c) (Act.put a o v) w->Q (.panic c) a w)
  (h:lP P .any l.toArray p D1 D2 (fun a'=>yQ P .any l.toArray Q p D1 D2 f false (we js (Array.replicate l.toArray.size false)) a' { w with drawn:=w.drawn+1 }) js a):(Code.region id l.toArray true).wp P Q a w:=by
 simp only[QR,au4,au9]at hB;obtain⟨⟨⟨fP,aW⟩,dj⟩,Jt⟩:=hB;refine wp_region_any hm ?_;have H:=mc (md:=.any) (Q:=Q) (g:=f) fP hQ { w with drawn:=w.drawn+1 } js (Array.replicate l.toArray.size false) a (fun j oj _ hl=>by rw[ava]at hl;simp at hl)
  (fun a' FQ=>sr f false _ a' _ Jt (fun e=>by cases e) (by rw[qL];simp) FQ) dj h
 rw[aW]at H;exact rN H
end
end
section
open Go.RowKit Go.Shelf
attribute [local go_sem] auG
theorem QS {w:World}{base:Nat}{v:Value}{l:List Int}(h:aI w base v l)(h0:∀ n∈l,0<=n):eI w v (qj (l.map Int.toNat)):=by
 have h1:=aY h;have e:qj (l.map Int.toNat)=ba l:=by
  unfold qj ba;rw[avb];apply avc;intro n hn;have:=h0 n hn;show Value.int .i64 ((n.toNat:Nat):Int)=Value.int .i64 n;rw[Int.toNat_of_nonneg this]
 rw[e];exact h1
theorem Ev:∀(s:ay),4*(cr s).length<=s.length
 |[]=>by simp[cr]
 |[_]=>by simp[cr]
 |[_,_]=>by simp[cr]
 |[_,_,_]=>by simp[cr]
 |a::b::c::d::r=>by
  have:=Ev r;simp only[cr,auL];omega
theorem Ew {f:Nat->Int->Except Int rx}{B:Nat}:∀(l:List Int) (i:Nat) (o:rx),(∀ i n o,f i n=.ok o->o.1.length<=B)->cK f i l=.ok o->o.1.length<=B*l.length
 |[],_,o,_,h=>by
  simp only[cK]at h;injection h with h;subst h;simp
 |n::r,i,o,hf,h=>by
  simp only[cK]at h
  cases ha:f i n with
  |error e=>rw[ha]at h;cases h
  |ok a=>
   rw[ha]at h;simp only at h
   cases hb:cK f (i+1) r with
   |error e=>rw[hb]at h;cases h
   |ok b=>
    rw[hb]at h;simp only at h;injection h with h;subst h;have h1:=hf i n a ha;have h2:=Ew r (i+1) b hf hb;simp only[au3,auL,Nat.mul_succ];omega
theorem QT (rd:Rd)(ch:Bool)(size:Nat):∀(l i:Nat) (n:Int) (o:rx),oa rd ch size l i n=.ok o->o.1.length<=61 ^ l
 |0,i,n,o,h=>by
  unfold oa at h;split at h
  ·split at h
   ·cases h
   ·split at h
    ·cases h
    ·injection h with h;subst h;simp
  ·injection h with h;subst h;simp
 |l+1,i,n,o,h=>by
  unfold oa at h;split at h
  ·cases h
  ·rename_i s _
   split at h
   ·cases h
   ·rename_i hs
    split at h
    ·cases h
    ·rename_i o' ho
     injection h with h;subst h;have h1:=Ew _ _ _ (fun i n o h=>QT rd ch size l i n o h) ho;have h2:=Ev s;have h3:(cr s).length<=60:=by omega
     have h4:61 ^ l*(cr s).length<=61 ^ l*60:=avd _ h3;have h5:1<=61 ^ l:=Nat.one_le_pow _ _ (by decide);simp only[auL];rw[ave];omega
theorem Mx {rd:Rd}{b:fQ}{l:List Int}(h:oK rd b=.ok l):l.length<=4000:=by
 unfold oK at h
 cases ho:em rd b false with
 |error e=>rw[ho]at h;cases h
 |ok o=>
  rw[ho]at h;injection h with h;subst h;show(dS o.1).length<=4000;unfold dS;rw[avf];unfold em at ho;split at ho
  ·cases ho
  ·split at ho
   ·injection ho with ho;subst ho;simp
   ·have h1:=QT _ _ _ _ _ _ _ ho;have h2:(au b.size.toNat).length-1<=2:=by
     rcases aN b.size.toNat with⟨_,e⟩|⟨_,_,e⟩|⟨_,_,e⟩|⟨_,e⟩<;>rw[e]<;>simp
    have h3:61 ^ ((au b.size.toNat).length-1)<=61 ^ 2:=avg (by decide) h2;omega
theorem Ex {rd:Rd}{data:ay}{b:fQ}{S:Nat->Prop}(h:aR rd data b S){set s:ay}(hl:set.length<=600)(e:dO rd set b=.ok s):s.length<=600:=by
 obtain⟨l,e1,vq⟩:=h.reach;unfold dO at e;rw[e1]at e;simp only at e;split at e
 ·injection e with e;rw[<-e];refine auI (lS _ _) ?_;have:(iN (l.map Int.toNat)).length<=4095/8+1:=Bc fun x hx=>by
   obtain⟨n,hn,rfl⟩:=avh.1 hx;obtain⟨k,rfl,hk⟩:=(vq n).1 hn;have:=h.lt hk;simp;omega
  omega
 ·cases e
theorem Ey {ty:TypeId}{rv:Value}{f:FuncId}{I:World->(Nat->Prop)->Prop}{rd:Rd}(S:qq ty rv f I rd){w:World}{F:Nat->Prop}(hI:I w F)(set:ay)(adG:set.length<=600){data:ay}{b:fQ}{S0:Nat->Prop}(hb:aR rd data b S0)(s:ay)(hs:dO rd set b=.ok s):
  Calls prog 79 #[.iface ty rv,aB set,de b] w fun e w'=>e=.returned (.tuple #[aB s,.int .i64 0])/\∃ F',I w' F'/\ec F F' w w':=by
 obtain⟨l,e1,vq⟩:=hb.reach;have hr:∀ n∈l,0<=n/\n<=4095:=fun n hn=>by
  obtain⟨k,rfl,hk⟩:=(vq n).1 hn;have:=hb.lt hk;omega
 have es:eG set (iN (l.map Int.toNat))=s:=by
  unfold dO at hs;rw[e1]at hs;simp only at hs;rw[auT (by rw[au5];intro x hx;have:=hr x hx;simp;omega)]at hs;injection hs
 have hm:b.may=true:=by
  have:=hb.may;unfold fQ.ok at this;simp only[au4]at this;exact this.1.1
 have uE:l.length<=1000000:=by have:=Mx e1;omega
 have dE:af w (w.alloc (.cells #[.int .i64 b.root,.int .i64 b.size] 42)):=(ah.refl _ w).alloc _;have R:=hd0 (LW S (S.same hI (dE.on fun _ _=>id) dE.size) b hm l e1);have dF:=hd0 dE;have HS:=hd0 S;have Hr:=hd0 hr;have Hes:=hd0 es;clear hI hs dE hr es vq e1 hb;unfold de at R ⊢;go_enter func79,ntmps79;go_wp2_with fail;refine R.out.mono ?_;rintro e w1 ⟨v,rfl,ho,F1,NL,hk1,nW⟩;have OF:=hd0 (Be (l.map Int.toNat) v w1 (QS ho fun n hn=>(Hr.out n hn).1) (by simpa using uE) (fun n hn=>by
  obtain⟨z,hz,rfl⟩:=avh.1 hn;have:=Hr.out z hz;omega))
 have Yb:=hd0 NL;have bS:Hid (ec F F1 w w1):=hd0 ⟨(dF.out.mono (T:=F) (fun _ _ h=>h.elim)).trans hk1.mod (fun _ _ h=>h),fun g hg=>(hk1.foot g hg).imp id (fun h=>auI dF.out.size h)⟩;clear ho NL hk1 nW R;go_wp2_with fail;refine OF.out.mono ?_;rintro e w2 ⟨rfl,k2⟩;have OR:=hd0 (fun W=>lT set (iN (l.map Int.toNat)) W (by omega) (by
  have:(iN (l.map Int.toNat)).length<=4095/8+1:=Bc fun x hx=>by
   obtain⟨n,hn,rfl⟩:=avh.1 hx;have:=Hr.out n hn;omega
  omega))
 have OU:=hd0 (HS.out.same Yb.out (k2.on fun _ _=>id) k2.size);have bw:Hid (ec F F1 w w2):=hd0 ⟨bS.out.mod.keep k2,bS.out.foot⟩;clear k2 OF;go_wp2_with fail;refine(OR.out _).mono ?_;rintro e w3 ⟨rfl,k3⟩;rw[Hes.out];have FU:=hd0 (HS.out.same OU.out (k3.on fun _ _=>id) k3.size);have dJ:Hid (ec F F1 w w3):=hd0 ⟨bw.out.mod.keep k3,bw.out.foot⟩;clear k3 OR;go_wp2;go_ret2;exact⟨rfl,F1,FU.out,dJ.out⟩
end
section
open Go.RowKit Go.Shelf
attribute [local go_sem] auG
structure xE (pv size:Nat)(text:ay)(num pb:Nat)(F:Nat->Prop)(t:gJ)(w w':World)(F':Nat->Prop):Prop where
 vol:lD pv size text num t.rd w' F'
 pool:jT w' pb t.pool
 foot:∀ g,F' g->F g\/w.heap.size<=g
 npb:¬ F' pb
 mod:ah (fun g=>F g\/g=pb) w w'
theorem lD.same {pv size:Nat}{text:ay}{num:Nat}{rd:Rd}{w w':World}{F:Nat->Prop}(h:lD pv size text num rd w F)(m:fG F w w')(hs:w.heap.size<=w'.heap.size):lD pv size text num rd w' F:=(nM pv size text num rd).same h m hs
theorem lD.lt {pv size:Nat}{text:ay}{num:Nat}{rd:Rd}{w:World}{F:Nat->Prop}(h:lD pv size text num rd w F)(b:Nat)(hb:F b):b<w.heap.size:=(nM pv size text num rd).lt h b hb
theorem xE.put {pv size:Nat}{text:ay}{num pb:Nat}{F F':Nat->Prop}{t:gJ}{w w1 w2:World}{B:Nat}(h:xE pv size text num pb F t w w1 F')(m:ah (fun g=>g=B) w1 w2)(hB:¬ F' B)(hp:B≠pb)(hw:w.heap.size<=B):xE pv size text num pb F t w w2 F' where
 vol:=h.vol.same (m.on fun g hg e=>hB (e▸hg)) m.size
 pool:=h.pool.mod m fun e=>hp e.symm
 foot:=h.foot
 npb:=h.npb
 mod:=h.mod.trans m fun g hg e=>by omega
theorem xE.keep {pv size:Nat}{text:ay}{num pb:Nat}{F F':Nat->Prop}{t:gJ}{w w1 w2:World}(h:xE pv size text num pb F t w w1 F')(m:af w1 w2):xE pv size text num pb F t w w2 F' where
 vol:=h.vol.same (m.on fun _ _=>id) m.size
 pool:=h.pool.mod m id
 foot:=h.foot
 npb:=h.npb
 mod:=h.mod.keep m
theorem nN {pv size:Nat}{text:ay}{num:Nat}{rd:Rd}{w:World}{F:Nat->Prop}{pb:Nat}{p:Pl}(hI:lD pv size text num rd w F)(hp:jT w pb p)(hF:¬ F pb)(hb:p.blocks=size/4)(Kx:size/4<=4096)(v:Nat)(hv:w.cell? ⟨v,0,none⟩=some (aq pv))
  {br:ay} {old:fQ} {S:Nat->Prop} (hT:aR rd br old S) (data:ay) (hd:data.length<=16384) (b:fQ) (t:gJ) (hs:dK ⟨rd,p⟩ old data=.ok (b,t)):
  Calls prog 137 #[aq v,de old,aB data,aq pb] w fun e w'=>e=.returned (de b)/\∃ F',xE pv size text num pb F t w w' F':=by
 obtain⟨hh,nums,rfl,hT,_⟩:=hT;obtain⟨old,hold⟩:∃ old,dx br nums=old:=⟨_,rfl⟩
 have ST:=fun(W:World) (F:Nat->Prop) (hI:lD pv size text num rd W F) (hp:jT W pb p) (hF:¬ F pb)=>L4 (It pv size text num) hI hp hF hb Kx br nums hT hh data hd b t hs;rw[hold]at ST ⊢;clear hs;have sU:=hd0 ST;have HI:=hd0 hI;have HP:=hd0 hp;have HF:=hd0 hF;have vlt:=am hv;have HV:=hd0 hv;clear hI hp hF ST hT hold hv;obtain⟨root,sz⟩:=old;unfold de at sU ⊢;go_enter func137,ntmps137
 go_upto_region 1 with fail
 have HK:Hid (af w ((w.alloc (.cells #[.int .i64 root,.int .i64 sz] 42)).alloc (.cells #[.int .i64 0,.int .i64 0] 42))):=hd0 (((ah.refl _ w).alloc _).alloc _);have Jl:World.blk ((w.alloc (.cells #[.int .i64 root,.int .i64 sz] 42)).alloc (.cells #[.int .i64 0,.int .i64 0] 42)) w.heap.size #[.int .i64 root,.int .i64 sz] 42:=aH (aw _ _ _) _;have V3:World.blk ((w.alloc (.cells #[.int .i64 root,.int .i64 sz] 42)).alloc (.cells #[.int .i64 0,.int .i64 0] 42)) (w.heap.size+1) #[.int .i64 0,.int .i64 0] 42:=bi (by simp) _ _;obtain⟨W,hW⟩:∃ W,(w.alloc (.cells #[.int .i64 root,.int .i64 sz] 42)).alloc (.cells #[.int .i64 0,.int .i64 0] 42)=W:=⟨_,rfl⟩
 have cJ:W.heap.size=w.heap.size+2:=by rw[<-hW];simp
 rw[hW]at HK Jl V3 ⊢;have Yb:=hd0 (HI.out.same (HK.out.on fun _ _=>id) HK.out.size);have BX:=hd0 (HP.out.mod HK.out id);obtain⟨ob,iq⟩:∃ ob,w.heap.size=ob:=⟨_,rfl⟩
 obtain⟨zb,hzb⟩:∃ zb,w.heap.size+1=zb:=⟨_,rfl⟩
 rw[hzb]at V3
 try rw[hzb]
 rw[iq]at Jl
 try rw[iq]
 have vc:W.cell? ⟨v,0,none⟩=some (aq pv):=(HK.out.cell (p:=⟨v,0,none⟩) vlt id).trans HV.out;have oc0:W.cell? ⟨ob,0,none⟩=some (.int .i64 root):=aa Jl 0;have oc1:W.cell? ⟨ob,1,none⟩=some (.int .i64 sz):=aa Jl 1;have vl2:v<W.heap.size:=auW vlt HK.out.size;have ol2:ob<W.heap.size:=ak Jl;have HB:=hd0 (And.intro Jl V3);have yl:=hd0 iq;have Hzb:=hd0 hzb;have Hsz:=hd0 cJ;clear hW Jl V3 iq hzb cJ;have Jj:∀ g,F g\/g=pb->g<w.heap.size:=fun g hg=>hg.elim (HI.out.lt g) (fun e=>e▸ak HP.out.own);have HC:Hid (∀ W',af W W'->Calls prog 212 #[.iface 94 (aq pv),.agg #[.int .i64 root,.int .i64 sz],aB data,aq pb] W' fun e w2=>e=.returned (.tuple #[.agg #[.int .i64 b.root,.int .i64 b.size],.int .i64 0])/\(∃ F',xE pv size text num pb F t w w2 F'/\∀ g,F' g->F g\/W'.heap.size<=g)/\ah (fun g=>F g\/g=pb) W' w2):=hd0 (fun W' k=>by
  refine(sU.out W' F (Yb.out.same (k.on fun _ _=>id) k.size) (BX.out.mod k id) HF.out).mono ?_;rintro e w2 ⟨rfl,F',h1,h2,h3,h4,h5⟩;have k0:=HK.out.keep k;exact⟨rfl,⟨F',⟨h1,h2,fun g hg=>(h3 g hg).imp id (fun h=>auI k0.size h),h4,(k0.mono (T:=fun g=>F g\/g=pb) (fun _ _ h=>h.elim)).trans h5 (fun _ _ h=>h)⟩,h3⟩,h5⟩)
 have HFl:=hd0 Jj;clear sU Jj;go_cut [9,10] (fun v9 v10 wx=>∃(B:Nat) (F':Nat->Prop),v9=.pointer (some ⟨B,0,none⟩)/\v10=.int .i64 0/\World.blk wx B #[.int .i64 b.root,.int .i64 b.size] 42/\World.blk wx zb #[.int .i64 0,.int .i64 0] 42/\xE pv size text num pb F t w wx F'/\¬ F' zb)
 case first=>
  go_region_with ((go_at_call 212;first
   |(refine auY (HC.out _ ((ah.refl _ W).drew)) ?_;rintro e w2 ⟨rfl,jv,gX⟩;have yC:=hd0 jv;have eL:=ab gX (show World.blk W.drew zb _ _ from HB.out.2) (fun h=>by have:=HFl.out _ h;have:=Hzb.out;omega);have HZ2:=hd0 eL;clear jv gX eL)
   |(refine auY (HC.out _ (((ah.refl _ W).alloc _).drew)) ?_;rintro e w2 ⟨rfl,jv,gX⟩;have yC:=hd0 jv;have eL:=ab gX (show World.blk (W.alloc (.cells #[.int .i64 0,.int .i64 0] 42)).drew zb _ _ from aH HB.out.2 _) (fun h=>by have:=HFl.out _ h;have:=Hzb.out;omega);have HZ2:=hd0 eL;have vr:=ab gX (show World.blk (W.alloc (.cells #[.int .i64 0,.int .i64 0] 42)).drew W.heap.size _ _ from aw W _ _) (fun h=>by have:=HFl.out _ h;have:=HK.out.size;omega);have lH:=hd0 vr;have x0:w2.cell? ⟨W.heap.size,0,none⟩=some (.int .i64 0):=aa vr 0;have x1:w2.cell? ⟨W.heap.size,1,none⟩=some (.int .i64 0):=aa vr 1;have y0:w2.frozen? ⟨W.heap.size,0,none⟩=false:=ae vr ⟨W.heap.size,0,none⟩ rfl;have y1:w2.frozen? ⟨W.heap.size,1,none⟩=false:=ae vr ⟨W.heap.size,1,none⟩ rfl;clear jv gX eL vr)))
  all_goals (go_wp2_with fail;go_meet)
  all_goals (case rel=>
   obtain⟨F',hs,hf⟩:=yC.out;have hz:¬ F' zb:=fun h=>(hf zb h).elim (fun h=>by have:=HFl.out zb (.inl h);have:=Hzb.out;omega) (fun h=>by have:=ak HB.out.2;simp at h;omega)
   first
   |exact⟨_,F',rfl,rfl,aw _ _ _,aH HZ2.out _,hs.keep ((ah.refl _ _).alloc _),hz⟩
   |(have hB:¬ F' W.heap.size:=fun h=>(hf _ h).elim (fun h=>by have:=HFl.out _ (.inl h);have:=HK.out.size;omega) (fun h=>by simp at h;omega)
     exact⟨_,F',rfl,rfl,ag (ag lH.out 0 _) 1 _,bD (bD HZ2.out _ (fun e=>by have:=ak HB.out.2;simp at e;omega) _) _ (fun e=>by have:=ak HB.out.2;simp at e;omega) _,hs.put (((ah.refl (fun g=>g=W.heap.size) _).setCell (p:=⟨W.heap.size,0,none⟩) (.inl rfl) _).setCell (p:=⟨W.heap.size,1,none⟩) (.inl rfl) _) hB (fun e=>by have:=ak BX.out.own;omega) HK.out.size,hz⟩))
 case rest=>
  obtain⟨B,F',rfl,rfl,hB,hz,hs,hnz⟩:=hcut;have b0:wc.cell? ⟨B,0,none⟩=some (.int .i64 b.root):=aa hB 0;have b1:wc.cell? ⟨B,1,none⟩=some (.int .i64 b.size):=aa hB 1;have z0:wc.cell? ⟨zb,0,none⟩=some (.int .i64 0):=aa hz 0;have z1:wc.cell? ⟨zb,1,none⟩=some (.int .i64 0):=aa hz 1;have f0:=ae hz ⟨zb,0,none⟩ rfl;have f1:=ae hz ⟨zb,1,none⟩ rfl;have MU:=hd0 (mR wc);have AG:=hd0 (hs.put (((ah.refl (fun g=>g=zb) wc).setCell (p:=⟨zb,0,none⟩) (.inl rfl) (.int .i64 b.root)).setCell (p:=⟨zb,1,none⟩) (.inl rfl) (.int .i64 b.size)) hnz (fun e=>by have:=ak HP.out.own;have:=Hzb.out;omega) (by have:=Hzb.out;omega));have B4:=hd0 (ag (ag hz 0 (.int .i64 b.root)) 1 (.int .i64 b.size));clear hs hnz hB hz;go_wp2_with fail;refine MU.out.mono ?_;rintro e w5 ⟨rfl,rfl⟩;go_wp2_with fail;obtain⟨W4,hW4⟩:∃ W4,(w5.setCell ⟨zb,0,none⟩ (.int .i64 b.root)).setCell ⟨zb,1,none⟩ (.int .i64 b.size)=W4:=⟨_,rfl⟩
  rw[hW4]at B4 AG ⊢;have q0:W4.cell? ⟨zb,0,none⟩=some (.int .i64 b.root):=aa B4.out 0;have q1:W4.cell? ⟨zb,1,none⟩=some (.int .i64 b.size):=aa B4.out 1;refine avi (v:=de b) (by simp[results,Tryz.results137,go_sem,q0,q1,de]) rfl ?_;exact⟨rfl,F',AG.out⟩
theorem xF {pv size:Nat}{text:ay}{num:Nat}{rd:Rd}{w:World}{F:Nat->Prop}(hI:lD pv size text num rd w F)(v:Nat)(hv:w.cell? ⟨v,0,none⟩=some (aq pv))(set:ay)(adG:set.length<=600)
  {data:ay} {b:fQ} {S:Nat->Prop} (hb:aR rd data b S) (s:ay) (hs:dO rd set b=.ok s):
  Calls prog 139 #[aq v,aB set,de b] w fun e w'=>e=.returned (aB s)/\∃ F',lD pv size text num rd w' F'/\ec F F' w w':=by
 have RE:=fun(W:World) (h:lD pv size text num rd W F)=>Ey (nM pv size text num rd) h set adG hb s hs;have Jj:∀ g,F g->g<w.heap.size:=fun g hg=>hI.lt g hg;have HI:=hd0 hI;have vlt:=am hv;have HV:=hd0 hv;clear hI hb hs hv;obtain⟨root,sz⟩:=b;unfold de at RE ⊢;simp only at RE;go_enter func139,ntmps139
 go_upto_region 1 with fail
 have HK:Hid (af w (w.alloc (.cells #[.int .i64 root,.int .i64 sz] 42))):=hd0 ((ah.refl _ w).alloc _);have Jl:World.blk (w.alloc (.cells #[.int .i64 root,.int .i64 sz] 42)) w.heap.size #[.int .i64 root,.int .i64 sz] 42:=aw _ _ _;obtain⟨W,hW⟩:∃ W,w.alloc (.cells #[.int .i64 root,.int .i64 sz] 42)=W:=⟨_,rfl⟩
 rw[hW]at HK Jl ⊢;obtain⟨ob,iq⟩:∃ ob,w.heap.size=ob:=⟨_,rfl⟩
 rw[iq]at Jl ⊢;have vc:W.cell? ⟨v,0,none⟩=some (aq pv):=(HK.out.cell (p:=⟨v,0,none⟩) vlt id).trans HV.out;have oc0:W.cell? ⟨ob,0,none⟩=some (.int .i64 root):=aa Jl 0;have oc1:W.cell? ⟨ob,1,none⟩=some (.int .i64 sz):=aa Jl 1;have R:=hd0 (RE W.drew (HI.out.same ((HK.out.drew).on fun _ _=>id) HK.out.drew.size));clear hW Jl RE Jj iq;go_cut [7,8] (fun v7 v8 wx=>v7=aB s/\v8=.int .i64 0/\∃ F',lD pv size text num rd wx F'/\ec F F' w wx)
 case first=>
  go_region_with ((go_at_call 79;refine R.out.mono ?_;rintro e w2 ⟨rfl,F2,hI2,df⟩;have OU:=hd0 hI2;have bw:Hid (ec F F2 w w2):=hd0 ⟨(HK.out.drew.mono (T:=F) (fun _ _ h=>h.elim)).trans df.mod (fun _ _ h=>h),fun g hg=>(df.foot g hg).imp id (fun h=>auI HK.out.size h)⟩;clear hI2 df))
  all_goals (go_wp2_with fail;go_meet)
  all_goals (case rel=>exact⟨rfl,rfl,_,OU.out,bw.out⟩)
 case rest=>
  obtain⟨rfl,rfl,F',hI',FM⟩:=hcut;have HI':=hd0 hI';have Yi:=hd0 FM;have MU:=hd0 (mR wc);clear hI' FM R vc oc0 oc1;go_wp2_with fail;refine MU.out.mono ?_;rintro e w5 ⟨rfl,rfl⟩;go_wp2;go_ret;exact⟨rfl,F',HI'.out,Yi.out⟩
end
section
open Go.RowKit
theorem Ez (l:List fC)(v:Value)(w:World)(co:ko jG 5 w v l)(cg:qP l=true):
  Calls prog 207 #[v] w fun e w'=>e=.returned (.tuple #[aB (kh l),.int .i64 0])/\af w w':=by
 have HR:=hd0 co;have IF:=hd0 (Em w);clear co;go_enter func207,ntmps207;go_wp2_with fail;refine IF.out.mono ?_;rintro e w1 ⟨rfl,k1⟩;have L:=hd0 (Es l v w1 (eZ HR.out k1) cg);have HK:=hd0 k1;clear k1 IF cg;unfold vi at L ⊢;go_wp2_with fail;refine L.out.mono ?_;rintro e w2 ⟨rfl,k2⟩;have bw:=hd0 (HK.out.keep k2);clear k2 L;go_wp2;go_ret2;exact⟨rfl,bw.out⟩
theorem Iw (l:List Sn)(v:Value)(w:World)(co:ko oB 5 w v l)(cg:zJ l=true):
  Calls prog 136 #[v] w fun e w'=>e=.returned (.tuple #[aB (kj l),.int .i64 0])/\af w w':=by
 have HR:=hd0 co;have IF:=hd0 (Io w);clear co;go_enter func136,ntmps136;go_wp2_with fail;refine IF.out.mono ?_;rintro e w1 ⟨rfl,k1⟩;have L:=hd0 (Iv l v w1 (eZ HR.out k1) cg);have HK:=hd0 k1;clear k1 IF cg;unfold Bw at L ⊢;go_wp2_with fail;refine L.out.mono ?_;rintro e w2 ⟨rfl,k2⟩;have bw:=hd0 (HK.out.keep k2);clear k2 L;go_wp2;go_ret2;exact⟨rfl,bw.out⟩
end
section
open Go.RowKit
attribute [local go_sem] auG
theorem tC:(prog.info? 85).map (fun i=>(i.zero,i.size,i.bytes))=some (some (.agg #[.string ⟨#[]⟩,.int .i64 0,.int .i64 0,.int .i64 0,.int .i64 0]),5,48):=by kernel_rfl
theorem pr (v:Value)(l:List Sn)(w:World)(h:dX oB 5 85 w 0 v l)(hl:l.length<=1000):
  Calls prog 68 #[v] w fun e w'=>∃ v',e=.returned v'/\dX oB 5 85 w' w.heap.size v' l/\af w w':=by
 have hr:=bY eQ h;have qT:∀(w:World) (a:Option Addr) (n c n' c':Nat),(binOp .eql 92 (.slice a n c) (.slice none n' c')).run prog w=.ok (.bool a.isNone) w:=fun w a n c n' c'=>Lib.run_eql_slice_nil w _ _ a n c n' c' underlying92;rcases h.2 with⟨rfl,h0⟩|⟨g,cap,dz,rfl,hb,hg,Ko,Fe,Kv,vk⟩
 ·have uN:l=[]:=avj.1 (by omega);subst uN;clear h hr;go_enter func68,ntmps68;go_wp2;go_ret;exact⟨_,rfl,World.ownsRow_nil _ _ _ _,ah.refl _ _⟩
 ·obtain⟨v',w',bh,ho,hk,_⟩:=Et (P:=prog) (ts:=92) (te:=85) underlying92 tC (by decide) (by decide) eQ w.heap.size _ [] (w.alloc (.cells #[] 85)) w (Mw w _) _ l (eZ hr ((ah.refl _ w).alloc _)) (fun y _=>Bu y) (by simp[maxLen];omega) (by simp;omega) (by simp) ((ah.refl _ w).alloc _) (auP _);rw[avk]at ho;have HO:=hd0 ho;have HK:=hd0 hk;clear h hr ho hk hg vk hb Kv;go_enter func68,ntmps68;go_wp2_with (at_builtin;refine az bh rfl rfl rfl rfl ?_);go_ret;exact⟨v',rfl,HO.out,HK.out⟩
structure Vi (G:FuncId)(c:Value)(w:World)(l:List Sn)(q:Sn->Bool):Prop where
 call:∀(x:Value) (W:World),(callFunc G #[x,c]).run prog W=.ok (.enter G #[x,c]) W
 is:∀ x∈l,∀ W,af w W->Calls prog G #[Bt x,c] W fun e w'=>e=.returned (.bool (q x))/\af W w'
def xG (o:Option Nat):Int:=match o with
 |some i=>i
 |none=>-1
theorem Aj {G:FuncId}{c:Value}{q:Sn->Bool}(l:List Sn)(v:Value)(w:World)(hr:ko oB 5 w v l)(hl:l.length<=1000)(hC:Vi G c w l q):
  Calls prog 148 #[v,.func (.func G) #[] #[c]] w fun e w'=>e=.returned (.int .i64 (xG (l.findIdx? q)))/\af w w':=by
 obtain⟨a,cap,rfl,hx⟩:=hr;have HX:=hd0 hx;have HC:=hd0 hC.is;have da:=hC.call;have Cx:(l.length:Int)<=1000:=by omega
 clear hx hC;go_enter func148,ntmps148;go_wp2_with fail
 go_loopw [8] (fun i wr=>∃ k:Nat,k<=l.length/\i=.int .i64 (k:Int)/\Hid (af w wr)/\Hid (∀ j x,j<k->l[j]?=some x->q x=false)) (fun i _=>l.length-(intOf i).toNat)
 case atStart=>exact⟨0,by omega,rfl,hd0 (ah.refl _ _),hd0 fun j x h=>by omega⟩
 case round=>
  obtain⟨k,hk,rfl,HK,HN⟩:=hrel;by_cases aK:k<l.length
  ·have dR:(k:Int)<l.length:=by omega
   obtain⟨x,hx⟩:∃ x,l[k]?=some x:=⟨_,auM aK⟩
   obtain⟨b,o,rfl,hc⟩:=HX.out k x hx;have c0:wr.cell? ⟨b,o+k*5,none⟩=some (.string ⟨x.name.toArray⟩):=by have h:=hc 0 _ rfl;rw[HK.out.cell (p:=⟨b,o+k*5,none⟩) (am h) id];exact h
   have c1:wr.cell? ⟨b,o+k*5+1,none⟩=some (.int .i64 x.id):=by have h:=hc 1 _ rfl;rw[HK.out.cell (p:=⟨b,o+k*5+1,none⟩) (am h) id];exact h
   have c2:wr.cell? ⟨b,o+k*5+2,none⟩=some (.int .i64 x.plane):=by have h:=hc 2 _ rfl;rw[HK.out.cell (p:=⟨b,o+k*5+2,none⟩) (am h) id];exact h
   have c3:wr.cell? ⟨b,o+k*5+3,none⟩=some (.int .i64 x.table.root):=by have h:=hc 3 _ rfl;rw[HK.out.cell (p:=⟨b,o+k*5+3,none⟩) (am h) id];exact h
   have c4:wr.cell? ⟨b,o+k*5+4,none⟩=some (.int .i64 x.table.size):=by have h:=hc 4 _ rfl;rw[HK.out.cell (p:=⟨b,o+k*5+4,none⟩) (am h) id];exact h
   have T:=hd0 (HC.out x (auN hx) wr HK.out);have Hx:=hd0 hx;clear hx hc
   cases hq:q x with
   |true=>
    rw[hq]at T;have hf:l.findIdx? q=some k:=by
     rw[List.findIdx?_eq_some_iff_getElem];have hxk:l[k]=x:=by have h:=Hx.out;rw[auM aK]at h;injection h
     exact⟨aK,by rw[hxk];exact hq,fun j hj=>by rw[HN.out j _ hj (auM (by omega))];simp⟩
    have Hf:=hd0 hf;clear hf hq;go_wp2_with fail;refine T.out.mono ?_;rintro e w2 ⟨rfl,k2⟩;have bw:=hd0 (HK.out.keep k2);clear k2;go_wp2;go_ret;exact⟨by rw[Hf.out];rfl,bw.out⟩
   |false=>
    rw[hq]at T;have HN2:Hid (∀ j x,j<k+1->l[j]?=some x->q x=false):=hd0 (fun j y hj hy=>by
     by_cases e:j=k
     ·subst e;have h:=Hx.out;rw[hy]at h;injection h with h;rw[h];exact hq
     ·exact HN.out j y (by omega) hy)
    clear hq;go_wp2_with fail;refine T.out.mono ?_;rintro e w2 ⟨rfl,k2⟩;have bw:=hd0 (HK.out.keep k2);clear k2;go_wp2_with fail;exact⟨⟨k+1,by omega,by go_num,bw,HN2⟩,by simp[intOf];omega⟩
  ·have dR:¬(k:Int)<l.length:=by omega
   have hf:l.findIdx? q=none:=by
    rw[List.findIdx?_eq_none_iff];intro x hx;obtain⟨j,hj,rfl⟩:=List.getElem_of_mem hx;exact HN.out j _ (by omega) (auM hj)
   have Hf:=hd0 hf;clear hf;go_wp2;go_ret;exact⟨by rw[Hf.out];rfl,HK.out⟩
theorem Vj {α:Type}(l:List α)(q:α->Bool):decide (0<=xG (l.findIdx? q))=l.any q:=by
 cases h:l.findIdx? q with
 |none=>
  rw[List.findIdx?_eq_none_iff]at h;have:l.any q=false:=by rw[List.any_eq_false];intro x hx;rw[h x hx];simp
  rw[this];rfl
 |some i=>
  rw[List.findIdx?_eq_some_iff_getElem]at h;obtain⟨hi,h1,_⟩:=h;have:l.any q=true:=by rw[List.any_eq_true];exact⟨_,avl hi,h1⟩
  rw[this];simp[xG]
theorem Ak {G:FuncId}{c:Value}{q:Sn->Bool}(l:List Sn)(v:Value)(w:World)(hr:ko oB 5 w v l)(hl:l.length<=1000)(hC:Vi G c w l q):
  Calls prog 131 #[v,.func (.func G) #[] #[c]] w fun e w'=>e=.returned (.bool (l.any q))/\af w w':=by
 have IX:=hd0 (Aj l v w hr hl hC);have hb:=Vj l q;clear hr hl hC;generalize xG (l.findIdx? q)=z at*;generalize l.any q=r at*;subst hb;go_enter func131,ntmps131;go_wp2_with fail;refine IX.out.mono ?_;rintro e w2 ⟨rfl,k2⟩;go_wp2;go_ret;exact⟨rfl,k2⟩
theorem EA {G:FuncId}(hG:G=208\/G=132)(w:World)(b p:Nat)(l:List Sn)(h:w.cell? ⟨b,0,none⟩=some (.int .i64 (p:Int))):Vi G (.pointer (some ⟨b,0,none⟩)) w l (fun x=>x.plane==(p:Int)) where
 call x W:=by rcases hG with rfl|rfl<;>kernel_rfl
 is x hx W k:=by
  have aK:=am h;have c:W.cell? ⟨b,0,none⟩=some (.int .i64 (p:Int)):=(k.cell (p:=⟨b,0,none⟩) aK id).trans h;have lw:b<W.heap.size:=auW aK k.size;clear h aK k hx;rcases hG with rfl|rfl
  ·go_enter func208,ntmps208;go_wp2;go_ret;exact⟨rfl,(ah.refl _ _).alloc _⟩
  ·go_enter func132,ntmps132;go_wp2;go_ret;exact⟨rfl,(ah.refl _ _).alloc _⟩
theorem Vk (w:World)(b:Nat)(s:ay)(l:List Sn)(h:w.cell? ⟨b,0,none⟩=some (aB s)):Vi 149 (.pointer (some ⟨b,0,none⟩)) w l (fun x=>x.name==s) where
 call x W:=by kernel_rfl
 is x hx W k:=by
  have aK:=am h;have c:W.cell? ⟨b,0,none⟩=some (aB s):=(k.cell (p:=⟨b,0,none⟩) aK id).trans h;have lw:b<W.heap.size:=auW aK k.size;clear h aK k hx;go_enter func149,ntmps149;go_wp2;go_ret;exact⟨rfl,(ah.refl _ _).alloc _⟩
end
section
open Go.RowKit
attribute [local go_sem] auG
theorem Ix {l:List Sn}(h:l.length<7){p:Nat}(h1:1<=p)(h2:p<aX l):l.any (fun x=>x.plane==(p:Int))=true:=by
 obtain⟨k1,k2,_⟩:=eh h;unfold aX at h2
 cases hf:(List.range' 1 8).find? fun(p:Nat)=>!l.any fun x=>x.plane==(p:Int)with
 |none=>rw[hf]at h2;simp at h2
 |some q=>
  rw[hf]at h2;rw[List.find?_eq_some_iff_getElem]at hf;obtain⟨_,i,hi,hq,nV⟩:=hf;simp only[List.length_range']at hi;simp only[List.getElem_range']at hq nV;simp only[avm]at h2;have:=nV (p-1) (by omega);rw[show 1+1*(p-1)=p by omega]at this;simpa using this
theorem EC {l:List Sn}(h:l.length<7):l.any (fun x=>x.plane==(aX l:Int))=false:=by
 obtain⟨_,_,k⟩:=eh h;rw[List.any_eq_false];intro x hx;simpa using k x hx
theorem My (l:List Sn)(v:Value)(w:World)(hr:ko oB 5 w v l)(hl:l.length<7):
  Calls prog 134 #[v] w fun e w'=>e=.returned (.int .i64 (aX l:Int))/\af w w':=by
 have hmf:∀(fn:Fn) (first cap:Array Value) (w:World),(Instr.makeFunc fn first cap).run prog w=.ok (.func fn first cap) w:=fun _ _ _ _=>rfl;have HR:=hd0 hr;have Hl:=hd0 hl;have hp:=eh hl;have BR:=hp.1;have pE:=hp.2.1;obtain⟨B,hB⟩:∃ B,w.heap.size=B:=⟨_,rfl⟩
 have iJ:World.blk (w.alloc (.cells #[.int .i64 1] 3)) B #[.int .i64 1] 3:=by rw[<-hB];exact aw _ _ _
 have HB:=hd0 hB;have nS:=hd0 iJ;clear hr hl hp iJ;go_enter func134,ntmps134;go_wp2_with fail;have dF:Hid (af w (w.alloc (.cells #[.int .i64 1] 3))):=hd0 ((ah.refl _ w).alloc _)
 try rw[hB]
 clear hB;generalize w.alloc (.cells #[.int .i64 1] 3)=w0 at*
 go_loopw [4] (fun _ wr=>∃ p:Nat,1<=p/\p<=aX l/\Hid (World.blk wr B #[.int .i64 (p:Int)] 3)/\Hid (af w wr)) (fun _ wr=>aX l+1-(match wr.cell? ⟨B,0,none⟩with|some v=>(intOf v).toNat|none=>0))
 case atStart=>exact⟨1,auP _,BR,nS,dF⟩
 case round=>
  obtain⟨p,h1,h2,HX,HK⟩:=hrel;have cp:wr.cell? ⟨B,0,none⟩=some (.int .i64 (p:Int)):=aa HX.out 0;have fp:=ae HX.out ⟨B,0,none⟩ rfl;have CF:=hd0 (Ak l v wr (eZ HR.out HK.out) (by have:=Hl.out;omega) (EA (.inl rfl) wr B p l cp));by_cases hq:p=aX l
  ·have ha:=EC Hl.out;rw[<-hq]at ha;rw[ha]at CF;have Hq:=hd0 hq;clear ha hq;go_wp2_with fail;refine CF.out.mono ?_;rintro e w2 ⟨rfl,k2⟩;have bw:=hd0 (HK.out.keep k2);have cp2:w2.cell? ⟨B,0,none⟩=some (.int .i64 (p:Int)):=aa (ab k2 HX.out id) 0;clear k2 cp fp;go_wp2;go_ret;exact⟨by rw[<-Hq.out];rfl,bw.out⟩
  ·have ha:=Ix Hl.out h1 (by omega);rw[ha]at CF;have Hq:Hid (p+1<=aX l):=hd0 (by omega);have hpi:(p:Int)<=6:=by omega
   clear ha hq;go_wp2_with fail;refine CF.out.mono ?_;rintro e w2 ⟨rfl,k2⟩;have vr:=ab k2 HX.out id;have cp2:w2.cell? ⟨B,0,none⟩=some (.int .i64 (p:Int)):=aa vr 0;have fp2:=ae vr ⟨B,0,none⟩ rfl;have qx:=hd0 (ag vr 0 (.int .i64 ((p:Int)+1)));have dJ:Hid (af w (w2.setCell ⟨B,0,none⟩ (.int .i64 ((p:Int)+1)))):=hd0 ((HK.out.keep k2).setCell (p:=⟨B,0,none⟩) (.inr (by have:=HB.out;exact Nat.le_of_eq this)) _);have cp0:=cp;clear k2 fp vr cp;go_wp2_with fail;have e1:((p:Int)+1)=((p+1:Nat):Int):=by omega
   rw[e1]at qx dJ ⊢;refine⟨⟨p+1,by omega,Hq.out,qx,dJ⟩,?_⟩;have c3:(w2.setCell ⟨B,0,none⟩ (.int .i64 ((p+1:Nat):Int))).cell? ⟨B,0,none⟩=some (.int .i64 ((p+1:Nat):Int)):=aa qx.out 0;have:=Hq.out;simp only[c3,cp0,intOf,avn];exact Nat.sub_lt_sub_left (by have h1:=Hq.out;exact Nat.lt_succ_of_lt h1) (Nat.lt_succ_self p)
theorem ED (n:Nat)(w:World)(hn:n<=100000):
  Calls prog 217 #[.int .i64 (n:Int)] w fun e w'=>∃ v,e=.returned v/\aI w' w.heap.size v (eU (List.range n))/\af w w':=by
 have hni:(n:Int)<=100000:=by omega
 go_enter func217,ntmps217;go_wp2_with fail
 go_loopw [3,6] (fun v i wr=>∃ k:Nat,k<=n/\i=.int .i64 (k:Int)/\Hid (aI wr w.heap.size v (eU (List.range k)))/\Hid (af w wr)) (fun _ i _=>n-(intOf i).toNat)
 case atStart=>exact⟨0,by omega,rfl,hd0 ⟨rfl,.inl ⟨rfl,rfl⟩⟩,hd0 (ah.refl _ _)⟩
 case round=>
  obtain⟨k,hk,rfl,HO,HK⟩:=hrel;by_cases aK:k<n
  ·have dR:(k:Int)<(n:Int):=by omega
   have Ha:=iV (P:=prog) underlying46 ib rfl w.heap.size u3 _ _ wr w HO.out [.int .i64 (k:Int)] (by simp[Value.oneCell']) (by unfold maxLen;simp[eU];omega) (by simp[eU];omega) HK.out.size HK.out (auP _);obtain⟨v',w3',bh,aZ,dm,_⟩:=Ha;have HR:=hd0 bh;have Fx:Hid (aI w3' w.heap.size v' (eU (List.range (k+1)))):=hd0 (by
    have:=iW aZ;rw[List.range_succ];simpa[eU]using this)
   have dJ:=hd0 dm;clear bh aZ dm;go_wp2_with (at_builtin;refine az HR.out rfl rfl rfl rfl ?_);exact⟨⟨k+1,by omega,by go_num,Fx,dJ⟩,by simp[intOf];omega⟩
  ·obtain rfl:k=n:=by omega
   go_wp2;go_ret;exact⟨_,rfl,HO.out,HK.out⟩
end
end Go.Proofs.YtkghpdcloaiflaaGreatDoor
