import Derived.Test.YtkghpdcloaiflaaGreatDoorC30
import Derived.Lib.SliceRun
set_option maxHeartbeats 4000000
set_option maxRecDepth 100000
namespace Go.Proofs.YtkghpdcloaiflaaGreatDoor
open _root_.Go.Proofs.Tryz
section
open Go
section
variable {P:Program}{aC:Array Oper}{md:Region.Mode}{D1 D2:World->Prop}{Q:Exit->Act->World->Prop}
def yB (P:Program)(md:Region.Mode)(aC:Array Oper)(Q:Exit->Act->World->Prop)(p:Nat)(D1 D2:World->Prop):Nat->Bool->Array Bool->Act->World->Prop
 |0,pl,_,a,w=>(D1 w/\(pl=true\/D2 w))/\Q .normal a w
 |f+1,pl,listed,a,w=>(D1 w/\(pl=true\/D2 w))/\∀ i∈Region.ready md aC listed,match aC[i]? with
  |none=>False
  |some o=>wpList P aC (fun e a' w'=>match e with | .normal=>yB P md aC Q p D1 D2 f (pl||i==p) (listed.setIfInBounds i true) a' w'|e=>Q e a' w') [o] a w
def DZ (md:Region.Mode)(aC:Array Oper):Nat->Array Bool->Bool
 |0,listed=>(Region.ready md aC listed).isEmpty
 |f+1,listed=>!(Region.ready md aC listed).isEmpty&&(Region.ready md aC listed).all fun i=>DZ md aC f (listed.setIfInBounds i true)
theorem rN {p:Nat}:∀(f:Nat) (pl:Bool) (listed:Array Bool) (a:Act) (w:World),DZ md aC f listed=true->(pl=true->listed.getD p false=true)->listed.size=aC.size->yB P md aC Q p D1 D2 f pl listed a w->gH P md aC Q (DP p D1 D2) f listed a w
 |0,pl,listed,a,w,hB,hp,_,h=>⟨⟨h.1.1,h.1.2.imp hp id⟩,by simpa[DZ]using hB,h.2⟩
 |f+1,pl,listed,a,w,hB,hp,hls,h=>by
  simp only[DZ,at2,Bool.not_eq_true',at3]at hB;refine⟨⟨h.1.1,h.1.2.imp hp id⟩,fun h1=>(by rw[h1]at hB;simp at hB),fun k hk=>?_⟩;have h2:=h.2 k hk;have hBk:=hB.2 k hk
  cases h0:aC[k]? with
  |none=>rw[h0]at h2;exact h2.elim
  |some o=>
   rw[h0]at h2;simp only at h2;have hw:wpOp P aC Q k (yB P md aC Q p D1 D2 f (pl||k==p) (listed.setIfInBounds k true)) a w:=by
    unfold wpOp;simp only[h0];unfold wpList at h2;split
    ·rename_i hwt
     rw[atP hwt]at h2;rcases h2 with h2|⟨h2,h3⟩
     ·exact .inl (oF h2)
     ·exact .inr ⟨h2,h3⟩
    ·rename_i hwt
     rw[atR hwt]at h2;exact h2
   refine wpOp_mono (fun a' w' h'=>rN f (pl||k==p) _ a' w' hBk (fun e=>?_) (by simpa using hls) h') hw;rw[at5]at e;by_cases Th:k=p
   ·subst Th;have aM:k<listed.size:=by rw[hls];exact(at7.1 h0).1
    simp[aM]
   ·exact getD_set_true (hp (e.resolve_right (by simpa using Th)))
theorem gz {p:Nat}{pl:Bool}{listed:Array Bool}{a:Act}{w:World}(hd:D1 w/\(pl=true\/D2 w))(h:Q .normal a w):yB P md aC Q p D1 D2 0 pl listed a w:=⟨hd,h⟩
theorem aX {p f i:Nat}{pl:Bool}{listed:Array Bool}{a:Act}{w:World}{o:Oper}(hr:Region.ready md aC listed=[i])(h0:aC[i]?=some o)(hd:D1 w/\(pl=true\/D2 w))
  (h:wpList P aC (fun e a' w'=>match e with | .normal=>yB P md aC Q p D1 D2 f (pl||i==p) (listed.setIfInBounds i true) a' w'|e=>Q e a' w') [o] a w):yB P md aC Q p D1 D2 (f+1) pl listed a w:=by
 refine⟨hd,fun k hk=>?_⟩;rw[hr]at hk;obtain rfl:k=i:=by simpa using hk
 rw[h0];exact h
theorem lc {p f i j:Nat}{pl:Bool}{listed:Array Bool}{a:Act}{w:World}{o o':Oper}(hr:Region.ready md aC listed=[i,j])(h0:aC[i]?=some o)(h1:aC[j]?=some o')(hd:D1 w/\(pl=true\/D2 w))
  (h:wpList P aC (fun e a' w'=>match e with | .normal=>yB P md aC Q p D1 D2 f (pl||i==p) (listed.setIfInBounds i true) a' w'|e=>Q e a' w') [o] a w)
  (h':wpList P aC (fun e a' w'=>match e with | .normal=>yB P md aC Q p D1 D2 f (pl||j==p) (listed.setIfInBounds j true) a' w'|e=>Q e a' w') [o'] a w):yB P md aC Q p D1 D2 (f+1) pl listed a w:=by
 refine⟨hd,fun k hk=>?_⟩;rw[hr]at hk;rcases at9.1 hk with rfl|hk
 ·rw[h0];exact h
 ·obtain rfl:k=j:=by simpa using hk
  rw[h1];exact h'
def Qp (md:Region.Mode)(aC:Array Oper)(p:Nat)(js:List Nat)(f:Nat):Bool:=
 Region.noSelect aC&&decide (js.length+f=aC.size)&&CK md aC p js (Array.replicate aC.size false)&&DZ md aC f (vK js (Array.replicate aC.size false))
theorem jK {P:Program}{id:Nat}{Q:Exit->Act->World->Prop}{a:Act}{w:World}{l:List Oper}(p:Nat)(js:List Nat)(f:Nat)(D1 D2:World->Prop)(hm:P.follows .mixedOrders=true)(hB:Qp .any l.toArray p js f=true)
  (hQ:∀ c o v a w,Q (.panic c) (Act.put a o v) w->Q (.panic c) a w)
  (h:lJ P .any l.toArray p D1 D2 (fun a'=>yB P .any l.toArray Q p D1 D2 f false (vK js (Array.replicate l.toArray.size false)) a' { w with drawn:=w.drawn+1 }) js a):(Code.region id l.toArray true).wp P Q a w:=by
 simp only[Qp,at2,aua]at hB;obtain⟨⟨⟨fI,aU⟩,dr⟩,Iz⟩:=hB;refine wp_region_any hm ?_;have H:=lZ (md:=.any) (Q:=Q) (g:=f) fI hQ { w with drawn:=w.drawn+1 } js (Array.replicate l.toArray.size false) a (fun j oj _ hl=>by rw[aub]at hl;simp at hl)
  (fun a' Fh=>rN f false _ a' _ Iz (fun e=>by cases e) (by rw[qx];simp) Fh) dr h
 rw[aU]at H;exact rz H
end
end
section
open Go.RowKit Go.Shelf
attribute [local go_sem] atC
theorem Qq {w:World}{base:Nat}{v:Value}{l:List Int}(h:aL w base v l)(h0:∀ n∈l,0<=n):ez w v (pS (l.map Int.toNat)):=by
 have h1:=aZ h;have e:pS (l.map Int.toNat)=bi l:=by
  unfold pS bi;rw[auc];apply aud;intro n hn;have:=h0 n hn;show Value.int .i64 ((n.toNat:Nat):Int)=Value.int .i64 n;rw[Int.toNat_of_nonneg this]
 rw[e];exact h1
theorem D0:∀(s:ay),4*(cl s).length<=s.length
 |[]=>by simp[cl]
 |[_]=>by simp[cl]
 |[_,_]=>by simp[cl]
 |[_,_,_]=>by simp[cl]
 |a::b::c::d::r=>by
  have:=D0 r;simp only[cl,atH];omega
theorem D4 {f:Nat->Int->Except Int ra}{B:Nat}:∀(l:List Int) (i:Nat) (o:ra),(∀ i n o,f i n=.ok o->o.1.length<=B)->cI f i l=.ok o->o.1.length<=B*l.length
 |[],_,o,_,h=>by
  simp only[cI]at h;injection h with h;subst h;simp
 |n::r,i,o,hf,h=>by
  simp only[cI]at h
  cases ha:f i n with
  |error e=>rw[ha]at h;cases h
  |ok a=>
   rw[ha]at h;simp only at h
   cases hb:cI f (i+1) r with
   |error e=>rw[hb]at h;cases h
   |ok b=>
    rw[hb]at h;simp only at h;injection h with h;subst h;have h1:=hf i n a ha;have h2:=D4 r (i+1) b hf hb;simp only[at0,atH,Nat.mul_succ];omega
theorem Qr (rd:Rd)(ch:Bool)(size:Nat):∀(l i:Nat) (n:Int) (o:ra),nO rd ch size l i n=.ok o->o.1.length<=61 ^ l
 |0,i,n,o,h=>by
  unfold nO at h;split at h
  ·split at h
   ·cases h
   ·split at h
    ·cases h
    ·injection h with h;subst h;simp
  ·injection h with h;subst h;simp
 |l+1,i,n,o,h=>by
  unfold nO at h;split at h
  ·cases h
  ·rename_i s _
   split at h
   ·cases h
   ·rename_i hs
    split at h
    ·cases h
    ·rename_i o' ho
     injection h with h;subst h;have h1:=D4 _ _ _ (fun i n o h=>Qr rd ch size l i n o h) ho;have h2:=D0 s;have h3:(cl s).length<=60:=by omega
     have h4:61 ^ l*(cl s).length<=61 ^ l*60:=aue _ h3;have h5:1<=61 ^ l:=Nat.one_le_pow _ _ (by decide);simp only[atH];rw[auf];omega
theorem L8 {rd:Rd}{b:fR}{l:List Int}(h:ox rd b=.ok l):l.length<=4000:=by
 unfold ox at h
 cases ho:d7 rd b false with
 |error e=>rw[ho]at h;cases h
 |ok o=>
  rw[ho]at h;injection h with h;subst h;show(dK o.1).length<=4000;unfold dK;rw[aug];unfold d7 at ho;split at ho
  ·cases ho
  ·split at ho
   ·injection ho with ho;subst ho;simp
   ·have h1:=Qr _ _ _ _ _ _ _ ho;have h2:(au b.size.toNat).length-1<=2:=by
     rcases aK b.size.toNat with⟨_,e⟩|⟨_,_,e⟩|⟨_,_,e⟩|⟨_,e⟩<;>rw[e]<;>simp
    have h3:61 ^ ((au b.size.toNat).length-1)<=61 ^ 2:=auh (by decide) h2;omega
theorem D8 {rd:Rd}{data:ay}{b:fR}{S:Nat->Prop}(h:aR rd data b S){set s:ay}(hl:set.length<=600)(e:dI rd set b=.ok s):s.length<=600:=by
 obtain⟨l,e1,uV⟩:=h.reach;unfold dI at e;rw[e1]at e;simp only at e;split at e
 ·injection e with e;rw[<-e];refine atE (jV _ _) ?_;have:(iE (l.map Int.toNat)).length<=4095/8+1:=AP fun x hx=>by
   obtain⟨n,hn,rfl⟩:=aui.1 hx;obtain⟨k,rfl,hk⟩:=(uV n).1 hn;have:=h.lt hk;simp;omega
  omega
 ·cases e
theorem D9 {ty:TypeId}{rv:Value}{f:FuncId}{I:World->(Nat->Prop)->Prop}{rd:Rd}(S:pZ ty rv f I rd){w:World}{F:Nat->Prop}(hI:I w F)(set:ay)(adc:set.length<=600){data:ay}{b:fR}{S0:Nat->Prop}(hb:aR rd data b S0)(s:ay)(hs:dI rd set b=.ok s):
  Calls prog 79 #[.iface ty rv,aB set,db b] w fun e w'=>e=.returned (.tuple #[aB s,.int .i64 0])/\∃ F',I w' F'/\dV F F' w w':=by
 obtain⟨l,e1,uV⟩:=hb.reach;have hr:∀ n∈l,0<=n/\n<=4095:=fun n hn=>by
  obtain⟨k,rfl,hk⟩:=(uV n).1 hn;have:=hb.lt hk;omega
 have es:d6 set (iE (l.map Int.toNat))=s:=by
  unfold dI at hs;rw[e1]at hs;simp only at hs;rw[atP (by rw[at3];intro x hx;have:=hr x hx;simp;omega)]at hs;injection hs
 have hm:b.may=true:=by
  have:=hb.may;unfold fR.ok at this;simp only[at2]at this;exact this.1.1
 have yf:l.length<=1000000:=by have:=L8 e1;omega
 have dA:af w (w.alloc (.cells #[.int .i64 b.root,.int .i64 b.size] 42)):=(ah.refl _ w).alloc _;have R:=hd0 (Lp S (S.same hI (dA.on fun _ _=>id) dA.size) b hm l e1);have dN:=hd0 dA;have HS:=hd0 S;have Hr:=hd0 hr;have Hes:=hd0 es;clear hI hs dA hr es uV e1 hb;unfold db at R ⊢;go_enter func79,ntmps79;go_wp2_with fail;refine R.out.mono ?_;rintro e w1 ⟨v,rfl,ho,F1,Nr,hk1,nJ⟩;have OF:=hd0 (AR (l.map Int.toNat) v w1 (Qq ho fun n hn=>(Hr.out n hn).1) (by simpa using yf) (fun n hn=>by
  obtain⟨z,hz,rfl⟩:=aui.1 hn;have:=Hr.out z hz;omega))
 have XH:=hd0 Nr;have bU:Hid (dV F F1 w w1):=hd0 ⟨(dN.out.mono (T:=F) (fun _ _ h=>h.elim)).trans hk1.mod (fun _ _ h=>h),fun g hg=>(hk1.foot g hg).imp id (fun h=>atE dN.out.size h)⟩;clear ho Nr hk1 nJ R;go_wp2_with fail;refine OF.out.mono ?_;rintro e w2 ⟨rfl,k2⟩;have OR:=hd0 (fun W=>jW set (iE (l.map Int.toNat)) W (by omega) (by
  have:(iE (l.map Int.toNat)).length<=4095/8+1:=AP fun x hx=>by
   obtain⟨n,hn,rfl⟩:=aui.1 hx;have:=Hr.out n hn;omega
  omega))
 have Om:=hd0 (HS.out.same XH.out (k2.on fun _ _=>id) k2.size);have bu:Hid (dV F F1 w w2):=hd0 ⟨bU.out.mod.keep k2,bU.out.foot⟩;clear k2 OF;go_wp2_with fail;refine(OR.out _).mono ?_;rintro e w3 ⟨rfl,k3⟩;rw[Hes.out];have Fe:=hd0 (HS.out.same Om.out (k3.on fun _ _=>id) k3.size);have dT:Hid (dV F F1 w w3):=hd0 ⟨bu.out.mod.keep k3,bu.out.foot⟩;clear k3 OR;go_wp2;go_ret2;exact⟨rfl,F1,Fe.out,dT.out⟩
end
section
open Go.RowKit Go.Shelf
attribute [local go_sem] atC
structure xm (pv size:Nat)(text:ay)(num pb:Nat)(F:Nat->Prop)(t:gA)(w w':World)(F':Nat->Prop):Prop where
 vol:lu pv size text num t.rd w' F'
 pool:jF w' pb t.pool
 foot:∀ g,F' g->F g\/w.heap.size<=g
 npb:¬ F' pb
 mod:ah (fun g=>F g\/g=pb) w w'
theorem lu.same {pv size:Nat}{text:ay}{num:Nat}{rd:Rd}{w w':World}{F:Nat->Prop}(h:lu pv size text num rd w F)(m:fy F w w')(hs:w.heap.size<=w'.heap.size):lu pv size text num rd w' F:=(nw pv size text num rd).same h m hs
theorem lu.lt {pv size:Nat}{text:ay}{num:Nat}{rd:Rd}{w:World}{F:Nat->Prop}(h:lu pv size text num rd w F)(b:Nat)(hb:F b):b<w.heap.size:=(nw pv size text num rd).lt h b hb
theorem xm.put {pv size:Nat}{text:ay}{num pb:Nat}{F F':Nat->Prop}{t:gA}{w w1 w2:World}{B:Nat}(h:xm pv size text num pb F t w w1 F')(m:ah (fun g=>g=B) w1 w2)(hB:¬ F' B)(hp:B≠pb)(hw:w.heap.size<=B):xm pv size text num pb F t w w2 F' where
 vol:=h.vol.same (m.on fun g hg e=>hB (e▸hg)) m.size
 pool:=h.pool.mod m fun e=>hp e.symm
 foot:=h.foot
 npb:=h.npb
 mod:=h.mod.trans m fun g hg e=>by omega
theorem xm.keep {pv size:Nat}{text:ay}{num pb:Nat}{F F':Nat->Prop}{t:gA}{w w1 w2:World}(h:xm pv size text num pb F t w w1 F')(m:af w1 w2):xm pv size text num pb F t w w2 F' where
 vol:=h.vol.same (m.on fun _ _=>id) m.size
 pool:=h.pool.mod m id
 foot:=h.foot
 npb:=h.npb
 mod:=h.mod.keep m
theorem nA {pv size:Nat}{text:ay}{num:Nat}{rd:Rd}{w:World}{F:Nat->Prop}{pb:Nat}{p:Pl}(hI:lu pv size text num rd w F)(hp:jF w pb p)(hF:¬ F pb)(hb:p.blocks=size/4)(J9:size/4<=4096)(v:Nat)(hv:w.cell? ⟨v,0,none⟩=some (aq pv))
  {bg:ay} {old:fR} {S:Nat->Prop} (hT:aR rd bg old S) (data:ay) (hd:data.length<=16384) (b:fR) (t:gA) (hs:dE ⟨rd,p⟩ old data=.ok (b,t)):
  Calls prog 137 #[aq v,db old,aB data,aq pb] w fun e w'=>e=.returned (db b)/\∃ F',xm pv size text num pb F t w w' F':=by
 obtain⟨hh,nums,rfl,hT,_⟩:=hT;obtain⟨old,hold⟩:∃ old,dp bg nums=old:=⟨_,rfl⟩
 have ST:=fun(W:World) (F:Nat->Prop) (hI:lu pv size text num rd W F) (hp:jF W pb p) (hF:¬ F pb)=>Ls (G0 pv size text num) hI hp hF hb J9 bg nums hT hh data hd b t hs;rw[hold]at ST ⊢;clear hs;have uq:=hd0 ST;have HI:=hd0 hI;have HP:=hd0 hp;have HF:=hd0 hF;have vlt:=am hv;have HV:=hd0 hv;clear hI hp hF ST hT hold hv;obtain⟨root,sz⟩:=old;unfold db at uq ⊢;go_enter func137,ntmps137
 go_upto_region 1 with fail
 have HK:Hid (af w ((w.alloc (.cells #[.int .i64 root,.int .i64 sz] 42)).alloc (.cells #[.int .i64 0,.int .i64 0] 42))):=hd0 (((ah.refl _ w).alloc _).alloc _);have IG:World.blk ((w.alloc (.cells #[.int .i64 root,.int .i64 sz] 42)).alloc (.cells #[.int .i64 0,.int .i64 0] 42)) w.heap.size #[.int .i64 root,.int .i64 sz] 42:=aG (aw _ _ _) _;have U8:World.blk ((w.alloc (.cells #[.int .i64 root,.int .i64 sz] 42)).alloc (.cells #[.int .i64 0,.int .i64 0] 42)) (w.heap.size+1) #[.int .i64 0,.int .i64 0] 42:=aY (by simp) _ _;obtain⟨W,hW⟩:∃ W,(w.alloc (.cells #[.int .i64 root,.int .i64 sz] 42)).alloc (.cells #[.int .i64 0,.int .i64 0] 42)=W:=⟨_,rfl⟩
 have cA:W.heap.size=w.heap.size+2:=by rw[<-hW];simp
 rw[hW]at HK IG U8 ⊢;have XH:=hd0 (HI.out.same (HK.out.on fun _ _=>id) HK.out.size);have BN:=hd0 (HP.out.mod HK.out id);obtain⟨ob,ic⟩:∃ ob,w.heap.size=ob:=⟨_,rfl⟩
 obtain⟨zb,ZK⟩:∃ zb,w.heap.size+1=zb:=⟨_,rfl⟩
 rw[ZK]at U8
 try rw[ZK]
 rw[ic]at IG
 try rw[ic]
 have vc:W.cell? ⟨v,0,none⟩=some (aq pv):=(HK.out.cell (p:=⟨v,0,none⟩) vlt id).trans HV.out;have oc0:W.cell? ⟨ob,0,none⟩=some (.int .i64 root):=aa IG 0;have oc1:W.cell? ⟨ob,1,none⟩=some (.int .i64 sz):=aa IG 1;have vl2:v<W.heap.size:=atS vlt HK.out.size;have ol2:ob<W.heap.size:=ai IG;have HB:=hd0 (And.intro IG U8);have xU:=hd0 ic;have Hzb:=hd0 ZK;have Hsz:=hd0 cA;clear hW IG U8 ic ZK cA;have I0:∀ g,F g\/g=pb->g<w.heap.size:=fun g hg=>hg.elim (HI.out.lt g) (fun e=>e▸ai HP.out.own);have HC:Hid (∀ W',af W W'->Calls prog 212 #[.iface 94 (aq pv),.agg #[.int .i64 root,.int .i64 sz],aB data,aq pb] W' fun e w2=>e=.returned (.tuple #[.agg #[.int .i64 b.root,.int .i64 b.size],.int .i64 0])/\(∃ F',xm pv size text num pb F t w w2 F'/\∀ g,F' g->F g\/W'.heap.size<=g)/\ah (fun g=>F g\/g=pb) W' w2):=hd0 (fun W' k=>by
  refine(uq.out W' F (XH.out.same (k.on fun _ _=>id) k.size) (BN.out.mod k id) HF.out).mono ?_;rintro e w2 ⟨rfl,F',h1,h2,h3,h4,h5⟩;have k0:=HK.out.keep k;exact⟨rfl,⟨F',⟨h1,h2,fun g hg=>(h3 g hg).imp id (fun h=>atE k0.size h),h4,(k0.mono (T:=fun g=>F g\/g=pb) (fun _ _ h=>h.elim)).trans h5 (fun _ _ h=>h)⟩,h3⟩,h5⟩)
 have HFl:=hd0 I0;clear uq I0;go_cut [9,10] (fun v9 v10 wx=>∃(B:Nat) (F':Nat->Prop),v9=.pointer (some ⟨B,0,none⟩)/\v10=.int .i64 0/\World.blk wx B #[.int .i64 b.root,.int .i64 b.size] 42/\World.blk wx zb #[.int .i64 0,.int .i64 0] 42/\xm pv size text num pb F t w wx F'/\¬ F' zb)
 case first=>
  go_region_with ((go_at_call 212;first
   |(refine atV (HC.out _ ((ah.refl _ W).drew)) ?_;rintro e w2 ⟨rfl,lh,gO⟩;have Bw:=hd0 lh;have eS:=ab gO (show World.blk W.drew zb _ _ from HB.out.2) (fun h=>by have:=HFl.out _ h;have:=Hzb.out;omega);have HZ2:=hd0 eS;clear lh gO eS)
   |(refine atV (HC.out _ (((ah.refl _ W).alloc _).drew)) ?_;rintro e w2 ⟨rfl,lh,gO⟩;have Bw:=hd0 lh;have eS:=ab gO (show World.blk (W.alloc (.cells #[.int .i64 0,.int .i64 0] 42)).drew zb _ _ from aG HB.out.2 _) (fun h=>by have:=HFl.out _ h;have:=Hzb.out;omega);have HZ2:=hd0 eS;have uW:=ab gO (show World.blk (W.alloc (.cells #[.int .i64 0,.int .i64 0] 42)).drew W.heap.size _ _ from aw W _ _) (fun h=>by have:=HFl.out _ h;have:=HK.out.size;omega);have ly:=hd0 uW;have x0:w2.cell? ⟨W.heap.size,0,none⟩=some (.int .i64 0):=aa uW 0;have x1:w2.cell? ⟨W.heap.size,1,none⟩=some (.int .i64 0):=aa uW 1;have y0:w2.frozen? ⟨W.heap.size,0,none⟩=false:=ae uW ⟨W.heap.size,0,none⟩ rfl;have y1:w2.frozen? ⟨W.heap.size,1,none⟩=false:=ae uW ⟨W.heap.size,1,none⟩ rfl;clear lh gO eS uW)))
  all_goals (go_wp2_with fail;go_meet)
  all_goals (case rel=>
   obtain⟨F',hs,hf⟩:=Bw.out;have hz:¬ F' zb:=fun h=>(hf zb h).elim (fun h=>by have:=HFl.out zb (.inl h);have:=Hzb.out;omega) (fun h=>by have:=ai HB.out.2;simp at h;omega)
   first
   |exact⟨_,F',rfl,rfl,aw _ _ _,aG HZ2.out _,hs.keep ((ah.refl _ _).alloc _),hz⟩
   |(have hB:¬ F' W.heap.size:=fun h=>(hf _ h).elim (fun h=>by have:=HFl.out _ (.inl h);have:=HK.out.size;omega) (fun h=>by simp at h;omega)
     exact⟨_,F',rfl,rfl,ag (ag ly.out 0 _) 1 _,bC (bC HZ2.out _ (fun e=>by have:=ai HB.out.2;simp at e;omega) _) _ (fun e=>by have:=ai HB.out.2;simp at e;omega) _,hs.put (((ah.refl (fun g=>g=W.heap.size) _).setCell (p:=⟨W.heap.size,0,none⟩) (.inl rfl) _).setCell (p:=⟨W.heap.size,1,none⟩) (.inl rfl) _) hB (fun e=>by have:=ai BN.out.own;omega) HK.out.size,hz⟩))
 case rest=>
  obtain⟨B,F',rfl,rfl,hB,hz,hs,hnz⟩:=hcut;have b0:wc.cell? ⟨B,0,none⟩=some (.int .i64 b.root):=aa hB 0;have b1:wc.cell? ⟨B,1,none⟩=some (.int .i64 b.size):=aa hB 1;have z0:wc.cell? ⟨zb,0,none⟩=some (.int .i64 0):=aa hz 0;have z1:wc.cell? ⟨zb,1,none⟩=some (.int .i64 0):=aa hz 1;have f0:=ae hz ⟨zb,0,none⟩ rfl;have f1:=ae hz ⟨zb,1,none⟩ rfl;have MU:=hd0 (mJ wc);have IK:=hd0 (hs.put (((ah.refl (fun g=>g=zb) wc).setCell (p:=⟨zb,0,none⟩) (.inl rfl) (.int .i64 b.root)).setCell (p:=⟨zb,1,none⟩) (.inl rfl) (.int .i64 b.size)) hnz (fun e=>by have:=ai HP.out.own;have:=Hzb.out;omega) (by have:=Hzb.out;omega));have B4:=hd0 (ag (ag hz 0 (.int .i64 b.root)) 1 (.int .i64 b.size));clear hs hnz hB hz;go_wp2_with fail;refine MU.out.mono ?_;rintro e w5 ⟨rfl,rfl⟩;go_wp2_with fail;obtain⟨W4,hW4⟩:∃ W4,(w5.setCell ⟨zb,0,none⟩ (.int .i64 b.root)).setCell ⟨zb,1,none⟩ (.int .i64 b.size)=W4:=⟨_,rfl⟩
  rw[hW4]at B4 IK ⊢;have q0:W4.cell? ⟨zb,0,none⟩=some (.int .i64 b.root):=aa B4.out 0;have q1:W4.cell? ⟨zb,1,none⟩=some (.int .i64 b.size):=aa B4.out 1;refine auj (v:=db b) (by simp[results,Tryz.results137,go_sem,q0,q1,db]) rfl ?_;exact⟨rfl,F',IK.out⟩
theorem xn {pv size:Nat}{text:ay}{num:Nat}{rd:Rd}{w:World}{F:Nat->Prop}(hI:lu pv size text num rd w F)(v:Nat)(hv:w.cell? ⟨v,0,none⟩=some (aq pv))(set:ay)(adc:set.length<=600)
  {data:ay} {b:fR} {S:Nat->Prop} (hb:aR rd data b S) (s:ay) (hs:dI rd set b=.ok s):
  Calls prog 139 #[aq v,aB set,db b] w fun e w'=>e=.returned (aB s)/\∃ F',lu pv size text num rd w' F'/\dV F F' w w':=by
 have RE:=fun(W:World) (h:lu pv size text num rd W F)=>D9 (nw pv size text num rd) h set adc hb s hs;have I0:∀ g,F g->g<w.heap.size:=fun g hg=>hI.lt g hg;have HI:=hd0 hI;have vlt:=am hv;have HV:=hd0 hv;clear hI hb hs hv;obtain⟨root,sz⟩:=b;unfold db at RE ⊢;simp only at RE;go_enter func139,ntmps139
 go_upto_region 1 with fail
 have HK:Hid (af w (w.alloc (.cells #[.int .i64 root,.int .i64 sz] 42))):=hd0 ((ah.refl _ w).alloc _);have IG:World.blk (w.alloc (.cells #[.int .i64 root,.int .i64 sz] 42)) w.heap.size #[.int .i64 root,.int .i64 sz] 42:=aw _ _ _;obtain⟨W,hW⟩:∃ W,w.alloc (.cells #[.int .i64 root,.int .i64 sz] 42)=W:=⟨_,rfl⟩
 rw[hW]at HK IG ⊢;obtain⟨ob,ic⟩:∃ ob,w.heap.size=ob:=⟨_,rfl⟩
 rw[ic]at IG ⊢;have vc:W.cell? ⟨v,0,none⟩=some (aq pv):=(HK.out.cell (p:=⟨v,0,none⟩) vlt id).trans HV.out;have oc0:W.cell? ⟨ob,0,none⟩=some (.int .i64 root):=aa IG 0;have oc1:W.cell? ⟨ob,1,none⟩=some (.int .i64 sz):=aa IG 1;have R:=hd0 (RE W.drew (HI.out.same ((HK.out.drew).on fun _ _=>id) HK.out.drew.size));clear hW IG RE I0 ic;go_cut [7,8] (fun v7 v8 wx=>v7=aB s/\v8=.int .i64 0/\∃ F',lu pv size text num rd wx F'/\dV F F' w wx)
 case first=>
  go_region_with ((go_at_call 79;refine R.out.mono ?_;rintro e w2 ⟨rfl,F2,hI2,dc⟩;have Om:=hd0 hI2;have bu:Hid (dV F F2 w w2):=hd0 ⟨(HK.out.drew.mono (T:=F) (fun _ _ h=>h.elim)).trans dc.mod (fun _ _ h=>h),fun g hg=>(dc.foot g hg).imp id (fun h=>atE HK.out.size h)⟩;clear hI2 dc))
  all_goals (go_wp2_with fail;go_meet)
  all_goals (case rel=>exact⟨rfl,rfl,_,Om.out,bu.out⟩)
 case rest=>
  obtain⟨rfl,rfl,F',hI',Fz⟩:=hcut;have HI':=hd0 hI';have XT:=hd0 Fz;have MU:=hd0 (mJ wc);clear hI' Fz R vc oc0 oc1;go_wp2_with fail;refine MU.out.mono ?_;rintro e w5 ⟨rfl,rfl⟩;go_wp2;go_ret;exact⟨rfl,F',HI'.out,XT.out⟩
end
section
open Go.RowKit
theorem Ea (l:List fF)(v:Value)(w:World)(cH:jY jv 5 w v l)(cC:qB l=true):
  Calls prog 207 #[v] w fun e w'=>e=.returned (.tuple #[aB (jT l),.int .i64 0])/\af w w':=by
 have HR:=hd0 cH;have IF:=hd0 (DS w);clear cH;go_enter func207,ntmps207;go_wp2_with fail;refine IF.out.mono ?_;rintro e w1 ⟨rfl,k1⟩;have L:=hd0 (DX l v w1 (eO HR.out k1) cC);have HK:=hd0 k1;clear k1 IF cC;unfold uP at L ⊢;go_wp2_with fail;refine L.out.mono ?_;rintro e w2 ⟨rfl,k2⟩;have bu:=hd0 (HK.out.keep k2);clear k2 L;go_wp2;go_ret2;exact⟨rfl,bu.out⟩
theorem G9 (l:List Sn)(v:Value)(w:World)(cH:jY oe 5 w v l)(cC:zo l=true):
  Calls prog 136 #[v] w fun e w'=>e=.returned (.tuple #[aB (jU l),.int .i64 0])/\af w w':=by
 have HR:=hd0 cH;have IF:=hd0 (GV w);clear cH;go_enter func136,ntmps136;go_wp2_with fail;refine IF.out.mono ?_;rintro e w1 ⟨rfl,k1⟩;have L:=hd0 (G7 l v w1 (eO HR.out k1) cC);have HK:=hd0 k1;clear k1 IF cC;unfold A6 at L ⊢;go_wp2_with fail;refine L.out.mono ?_;rintro e w2 ⟨rfl,k2⟩;have bu:=hd0 (HK.out.keep k2);clear k2 L;go_wp2;go_ret2;exact⟨rfl,bu.out⟩
end
section
open Go.RowKit
attribute [local go_sem] atC
theorem sX:(prog.info? 85).map (fun i=>(i.zero,i.size,i.bytes))=some (some (.agg #[.string ⟨#[]⟩,.int .i64 0,.int .i64 0,.int .i64 0,.int .i64 0]),5,48):=by kernel_rfl
theorem o6 (v:Value)(l:List Sn)(w:World)(h:dQ oe 5 85 w 0 v l)(hl:l.length<=1000):
  Calls prog 68 #[v] w fun e w'=>∃ v',e=.returned v'/\dQ oe 5 85 w' w.heap.size v' l/\af w w':=by
 have hr:=cf eV h;have qT:∀(w:World) (a:Option Addr) (n c n' c':Nat),(binOp .eql 92 (.slice a n c) (.slice none n' c')).run prog w=.ok (.bool a.isNone) w:=fun w a n c n' c'=>Lib.run_eql_slice_nil w _ _ a n c n' c' underlying92;rcases h.2 with⟨rfl,h0⟩|⟨g,cap,du,rfl,hb,hg,Ke,EP,Kn,uS⟩
 ·have uz:l=[]:=auk.1 (by omega);subst uz;clear h hr;go_enter func68,ntmps68;go_wp2;go_ret;exact⟨_,rfl,World.ownsRow_nil _ _ _ _,ah.refl _ _⟩
 ·obtain⟨v',w',bh,ho,hk,_⟩:=DY (P:=prog) (ts:=92) (te:=85) underlying92 sX (by decide) (by decide) eV w.heap.size _ [] (w.alloc (.cells #[] 85)) w (L6 w _) _ l (eO hr ((ah.refl _ w).alloc _)) (fun y _=>A5 y) (by simp[maxLen];omega) (by simp;omega) (by simp) ((ah.refl _ w).alloc _) (atL _);rw[aul]at ho;have HO:=hd0 ho;have HK:=hd0 hk;clear h hr ho hk hg uS hb Kn;go_enter func68,ntmps68;go_wp2_with (at_builtin;refine aA bh rfl rfl rfl rfl ?_);go_ret;exact⟨v',rfl,HO.out,HK.out⟩
structure Uv (G:FuncId)(c:Value)(w:World)(l:List Sn)(q:Sn->Bool):Prop where
 call:∀(x:Value) (W:World),(callFunc G #[x,c]).run prog W=.ok (.enter G #[x,c]) W
 is:∀ x∈l,∀ W,af w W->Calls prog G #[A4 x,c] W fun e w'=>e=.returned (.bool (q x))/\af W w'
def xo (o:Option Nat):Int:=match o with
 |some i=>i
 |none=>-1
theorem zT {G:FuncId}{c:Value}{q:Sn->Bool}(l:List Sn)(v:Value)(w:World)(hr:jY oe 5 w v l)(hl:l.length<=1000)(hC:Uv G c w l q):
  Calls prog 148 #[v,.func (.func G) #[] #[c]] w fun e w'=>e=.returned (.int .i64 (xo (l.findIdx? q)))/\af w w':=by
 obtain⟨a,cap,rfl,hx⟩:=hr;have HX:=hd0 hx;have HC:=hd0 hC.is;have cX:=hC.call;have Fw:(l.length:Int)<=1000:=by omega
 clear hx hC;go_enter func148,ntmps148;go_wp2_with fail
 go_loopw [8] (fun i wr=>∃ k:Nat,k<=l.length/\i=.int .i64 (k:Int)/\Hid (af w wr)/\Hid (∀ j x,j<k->l[j]?=some x->q x=false)) (fun i _=>l.length-(intOf i).toNat)
 case atStart=>exact⟨0,by omega,rfl,hd0 (ah.refl _ _),hd0 fun j x h=>by omega⟩
 case round=>
  obtain⟨k,hk,rfl,HK,HN⟩:=hrel;by_cases aM:k<l.length
  ·have dS:(k:Int)<l.length:=by omega
   obtain⟨x,hx⟩:∃ x,l[k]?=some x:=⟨_,atI aM⟩
   obtain⟨b,o,rfl,hc⟩:=HX.out k x hx;have c0:wr.cell? ⟨b,o+k*5,none⟩=some (.string ⟨x.name.toArray⟩):=by have h:=hc 0 _ rfl;rw[HK.out.cell (p:=⟨b,o+k*5,none⟩) (am h) id];exact h
   have c1:wr.cell? ⟨b,o+k*5+1,none⟩=some (.int .i64 x.id):=by have h:=hc 1 _ rfl;rw[HK.out.cell (p:=⟨b,o+k*5+1,none⟩) (am h) id];exact h
   have c2:wr.cell? ⟨b,o+k*5+2,none⟩=some (.int .i64 x.plane):=by have h:=hc 2 _ rfl;rw[HK.out.cell (p:=⟨b,o+k*5+2,none⟩) (am h) id];exact h
   have c3:wr.cell? ⟨b,o+k*5+3,none⟩=some (.int .i64 x.table.root):=by have h:=hc 3 _ rfl;rw[HK.out.cell (p:=⟨b,o+k*5+3,none⟩) (am h) id];exact h
   have c4:wr.cell? ⟨b,o+k*5+4,none⟩=some (.int .i64 x.table.size):=by have h:=hc 4 _ rfl;rw[HK.out.cell (p:=⟨b,o+k*5+4,none⟩) (am h) id];exact h
   have T:=hd0 (HC.out x (atJ hx) wr HK.out);have Hx:=hd0 hx;clear hx hc
   cases hq:q x with
   |true=>
    rw[hq]at T;have hf:l.findIdx? q=some k:=by
     rw[List.findIdx?_eq_some_iff_getElem];have hxk:l[k]=x:=by have h:=Hx.out;rw[atI aM]at h;injection h
     exact⟨aM,by rw[hxk];exact hq,fun j hj=>by rw[HN.out j _ hj (atI (by omega))];simp⟩
    have Hf:=hd0 hf;clear hf hq;go_wp2_with fail;refine T.out.mono ?_;rintro e w2 ⟨rfl,k2⟩;have bu:=hd0 (HK.out.keep k2);clear k2;go_wp2;go_ret;exact⟨by rw[Hf.out];rfl,bu.out⟩
   |false=>
    rw[hq]at T;have HN2:Hid (∀ j x,j<k+1->l[j]?=some x->q x=false):=hd0 (fun j y hj hy=>by
     by_cases e:j=k
     ·subst e;have h:=Hx.out;rw[hy]at h;injection h with h;rw[h];exact hq
     ·exact HN.out j y (by omega) hy)
    clear hq;go_wp2_with fail;refine T.out.mono ?_;rintro e w2 ⟨rfl,k2⟩;have bu:=hd0 (HK.out.keep k2);clear k2;go_wp2_with fail;exact⟨⟨k+1,by omega,by go_num,bu,HN2⟩,by simp[intOf];omega⟩
  ·have dS:¬(k:Int)<l.length:=by omega
   have hf:l.findIdx? q=none:=by
    rw[List.findIdx?_eq_none_iff];intro x hx;obtain⟨j,hj,rfl⟩:=List.getElem_of_mem hx;exact HN.out j _ (by omega) (atI hj)
   have Hf:=hd0 hf;clear hf;go_wp2;go_ret;exact⟨by rw[Hf.out];rfl,HK.out⟩
theorem Uw {α:Type}(l:List α)(q:α->Bool):decide (0<=xo (l.findIdx? q))=l.any q:=by
 cases h:l.findIdx? q with
 |none=>
  rw[List.findIdx?_eq_none_iff]at h;have:l.any q=false:=by rw[List.any_eq_false];intro x hx;rw[h x hx];simp
  rw[this];rfl
 |some i=>
  rw[List.findIdx?_eq_some_iff_getElem]at h;obtain⟨hi,h1,_⟩:=h;have:l.any q=true:=by rw[List.any_eq_true];exact⟨_,aum hi,h1⟩
  rw[this];simp[xo]
theorem zU {G:FuncId}{c:Value}{q:Sn->Bool}(l:List Sn)(v:Value)(w:World)(hr:jY oe 5 w v l)(hl:l.length<=1000)(hC:Uv G c w l q):
  Calls prog 131 #[v,.func (.func G) #[] #[c]] w fun e w'=>e=.returned (.bool (l.any q))/\af w w':=by
 have IX:=hd0 (zT l v w hr hl hC);have hb:=Uw l q;clear hr hl hC;generalize xo (l.findIdx? q)=z at*;generalize l.any q=r at*;subst hb;go_enter func131,ntmps131;go_wp2_with fail;refine IX.out.mono ?_;rintro e w2 ⟨rfl,k2⟩;go_wp2;go_ret;exact⟨rfl,k2⟩
theorem Eb {G:FuncId}(hG:G=208\/G=132)(w:World)(b p:Nat)(l:List Sn)(h:w.cell? ⟨b,0,none⟩=some (.int .i64 (p:Int))):Uv G (.pointer (some ⟨b,0,none⟩)) w l (fun x=>x.plane==(p:Int)) where
 call x W:=by rcases hG with rfl|rfl<;>kernel_rfl
 is x hx W k:=by
  have aM:=am h;have c:W.cell? ⟨b,0,none⟩=some (.int .i64 (p:Int)):=(k.cell (p:=⟨b,0,none⟩) aM id).trans h;have lj:b<W.heap.size:=atS aM k.size;clear h aM k hx;rcases hG with rfl|rfl
  ·go_enter func208,ntmps208;go_wp2;go_ret;exact⟨rfl,(ah.refl _ _).alloc _⟩
  ·go_enter func132,ntmps132;go_wp2;go_ret;exact⟨rfl,(ah.refl _ _).alloc _⟩
theorem Ux (w:World)(b:Nat)(s:ay)(l:List Sn)(h:w.cell? ⟨b,0,none⟩=some (aB s)):Uv 149 (.pointer (some ⟨b,0,none⟩)) w l (fun x=>x.name==s) where
 call x W:=by kernel_rfl
 is x hx W k:=by
  have aM:=am h;have c:W.cell? ⟨b,0,none⟩=some (aB s):=(k.cell (p:=⟨b,0,none⟩) aM id).trans h;have lj:b<W.heap.size:=atS aM k.size;clear h aM k hx;go_enter func149,ntmps149;go_wp2;go_ret;exact⟨rfl,(ah.refl _ _).alloc _⟩
end
section
open Go.RowKit
attribute [local go_sem] atC
theorem Hw {l:List Sn}(h:l.length<7){p:Nat}(h1:1<=p)(h2:p<aV l):l.any (fun x=>x.plane==(p:Int))=true:=by
 obtain⟨k1,k2,_⟩:=dY h;unfold aV at h2
 cases hf:(List.range' 1 8).find? fun(p:Nat)=>!l.any fun x=>x.plane==(p:Int)with
 |none=>rw[hf]at h2;simp at h2
 |some q=>
  rw[hf]at h2;rw[List.find?_eq_some_iff_getElem]at hf;obtain⟨_,i,hi,hq,nM⟩:=hf;simp only[List.length_range']at hi;simp only[List.getElem_range']at hq nM;simp only[aun]at h2;have:=nM (p-1) (by omega);rw[show 1+1*(p-1)=p by omega]at this;simpa using this
theorem Ec {l:List Sn}(h:l.length<7):l.any (fun x=>x.plane==(aV l:Int))=false:=by
 obtain⟨_,_,k⟩:=dY h;rw[List.any_eq_false];intro x hx;simpa using k x hx
theorem L9 (l:List Sn)(v:Value)(w:World)(hr:jY oe 5 w v l)(hl:l.length<7):
  Calls prog 134 #[v] w fun e w'=>e=.returned (.int .i64 (aV l:Int))/\af w w':=by
 have hmf:∀(fn:Fn) (first cap:Array Value) (w:World),(Instr.makeFunc fn first cap).run prog w=.ok (.func fn first cap) w:=fun _ _ _ _=>rfl;have HR:=hd0 hr;have Hl:=hd0 hl;have hp:=dY hl;have BA:=hp.1;have pk:=hp.2.1;obtain⟨B,hB⟩:∃ B,w.heap.size=B:=⟨_,rfl⟩
 have iC:World.blk (w.alloc (.cells #[.int .i64 1] 3)) B #[.int .i64 1] 3:=by rw[<-hB];exact aw _ _ _
 have HB:=hd0 hB;have nG:=hd0 iC;clear hr hl hp iC;go_enter func134,ntmps134;go_wp2_with fail;have dN:Hid (af w (w.alloc (.cells #[.int .i64 1] 3))):=hd0 ((ah.refl _ w).alloc _)
 try rw[hB]
 clear hB;generalize w.alloc (.cells #[.int .i64 1] 3)=w0 at*
 go_loopw [4] (fun _ wr=>∃ p:Nat,1<=p/\p<=aV l/\Hid (World.blk wr B #[.int .i64 (p:Int)] 3)/\Hid (af w wr)) (fun _ wr=>aV l+1-(match wr.cell? ⟨B,0,none⟩with|some v=>(intOf v).toNat|none=>0))
 case atStart=>exact⟨1,atL _,BA,nG,dN⟩
 case round=>
  obtain⟨p,h1,h2,HX,HK⟩:=hrel;have cp:wr.cell? ⟨B,0,none⟩=some (.int .i64 (p:Int)):=aa HX.out 0;have fp:=ae HX.out ⟨B,0,none⟩ rfl;have CF:=hd0 (zU l v wr (eO HR.out HK.out) (by have:=Hl.out;omega) (Eb (.inl rfl) wr B p l cp));by_cases hq:p=aV l
  ·have ha:=Ec Hl.out;rw[<-hq]at ha;rw[ha]at CF;have Hq:=hd0 hq;clear ha hq;go_wp2_with fail;refine CF.out.mono ?_;rintro e w2 ⟨rfl,k2⟩;have bu:=hd0 (HK.out.keep k2);have cp2:w2.cell? ⟨B,0,none⟩=some (.int .i64 (p:Int)):=aa (ab k2 HX.out id) 0;clear k2 cp fp;go_wp2;go_ret;exact⟨by rw[<-Hq.out];rfl,bu.out⟩
  ·have ha:=Hw Hl.out h1 (by omega);rw[ha]at CF;have Hq:Hid (p+1<=aV l):=hd0 (by omega);have hpi:(p:Int)<=6:=by omega
   clear ha hq;go_wp2_with fail;refine CF.out.mono ?_;rintro e w2 ⟨rfl,k2⟩;have uW:=ab k2 HX.out id;have cp2:w2.cell? ⟨B,0,none⟩=some (.int .i64 (p:Int)):=aa uW 0;have fp2:=ae uW ⟨B,0,none⟩ rfl;have ql:=hd0 (ag uW 0 (.int .i64 ((p:Int)+1)));have dT:Hid (af w (w2.setCell ⟨B,0,none⟩ (.int .i64 ((p:Int)+1)))):=hd0 ((HK.out.keep k2).setCell (p:=⟨B,0,none⟩) (.inr (by have:=HB.out;exact Nat.le_of_eq this)) _);have cp0:=cp;clear k2 fp uW cp;go_wp2_with fail;have e1:((p:Int)+1)=((p+1:Nat):Int):=by omega
   rw[e1]at ql dT ⊢;refine⟨⟨p+1,by omega,Hq.out,ql,dT⟩,?_⟩;have c3:(w2.setCell ⟨B,0,none⟩ (.int .i64 ((p+1:Nat):Int))).cell? ⟨B,0,none⟩=some (.int .i64 ((p+1:Nat):Int)):=aa ql.out 0;have:=Hq.out;simp only[c3,cp0,intOf,auo];exact Nat.sub_lt_sub_left (by have h1:=Hq.out;exact Nat.lt_succ_of_lt h1) (Nat.lt_succ_self p)
theorem Ed (n:Nat)(w:World)(hn:n<=100000):
  Calls prog 217 #[.int .i64 (n:Int)] w fun e w'=>∃ v,e=.returned v/\aL w' w.heap.size v (gh (List.range n))/\af w w':=by
 have hni:(n:Int)<=100000:=by omega
 go_enter func217,ntmps217;go_wp2_with fail
 go_loopw [3,6] (fun v i wr=>∃ k:Nat,k<=n/\i=.int .i64 (k:Int)/\Hid (aL wr w.heap.size v (gh (List.range k)))/\Hid (af w wr)) (fun _ i _=>n-(intOf i).toNat)
 case atStart=>exact⟨0,by omega,rfl,hd0 ⟨rfl,.inl ⟨rfl,rfl⟩⟩,hd0 (ah.refl _ _)⟩
 case round=>
  obtain⟨k,hk,rfl,HO,HK⟩:=hrel;by_cases aM:k<n
  ·have dS:(k:Int)<(n:Int):=by omega
   have Ha:=ky (P:=prog) underlying46 iN rfl w.heap.size u3 _ _ wr w HO.out [.int .i64 (k:Int)] (by simp[Value.oneCell']) (by unfold maxLen;simp[gh];omega) (by simp[gh];omega) HK.out.size HK.out (atL _);obtain⟨v',w3',bh,bt,dq,_⟩:=Ha;have HR:=hd0 bh;have Nj:Hid (aL w3' w.heap.size v' (gh (List.range (k+1)))):=hd0 (by
    have:=j8 bt;rw[List.range_succ];simpa[gh]using this)
   have dT:=hd0 dq;clear bh bt dq;go_wp2_with (at_builtin;refine aA HR.out rfl rfl rfl rfl ?_);exact⟨⟨k+1,by omega,by go_num,Nj,dT⟩,by simp[intOf];omega⟩
  ·obtain rfl:k=n:=by omega
   go_wp2;go_ret;exact⟨_,rfl,HO.out,HK.out⟩
end
end Go.Proofs.YtkghpdcloaiflaaGreatDoor
