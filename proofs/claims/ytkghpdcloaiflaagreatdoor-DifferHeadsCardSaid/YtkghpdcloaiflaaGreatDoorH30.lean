import Derived.Test.YtkghpdcloaiflaaGreatDoorH29
import Derived.Lib.SliceRun
set_option maxHeartbeats 4000000
set_option maxRecDepth 100000
namespace Go.Proofs.YtkghpdcloaiflaaGreatDoor
open _root_.Go.Proofs.Tryz
variable {F F':Nat->Prop}{G:FuncId}{a:Act}{c:Value}{f i num p pb pv size:Nat}{l:List Int}{listed:Array Bool}{o:Oper}{pl:Bool}{w w1 w2:World}
section
open Go
section
variable {P:Program}{aF:Array Oper}{md:Region.Mode}{D1 D2:World->Prop}{Q:Exit->Act->World->Prop}
def yS (P:Program)(md:Region.Mode)(aF:Array Oper)(Q:Exit->Act->World->Prop)(p:Nat)(D1 D2:World->Prop):Nat->Bool->Array Bool->Act->World->Prop
 |0,pl,_,a,w=>(D1 w/\(pl=true\/D2 w))/\Q .normal a w
 |f+1,pl,listed,a,w=>(D1 w/\(pl=true\/D2 w))/\∀ i∈Region.ready md aF listed,match aF[i]? with
  |none=>False
  |some o=>wpList P aF (λe a' w'=>match e with | .normal=>yS P md aF Q p D1 D2 f (pl||i==p) (listed.setIfInBounds i true) a' w'|e=>Q e a' w') [o] a w
def EF (md:Region.Mode)(aF:Array Oper):Nat->Array Bool->Bool
 |0,listed=>(Region.ready md aF listed).isEmpty
 |f+1,listed=>!(Region.ready md aF listed).isEmpty&&(Region.ready md aF listed).all λi=>EF md aF f (listed.setIfInBounds i true)
theorem rW {p:Nat}:∀(f:Nat) (pl:Bool) (listed:Array Bool) (a:Act) (w:World),EF md aF f listed=true->(pl=true->listed.getD p false=true)->listed.size=aF.size->yS P md aF Q p D1 D2 f pl listed a w->gG P md aF Q (DP p D1 D2) f listed a w
 |0,pl,listed,a,w,hB,hp,_,h=>⟨⟨h.1.1,h.1.2.imp hp id⟩,by simpa[EF]using hB,h.2⟩
 |f+1,pl,listed,a,w,hB,hp,hls,h=>by
  simp only[EF,awo,Bool.not_eq_true',awp]at hB;refine⟨⟨h.1.1,h.1.2.imp hp id⟩,λh1=>(by rw[h1]at hB;simp at hB),λk hk=>?_⟩;have h2:=h.2 k hk;have hBk:=hB.2 k hk
  cases h0:aF[k]? with
  |none=>rw[h0]at h2;exact h2.elim
  |some o=>
   rw[h0]at h2;simp only at h2;have hw:wpOp P aF Q k (yS P md aF Q p D1 D2 f (pl||k==p) (listed.setIfInBounds k true)) a w:=by
    unfold wpOp;simp only[h0];unfold wpList at h2;split
    ·rename_i hwt
     rw[awd hwt]at h2;rcases h2 with h2|⟨h2,h3⟩
     ·exact .inl (oA h2)
     ·exact .inr ⟨h2,h3⟩
    ·rename_i hwt
     rw[awf hwt]at h2;exact h2
   refine wpOp_mono (λa' w' h'=>rW f (pl||k==p) _ a' w' hBk (λe=>?_) (by simpa using hls) h') hw;rw[awq]at e;by_cases UC:k=p
   ·subst UC;have aP:k<listed.size:=by rw[hls];exact(awr.1 h0).1
    simp[aP]
   ·exact getD_set_true (hp (e.resolve_right (by simpa using UC)))
theorem aT (hd:D1 w/\(pl=true\/D2 w))(h:Q .normal a w):yS P md aF Q p D1 D2 0 pl listed a w:=⟨hd,h⟩
theorem ag (hr:Region.ready md aF listed=[i])(h0:aF[i]?=some o)(hd:D1 w/\(pl=true\/D2 w))
  (h:wpList P aF (λe a' w'=>match e with | .normal=>yS P md aF Q p D1 D2 f (pl||i==p) (listed.setIfInBounds i true) a' w'|e=>Q e a' w') [o] a w):yS P md aF Q p D1 D2 (f+1) pl listed a w:=by
 refine⟨hd,λk hk=>?_⟩;rw[hr]at hk;obtain rfl:k=i:=by simpa using hk
 rw[h0];exact h
theorem bo {j:Nat}{o':Oper}(hr:Region.ready md aF listed=[i,j])(h0:aF[i]?=some o)(h1:aF[j]?=some o')(hd:D1 w/\(pl=true\/D2 w))
  (h:wpList P aF (λe a' w'=>match e with | .normal=>yS P md aF Q p D1 D2 f (pl||i==p) (listed.setIfInBounds i true) a' w'|e=>Q e a' w') [o] a w)
  (h':wpList P aF (λe a' w'=>match e with | .normal=>yS P md aF Q p D1 D2 f (pl||j==p) (listed.setIfInBounds j true) a' w'|e=>Q e a' w') [o'] a w):yS P md aF Q p D1 D2 (f+1) pl listed a w:=by
 refine⟨hd,λk hk=>?_⟩;rw[hr]at hk;rcases aws.1 hk with rfl|hk
 ·rw[h0];exact h
 ·obtain rfl:k=j:=by simpa using hk
  rw[h1];exact h'
def Q9 (md:Region.Mode)(aF:Array Oper)(p:Nat)(js:List Nat)(f:Nat):Bool:=
 Region.noSelect aF&&decide (js.length+f=aF.size)&&Dn md aF p js (Array.replicate aF.size false)&&EF md aF f (vW js (Array.replicate aF.size false))
theorem gC {P:Program}{id:Nat}{Q:Exit->Act->World->Prop}{l:List Oper}(p:Nat)(js:List Nat)(f:Nat)(D1 D2:World->Prop)(hm:P.follows .mixedOrders=true)(hB:Q9 .any l.toArray p js f=true)
  (hQ:∀ c o v a w,Q (.panic c) (Act.put a o v) w->Q (.panic c) a w)
  (h:lw P .any l.toArray p D1 D2 (λa'=>yS P .any l.toArray Q p D1 D2 f false (vW js (Array.replicate l.toArray.size false)) a' { w with drawn:=w.drawn+1 }) js a):(Code.region id l.toArray true).wp P Q a w:=by
 simp only[Q9,awo,awt]at hB;obtain⟨⟨⟨fH,bt⟩,dh⟩,Jy⟩:=hB;refine wp_region_any hm ?_;have H:=lP (md:=.any) (Q:=Q) (g:=f) fH hQ { w with drawn:=w.drawn+1 } js (Array.replicate l.toArray.size false) a (λj oj _ hl=>by rw[awu]at hl;simp at hl)
  (λa' Gn=>rW f false _ a' _ Jy (λe=>by cases e) (by rw[qF];simp) Gn) dh h
 rw[bt]at H;exact rJ H
end
end
section
open Go.RowKit Go.Shelf
attribute [local go_sem] av0
theorem Ra {base:Nat}{v:Value}(h:aO w base v l)(h0:∀ n∈l,0<=n):eg w v (pT (l.map Int.toNat)):=by
 have h1:=bh h;have e:pT (l.map Int.toNat)=bu l:=by
  unfold pT bu;rw[awv];apply aww;intro n hn;have:=h0 n hn;show Value.int .i64 ((n.toNat:Nat):Int)=Value.int .i64 n;rw[Int.toNat_of_nonneg this]
 rw[e];exact h1
theorem EG:∀(s:ay),4*(co s).length<=s.length
 |[]=>by simp[co]
 |[_]=>by simp[co]
 |[_,_]=>by simp[co]
 |[_,_,_]=>by simp[co]
 |a::b::c::d::r=>by
  have:=EG r;simp only[co,av5];omega
theorem EH {f:Nat->Int->Except Int rt}{B:Nat}:∀(l:List Int) (i:Nat) (o:rt),(∀ i n o,f i n=.ok o->o.1.length<=B)->cH f i l=.ok o->o.1.length<=B*l.length
 |[],_,o,_,h=>by
  simp only[cH]at h;injection h with h;subst h;simp
 |n::r,i,o,hf,h=>by
  simp only[cH]at h
  cases ha:f i n with
  |error e=>rw[ha]at h;cases h
  |ok a=>
   rw[ha]at h;simp only at h
   cases hb:cH f (i+1) r with
   |error e=>rw[hb]at h;cases h
   |ok b=>
    rw[hb]at h;simp only at h;injection h with h;subst h;have h1:=hf i n a ha;have h2:=EH r (i+1) b hf hb;simp only[awn,av5,Nat.mul_succ];omega
theorem Rb (rd:Rd)(ch:Bool)(size:Nat):∀(l i:Nat) (n:Int) (o:rt),nK rd ch size l i n=.ok o->o.1.length<=61 ^ l
 |0,i,n,o,h=>by
  unfold nK at h;split at h
  ·split at h
   ·cases h
   ·split at h
    ·cases h
    ·injection h with h;subst h;simp
  ·injection h with h;subst h;simp
 |l+1,i,n,o,h=>by
  unfold nK at h;split at h
  ·cases h
  ·rename_i s _
   split at h
   ·cases h
   ·rename_i hs
    split at h
    ·cases h
    ·rename_i o' ho
     injection h with h;subst h;have h1:=EH _ _ _ (λi n o h=>Rb rd ch size l i n o h) ho;have h2:=EG s;have h3:(co s).length<=60:=J
     have h4:61 ^ l*(co s).length<=61 ^ l*60:=awx _ h3;have h5:1<=61 ^ l:=Nat.one_le_pow _ _ dc7;simp only[av5];rw[awy];omega
theorem MD {rd:Rd}{b:fI}(h:oo rd b=.ok l):l.length<=4000:=by
 unfold oo at h
 cases ho:d7 rd b false with
 |error e=>rw[ho]at h;cases h
 |ok o=>
  rw[ho]at h;injection h with h;subst h;show(dG o.1).length<=4000;unfold dG;rw[awz];unfold d7 at ho;split at ho
  ·cases ho
  ·split at ho
   ·injection ho with ho;subst ho;simp
   ·have h1:=Rb _ _ _ _ _ _ _ ho;have h2:(ax b.size.toNat).length-1<=2:=by
     rcases aN b.size.toNat with⟨_,e⟩|⟨_,_,e⟩|⟨_,_,e⟩|⟨_,e⟩<;>rw[e]<;>simp
    have h3:61 ^ ((ax b.size.toNat).length-1)<=61 ^ 2:=awA dc7 h2;omega
theorem EI {rd:Rd}{data:ay}{b:fI}{S:Nat->Prop}(h:aW rd data b S){set s:ay}(hl:set.length<=600)(e:dD rd set b=.ok s):s.length<=600:=by
 obtain⟨l,e1,KF⟩:=h.reach;unfold dD at e;rw[e1]at e;simp only at e;split at e
 ·injection e with e;rw[<-e];refine av2 (lA _ _) ?_;have:(iE (l.map Int.toNat)).length<=4095/8+1:=Bb λx hx=>by
   obtain⟨n,hn,rfl⟩:=awB.1 hx;obtain⟨k,rfl,hk⟩:=(KF n).1 hn;have:=h.lt hk;simp;omega
  omega
 ·cases e
theorem EJ {ty:TypeId}{rv:Value}{f:FuncId}{I:World->(Nat->Prop)->Prop}{rd:Rd}(S:qg ty rv f I rd)(hI:I w F)(set:ay)(aeh:set.length<=600){data:ay}{b:fI}{S0:Nat->Prop}(hb:aW rd data b S0)(s:ay)(hs:dD rd set b=.ok s):
  Calls prog 79 #[.iface ty rv,az set,cR b] w λe w'=>e=.returned (.tuple #[az s,.int .i64 0])/\∃ F',I w' F'/\dO F F' w w':=by
 obtain⟨l,e1,KF⟩:=hb.reach;have hr:∀ n∈l,0<=n/\n<=4095:=λn hn=>by
  obtain⟨k,rfl,hk⟩:=(KF n).1 hn;have:=hb.lt hk;omega
 have es:dZ set (iE (l.map Int.toNat))=s:=by
  unfold dD at hs;rw[e1]at hs;simp only at hs;rw[awd (by rw[awp];intro x hx;have:=hr x hx;simp;omega)]at hs;injection hs
 have hm:b.may=true:=by
  have:=hb.may;unfold fI.ok at this;simp only[awo]at this;exact this.1.1
 have yl:l.length<=1000000:=by have:=MD e1;omega
 have dM:af w (w.alloc (.cells #[.int .i64 b.root,.int .i64 b.size] 42)):=(ai.refl _ w).alloc _;obtain⟨R,eR,HS,Hr,Hes⟩:=K5 (Mb S (S.same hI (dM.on λ_ _=>id) dM.size) b hm l e1) dM S hr es;clear hI hs dM hr es KF e1 hb;unfold cR at R ⊢;go_enter func79,ntmps79;go_wp2_with fail;refine R.mono ?_;rintro e w1 ⟨v,rfl,ho,F1,Og,hk1,nI⟩;have OF:=Z (Bf (l.map Int.toNat) v w1 (Ra ho λn hn=>(Hr.o n hn).1) (by simpa using yl) (λn hn=>by
  obtain⟨z,hz,rfl⟩:=awB.1 hn;have:=Hr.o z hz;omega))
 have Y5:=Z Og;have cC:Hid (dO F F1 w w1):=Z ⟨(eR.mono (T:=F) (λ_ _ h=>h.elim)).trans hk1.mod (λ_ _ h=>h),λg hg=>(hk1.foot g hg).imp id (λh=>av2 eR.size h)⟩;clear ho Og hk1 nI R;go_wp2_with fail;refine OF.mono ?_;rintro e w2 ⟨rfl,k2⟩;have OR:=Z (λW=>jX set (iE (l.map Int.toNat)) W J (by
  have:(iE (l.map Int.toNat)).length<=4095/8+1:=Bb λx hx=>by
   obtain⟨n,hn,rfl⟩:=awB.1 hx;have:=Hr.o n hn;omega
  omega))
 have O7:=Z (HS.same Y5.o (k2.on λ_ _=>id) k2.size);have bJ:Hid (dO F F1 w w2):=Z ⟨cC.mod.keep k2,cC.foot⟩;clear k2 OF;go_wp2_with fail;refine(OR.o _).mono ?_;rintro e w3 ⟨rfl,k3⟩;rw[Hes.o];have Gj:=Z (HS.same O7.o (k3.on λ_ _=>id) k3.size);have ez:Hid (dO F F1 w w3):=Z ⟨bJ.mod.keep k3,bJ.foot⟩;clear k3 OR;go_wp2;go_ret2;exact⟨rfl,F1,Gj.o,ez.o⟩
structure xz (pv size:Nat)(text:ay)(num pb:Nat)(F:Nat->Prop)(t:gy)(w w':World)(F':Nat->Prop):Prop where
 vol:ld pv size text num t.rd w' F'
 pool:jK w' pb t.pool
 foot:∀ g,F' g->F g\/w.heap.size<=g
 npb:¬ F' pb
 mod:ai (λg=>F g\/g=pb) w w'
theorem ld.same {text:ay}{rd:Rd}{w':World}(h:ld pv size text num rd w F)(m:fy F w w')(hs:w.heap.size<=w'.heap.size):ld pv size text num rd w' F:=(nr pv size text num rd).same h m hs
theorem ld.lt {text:ay}{rd:Rd}(h:ld pv size text num rd w F)(b:Nat)(hb:F b):b<w.heap.size:=(nr pv size text num rd).lt h b hb
theorem xz.put {text:ay}{t:gy}{B:Nat}(h:xz pv size text num pb F t w w1 F')(m:ai (λg=>g=B) w1 w2)(hB:¬ F' B)(hp:B≠pb)(hw:w.heap.size<=B):xz pv size text num pb F t w w2 F' where
 vol:=h.vol.same (m.on λg hg e=>hB (e▸hg)) m.size
 pool:=h.pool.mod m λe=>hp e.symm
 foot:=h.foot
 npb:=h.npb
 mod:=h.mod.trans m λg hg e=>J
theorem xz.keep {text:ay}{t:gy}(h:xz pv size text num pb F t w w1 F')(m:af w1 w2):xz pv size text num pb F t w w2 F' where
 vol:=h.vol.same (m.on λ_ _=>id) m.size
 pool:=h.pool.mod m id
 foot:=h.foot
 npb:=h.npb
 mod:=h.mod.keep m
theorem nt {text:ay}{rd:Rd}{p:Pl}(hI:ld pv size text num rd w F)(hp:jK w pb p)(hF:¬ F pb)(hb:p.blocks=size/4)(FA:size/4<=4096)(v:Nat)(hv:w.cell? ⟨v,0,none⟩=some (au pv))
  {br:ay} {old:fI} {S:Nat->Prop} (hT:aW rd br old S) (data:ay) (hd:data.length<=16384) (b:fI) (t:gy) (hs:dz ⟨rd,p⟩ old data=.ok (b,t)):
  Calls prog 137 #[au v,cR old,az data,au pb] w λe w'=>e=.returned (cR b)/\∃ F',xz pv size text num pb F t w w' F':=by
 obtain⟨hh,nums,rfl,hT,_⟩:=hT;obtain⟨old,hold⟩:∃ old,dj br nums=old:=⟨_,rfl⟩
 have ST:=λ(W:World) (F:Nat->Prop) (hI:ld pv size text num rd W F) (hp:jK W pb p) (hF:¬ F pb)=>Me (II pv size text num) hI hp hF hb FA br nums hT hh data hd b t hs;rw[hold]at ST ⊢;clear hs;obtain⟨uM,HI,HP,HF⟩:=K4 ST hI hp hF;have vlt:=am hv;have HV:=Z hv;clear hI hp hF ST hT hold hv;obtain⟨root,sz⟩:=old;unfold cR at uM ⊢;go_enter func137,ntmps137
 go_upto_region 1 with fail
 have HK:Hid (af w ((w.alloc (.cells #[.int .i64 root,.int .i64 sz] 42)).alloc (.cells #[.int .i64 0,.int .i64 0] 42))):=Z (((ai.refl _ w).alloc _).alloc _);have Jz:World.blk ((w.alloc (.cells #[.int .i64 root,.int .i64 sz] 42)).alloc (.cells #[.int .i64 0,.int .i64 0] 42)) w.heap.size #[.int .i64 root,.int .i64 sz] 42:=aE (av _ _ _) _;have WA:World.blk ((w.alloc (.cells #[.int .i64 root,.int .i64 sz] 42)).alloc (.cells #[.int .i64 0,.int .i64 0] 42)) (w.heap.size+1) #[.int .i64 0,.int .i64 0] 42:=aV sp7 _ _;obtain⟨W,hW⟩:∃ W,(w.alloc (.cells #[.int .i64 root,.int .i64 sz] 42)).alloc (.cells #[.int .i64 0,.int .i64 0] 42)=W:=⟨_,rfl⟩
 have cJ:W.heap.size=w.heap.size+2:=by rw[<-hW];simp
 rw[hW]at HK Jz WA ⊢;obtain⟨Y5,Cd⟩:=K2 (HI.same (HK.on λ_ _=>id) HK.size) (HP.mod HK.o id);obtain⟨ob,ib⟩:∃ ob,w.heap.size=ob:=⟨_,rfl⟩
 obtain⟨zb,Oi⟩:∃ zb,w.heap.size+1=zb:=⟨_,rfl⟩
 rw[Oi]at WA
 try rw[Oi]
 rw[ib]at Jz
 try rw[ib]
 have vc:W.cell? ⟨v,0,none⟩=some (au pv):=(HK.cell (p:=⟨v,0,none⟩) vlt id).trans HV.o;have oc0:W.cell? ⟨ob,0,none⟩=some (.int .i64 root):=aa Jz 0;have oc1:W.cell? ⟨ob,1,none⟩=some (.int .i64 sz):=aa Jz 1;have vl2:v<W.heap.size:=awg vlt HK.size;have ol2:ob<W.heap.size:=ak Jz;obtain⟨HB,yj,Hzb,Hsz⟩:=K4 (And.intro Jz WA) ib Oi cJ;clear hW Jz WA ib Oi cJ;have Jn:∀ g,F g\/g=pb->g<w.heap.size:=λg hg=>hg.elim (HI.lt g) (λe=>e▸ak HP.own);have HC:Hid (∀ W',af W W'->Calls prog 212 #[.iface 94 (au pv),.agg #[.int .i64 root,.int .i64 sz],az data,au pb] W' λe w2=>e=.returned (.tuple #[.agg #[.int .i64 b.root,.int .i64 b.size],.int .i64 0])/\(∃ F',xz pv size text num pb F t w w2 F'/\∀ g,F' g->F g\/W'.heap.size<=g)/\ai (λg=>F g\/g=pb) W' w2):=Z (λW' k=>by
  refine(uM.o W' F (Y5.same (k.on λ_ _=>id) k.size) (Cd.mod k id) HF.o).mono ?_;rintro e w2 ⟨rfl,F',h1,h2,h3,h4,h5⟩;have k0:=HK.keep k;exact⟨rfl,⟨F',⟨h1,h2,λg hg=>(h3 g hg).imp id (λh=>av2 k0.size h),h4,(k0.mono (T:=λg=>F g\/g=pb) (λ_ _ h=>h.elim)).trans h5 (λ_ _ h=>h)⟩,h3⟩,h5⟩)
 have HFl:=Z Jn;clear uM Jn;go_cut [9,10] (λv9 v10 wx=>∃(B:Nat) (F':Nat->Prop),v9=.pointer (some ⟨B,0,none⟩)/\v10=.int .i64 0/\World.blk wx B #[.int .i64 b.root,.int .i64 b.size] 42/\World.blk wx zb #[.int .i64 0,.int .i64 0] 42/\xz pv size text num pb F t w wx F'/\¬ F' zb)
 case first=>
  go_region_with ((go_at_call 212;first
   |(refine awi (HC.o _ ((ai.refl _ W).drew)) ?_;rintro e w2 ⟨rfl,j5,db⟩;have B3:=Z j5;have fh:=ab db (show World.blk W.drew zb _ _ from HB.2) (λh=>by have:=HFl.o _ h;have:=Hzb.o;omega);have Y3:=Z fh;clear j5 db fh)
   |(refine awi (HC.o _ (((ai.refl _ W).alloc _).drew)) ?_;rintro e w2 ⟨rfl,j5,db⟩;have B3:=Z j5;have fh:=ab db (show World.blk (W.alloc (.cells #[.int .i64 0,.int .i64 0] 42)).drew zb _ _ from aE HB.2 _) (λh=>by have:=HFl.o _ h;have:=Hzb.o;omega);have Y3:=Z fh;have vg:=ab db (show World.blk (W.alloc (.cells #[.int .i64 0,.int .i64 0] 42)).drew W.heap.size _ _ from av W _ _) (λh=>by have:=HFl.o _ h;have:=HK.size;omega);have lg:=Z vg;have x0:w2.cell? ⟨W.heap.size,0,none⟩=some (.int .i64 0):=aa vg 0;have x1:w2.cell? ⟨W.heap.size,1,none⟩=some (.int .i64 0):=aa vg 1;have y0:w2.frozen? ⟨W.heap.size,0,none⟩=false:=ae vg ⟨W.heap.size,0,none⟩ rfl;have y1:w2.frozen? ⟨W.heap.size,1,none⟩=false:=ae vg ⟨W.heap.size,1,none⟩ rfl;clear j5 db fh vg)))
  all_goals (go_wp2_with fail;go_meet)
  all_goals (case rel=>
   obtain⟨F',hs,hf⟩:=B3.o;have hz:¬ F' zb:=λh=>(hf zb h).elim (λh=>by have:=HFl.o zb (.inl h);have:=Hzb.o;omega) (λh=>by have:=ak HB.2;simp at h;omega)
   first
   |exact⟨_,F',rfl,rfl,av _ _ _,aE Y3.o _,hs.keep ((ai.refl _ _).alloc _),hz⟩
   |(have hB:¬ F' W.heap.size:=λh=>(hf _ h).elim (λh=>by have:=HFl.o _ (.inl h);have:=HK.size;omega) (λh=>by simp at h;omega)
     exact⟨_,F',rfl,rfl,ah (ah lg.o 0 _) 1 _,aZ (aZ Y3.o _ (λe=>by have:=ak HB.2;simp at e;omega) _) _ (λe=>by have:=ak HB.2;simp at e;omega) _,hs.put (((ai.refl (λg=>g=W.heap.size) _).setCell (p:=⟨W.heap.size,0,none⟩) (.inl rfl) _).setCell (p:=⟨W.heap.size,1,none⟩) (.inl rfl) _) hB (λe=>by have:=ak Cd.own;omega) HK.size,hz⟩))
 case rest=>
  obtain⟨B,F',rfl,rfl,hB,hz,hs,hnz⟩:=hcut;have b0:wc.cell? ⟨B,0,none⟩=some (.int .i64 b.root):=aa hB 0;have b1:wc.cell? ⟨B,1,none⟩=some (.int .i64 b.size):=aa hB 1;have z0:wc.cell? ⟨zb,0,none⟩=some (.int .i64 0):=aa hz 0;have z1:wc.cell? ⟨zb,1,none⟩=some (.int .i64 0):=aa hz 1;have f0:=ae hz ⟨zb,0,none⟩ rfl;have f1:=ae hz ⟨zb,1,none⟩ rfl;obtain⟨MU,WM,B4⟩:=K3 (mF wc) (hs.put (((ai.refl (λg=>g=zb) wc).setCell (p:=⟨zb,0,none⟩) (.inl rfl) (.int .i64 b.root)).setCell (p:=⟨zb,1,none⟩) (.inl rfl) (.int .i64 b.size)) hnz (λe=>by have:=ak HP.own;have:=Hzb.o;omega) (by have:=Hzb.o;omega)) (ah (ah hz 0 (.int .i64 b.root)) 1 (.int .i64 b.size));clear hs hnz hB hz;go_wp2_with fail;refine MU.mono ?_;rintro e w5 ⟨rfl,rfl⟩;go_wp2_with fail;obtain⟨W4,YQ⟩:∃ W4,(w5.setCell ⟨zb,0,none⟩ (.int .i64 b.root)).setCell ⟨zb,1,none⟩ (.int .i64 b.size)=W4:=⟨_,rfl⟩
  rw[YQ]at B4 WM ⊢;have q0:W4.cell? ⟨zb,0,none⟩=some (.int .i64 b.root):=aa B4.o 0;have q1:W4.cell? ⟨zb,1,none⟩=some (.int .i64 b.size):=aa B4.o 1;refine awC (v:=cR b) (by simp[results,Tryz.results137,go_sem,q0,q1,cR]) rfl ?_;exact⟨rfl,F',WM.o⟩
theorem xA {text:ay}{rd:Rd}(hI:ld pv size text num rd w F)(v:Nat)(hv:w.cell? ⟨v,0,none⟩=some (au pv))(set:ay)(aeh:set.length<=600)
  {data:ay} {b:fI} {S:Nat->Prop} (hb:aW rd data b S) (s:ay) (hs:dD rd set b=.ok s):
  Calls prog 139 #[au v,az set,cR b] w λe w'=>e=.returned (az s)/\∃ F',ld pv size text num rd w' F'/\dO F F' w w':=by
 have RE:=λ(W:World) (h:ld pv size text num rd W F)=>EJ (nr pv size text num rd) h set aeh hb s hs;have Jn:∀ g,F g->g<w.heap.size:=λg hg=>hI.lt g hg;have HI:=Z hI;have vlt:=am hv;have HV:=Z hv;clear hI hb hs hv;obtain⟨root,sz⟩:=b;unfold cR at RE ⊢;simp only at RE;go_enter func139,ntmps139
 go_upto_region 1 with fail
 have HK:Hid (af w (w.alloc (.cells #[.int .i64 root,.int .i64 sz] 42))):=Z ((ai.refl _ w).alloc _);have Jz:World.blk (w.alloc (.cells #[.int .i64 root,.int .i64 sz] 42)) w.heap.size #[.int .i64 root,.int .i64 sz] 42:=av _ _ _;obtain⟨W,hW⟩:∃ W,w.alloc (.cells #[.int .i64 root,.int .i64 sz] 42)=W:=⟨_,rfl⟩
 rw[hW]at HK Jz ⊢;obtain⟨ob,ib⟩:∃ ob,w.heap.size=ob:=⟨_,rfl⟩
 rw[ib]at Jz ⊢;have vc:W.cell? ⟨v,0,none⟩=some (au pv):=(HK.cell (p:=⟨v,0,none⟩) vlt id).trans HV.o;have oc0:W.cell? ⟨ob,0,none⟩=some (.int .i64 root):=aa Jz 0;have oc1:W.cell? ⟨ob,1,none⟩=some (.int .i64 sz):=aa Jz 1;have R:=Z (RE W.drew (HI.same ((HK.drew).on λ_ _=>id) HK.drew.size));clear hW Jz RE Jn ib;go_cut [7,8] (λv7 v8 wx=>v7=az s/\v8=.int .i64 0/\∃ F',ld pv size text num rd wx F'/\dO F F' w wx)
 case first=>
  go_region_with ((go_at_call 79;refine R.mono ?_;rintro e w2 ⟨rfl,F2,hI2,dK⟩;have O7:=Z hI2;have bJ:Hid (dO F F2 w w2):=Z ⟨(HK.drew.mono (T:=F) (λ_ _ h=>h.elim)).trans dK.mod (λ_ _ h=>h),λg hg=>(dK.foot g hg).imp id (λh=>av2 HK.size h)⟩;clear hI2 dK))
  all_goals (go_wp2_with fail;go_meet)
  all_goals (case rel=>exact⟨rfl,rfl,_,O7.o,bJ.o⟩)
 case rest=>
  obtain⟨rfl,rfl,F',hI',FU⟩:=hcut;obtain⟨HI',HK',MU⟩:=K3 hI' FU (mF wc);clear hI' FU R vc oc0 oc1;go_wp2_with fail;refine MU.mono ?_;rintro e w5 ⟨rfl,rfl⟩;go_wp2;go_ret;exact⟨rfl,F',HI'.o,HK'.o⟩
end
section
open Go.RowKit
theorem EK (l:List fD)(v:Value)(w:World)(cq:ms jA 5 w v l)(bZ:qJ l=true):
  Calls prog 207 #[v] w λe w'=>e=.returned (.tuple #[az (jV l),.int .i64 0])/\af w w':=by
 obtain⟨HR,IF⟩:=K2 cq (Ex w);clear cq;go_enter func207,ntmps207;go_wp2_with fail;refine IF.mono ?_;rintro e w1 ⟨rfl,k1⟩;obtain⟨L,HK⟩:=K2 (ED l v w1 (fO HR.o k1) bZ) k1;clear k1 IF bZ;unfold uY at L ⊢;go_wp2_with fail;refine L.mono ?_;rintro e w2 ⟨rfl,k2⟩;have bJ:=Z (HK.keep k2);clear k2 L;go_wp2;go_ret2;exact⟨rfl,bJ.o⟩
theorem IL (l:List Sn)(v:Value)(w:World)(cq:ms uj 5 w v l)(bZ:zG l=true):
  Calls prog 136 #[v] w λe w'=>e=.returned (.tuple #[az (jW l),.int .i64 0])/\af w w':=by
 obtain⟨HR,IF⟩:=K2 cq (IA w);clear cq;go_enter func136,ntmps136;go_wp2_with fail;refine IF.mono ?_;rintro e w1 ⟨rfl,k1⟩;obtain⟨L,HK⟩:=K2 (IK l v w1 (fO HR.o k1) bZ) k1;clear k1 IF bZ;unfold Bw at L ⊢;go_wp2_with fail;refine L.mono ?_;rintro e w2 ⟨rfl,k2⟩;have bJ:=Z (HK.keep k2);clear k2 L;go_wp2;go_ret2;exact⟨rfl,bJ.o⟩
end
section
open Go.RowKit
attribute [local go_sem] av0
theorem Ag:(prog.info? 85).map (λi=>(i.zero,i.size,i.bytes))=some (some (.agg #[.string ⟨#[]⟩,.int .i64 0,.int .i64 0,.int .i64 0,.int .i64 0]),5,48):=kr7
theorem oW (v:Value)(l:List Sn)(w:World)(h:dX uj 5 85 w 0 v l)(hl:l.length<=1000):
  Calls prog 68 #[v] w λe w'=>∃ v',e=.returned v'/\dX uj 5 85 w' w.heap.size v' l/\af w w':=by
 have hr:=cg jk h;have qT:∀(w:World) (a:Option Addr) (n c n' c':Nat),(binOp .eql 92 (.slice a n c) (.slice none n' c')).run prog w=.ok (.bool a.isNone) w:=λw a n c n' c'=>Lib.run_eql_slice_nil w _ _ a n c n' c' underlying92;rcases h.2 with⟨rfl,h0⟩|⟨g,cap,dW,rfl,hb,hg,Xn,CA,YE,BZ⟩
 ·have Jg:l=[]:=awD.1 J;subst Jg;clear h hr;go_enter func68,ntmps68;go_wp2;go_ret;exact⟨_,rfl,World.ownsRow_nil _ _ _ _,ai.refl _ _⟩
 ·obtain⟨v',w',bN,ho,hk,_⟩:=EE (P:=prog) (ts:=92) (te:=85) underlying92 Ag dc7 dc7 jk w.heap.size _ [] (w.alloc (.cells #[] 85)) w (MC w _) _ l (fO hr ((ai.refl _ w).alloc _)) (λy _=>Kj y) (by simp[maxLen];omega) (by simp;omega) sp7 ((ai.refl _ w).alloc _) (av9 _);rw[awE]at ho;obtain⟨HO,HK⟩:=K2 ho hk;clear h hr ho hk hg BZ hb YE;go_enter func68,ntmps68;go_wp2_with (at_builtin;refine aB bN rfl rfl rfl rfl ?_);go_ret;exact⟨v',rfl,HO.o,HK.o⟩
structure V0 (G:FuncId)(c:Value)(w:World)(l:List Sn)(q:Sn->Bool):Prop where
 call:∀(x:Value) (W:World),(callFunc G #[x,c]).run prog W=.ok (.enter G #[x,c]) W
 is:∀ x∈l,∀ W,af w W->Calls prog G #[Bu x,c] W λe w'=>e=.returned (.bool (q x))/\af W w'
def xB (o:Option Nat):Int:=match o with
 |some i=>i
 |none=>-1
theorem Ah {q:Sn->Bool}(l:List Sn)(v:Value)(w:World)(hr:ms uj 5 w v l)(hl:l.length<=1000)(hC:V0 G c w l q):
  Calls prog 148 #[v,.func (.func G) #[] #[c]] w λe w'=>e=.returned (.int .i64 (xB (l.findIdx? q)))/\af w w':=by
 obtain⟨a,cap,rfl,hx⟩:=hr;obtain⟨HX,HC⟩:=K2 hx hC.is;have cI:=hC.call;have FK:(l.length:Int)<=1000:=J
 clear hx hC;go_enter func148,ntmps148;go_wp2_with fail
 go_loopw [8] (λi wr=>∃ k:Nat,k<=l.length/\i=.int .i64 (k:Int)/\Hid (af w wr)/\Hid (∀ j x,j<k->l[j]?=some x->q x=false)) (λi _=>l.length-(intOf i).toNat)
 case atStart=>exact⟨0,J,rfl,Z (ai.refl _ _),Z λj x h=>J⟩
 case round=>
  obtain⟨k,hk,rfl,HK,HN⟩:=hrel;by_cases aP:k<l.length
  ·have dL:(k:Int)<l.length:=J
   obtain⟨x,hx⟩:∃ x,l[k]?=some x:=⟨_,av6 aP⟩
   obtain⟨b,o,rfl,hc⟩:=HX.o k x hx;have c0:wr.cell? ⟨b,o+k*5,none⟩=some (.string ⟨x.name.toArray⟩):=by have h:=hc 0 _ rfl;rw[HK.cell (p:=⟨b,o+k*5,none⟩) (am h) id];exact h
   have c1:wr.cell? ⟨b,o+k*5+1,none⟩=some (.int .i64 x.id):=by have h:=hc 1 _ rfl;rw[HK.cell (p:=⟨b,o+k*5+1,none⟩) (am h) id];exact h
   have c2:wr.cell? ⟨b,o+k*5+2,none⟩=some (.int .i64 x.plane):=by have h:=hc 2 _ rfl;rw[HK.cell (p:=⟨b,o+k*5+2,none⟩) (am h) id];exact h
   have c3:wr.cell? ⟨b,o+k*5+3,none⟩=some (.int .i64 x.table.root):=by have h:=hc 3 _ rfl;rw[HK.cell (p:=⟨b,o+k*5+3,none⟩) (am h) id];exact h
   have c4:wr.cell? ⟨b,o+k*5+4,none⟩=some (.int .i64 x.table.size):=by have h:=hc 4 _ rfl;rw[HK.cell (p:=⟨b,o+k*5+4,none⟩) (am h) id];exact h
   obtain⟨T,Hx⟩:=K2 (HC.o x (av7 hx) wr HK.o) hx;clear hx hc
   cases hq:q x with
   |true=>
    rw[hq]at T;have hf:l.findIdx? q=some k:=by
     rw[List.findIdx?_eq_some_iff_getElem];have hxk:l[k]=x:=by have h:=Hx.o;rw[av6 aP]at h;injection h
     exact⟨aP,by rw[hxk];exact hq,λj hj=>by rw[HN.o j _ hj (av6 J)];simp⟩
    have Hf:=Z hf;clear hf hq;go_wp2_with fail;refine T.mono ?_;rintro e w2 ⟨rfl,k2⟩;have bJ:=Z (HK.keep k2);clear k2;go_wp2;go_ret;exact⟨by rw[Hf.o];rfl,bJ.o⟩
   |false=>
    rw[hq]at T;have HN2:Hid (∀ j x,j<k+1->l[j]?=some x->q x=false):=Z (λj y hj hy=>by
     by_cases e:j=k
     ·subst e;have h:=Hx.o;rw[hy]at h;injection h with h;rw[h];exact hq
     ·exact HN.o j y J hy)
    clear hq;go_wp2_with fail;refine T.mono ?_;rintro e w2 ⟨rfl,k2⟩;have bJ:=Z (HK.keep k2);clear k2;go_wp2_with fail;exact⟨⟨k+1,J,by go_num,bJ,HN2⟩,by simp[intOf];omega⟩
  ·have dL:¬(k:Int)<l.length:=J
   have hf:l.findIdx? q=none:=by
    rw[List.findIdx?_eq_none_iff];intro x hx;obtain⟨j,hj,rfl⟩:=List.getElem_of_mem hx;exact HN.o j _ J (av6 hj)
   have Hf:=Z hf;clear hf;go_wp2;go_ret;exact⟨by rw[Hf.o];rfl,HK.o⟩
theorem V1 {α:Type}(l:List α)(q:α->Bool):decide (0<=xB (l.findIdx? q))=l.any q:=by
 cases h:l.findIdx? q with
 |none=>
  rw[List.findIdx?_eq_none_iff]at h;have:l.any q=false:=by rw[List.any_eq_false];intro x hx;rw[h x hx];simp
  rw[this];rfl
 |some i=>
  rw[List.findIdx?_eq_some_iff_getElem]at h;obtain⟨hi,h1,_⟩:=h;have:l.any q=true:=by rw[List.any_eq_true];exact⟨_,awF hi,h1⟩
  rw[this];simp[xB]
theorem Ai {q:Sn->Bool}(l:List Sn)(v:Value)(w:World)(hr:ms uj 5 w v l)(hl:l.length<=1000)(hC:V0 G c w l q):
  Calls prog 131 #[v,.func (.func G) #[] #[c]] w λe w'=>e=.returned (.bool (l.any q))/\af w w':=by
 have IX:=Z (Ah l v w hr hl hC);have hb:=V1 l q;clear hr hl hC;generalize xB (l.findIdx? q)=z at*;generalize l.any q=r at*;subst hb;go_enter func131,ntmps131;go_wp2_with fail;refine IX.mono ?_;rintro e w2 ⟨rfl,k2⟩;go_wp2;go_ret;exact⟨rfl,k2⟩
theorem EL (hG:G=208\/G=132)(w:World)(b p:Nat)(l:List Sn)(h:w.cell? ⟨b,0,none⟩=some (.int .i64 (p:Int))):V0 G (.pointer (some ⟨b,0,none⟩)) w l (λx=>x.plane==(p:Int)) where
 call x W:=by rcases hG with rfl|rfl<;>kernel_rfl
 is x hx W k:=by
  have aP:=am h;have c:W.cell? ⟨b,0,none⟩=some (.int .i64 (p:Int)):=(k.cell (p:=⟨b,0,none⟩) aP id).trans h;have kX:b<W.heap.size:=awg aP k.size;clear h aP k hx;rcases hG with rfl|rfl
  ·go_enter func208,ntmps208;go_wp2;go_ret;exact⟨rfl,(ai.refl _ _).alloc _⟩
  ·go_enter func132,ntmps132;go_wp2;go_ret;exact⟨rfl,(ai.refl _ _).alloc _⟩
theorem V2 (w:World)(b:Nat)(s:ay)(l:List Sn)(h:w.cell? ⟨b,0,none⟩=some (az s)):V0 149 (.pointer (some ⟨b,0,none⟩)) w l (λx=>x.name==s) where
 call x W:=kr7
 is x hx W k:=by
  have aP:=am h;have c:W.cell? ⟨b,0,none⟩=some (az s):=(k.cell (p:=⟨b,0,none⟩) aP id).trans h;have kX:b<W.heap.size:=awg aP k.size;clear h aP k hx;go_enter func149,ntmps149;go_wp2;go_ret;exact⟨rfl,(ai.refl _ _).alloc _⟩
theorem IM {l:List Sn}(h:l.length<7)(h1:1<=p)(h2:p<bf l):l.any (λx=>x.plane==(p:Int))=true:=by
 obtain⟨k1,k2,_⟩:=dS h;unfold bf at h2
 cases hf:(List.range' 1 8).find? λ(p:Nat)=>!l.any λx=>x.plane==(p:Int)with
 |none=>rw[hf]at h2;simp at h2
 |some q=>
  rw[hf]at h2;rw[List.find?_eq_some_iff_getElem]at hf;obtain⟨_,i,hi,hq,nC⟩:=hf;simp only[List.length_range']at hi;simp only[List.getElem_range']at hq nC;simp only[awG]at h2;have:=nC (p-1) J;rw[show 1+1*(p-1)=p by omega]at this;simpa using this
theorem EM {l:List Sn}(h:l.length<7):l.any (λx=>x.plane==(bf l:Int))=false:=by
 obtain⟨_,_,k⟩:=dS h;rw[List.any_eq_false];intro x hx;simpa using k x hx
theorem ME (l:List Sn)(v:Value)(w:World)(hr:ms uj 5 w v l)(hl:l.length<7):
  Calls prog 134 #[v] w λe w'=>e=.returned (.int .i64 (bf l:Int))/\af w w':=by
 have hmf:∀(fn:Fn) (first cap:Array Value) (w:World),(Instr.makeFunc fn first cap).run prog w=.ok (.func fn first cap) w:=λ_ _ _ _=>rfl;obtain⟨HR,Hl⟩:=K2 hr hl;have hp:=dS hl;have CE:=hp.1;have qs:=hp.2.1;obtain⟨B,hB⟩:∃ B,w.heap.size=B:=⟨_,rfl⟩
 have ic:World.blk (w.alloc (.cells #[.int .i64 1] 3)) B #[.int .i64 1] 3:=by rw[<-hB];exact av _ _ _
 obtain⟨HB,nE⟩:=K2 hB ic;clear hr hl hp ic;go_enter func134,ntmps134;go_wp2_with fail;have eR:Hid (af w (w.alloc (.cells #[.int .i64 1] 3))):=Z ((ai.refl _ w).alloc _)
 try rw[hB]
 clear hB;generalize w.alloc (.cells #[.int .i64 1] 3)=w0 at*
 go_loopw [4] (λ_ wr=>∃ p:Nat,1<=p/\p<=bf l/\Hid (World.blk wr B #[.int .i64 (p:Int)] 3)/\Hid (af w wr)) (λ_ wr=>bf l+1-(match wr.cell? ⟨B,0,none⟩with|some v=>(intOf v).toNat|none=>0))
 case atStart=>exact⟨1,av9 _,CE,nE,eR⟩
 case round=>
  obtain⟨p,h1,h2,HX,HK⟩:=hrel;have cp:wr.cell? ⟨B,0,none⟩=some (.int .i64 (p:Int)):=aa HX.o 0;have fp:=ae HX.o ⟨B,0,none⟩ rfl;have CF:=Z (Ai l v wr (fO HR.o HK.o) (by have:=Hl.o;omega) (EL (.inl rfl) wr B p l cp));by_cases hq:p=bf l
  ·have ha:=EM Hl.o;rw[<-hq]at ha;rw[ha]at CF;have Hq:=Z hq;clear ha hq;go_wp2_with fail;refine CF.mono ?_;rintro e w2 ⟨rfl,k2⟩;have bJ:=Z (HK.keep k2);have cp2:w2.cell? ⟨B,0,none⟩=some (.int .i64 (p:Int)):=aa (ab k2 HX.o id) 0;clear k2 cp fp;go_wp2;go_ret;exact⟨by rw[<-Hq.o];rfl,bJ.o⟩
  ·have ha:=IM Hl.o h1 J;rw[ha]at CF;have Hq:Hid (p+1<=bf l):=Z J;have hpi:(p:Int)<=6:=J
   clear ha hq;go_wp2_with fail;refine CF.mono ?_;rintro e w2 ⟨rfl,k2⟩;have vg:=ab k2 HX.o id;have cp2:w2.cell? ⟨B,0,none⟩=some (.int .i64 (p:Int)):=aa vg 0;have fp2:=ae vg ⟨B,0,none⟩ rfl;have qt:=Z (ah vg 0 (.int .i64 ((p:Int)+1)));have ez:Hid (af w (w2.setCell ⟨B,0,none⟩ (.int .i64 ((p:Int)+1)))):=Z ((HK.keep k2).setCell (p:=⟨B,0,none⟩) (.inr (by have:=HB.o;exact Nat.le_of_eq this)) _);have cp0:=cp;clear k2 fp vg cp;go_wp2_with fail;have e1:((p:Int)+1)=((p+1:Nat):Int):=J
   rw[e1]at qt ez ⊢;refine⟨⟨p+1,J,Hq.o,qt,ez⟩,?_⟩;have c3:(w2.setCell ⟨B,0,none⟩ (.int .i64 ((p+1:Nat):Int))).cell? ⟨B,0,none⟩=some (.int .i64 ((p+1:Nat):Int)):=aa qt.o 0;have:=Hq.o;simp only[c3,cp0,intOf,awH];exact Nat.sub_lt_sub_left (by have h1:=Hq.o;exact Nat.lt_succ_of_lt h1) (Nat.lt_succ_self p)
theorem EO (n:Nat)(w:World)(hn:n<=100000):
  Calls prog 217 #[.int .i64 (n:Int)] w λe w'=>∃ v,e=.returned v/\aO w' w.heap.size v (gh (List.range n))/\af w w':=by
 have hni:(n:Int)<=100000:=J
 go_enter func217,ntmps217;go_wp2_with fail
 go_loopw [3,6] (λv i wr=>∃ k:Nat,k<=n/\i=.int .i64 (k:Int)/\Hid (aO wr w.heap.size v (gh (List.range k)))/\Hid (af w wr)) (λ_ i _=>n-(intOf i).toNat)
 case atStart=>exact⟨0,J,rfl,Z ⟨rfl,.inl ⟨rfl,rfl⟩⟩,Z (ai.refl _ _)⟩
 case round=>
  obtain⟨k,hk,rfl,HO,HK⟩:=hrel;by_cases aP:k<n
  ·have dL:(k:Int)<(n:Int):=J
   have Ha:=kv (P:=prog) underlying46 iQ rfl w.heap.size u3 _ _ wr w HO.o [.int .i64 (k:Int)] (by simp[Value.oneCell']) (by unfold maxLen;simp[gh];omega) (by simp[gh];omega) HK.size HK.o (av9 _);obtain⟨v',w3',bN,bC,dr,_⟩:=Ha;have HR:=Z bN;have Ot:Hid (aO w3' w.heap.size v' (gh (List.range (k+1)))):=Z (by
    have:=j6 bC;rw[List.range_succ];simpa[gh]using this)
   have ez:=Z dr;clear bN bC dr;go_wp2_with (at_builtin;refine aB HR.o rfl rfl rfl rfl ?_);exact⟨⟨k+1,J,by go_num,Ot,ez⟩,by simp[intOf];omega⟩
  ·obtain rfl:k=n:=J
   go_wp2;go_ret;exact⟨_,rfl,HO.o,HK.o⟩
end
end Go.Proofs.YtkghpdcloaiflaaGreatDoor
