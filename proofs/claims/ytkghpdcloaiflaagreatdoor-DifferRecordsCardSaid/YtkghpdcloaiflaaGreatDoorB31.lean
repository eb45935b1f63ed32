import Derived.Test.YtkghpdcloaiflaaGreatDoorB30
import Derived.Lib.SliceRun
set_option maxHeartbeats 4000000
set_option maxRecDepth 100000
namespace Go.Proofs.YtkghpdcloaiflaaGreatDoor
open _root_.Go.Proofs.Tryz
section
open Go
section
variable {P:Program}{aB:Array Oper}{md:Region.Mode}{D1 D2:World->Prop}{Q:Exit->Act->World->Prop}
def yP (P:Program)(md:Region.Mode)(aB:Array Oper)(Q:Exit->Act->World->Prop)(p:Nat)(D1 D2:World->Prop):Nat->Bool->Array Bool->Act->World->Prop
 |0,pl,_,a,w=>(D1 w/\(pl=true\/D2 w))/\Q .normal a w
 |f+1,pl,listed,a,w=>(D1 w/\(pl=true\/D2 w))/\∀ i∈Region.ready md aB listed,match aB[i]? with
  |none=>False
  |some o=>wpList P aB (fun e a' w'=>match e with | .normal=>yP P md aB Q p D1 D2 f (pl||i==p) (listed.setIfInBounds i true) a' w'|e=>Q e a' w') [o] a w
def Eo (md:Region.Mode)(aB:Array Oper):Nat->Array Bool->Bool
 |0,listed=>(Region.ready md aB listed).isEmpty
 |f+1,listed=>!(Region.ready md aB listed).isEmpty&&(Region.ready md aB listed).all fun i=>Eo md aB f (listed.setIfInBounds i true)
theorem rX {p:Nat}:∀(f:Nat) (pl:Bool) (listed:Array Bool) (a:Act) (w:World),Eo md aB f listed=true->(pl=true->listed.getD p false=true)->listed.size=aB.size->yP P md aB Q p D1 D2 f pl listed a w->gI P md aB Q (DP p D1 D2) f listed a w
 |0,pl,listed,a,w,hB,hp,_,h=>⟨⟨h.1.1,h.1.2.imp hp id⟩,by simpa[Eo]using hB,h.2⟩
 |f+1,pl,listed,a,w,hB,hp,hls,h=>by
  simp only[Eo,avj,Bool.not_eq_true',avk]at hB;refine⟨⟨h.1.1,h.1.2.imp hp id⟩,fun h1=>(by rw[h1]at hB;simp at hB),fun k hk=>?_⟩;have h2:=h.2 k hk;have hBk:=hB.2 k hk
  cases h0:aB[k]? with
  |none=>rw[h0]at h2;exact h2.elim
  |some o=>
   rw[h0]at h2;simp only at h2;have hw:wpOp P aB Q k (yP P md aB Q p D1 D2 f (pl||k==p) (listed.setIfInBounds k true)) a w:=by
    unfold wpOp;simp only[h0];unfold wpList at h2;split
    ·rename_i hwt
     rw[au8 hwt]at h2;rcases h2 with h2|⟨h2,h3⟩
     ·exact .inl (oN h2)
     ·exact .inr ⟨h2,h3⟩
    ·rename_i hwt
     rw[ava hwt]at h2;exact h2
   refine wpOp_mono (fun a' w' h'=>rX f (pl||k==p) _ a' w' hBk (fun e=>?_) (by simpa using hls) h') hw;rw[avl]at e;by_cases TD:k=p
   ·subst TD;have aL:k<listed.size:=by rw[hls];exact(avm.1 h0).1
    simp[aL]
   ·exact getD_set_true (hp (e.resolve_right (by simpa using TD)))
theorem gz {p:Nat}{pl:Bool}{listed:Array Bool}{a:Act}{w:World}(hd:D1 w/\(pl=true\/D2 w))(h:Q .normal a w):yP P md aB Q p D1 D2 0 pl listed a w:=⟨hd,h⟩
theorem aY {p f i:Nat}{pl:Bool}{listed:Array Bool}{a:Act}{w:World}{o:Oper}(hr:Region.ready md aB listed=[i])(h0:aB[i]?=some o)(hd:D1 w/\(pl=true\/D2 w))
  (h:wpList P aB (fun e a' w'=>match e with | .normal=>yP P md aB Q p D1 D2 f (pl||i==p) (listed.setIfInBounds i true) a' w'|e=>Q e a' w') [o] a w):yP P md aB Q p D1 D2 (f+1) pl listed a w:=by
 refine⟨hd,fun k hk=>?_⟩;rw[hr]at hk;obtain rfl:k=i:=by simpa using hk
 rw[h0];exact h
theorem lj {p f i j:Nat}{pl:Bool}{listed:Array Bool}{a:Act}{w:World}{o o':Oper}(hr:Region.ready md aB listed=[i,j])(h0:aB[i]?=some o)(h1:aB[j]?=some o')(hd:D1 w/\(pl=true\/D2 w))
  (h:wpList P aB (fun e a' w'=>match e with | .normal=>yP P md aB Q p D1 D2 f (pl||i==p) (listed.setIfInBounds i true) a' w'|e=>Q e a' w') [o] a w)
  (h':wpList P aB (fun e a' w'=>match e with | .normal=>yP P md aB Q p D1 D2 f (pl||j==p) (listed.setIfInBounds j true) a' w'|e=>Q e a' w') [o'] a w):yP P md aB Q p D1 D2 (f+1) pl listed a w:=by
 refine⟨hd,fun k hk=>?_⟩;rw[hr]at hk;rcases avn.1 hk with rfl|hk
 ·rw[h0];exact h
 ·obtain rfl:k=j:=by simpa using hk
  rw[h1];exact h'
def QJ (md:Region.Mode)(aB:Array Oper)(p:Nat)(js:List Nat)(f:Nat):Bool:=
 Region.noSelect aB&&decide (js.length+f=aB.size)&&Db md aB p js (Array.replicate aB.size false)&&Eo md aB f (vT js (Array.replicate aB.size false))
theorem jU {P:Program}{id:Nat}{Q:Exit->Act->World->Prop}{a:Act}{w:World}{l:List Oper}(p:Nat)(js:List Nat)(f:Nat)(D1 D2:World->Prop)(hm:P.follows .mixedOrders=true)(hB:QJ .any l.toArray p js f=true)
  (hQ:∀ c o v a w,Q (.panic c) (Act.put a o v) w->Q (.panic c) a w)
  (h:lJ P .any l.toArray p D1 D2 (fun a'=>yP P .any l.toArray Q p D1 D2 f false (vT js (Array.replicate l.toArray.size false)) a' { w with drawn:=w.drawn+1 }) js a):(Code.region id l.toArray true).wp P Q a w:=by
 simp only[QJ,avj,avo]at hB;obtain⟨⟨⟨fL,bA⟩,dr⟩,Jz⟩:=hB;refine wp_region_any hm ?_;have H:=l6 (md:=.any) (Q:=Q) (g:=f) fL hQ { w with drawn:=w.drawn+1 } js (Array.replicate l.toArray.size false) a (fun j oj _ hl=>by rw[avq]at hl;simp at hl)
  (fun a' FJ=>rX f false _ a' _ Jz (fun e=>by cases e) (by rw[qJ];simp) FJ) dr h
 rw[bA]at H;exact rK H
end
end
section
open Go.RowKit Go.Shelf
attribute [local go_sem] auV
theorem QK {w:World}{base:Nat}{v:Value}{l:List Int}(h:aN w base v l)(h0:∀ n∈l,0<=n):eF w v (qd (l.map Int.toNat)):=by
 have h1:=ba h;have e:qd (l.map Int.toNat)=bi l:=by
  unfold qd bi;rw[avr];apply avs;intro n hn;have:=h0 n hn;show Value.int .i64 ((n.toNat:Nat):Int)=Value.int .i64 n;rw[Int.toNat_of_nonneg this]
 rw[e];exact h1
theorem Ep:∀(s:ay),4*(cq s).length<=s.length
 |[]=>by simp[cq]
 |[_]=>by simp[cq]
 |[_,_]=>by simp[cq]
 |[_,_,_]=>by simp[cq]
 |a::b::c::d::r=>by
  have:=Ep r;simp only[cq,au0];omega
theorem Er {f:Nat->Int->Except Int ru}{B:Nat}:∀(l:List Int) (i:Nat) (o:ru),(∀ i n o,f i n=.ok o->o.1.length<=B)->cJ f i l=.ok o->o.1.length<=B*l.length
 |[],_,o,_,h=>by
  simp only[cJ]at h;injection h with h;subst h;simp
 |n::r,i,o,hf,h=>by
  simp only[cJ]at h
  cases ha:f i n with
  |error e=>rw[ha]at h;cases h
  |ok a=>
   rw[ha]at h;simp only at h
   cases hb:cJ f (i+1) r with
   |error e=>rw[hb]at h;cases h
   |ok b=>
    rw[hb]at h;simp only at h;injection h with h;subst h;have h1:=hf i n a ha;have h2:=Er r (i+1) b hf hb;simp only[avi,au0,Nat.mul_succ];omega
theorem QL (rd:Rd)(ch:Bool)(size:Nat):∀(l i:Nat) (n:Int) (o:ru),nV rd ch size l i n=.ok o->o.1.length<=61 ^ l
 |0,i,n,o,h=>by
  unfold nV at h;split at h
  ·split at h
   ·cases h
   ·split at h
    ·cases h
    ·injection h with h;subst h;simp
  ·injection h with h;subst h;simp
 |l+1,i,n,o,h=>by
  unfold nV at h;split at h
  ·cases h
  ·rename_i s _
   split at h
   ·cases h
   ·rename_i hs
    split at h
    ·cases h
    ·rename_i o' ho
     injection h with h;subst h;have h1:=Er _ _ _ (fun i n o h=>QL rd ch size l i n o h) ho;have h2:=Ep s;have h3:(cq s).length<=60:=by omega
     have h4:61 ^ l*(cq s).length<=61 ^ l*60:=avt _ h3;have h5:1<=61 ^ l:=Nat.one_le_pow _ _ (by decide);simp only[au0];rw[avu];omega
theorem Mt {rd:Rd}{b:fU}{l:List Int}(h:oF rd b=.ok l):l.length<=4000:=by
 unfold oF at h
 cases ho:eg rd b false with
 |error e=>rw[ho]at h;cases h
 |ok o=>
  rw[ho]at h;injection h with h;subst h;show(dM o.1).length<=4000;unfold dM;rw[avv];unfold eg at ho;split at ho
  ·cases ho
  ·split at ho
   ·injection ho with ho;subst ho;simp
   ·have h1:=QL _ _ _ _ _ _ _ ho;have h2:(au b.size.toNat).length-1<=2:=by
     rcases aM b.size.toNat with⟨_,e⟩|⟨_,_,e⟩|⟨_,_,e⟩|⟨_,e⟩<;>rw[e]<;>simp
    have h3:61 ^ ((au b.size.toNat).length-1)<=61 ^ 2:=avw (by decide) h2;omega
theorem Es {rd:Rd}{data:ay}{b:fU}{S:Nat->Prop}(h:aS rd data b S){set s:ay}(hl:set.length<=600)(e:dK rd set b=.ok s):s.length<=600:=by
 obtain⟨l,e1,yB⟩:=h.reach;unfold dK at e;rw[e1]at e;simp only at e;split at e
 ·injection e with e;rw[<-e];refine auX (lN _ _) ?_;have:(iK (l.map Int.toNat)).length<=4095/8+1:=A8 fun x hx=>by
   obtain⟨n,hn,rfl⟩:=avx.1 hx;obtain⟨k,rfl,hk⟩:=(yB n).1 hn;have:=h.lt hk;simp;omega
  omega
 ·cases e
theorem Et {ty:TypeId}{rv:Value}{f:FuncId}{I:World->(Nat->Prop)->Prop}{rd:Rd}(S:qk ty rv f I rd){w:World}{F:Nat->Prop}(hI:I w F)(set:ay)(adc:set.length<=600){data:ay}{b:fU}{S0:Nat->Prop}(hb:aS rd data b S0)(s:ay)(hs:dK rd set b=.ok s):
  Calls prog 79 #[.iface ty rv,ax set,dc b] w fun e w'=>e=.returned (.tuple #[ax s,.int .i64 0])/\∃ F',I w' F'/\dX F F' w w':=by
 obtain⟨l,e1,yB⟩:=hb.reach;have hr:∀ n∈l,0<=n/\n<=4095:=fun n hn=>by
  obtain⟨k,rfl,hk⟩:=(yB n).1 hn;have:=hb.lt hk;omega
 have es:eC set (iK (l.map Int.toNat))=s:=by
  unfold dK at hs;rw[e1]at hs;simp only at hs;rw[au8 (by rw[avk];intro x hx;have:=hr x hx;simp;omega)]at hs;injection hs
 have hm:b.may=true:=by
  have:=hb.may;unfold fU.ok at this;simp only[avj]at this;exact this.1.1
 have yo:l.length<=1000000:=by have:=Mt e1;omega
 have dt:af w (w.alloc (.cells #[.int .i64 b.root,.int .i64 b.size] 42)):=(ah.refl _ w).alloc _;have R:=hd0 (LQ S (S.same hI (dt.on fun _ _=>id) dt.size) b hm l e1);have dT:=hd0 dt;have HS:=hd0 S;have Hr:=hd0 hr;have Hes:=hd0 es;clear hI hs dt hr es yB e1 hb;unfold dc at R ⊢;go_enter func79,ntmps79;go_wp2_with fail;refine R.out.mono ?_;rintro e w1 ⟨v,rfl,ho,F1,NV,hk1,nP⟩;have OF:=hd0 (Ba (l.map Int.toNat) v w1 (QK ho fun n hn=>(Hr.out n hn).1) (by simpa using yo) (fun n hn=>by
  obtain⟨z,hz,rfl⟩:=avx.1 hn;have:=Hr.out z hz;omega))
 have XC:=hd0 NV;have bZ:Hid (dX F F1 w w1):=hd0 ⟨(dT.out.mono (T:=F) (fun _ _ h=>h.elim)).trans hk1.mod (fun _ _ h=>h),fun g hg=>(hk1.foot g hg).imp id (fun h=>auX dT.out.size h)⟩;clear ho NV hk1 nP R;go_wp2_with fail;refine OF.out.mono ?_;rintro e w2 ⟨rfl,k2⟩;have OR:=hd0 (fun W=>lO set (iK (l.map Int.toNat)) W (by omega) (by
  have:(iK (l.map Int.toNat)).length<=4095/8+1:=A8 fun x hx=>by
   obtain⟨n,hn,rfl⟩:=avx.1 hx;have:=Hr.out n hn;omega
  omega))
 have OI:=hd0 (HS.out.same XC.out (k2.on fun _ _=>id) k2.size);have bw:Hid (dX F F1 w w2):=hd0 ⟨bZ.out.mod.keep k2,bZ.out.foot⟩;clear k2 OF;go_wp2_with fail;refine(OR.out _).mono ?_;rintro e w3 ⟨rfl,k3⟩;rw[Hes.out];have FG:=hd0 (HS.out.same OI.out (k3.on fun _ _=>id) k3.size);have dR:Hid (dX F F1 w w3):=hd0 ⟨bw.out.mod.keep k3,bw.out.foot⟩;clear k3 OR;go_wp2;go_ret2;exact⟨rfl,F1,FG.out,dR.out⟩
end
section
open Go.RowKit Go.Shelf
attribute [local go_sem] auV
structure xy (pv size:Nat)(text:ay)(num pb:Nat)(F:Nat->Prop)(t:gC)(w w':World)(F':Nat->Prop):Prop where
 vol:lA pv size text num t.rd w' F'
 pool:jP w' pb t.pool
 foot:∀ g,F' g->F g\/w.heap.size<=g
 npb:¬ F' pb
 mod:ah (fun g=>F g\/g=pb) w w'
theorem lA.same {pv size:Nat}{text:ay}{num:Nat}{rd:Rd}{w w':World}{F:Nat->Prop}(h:lA pv size text num rd w F)(m:fC F w w')(hs:w.heap.size<=w'.heap.size):lA pv size text num rd w' F:=(nK pv size text num rd).same h m hs
theorem lA.lt {pv size:Nat}{text:ay}{num:Nat}{rd:Rd}{w:World}{F:Nat->Prop}(h:lA pv size text num rd w F)(b:Nat)(hb:F b):b<w.heap.size:=(nK pv size text num rd).lt h b hb
theorem xy.put {pv size:Nat}{text:ay}{num pb:Nat}{F F':Nat->Prop}{t:gC}{w w1 w2:World}{B:Nat}(h:xy pv size text num pb F t w w1 F')(m:ah (fun g=>g=B) w1 w2)(hB:¬ F' B)(hp:B≠pb)(hw:w.heap.size<=B):xy pv size text num pb F t w w2 F' where
 vol:=h.vol.same (m.on fun g hg e=>hB (e▸hg)) m.size
 pool:=h.pool.mod m fun e=>hp e.symm
 foot:=h.foot
 npb:=h.npb
 mod:=h.mod.trans m fun g hg e=>by omega
theorem xy.keep {pv size:Nat}{text:ay}{num pb:Nat}{F F':Nat->Prop}{t:gC}{w w1 w2:World}(h:xy pv size text num pb F t w w1 F')(m:af w1 w2):xy pv size text num pb F t w w2 F' where
 vol:=h.vol.same (m.on fun _ _=>id) m.size
 pool:=h.pool.mod m id
 foot:=h.foot
 npb:=h.npb
 mod:=h.mod.keep m
theorem nL {pv size:Nat}{text:ay}{num:Nat}{rd:Rd}{w:World}{F:Nat->Prop}{pb:Nat}{p:Pl}(hI:lA pv size text num rd w F)(hp:jP w pb p)(hF:¬ F pb)(hb:p.blocks=size/4)(Kt:size/4<=4096)(v:Nat)(hv:w.cell? ⟨v,0,none⟩=some (aq pv))
  {bg:ay} {old:fU} {S:Nat->Prop} (hT:aS rd bg old S) (data:ay) (hd:data.length<=16384) (b:fU) (t:gC) (hs:dG ⟨rd,p⟩ old data=.ok (b,t)):
  Calls prog 137 #[aq v,dc old,ax data,aq pb] w fun e w'=>e=.returned (dc b)/\∃ F',xy pv size text num pb F t w w' F':=by
 obtain⟨hh,nums,rfl,hT,_⟩:=hT;obtain⟨old,hold⟩:∃ old,du bg nums=old:=⟨_,rfl⟩
 have ST:=fun(W:World) (F:Nat->Prop) (hI:lA pv size text num rd W F) (hp:jP W pb p) (hF:¬ F pb)=>LU (Ir pv size text num) hI hp hF hb Kt bg nums hT hh data hd b t hs;rw[hold]at ST ⊢;clear hs;have uG:=hd0 ST;have HI:=hd0 hI;have HP:=hd0 hp;have HF:=hd0 hF;have vlt:=ai hv;have HV:=hd0 hv;clear hI hp hF ST hT hold hv;obtain⟨root,sz⟩:=old;unfold dc at uG ⊢;go_enter func137,ntmps137
 go_upto_region 1 with fail
 have HK:Hid (af w ((w.alloc (.cells #[.int .i64 root,.int .i64 sz] 42)).alloc (.cells #[.int .i64 0,.int .i64 0] 42))):=hd0 (((ah.refl _ w).alloc _).alloc _);have Jf:World.blk ((w.alloc (.cells #[.int .i64 root,.int .i64 sz] 42)).alloc (.cells #[.int .i64 0,.int .i64 0] 42)) w.heap.size #[.int .i64 root,.int .i64 sz] 42:=aF (av _ _ _) _;have V1:World.blk ((w.alloc (.cells #[.int .i64 root,.int .i64 sz] 42)).alloc (.cells #[.int .i64 0,.int .i64 0] 42)) (w.heap.size+1) #[.int .i64 0,.int .i64 0] 42:=aZ (by simp) _ _;obtain⟨W,hW⟩:∃ W,(w.alloc (.cells #[.int .i64 root,.int .i64 sz] 42)).alloc (.cells #[.int .i64 0,.int .i64 0] 42)=W:=⟨_,rfl⟩
 have cV:W.heap.size=w.heap.size+2:=by rw[<-hW];simp
 rw[hW]at HK Jf V1 ⊢;have XC:=hd0 (HI.out.same (HK.out.on fun _ _=>id) HK.out.size);have BR:=hd0 (HP.out.mod HK.out id);obtain⟨ob,ij⟩:∃ ob,w.heap.size=ob:=⟨_,rfl⟩
 obtain⟨zb,hzb⟩:∃ zb,w.heap.size+1=zb:=⟨_,rfl⟩
 rw[hzb]at V1
 try rw[hzb]
 rw[ij]at Jf
 try rw[ij]
 have vc:W.cell? ⟨v,0,none⟩=some (aq pv):=(HK.out.cell (p:=⟨v,0,none⟩) vlt id).trans HV.out;have oc0:W.cell? ⟨ob,0,none⟩=some (.int .i64 root):=aa Jf 0;have oc1:W.cell? ⟨ob,1,none⟩=some (.int .i64 sz):=aa Jf 1;have vl2:v<W.heap.size:=avb vlt HK.out.size;have ol2:ob<W.heap.size:=ak Jf;have HB:=hd0 (And.intro Jf V1);have yv:=hd0 ij;have Hzb:=hd0 hzb;have Hsz:=hd0 cV;clear hW Jf V1 ij hzb cV;have I9:∀ g,F g\/g=pb->g<w.heap.size:=fun g hg=>hg.elim (HI.out.lt g) (fun e=>e▸ak HP.out.own);have HC:Hid (∀ W',af W W'->Calls prog 212 #[.iface 94 (aq pv),.agg #[.int .i64 root,.int .i64 sz],ax data,aq pb] W' fun e w2=>e=.returned (.tuple #[.agg #[.int .i64 b.root,.int .i64 b.size],.int .i64 0])/\(∃ F',xy pv size text num pb F t w w2 F'/\∀ g,F' g->F g\/W'.heap.size<=g)/\ah (fun g=>F g\/g=pb) W' w2):=hd0 (fun W' k=>by
  refine(uG.out W' F (XC.out.same (k.on fun _ _=>id) k.size) (BR.out.mod k id) HF.out).mono ?_;rintro e w2 ⟨rfl,F',h1,h2,h3,h4,h5⟩;have k0:=HK.out.keep k;exact⟨rfl,⟨F',⟨h1,h2,fun g hg=>(h3 g hg).imp id (fun h=>auX k0.size h),h4,(k0.mono (T:=fun g=>F g\/g=pb) (fun _ _ h=>h.elim)).trans h5 (fun _ _ h=>h)⟩,h3⟩,h5⟩)
 have HFl:=hd0 I9;clear uG I9;go_cut [9,10] (fun v9 v10 wx=>∃(B:Nat) (F':Nat->Prop),v9=.pointer (some ⟨B,0,none⟩)/\v10=.int .i64 0/\World.blk wx B #[.int .i64 b.root,.int .i64 b.size] 42/\World.blk wx zb #[.int .i64 0,.int .i64 0] 42/\xy pv size text num pb F t w wx F'/\¬ F' zb)
 case first=>
  go_region_with ((go_at_call 212;first
   |(refine avd (HC.out _ ((ah.refl _ W).drew)) ?_;rintro e w2 ⟨rfl,jH,df⟩;have Ck:=hd0 jH;have eV:=ab df (show World.blk W.drew zb _ _ from HB.out.2) (fun h=>by have:=HFl.out _ h;have:=Hzb.out;omega);have HZ2:=hd0 eV;clear jH df eV)
   |(refine avd (HC.out _ (((ah.refl _ W).alloc _).drew)) ?_;rintro e w2 ⟨rfl,jH,df⟩;have Ck:=hd0 jH;have eV:=ab df (show World.blk (W.alloc (.cells #[.int .i64 0,.int .i64 0] 42)).drew zb _ _ from aF HB.out.2 _) (fun h=>by have:=HFl.out _ h;have:=Hzb.out;omega);have HZ2:=hd0 eV;have vd:=ab df (show World.blk (W.alloc (.cells #[.int .i64 0,.int .i64 0] 42)).drew W.heap.size _ _ from av W _ _) (fun h=>by have:=HFl.out _ h;have:=HK.out.size;omega);have lC:=hd0 vd;have x0:w2.cell? ⟨W.heap.size,0,none⟩=some (.int .i64 0):=aa vd 0;have x1:w2.cell? ⟨W.heap.size,1,none⟩=some (.int .i64 0):=aa vd 1;have y0:w2.frozen? ⟨W.heap.size,0,none⟩=false:=ae vd ⟨W.heap.size,0,none⟩ rfl;have y1:w2.frozen? ⟨W.heap.size,1,none⟩=false:=ae vd ⟨W.heap.size,1,none⟩ rfl;clear jH df eV vd)))
  all_goals (go_wp2_with fail;go_meet)
  all_goals (case rel=>
   obtain⟨F',hs,hf⟩:=Ck.out;have hz:¬ F' zb:=fun h=>(hf zb h).elim (fun h=>by have:=HFl.out zb (.inl h);have:=Hzb.out;omega) (fun h=>by have:=ak HB.out.2;simp at h;omega)
   first
   |exact⟨_,F',rfl,rfl,av _ _ _,aF HZ2.out _,hs.keep ((ah.refl _ _).alloc _),hz⟩
   |(have hB:¬ F' W.heap.size:=fun h=>(hf _ h).elim (fun h=>by have:=HFl.out _ (.inl h);have:=HK.out.size;omega) (fun h=>by simp at h;omega)
     exact⟨_,F',rfl,rfl,ag (ag lC.out 0 _) 1 _,bE (bE HZ2.out _ (fun e=>by have:=ak HB.out.2;simp at e;omega) _) _ (fun e=>by have:=ak HB.out.2;simp at e;omega) _,hs.put (((ah.refl (fun g=>g=W.heap.size) _).setCell (p:=⟨W.heap.size,0,none⟩) (.inl rfl) _).setCell (p:=⟨W.heap.size,1,none⟩) (.inl rfl) _) hB (fun e=>by have:=ak BR.out.own;omega) HK.out.size,hz⟩))
 case rest=>
  obtain⟨B,F',rfl,rfl,hB,hz,hs,hnz⟩:=hcut;have b0:wc.cell? ⟨B,0,none⟩=some (.int .i64 b.root):=aa hB 0;have b1:wc.cell? ⟨B,1,none⟩=some (.int .i64 b.size):=aa hB 1;have z0:wc.cell? ⟨zb,0,none⟩=some (.int .i64 0):=aa hz 0;have z1:wc.cell? ⟨zb,1,none⟩=some (.int .i64 0):=aa hz 1;have f0:=ae hz ⟨zb,0,none⟩ rfl;have f1:=ae hz ⟨zb,1,none⟩ rfl;have MU:=hd0 (mQ wc);have JA:=hd0 (hs.put (((ah.refl (fun g=>g=zb) wc).setCell (p:=⟨zb,0,none⟩) (.inl rfl) (.int .i64 b.root)).setCell (p:=⟨zb,1,none⟩) (.inl rfl) (.int .i64 b.size)) hnz (fun e=>by have:=ak HP.out.own;have:=Hzb.out;omega) (by have:=Hzb.out;omega));have B4:=hd0 (ag (ag hz 0 (.int .i64 b.root)) 1 (.int .i64 b.size));clear hs hnz hB hz;go_wp2_with fail;refine MU.out.mono ?_;rintro e w5 ⟨rfl,rfl⟩;go_wp2_with fail;obtain⟨W4,hW4⟩:∃ W4,(w5.setCell ⟨zb,0,none⟩ (.int .i64 b.root)).setCell ⟨zb,1,none⟩ (.int .i64 b.size)=W4:=⟨_,rfl⟩
  rw[hW4]at B4 JA ⊢;have q0:W4.cell? ⟨zb,0,none⟩=some (.int .i64 b.root):=aa B4.out 0;have q1:W4.cell? ⟨zb,1,none⟩=some (.int .i64 b.size):=aa B4.out 1;refine avy (v:=dc b) (by simp[results,Tryz.results137,go_sem,q0,q1,dc]) rfl ?_;exact⟨rfl,F',JA.out⟩
theorem xz {pv size:Nat}{text:ay}{num:Nat}{rd:Rd}{w:World}{F:Nat->Prop}(hI:lA pv size text num rd w F)(v:Nat)(hv:w.cell? ⟨v,0,none⟩=some (aq pv))(set:ay)(adc:set.length<=600)
  {data:ay} {b:fU} {S:Nat->Prop} (hb:aS rd data b S) (s:ay) (hs:dK rd set b=.ok s):
  Calls prog 139 #[aq v,ax set,dc b] w fun e w'=>e=.returned (ax s)/\∃ F',lA pv size text num rd w' F'/\dX F F' w w':=by
 have RE:=fun(W:World) (h:lA pv size text num rd W F)=>Et (nK pv size text num rd) h set adc hb s hs;have I9:∀ g,F g->g<w.heap.size:=fun g hg=>hI.lt g hg;have HI:=hd0 hI;have vlt:=ai hv;have HV:=hd0 hv;clear hI hb hs hv;obtain⟨root,sz⟩:=b;unfold dc at RE ⊢;simp only at RE;go_enter func139,ntmps139
 go_upto_region 1 with fail
 have HK:Hid (af w (w.alloc (.cells #[.int .i64 root,.int .i64 sz] 42))):=hd0 ((ah.refl _ w).alloc _);have Jf:World.blk (w.alloc (.cells #[.int .i64 root,.int .i64 sz] 42)) w.heap.size #[.int .i64 root,.int .i64 sz] 42:=av _ _ _;obtain⟨W,hW⟩:∃ W,w.alloc (.cells #[.int .i64 root,.int .i64 sz] 42)=W:=⟨_,rfl⟩
 rw[hW]at HK Jf ⊢;obtain⟨ob,ij⟩:∃ ob,w.heap.size=ob:=⟨_,rfl⟩
 rw[ij]at Jf ⊢;have vc:W.cell? ⟨v,0,none⟩=some (aq pv):=(HK.out.cell (p:=⟨v,0,none⟩) vlt id).trans HV.out;have oc0:W.cell? ⟨ob,0,none⟩=some (.int .i64 root):=aa Jf 0;have oc1:W.cell? ⟨ob,1,none⟩=some (.int .i64 sz):=aa Jf 1;have R:=hd0 (RE W.drew (HI.out.same ((HK.out.drew).on fun _ _=>id) HK.out.drew.size));clear hW Jf RE I9 ij;go_cut [7,8] (fun v7 v8 wx=>v7=ax s/\v8=.int .i64 0/\∃ F',lA pv size text num rd wx F'/\dX F F' w wx)
 case first=>
  go_region_with ((go_at_call 79;refine R.out.mono ?_;rintro e w2 ⟨rfl,F2,hI2,dd⟩;have OI:=hd0 hI2;have bw:Hid (dX F F2 w w2):=hd0 ⟨(HK.out.drew.mono (T:=F) (fun _ _ h=>h.elim)).trans dd.mod (fun _ _ h=>h),fun g hg=>(dd.foot g hg).imp id (fun h=>auX HK.out.size h)⟩;clear hI2 dd))
  all_goals (go_wp2_with fail;go_meet)
  all_goals (case rel=>exact⟨rfl,rfl,_,OI.out,bw.out⟩)
 case rest=>
  obtain⟨rfl,rfl,F',hI',FP⟩:=hcut;have HI':=hd0 hI';have YK:=hd0 FP;have MU:=hd0 (mQ wc);clear hI' FP R vc oc0 oc1;go_wp2_with fail;refine MU.out.mono ?_;rintro e w5 ⟨rfl,rfl⟩;go_wp2;go_ret;exact⟨rfl,F',HI'.out,YK.out⟩
end
section
open Go.RowKit
theorem Eu (l:List fH)(v:Value)(w:World)(cI:mC jD 5 w v l)(bQ:qN l=true):
  Calls prog 207 #[v] w fun e w'=>e=.returned (.tuple #[ax (j7 l),.int .i64 0])/\af w w':=by
 have HR:=hd0 cI;have IF:=hd0 (Eh w);clear cI;go_enter func207,ntmps207;go_wp2_with fail;refine IF.out.mono ?_;rintro e w1 ⟨rfl,k1⟩;have L:=hd0 (Em l v w1 (fQ HR.out k1) bQ);have HK:=hd0 k1;clear k1 IF bQ;unfold uX at L ⊢;go_wp2_with fail;refine L.out.mono ?_;rintro e w2 ⟨rfl,k2⟩;have bw:=hd0 (HK.out.keep k2);clear k2 L;go_wp2;go_ret2;exact⟨rfl,bw.out⟩
theorem Iu (l:List Sn)(v:Value)(w:World)(cI:mC ue 5 w v l)(bQ:zI l=true):
  Calls prog 136 #[v] w fun e w'=>e=.returned (.tuple #[ax (j8 l),.int .i64 0])/\af w w':=by
 have HR:=hd0 cI;have IF:=hd0 (Im w);clear cI;go_enter func136,ntmps136;go_wp2_with fail;refine IF.out.mono ?_;rintro e w1 ⟨rfl,k1⟩;have L:=hd0 (It l v w1 (fQ HR.out k1) bQ);have HK:=hd0 k1;clear k1 IF bQ;unfold Bn at L ⊢;go_wp2_with fail;refine L.out.mono ?_;rintro e w2 ⟨rfl,k2⟩;have bw:=hd0 (HK.out.keep k2);clear k2 L;go_wp2;go_ret2;exact⟨rfl,bw.out⟩
end
section
open Go.RowKit
attribute [local go_sem] auV
theorem Ai:(prog.info? 85).map (fun i=>(i.zero,i.size,i.bytes))=some (some (.agg #[.string ⟨#[]⟩,.int .i64 0,.int .i64 0,.int .i64 0,.int .i64 0]),5,48):=by kernel_rfl
theorem pk (v:Value)(l:List Sn)(w:World)(h:ec ue 5 85 w 0 v l)(hl:l.length<=1000):
  Calls prog 68 #[v] w fun e w'=>∃ v',e=.returned v'/\ec ue 5 85 w' w.heap.size v' l/\af w w':=by
 have hr:=cl jo h;have qT:∀(w:World) (a:Option Addr) (n c n' c':Nat),(binOp .eql 92 (.slice a n c) (.slice none n' c')).run prog w=.ok (.bool a.isNone) w:=fun w a n c n' c'=>Lib.run_eql_slice_nil w _ _ a n c n' c' underlying92;rcases h.2 with⟨rfl,h0⟩|⟨g,cap,d7,rfl,hb,hg,NA,FC,Xz,Ci⟩
 ·have yz:l=[]:=avz.1 (by omega);subst yz;clear h hr;go_enter func68,ntmps68;go_wp2;go_ret;exact⟨_,rfl,World.ownsRow_nil _ _ _ _,ah.refl _ _⟩
 ·obtain⟨v',w',bh,ho,hk,_⟩:=En (P:=prog) (ts:=92) (te:=85) underlying92 Ai (by decide) (by decide) jo w.heap.size _ [] (w.alloc (.cells #[] 85)) w (Ms w _) _ l (fQ hr ((ah.refl _ w).alloc _)) (fun y _=>J7 y) (by simp[maxLen];omega) (by simp;omega) (by simp) ((ah.refl _ w).alloc _) (au4 _);rw[avA]at ho;have HO:=hd0 ho;have HK:=hd0 hk;clear h hr ho hk hg Ci hb Xz;go_enter func68,ntmps68;go_wp2_with (at_builtin;refine aA bh rfl rfl rfl rfl ?_);go_ret;exact⟨v',rfl,HO.out,HK.out⟩
structure U9 (G:FuncId)(c:Value)(w:World)(l:List Sn)(q:Sn->Bool):Prop where
 call:∀(x:Value) (W:World),(callFunc G #[x,c]).run prog W=.ok (.enter G #[x,c]) W
 is:∀ x∈l,∀ W,af w W->Calls prog G #[Bm x,c] W fun e w'=>e=.returned (.bool (q x))/\af W w'
def xA (o:Option Nat):Int:=match o with
 |some i=>i
 |none=>-1
theorem Aj {G:FuncId}{c:Value}{q:Sn->Bool}(l:List Sn)(v:Value)(w:World)(hr:mC ue 5 w v l)(hl:l.length<=1000)(hC:U9 G c w l q):
  Calls prog 148 #[v,.func (.func G) #[] #[c]] w fun e w'=>e=.returned (.int .i64 (xA (l.findIdx? q)))/\af w w':=by
 obtain⟨a,cap,rfl,hx⟩:=hr;have HX:=hd0 hx;have HC:=hd0 hC.is;have cK:=hC.call;have FF:(l.length:Int)<=1000:=by omega
 clear hx hC;go_enter func148,ntmps148;go_wp2_with fail
 go_loopw [8] (fun i wr=>∃ k:Nat,k<=l.length/\i=.int .i64 (k:Int)/\Hid (af w wr)/\Hid (∀ j x,j<k->l[j]?=some x->q x=false)) (fun i _=>l.length-(intOf i).toNat)
 case atStart=>exact⟨0,by omega,rfl,hd0 (ah.refl _ _),hd0 fun j x h=>by omega⟩
 case round=>
  obtain⟨k,hk,rfl,HK,HN⟩:=hrel;by_cases aL:k<l.length
  ·have dU:(k:Int)<l.length:=by omega
   obtain⟨x,hx⟩:∃ x,l[k]?=some x:=⟨_,au1 aL⟩
   obtain⟨b,o,rfl,hc⟩:=HX.out k x hx;have c0:wr.cell? ⟨b,o+k*5,none⟩=some (.string ⟨x.name.toArray⟩):=by have h:=hc 0 _ rfl;rw[HK.out.cell (p:=⟨b,o+k*5,none⟩) (ai h) id];exact h
   have c1:wr.cell? ⟨b,o+k*5+1,none⟩=some (.int .i64 x.id):=by have h:=hc 1 _ rfl;rw[HK.out.cell (p:=⟨b,o+k*5+1,none⟩) (ai h) id];exact h
   have c2:wr.cell? ⟨b,o+k*5+2,none⟩=some (.int .i64 x.plane):=by have h:=hc 2 _ rfl;rw[HK.out.cell (p:=⟨b,o+k*5+2,none⟩) (ai h) id];exact h
   have c3:wr.cell? ⟨b,o+k*5+3,none⟩=some (.int .i64 x.table.root):=by have h:=hc 3 _ rfl;rw[HK.out.cell (p:=⟨b,o+k*5+3,none⟩) (ai h) id];exact h
   have c4:wr.cell? ⟨b,o+k*5+4,none⟩=some (.int .i64 x.table.size):=by have h:=hc 4 _ rfl;rw[HK.out.cell (p:=⟨b,o+k*5+4,none⟩) (ai h) id];exact h
   have T:=hd0 (HC.out x (au2 hx) wr HK.out);have Hx:=hd0 hx;clear hx hc
   cases hq:q x with
   |true=>
    rw[hq]at T;have hf:l.findIdx? q=some k:=by
     rw[List.findIdx?_eq_some_iff_getElem];have hxk:l[k]=x:=by have h:=Hx.out;rw[au1 aL]at h;injection h
     exact⟨aL,by rw[hxk];exact hq,fun j hj=>by rw[HN.out j _ hj (au1 (by omega))];simp⟩
    have Hf:=hd0 hf;clear hf hq;go_wp2_with fail;refine T.out.mono ?_;rintro e w2 ⟨rfl,k2⟩;have bw:=hd0 (HK.out.keep k2);clear k2;go_wp2;go_ret;exact⟨by rw[Hf.out];rfl,bw.out⟩
   |false=>
    rw[hq]at T;have HN2:Hid (∀ j x,j<k+1->l[j]?=some x->q x=false):=hd0 (fun j y hj hy=>by
     by_cases e:j=k
     ·subst e;have h:=Hx.out;rw[hy]at h;injection h with h;rw[h];exact hq
     ·exact HN.out j y (by omega) hy)
    clear hq;go_wp2_with fail;refine T.out.mono ?_;rintro e w2 ⟨rfl,k2⟩;have bw:=hd0 (HK.out.keep k2);clear k2;go_wp2_with fail;exact⟨⟨k+1,by omega,by go_num,bw,HN2⟩,by simp[intOf];omega⟩
  ·have dU:¬(k:Int)<l.length:=by omega
   have hf:l.findIdx? q=none:=by
    rw[List.findIdx?_eq_none_iff];intro x hx;obtain⟨j,hj,rfl⟩:=List.getElem_of_mem hx;exact HN.out j _ (by omega) (au1 hj)
   have Hf:=hd0 hf;clear hf;go_wp2;go_ret;exact⟨by rw[Hf.out];rfl,HK.out⟩
theorem Va {α:Type}(l:List α)(q:α->Bool):decide (0<=xA (l.findIdx? q))=l.any q:=by
 cases h:l.findIdx? q with
 |none=>
  rw[List.findIdx?_eq_none_iff]at h;have:l.any q=false:=by rw[List.any_eq_false];intro x hx;rw[h x hx];simp
  rw[this];rfl
 |some i=>
  rw[List.findIdx?_eq_some_iff_getElem]at h;obtain⟨hi,h1,_⟩:=h;have:l.any q=true:=by rw[List.any_eq_true];exact⟨_,avB hi,h1⟩
  rw[this];simp[xA]
theorem Ak {G:FuncId}{c:Value}{q:Sn->Bool}(l:List Sn)(v:Value)(w:World)(hr:mC ue 5 w v l)(hl:l.length<=1000)(hC:U9 G c w l q):
  Calls prog 131 #[v,.func (.func G) #[] #[c]] w fun e w'=>e=.returned (.bool (l.any q))/\af w w':=by
 have IX:=hd0 (Aj l v w hr hl hC);have hb:=Va l q;clear hr hl hC;generalize xA (l.findIdx? q)=z at*;generalize l.any q=r at*;subst hb;go_enter func131,ntmps131;go_wp2_with fail;refine IX.out.mono ?_;rintro e w2 ⟨rfl,k2⟩;go_wp2;go_ret;exact⟨rfl,k2⟩
theorem Ev {G:FuncId}(hG:G=208\/G=132)(w:World)(b p:Nat)(l:List Sn)(h:w.cell? ⟨b,0,none⟩=some (.int .i64 (p:Int))):U9 G (.pointer (some ⟨b,0,none⟩)) w l (fun x=>x.plane==(p:Int)) where
 call x W:=by rcases hG with rfl|rfl<;>kernel_rfl
 is x hx W k:=by
  have aL:=ai h;have c:W.cell? ⟨b,0,none⟩=some (.int .i64 (p:Int)):=(k.cell (p:=⟨b,0,none⟩) aL id).trans h;have ls:b<W.heap.size:=avb aL k.size;clear h aL k hx;rcases hG with rfl|rfl
  ·go_enter func208,ntmps208;go_wp2;go_ret;exact⟨rfl,(ah.refl _ _).alloc _⟩
  ·go_enter func132,ntmps132;go_wp2;go_ret;exact⟨rfl,(ah.refl _ _).alloc _⟩
theorem Vb (w:World)(b:Nat)(s:ay)(l:List Sn)(h:w.cell? ⟨b,0,none⟩=some (ax s)):U9 149 (.pointer (some ⟨b,0,none⟩)) w l (fun x=>x.name==s) where
 call x W:=by kernel_rfl
 is x hx W k:=by
  have aL:=ai h;have c:W.cell? ⟨b,0,none⟩=some (ax s):=(k.cell (p:=⟨b,0,none⟩) aL id).trans h;have ls:b<W.heap.size:=avb aL k.size;clear h aL k hx;go_enter func149,ntmps149;go_wp2;go_ret;exact⟨rfl,(ah.refl _ _).alloc _⟩
end
section
open Go.RowKit
attribute [local go_sem] auV
theorem Iv {l:List Sn}(h:l.length<7){p:Nat}(h1:1<=p)(h2:p<aW l):l.any (fun x=>x.plane==(p:Int))=true:=by
 obtain⟨k1,k2,_⟩:=d5 h;unfold aW at h2
 cases hf:(List.range' 1 8).find? fun(p:Nat)=>!l.any fun x=>x.plane==(p:Int)with
 |none=>rw[hf]at h2;simp at h2
 |some q=>
  rw[hf]at h2;rw[List.find?_eq_some_iff_getElem]at hf;obtain⟨_,i,hi,hq,nR⟩:=hf;simp only[List.length_range']at hi;simp only[List.getElem_range']at hq nR;simp only[avC]at h2;have:=nR (p-1) (by omega);rw[show 1+1*(p-1)=p by omega]at this;simpa using this
theorem Ew {l:List Sn}(h:l.length<7):l.any (fun x=>x.plane==(aW l:Int))=false:=by
 obtain⟨_,_,k⟩:=d5 h;rw[List.any_eq_false];intro x hx;simpa using k x hx
theorem Mu (l:List Sn)(v:Value)(w:World)(hr:mC ue 5 w v l)(hl:l.length<7):
  Calls prog 134 #[v] w fun e w'=>e=.returned (.int .i64 (aW l:Int))/\af w w':=by
 have hmf:∀(fn:Fn) (first cap:Array Value) (w:World),(Instr.makeFunc fn first cap).run prog w=.ok (.func fn first cap) w:=fun _ _ _ _=>rfl;have HR:=hd0 hr;have Hl:=hd0 hl;have hp:=d5 hl;have Cn:=hp.1;have pB:=hp.2.1;obtain⟨B,hB⟩:∃ B,w.heap.size=B:=⟨_,rfl⟩
 have iI:World.blk (w.alloc (.cells #[.int .i64 1] 3)) B #[.int .i64 1] 3:=by rw[<-hB];exact av _ _ _
 have HB:=hd0 hB;have nT:=hd0 iI;clear hr hl hp iI;go_enter func134,ntmps134;go_wp2_with fail;have dT:Hid (af w (w.alloc (.cells #[.int .i64 1] 3))):=hd0 ((ah.refl _ w).alloc _)
 try rw[hB]
 clear hB;generalize w.alloc (.cells #[.int .i64 1] 3)=w0 at*
 go_loopw [4] (fun _ wr=>∃ p:Nat,1<=p/\p<=aW l/\Hid (World.blk wr B #[.int .i64 (p:Int)] 3)/\Hid (af w wr)) (fun _ wr=>aW l+1-(match wr.cell? ⟨B,0,none⟩with|some v=>(intOf v).toNat|none=>0))
 case atStart=>exact⟨1,au4 _,Cn,nT,dT⟩
 case round=>
  obtain⟨p,h1,h2,HX,HK⟩:=hrel;have cp:wr.cell? ⟨B,0,none⟩=some (.int .i64 (p:Int)):=aa HX.out 0;have fp:=ae HX.out ⟨B,0,none⟩ rfl;have CF:=hd0 (Ak l v wr (fQ HR.out HK.out) (by have:=Hl.out;omega) (Ev (.inl rfl) wr B p l cp));by_cases hq:p=aW l
  ·have ha:=Ew Hl.out;rw[<-hq]at ha;rw[ha]at CF;have Hq:=hd0 hq;clear ha hq;go_wp2_with fail;refine CF.out.mono ?_;rintro e w2 ⟨rfl,k2⟩;have bw:=hd0 (HK.out.keep k2);have cp2:w2.cell? ⟨B,0,none⟩=some (.int .i64 (p:Int)):=aa (ab k2 HX.out id) 0;clear k2 cp fp;go_wp2;go_ret;exact⟨by rw[<-Hq.out];rfl,bw.out⟩
  ·have ha:=Iv Hl.out h1 (by omega);rw[ha]at CF;have Hq:Hid (p+1<=aW l):=hd0 (by omega);have hpi:(p:Int)<=6:=by omega
   clear ha hq;go_wp2_with fail;refine CF.out.mono ?_;rintro e w2 ⟨rfl,k2⟩;have vd:=ab k2 HX.out id;have cp2:w2.cell? ⟨B,0,none⟩=some (.int .i64 (p:Int)):=aa vd 0;have fp2:=ae vd ⟨B,0,none⟩ rfl;have qq:=hd0 (ag vd 0 (.int .i64 ((p:Int)+1)));have dR:Hid (af w (w2.setCell ⟨B,0,none⟩ (.int .i64 ((p:Int)+1)))):=hd0 ((HK.out.keep k2).setCell (p:=⟨B,0,none⟩) (.inr (by have:=HB.out;exact Nat.le_of_eq this)) _);have cp0:=cp;clear k2 fp vd cp;go_wp2_with fail;have e1:((p:Int)+1)=((p+1:Nat):Int):=by omega
   rw[e1]at qq dR ⊢;refine⟨⟨p+1,by omega,Hq.out,qq,dR⟩,?_⟩;have c3:(w2.setCell ⟨B,0,none⟩ (.int .i64 ((p+1:Nat):Int))).cell? ⟨B,0,none⟩=some (.int .i64 ((p+1:Nat):Int)):=aa qq.out 0;have:=Hq.out;simp only[c3,cp0,intOf,avD];exact Nat.sub_lt_sub_left (by have h1:=Hq.out;exact Nat.lt_succ_of_lt h1) (Nat.lt_succ_self p)
theorem Ex (n:Nat)(w:World)(hn:n<=100000):
  Calls prog 217 #[.int .i64 (n:Int)] w fun e w'=>∃ v,e=.returned v/\aN w' w.heap.size v (gm (List.range n))/\af w w':=by
 have hni:(n:Int)<=100000:=by omega
 go_enter func217,ntmps217;go_wp2_with fail
 go_loopw [3,6] (fun v i wr=>∃ k:Nat,k<=n/\i=.int .i64 (k:Int)/\Hid (aN wr w.heap.size v (gm (List.range k)))/\Hid (af w wr)) (fun _ i _=>n-(intOf i).toNat)
 case atStart=>exact⟨0,by omega,rfl,hd0 ⟨rfl,.inl ⟨rfl,rfl⟩⟩,hd0 (ah.refl _ _)⟩
 case round=>
  obtain⟨k,hk,rfl,HO,HK⟩:=hrel;by_cases aL:k<n
  ·have dU:(k:Int)<(n:Int):=by omega
   have Ha:=kJ (P:=prog) underlying46 iS rfl w.heap.size u3 _ _ wr w HO.out [.int .i64 (k:Int)] (by simp[Value.oneCell']) (by unfold maxLen;simp[gm];omega) (by simp[gm];omega) HK.out.size HK.out (au4 _);obtain⟨v',w3',bh,bu,dg,_⟩:=Ha;have HR:=hd0 bh;have Nx:Hid (aN w3' w.heap.size v' (gm (List.range (k+1)))):=hd0 (by
    have:=kn bu;rw[List.range_succ];simpa[gm]using this)
   have dR:=hd0 dg;clear bh bu dg;go_wp2_with (at_builtin;refine aA HR.out rfl rfl rfl rfl ?_);exact⟨⟨k+1,by omega,by go_num,Nx,dR⟩,by simp[intOf];omega⟩
  ·obtain rfl:k=n:=by omega
   go_wp2;go_ret;exact⟨_,rfl,HO.out,HK.out⟩
end
end Go.Proofs.YtkghpdcloaiflaaGreatDoor
