import Derived.Test.YtkghpdcloaiflaaGreatDoorH41
import Derived.ProofKit
import Derived.SizedLaws
import Derived.SliceStrings
set_option maxHeartbeats 8000000
set_option maxRecDepth 100000
namespace Go.Proofs.YtkghpdcloaiflaaGreatDoor
open _root_.Go.Proofs.Tryz
variable {k m p q:Nat}{l:List Nat}{lv:Value}{s:List UInt8}{w:World}
section
open Go.RowKit
attribute [local go_sem] av0
theorem gc.cells {a:eX}{h:Hd}(x:gc w p a q h l lv):
  ∃ la cap,lv=.slice la l.length cap/\w.cell? ⟨q,0,none⟩=some (au p)/\w.cell? ⟨q,1,none⟩=some (.int .i64 h.id)/\w.cell? ⟨q,3,none⟩=some (az h.name)/\w.cell? ⟨q,8,none⟩=some (.slice la l.length cap)/\
   ∀ i n,l[i]?=some n->∃ b o,la=some ⟨b,o,none⟩/\w.cell? ⟨b,o+i,none⟩=some (.int .i64 ((n:Nat):Int)):=by
 obtain⟨base,ha⟩:=x.at_;obtain⟨la,cap,rfl,hx⟩:=bh ha.row;have yl:(bu (gh l)).length=l.length:=by simp[bu,gh]
 rw[yl]at ha;exact⟨la,cap,by rw[yl],aa ha.own 0,aa ha.own 1,aa ha.own 3,aa ha.own 8,λi n hn=>hx i _ (by simp[bu,gh,hn])⟩
theorem Jb {v:Vs}{a:eX}{h:Hd}(hv:lc w p v a)(hl:v.b.list.length<=1000)(x:gc w p a q h l lv)(hid:((bB v.b.list h.name).getD fg).id=h.id)
  (i n:Nat) (hi:l[i]?=some n) (yl:l.length<=5000) (h1:1<=n) (h2:n<v.blocks) (hb:v.blocks<=4096) (s:ay) (hs:v.rd n=.ok s) (CG:s.length<=240):
  Calls prog 21 #[au q,.int .i64 (i:Int)] w λe w'=>e=.returned (.tuple #[az (ey (n:Int) s),.int .i64 0])/\∃ a',em w p v a v a' w'/\a'.text=a.text/\gc w' p a' q h l lv:=by
 have XD:=(awk.1 hi).1;have hfd:∀(x0 x1 x2 x3 x4:Value) (W:World),(Instr.field 85 (.agg #[x0,x1,x2,x3,x4]) 1).run prog W=.ok x1 W:=λ_ _ _ _ _ _=>kr7
 obtain⟨la,cap,elv,c0,c1,c3,c8,cq⟩:=x.cells;obtain⟨lb,lo,rfl,ci⟩:=cq i n hi;obtain⟨HV,HX,HL,HI,HN,HID⟩:=K6 hv x hl hi (And.intro h1 (And.intro h2 (And.intro hb (And.intro hs CG)))) hid;have aqg:(i:Int)<(l.length:Int):=J
 have akH:(l.length:Int)<=5000:=J
 clear hv hl x hi h1 h2 hb hs CG cq XD yl;go_enter func21,ntmps21
 go_upto_region 3 with fail
 go_cut [20]from 8 to 66 (λy wx=>y=.bool false/\af w wx)
 case first=>
  have e0:∀ X,(w.ext X).cell? ⟨q,0,none⟩=some (au p):=λX=>((aC w X).cell (p:=⟨q,0,none⟩) (am c0) id).trans c0;have e1:∀ X,(w.ext X).cell? ⟨q,1,none⟩=some (.int .i64 h.id):=λX=>((aC w X).cell (p:=⟨q,1,none⟩) (am c1) id).trans c1;have e3:∀ X,(w.ext X).cell? ⟨q,3,none⟩=some (az h.name):=λX=>((aC w X).cell (p:=⟨q,3,none⟩) (am c3) id).trans c3;refine cl kr7 kr7 ?_
  repeat (quiet_step (with_reducible exact ar (qW (HV.o.keep (aC _ _)) HL.o h.name)))
  refine awX ?_;intro _ bD;obtain⟨xq,rfl⟩:=bD;go_wp2_with fail;go_meet
  case rel=>exact⟨rfl,aC _ _⟩
 case rest=>
  obtain⟨rfl,hk⟩:=hcut;have nH:=Z hk;have c0':wc.cell? ⟨q,0,none⟩=some (au p):=(hk.cell (p:=⟨q,0,none⟩) (am c0) id).trans c0;have c8':wc.cell? ⟨q,8,none⟩=some (.slice (some ⟨lb,lo,none⟩) l.length cap):=(hk.cell (p:=⟨q,8,none⟩) (am c8) id).trans c8;have ci':wc.cell? ⟨lb,lo+i,none⟩=some (.int .i64 (n:Int)):=(hk.cell (p:=⟨lb,lo+i,none⟩) (am ci) id).trans ci;clear hk c0 c1 c3 c8 ci
  go_upto_region 5 with fail
  go_cut [6,7]from 8 to 66 (λy z wx=>y=az s/\z=.int .i64 0/\∃ a',em w p v a v a' wx/\a'.text=a.text)
  case first=>
   have RD:Hid (∀ W,af w W->Calls prog 22 #[au p,.int .i64 (n:Int)] W λe w'=>e=.returned (.tuple #[az s,.int .i64 0])/\∃ a',em W p v a v a' w'/\a'.text=a.text):=Z (λW k=>I2 (HV.keep k) n HN.1 HN.2.1 s HN.2.2.2.1)
   go_region_with (go_at_call 22;refine awi (RD.o _ (nH.drew)) ?_;rintro e w2 ⟨rfl,a2,jm,Ky⟩;have yW:=Z (And.intro (em.ahead (nH.drew) jm) Ky);clear jm Ky)
   all_goals (go_wp2_with fail;go_meet)
   all_goals (case rel=>exact⟨rfl,rfl,a2,yW.o⟩)
  case rest=>
   obtain⟨rfl,rfl,a2,jm,Ky⟩:=hcut;have yW:=Z (And.intro jm Ky);have vg:=HX.to (_v:=v) (_u:=v) jm.mod jm.foot;have lg:=Z vg;obtain⟨la2,XA,aeg,d0,d1,d3,d8,YD⟩:=vg.cells;rw[elv]at aeg;injection aeg with e1 _ e3;subst e1 e3;obtain⟨b2,o2,e4,di⟩:=YD i n HI.o;injection e4 with e4;injection e4 with e5 e6;subst e5 e6;have DR:=xS (n:Int) s wc (by have:=HN.2.2.2.2;omega);rw[show I3 (n:Int) s=.tuple #[az (ey (n:Int) s),.int .i64 0]from awd ⟨by have:=HN.1;omega,by have:=HN.2.1;have:=HN.2.2.1;omega,HN.2.2.2.2⟩]at DR;have DR:=Z DR;clear jm Ky vg YD c0' c8' ci' d0 d1 d3;go_wp2_with fail;refine DR.mono ?_;rintro e w4 ⟨rfl,k4⟩;have pO:=Z k4;clear k4 DR;go_wp2;go_ret2;exact⟨rfl,a2,yW.1.keep pO.o,yW.2,lg.keep pO.o⟩
end
section
open Go.RowKit
theorem Wn (key:List UInt8)(w:World)(hk:key.length=16):
  Calls prog 58 #[.string ⟨key.toArray⟩] w λe w'=>e=.returned (.tuple #[.pointer (some ⟨w.heap.size,0,none⟩),.int .i64 0])/\World.blk w' w.heap.size (eH (nJ key) [] 0) 186/\af w w':=
 (JP key w hk).mono λ_ _ ⟨he,n,hw⟩=>by
  subst hw;exact⟨he,cf (av _ _ _) _,((ai.refl _ _).alloc _).drewN _⟩
theorem Np (b:Nat)(v:St)(rest s:List UInt8)(size:Nat)(w:World)(hB:World.blk w b (eH v rest size) 186)(hr:rest.length<8)(hs:size+s.length+8<=9223372036854775807):
  Calls prog 59 #[.pointer (some ⟨b,0,none⟩),.string ⟨s.toArray⟩] w λe w'=>e=.returned (.tuple #[])/\
   World.blk w' b (eH (dI v (rest++s)).1 (dI v (rest++s)).2 (size+s.length)) 186/\ai (·=b) w w':=by
 have h:=zq b v rest s size w 0 (ak hB) hr hs;rw[Lb hB,World.drewN_zero]at h;refine h.mono λ_ _ ⟨he,n,hw⟩=>?_;subst hw;exact⟨he,cf (vr (ak hB)) _,((ai.refl (·=b) w).putB (Or.inl rfl) _ _).drewN _⟩
def rc (key l:List UInt8):Array Value:=eH (dI (nJ key) l).1 (dI (nJ key) l).2 l.length
theorem Fm (s:List UInt8):∀(v:St) (t:List UInt8),dI v (s++t)=dI (dI v s).1 ((dI v s).2++t):=by
 generalize hn:s.length=n
 induction n using Nat.strongRecOn generalizing s with
 |_ n ih=>
  intro v t;by_cases h:8<=s.length
  ·have h2:8<=(s++t).length:=by simp;omega
   rw[lp v (s++t) h2,lp v s h,List.take_append_of_le_length h,List.drop_append_of_le_length h];exact ih (s.drop 8).length (by simp;omega) _ rfl _ _
  ·rw[qy v s h]
theorem RU (key:List UInt8)(w:World)(hk:key.length=16):
  Calls prog 58 #[.string ⟨key.toArray⟩] w λe w'=>e=.returned (.tuple #[.pointer (some ⟨w.heap.size,0,none⟩),.int .i64 0])/\World.blk w' w.heap.size (rc key []) 186/\af w w':=
 Wn key w hk
theorem Jc (b:Nat)(key l s:List UInt8)(w:World)(hB:World.blk w b (rc key l) 186)(hs:l.length+s.length+8<=9223372036854775807):
  Calls prog 59 #[.pointer (some ⟨b,0,none⟩),.string ⟨s.toArray⟩] w λe w'=>e=.returned (.tuple #[])/\World.blk w' b (rc key (l++s)) 186/\ai (·=b) w w':=by
 refine(Np b _ _ s l.length w hB (og _ _) hs).mono λ_ _ ⟨he,h,hm⟩=>⟨he,?_,hm⟩
 rw[rc,Fm,awn];exact h
theorem RV (b:Nat)(key l:List UInt8)(w:World)(hB:World.blk w b (rc key l) 186)(hs:l.length<=9223372036854775807):
  Calls prog 60 #[.pointer (some ⟨b,0,none⟩)] w λe w'=>e=.returned (.string ⟨(Oz key l).toArray⟩)/\af w w':=
 JO b _ _ _ w hB (og _ _) hs
end
section
open Go.RowKit
attribute [local go_sem] av0
def je:ay:=[115,116,105,108,108,97,103,101,32,115,116,114,101,97,109,33]
def gD (f:Nat->ay)(l:List Nat):ay:=l.flatMap λ(n:Nat)=>ey (n:Int) (f n)
theorem xX (f:Nat->ay)(l:List Nat)(h:∀ n∈l,n<=4096/\(f n).length<=240):(gD f l).length<=300*l.length:=by
 unfold gD
 induction l with
 |nil=>simp
 |cons y r ih=>
  have h1:=h y sp7;have h2:=ih λz hz=>h z (by simp[hz]);have h3:(ey (y:Int) (f y)).length<=300:=by
   unfold ey;have e1:=aK (n:=(y:Int).toNat) J;have e2:=aK (n:=(f y).length) J;simp only[awn];omega
  simp only[awL,awn,av5];omega
structure pa (w w1:World)(p:Nat)(v:Vs)(a a':eX)(q:Nat)(h:Hd)(l:List Nat)(lv:Value)(hb:Nat)(done:ay)(wr:World):Prop where
 at_:lc wr p v a'
 role:a'.role=a.role
 text:a'.text=a.text
 foot:∀ g,a'.foot p g->a.foot p g\/w1.heap.size<=g
 mod:ai (a.foot p) w wr
 still:fy (λb=>a.role b≠.none) w wr
 plan:gc wr p a' q h l lv
 hash:World.blk wr hb (rc je done) 186
section
variable {w w1 wr w2:World}{p:Nat}{v:Vs}{a a' a2:eX}{q:Nat}{h:Hd}{l:List Nat}{lv:Value}{hb:Nat}{done:ay}
theorem pa.read (s:pa w w1 p v a a' q h l lv hb done wr)(h1:hb<w1.heap.size)(h2:w1.heap.size<=wr.heap.size)(h3:¬ a.foot p hb)(hw:w.heap.size<=w1.heap.size)(k:em wr p v a' v a2 w2)(ht:a2.text=a'.text)(pl:gc w2 p a2 q h l lv):pa w w1 p v a a2 q h l lv hb done w2:=
 ⟨k.at_,k.role.trans s.role,ht.trans s.text,λg hg=>(k.foot g hg).elim (s.foot g) (λh=>.inr (av2 h2 h)),s.mod.trans k.mod (λg hl hs=>(s.foot g hs).elim id (λh=>J)),
  λb Uo hl=>(k.still b (by rw[s.role];exact Uo) (awg hl s.mod.size)).trans (s.still b Uo hl),pl,ab k.mod s.hash (λhf=>(s.foot hb hf).elim h3 (λh=>J))⟩
theorem pa.wrote (s:pa w w1 p v a a' q h l lv hb done wr)(h1:hb<w1.heap.size)(h3:¬ a.foot p hb)(h4:w.heap.size<=hb)(hq:q<w.heap.size)(hl:∀ g,lv.ownBlock=some g->g<w.heap.size)(m:ai (·=hb) wr w2){Y0:ay}(hh:World.blk w2 hb (rc je Y0) 186):pa w w1 p v a a' q h l lv hb Y0 w2:=by
 have hn:¬ a'.foot p hb:=λhf=>(s.foot hb hf).elim h3 (λh=>J);refine⟨s.at_.same (m.on λg hg e=>hn (by rw[<-e];exact hg)) m.size,s.role,s.text,s.foot,s.mod.trans m (λg hl e=>J),λb Uo UB=>(m.block b (awg UB s.mod.size) J).trans (s.still b Uo UB),?_,hh⟩;obtain⟨base,ha⟩:=s.plan.at_;exact⟨⟨base,ab m ha.own J,aA ha.row (λg hg=>m.block g (aX ha.row hg) (by have:=hl g hg;omega)),ha.new⟩,s.plan.qf,s.plan.lf⟩
theorem pa.keep (s:pa w w1 p v a a' q h l lv hb done wr)(k:af wr w2):pa w w1 p v a a' q h l lv hb done w2:=
 ⟨s.at_.keep k,s.role,s.text,s.foot,s.mod.trans (k.mono (T:=a.foot p) (λ_ _ h=>h.elim)) (λ_ _ h=>h),λb Uo UB=>(k.block b (awg UB s.mod.size) id).trans (s.still b Uo UB),s.plan.keep k,ab k s.hash id⟩
end
theorem RW {v:Vs}{a:eX}{h:Hd}(hv:lc w p v a)(hl:v.b.list.length<=1000)(x:gc w p a q h l lv)(hid:l≠[]->((bB v.b.list h.name).getD fg).id=h.id)
  (yl:l.length<=5000) (hb:v.blocks<=4096) (f:Nat->ay) (hf:∀ n∈l,1<=n/\n<v.blocks/\v.rd n=.ok (f n)/\(f n).length<=240):
  Calls prog 23 #[au q] w λe w'=>e=.returned (.tuple #[az (Oz je (gD f l)),.int .i64 0])/\∃ a',em w p v a v a' w'/\a'.text=a.text/\gc w' p a' q h l lv:=by
 have NH:=Z (RU je w rfl);obtain⟨base,ha⟩:=x.at_;have hqw:=ak ha.own;have hlw:∀ g,lv.ownBlock=some g->g<w.heap.size:=λg hg=>aX ha.row hg;obtain⟨ic,Cq⟩:∃ ic,w.heap.size=ic:=⟨_,rfl⟩
 have Hhb:=Z Cq;have FJ:¬ a.foot p ic:=λhf=>by have:=hv.lt hf;omega
 obtain⟨HQ,HV,HX,HL,HID,HF⟩:=K6 (And.intro hqw (And.intro hlw FJ)) hv x (And.intro hl (And.intro yl hb)) hid hf;have akH:(l.length:Int)<=5000:=J
 clear hv hl x hid hb hf ha hqw hlw FJ;go_enter func23,ntmps23;go_wp2_with fail;refine NH.mono ?_;rintro e w1 ⟨rfl,hh,k1⟩;rw[Cq]at hh ⊢;have HS:Hid (pa w w1 p v a a q h l lv ic (gD f (l.take 0)) w1):=Z ⟨HV.keep k1,rfl,rfl,λg hg=>.inl hg,k1.mono (λ_ _ h=>h.elim),λb Uo UB=>k1.block b UB id,HX.keep k1,(by rw[show gD f (l.take 0)=[]from rfl];exact hh)⟩;have H1:Hid (ic<w1.heap.size/\w.heap.size<=w1.heap.size):=Z ⟨ak hh,k1.size⟩;obtain⟨la,cap,elv,_,_,_,c8,_⟩:=(HX.keep k1).cells;clear k1 hh NH Cq;go_wp2_with fail
 go_loopw [18] (λy wr=>∃ k:Nat,k<=l.length/\y=.int .i64 (k:Int)/\Hid (∃ a',pa w w1 p v a a' q h l lv ic (gD f (l.take k)) wr/\w1.heap.size<=wr.heap.size)) (λy _=>l.length-(intOf y).toNat)
 case atStart=>exact⟨0,J,rfl,Z ⟨a,HS.o,av9 _⟩⟩
 case round=>
  clear HS c8;obtain⟨k,hk,rfl,HR⟩:=hrel;obtain⟨a1,hs,cJ⟩:=HR.o;have HS:=Z (And.intro hs cJ);clear hs cJ HR;by_cases aP:k<l.length
  ·have dL:(k:Int)<(l.length:Int):=J
   obtain⟨n,hn⟩:∃ n,l[k]?=some n:=⟨_,av6 aP⟩
   obtain⟨g1,g2,g3,g4⟩:=HF.o n (av7 hn);have PR:=Z (Jb HS.1.at_ HL.1 HS.1.plan (HID.o (λe=>by rw[e]at hn;cases hn)) k n hn HL.2.1 g1 g2 HL.2.2 (f n) g3 g4);have Y2:gD f (l.take (k+1))=gD f (l.take k)++ey (n:Int) (f n):=by unfold gD;rw[av8,hn];simp
   have bt:(ey (n:Int) (f n)).length<=300:=by
    unfold ey;have h1:=aK (n:=(n:Int).toNat) (by have:=HL.2.2;omega);have h2:=aK (n:=(f n).length) J;simp only[awn];omega
   have HT:=Z (And.intro Y2 bt);clear hn g1 g2 g3 g4 Y2 bt;go_wp2_with fail;refine PR.mono ?_;rintro e w2 ⟨rfl,a2,jm,Ky,nR⟩;have j5:=HS.1.read H1.1 HS.2 HQ.2.2 H1.2 jm Ky nR;have B3:=Z (And.intro j5 (av2 HS.2 jm.mod.size));have WH:=Z (Jc ic je (gD f (l.take k)) (ey (n:Int) (f n)) w2 j5.hash (by
    have h1:=xX f (l.take k) (λy hy=>by
     obtain⟨g1,g2,g3,g4⟩:=HF.o y (awb hy);exact⟨by have:=HL.2.2;omega,g4⟩)
    rw[awc]at h1;have h4:min k l.length<=l.length:=Nat.min_le_right _ _;have h2:=HT.2;have h3:=HL.2.1;omega))
   clear j5 jm Ky nR PR;go_wp2_with fail;refine WH.mono ?_;rintro e w3 ⟨rfl,hh3,m3⟩;rw[<-HT.1]at hh3;have WM:=Z (And.intro (B3.1.wrote H1.1 HQ.2.2 (Nat.le_of_eq Hhb.o) HQ.1 HQ.2.1 m3 hh3) (av2 B3.2 m3.size));clear hh3 m3 WH;go_wp2_with fail;exact⟨⟨k+1,J,by go_num,Z ⟨a2,WM.o⟩⟩,by simp[intOf];omega⟩
  ·obtain nG:k=l.length:=J
   have hs:=HS.1;rw[nG,awa]at hs;have SH:=Z (RV ic je (gD f l) wr hs.hash (by
    have h1:=xX f l (λy hy=>by
     obtain⟨g1,g2,g3,g4⟩:=HF.o y hy;exact⟨by have:=HL.2.2;omega,g4⟩)
    have h3:=HL.2.1;omega))
   have JL:=Z hs;clear hs hk;go_wp2_with fail;refine SH.mono ?_;rintro e w4 ⟨rfl,k4⟩;have HE:=Z (JL.keep k4);clear k4 SH;go_wp2;go_ret2;exact⟨rfl,a1,⟨HE.at_,HE.role,λg hg=>(HE.foot g hg).imp id (λh=>av2 H1.2 h),HE.mod,HE.still,λe=>HE.text.trans e⟩,HE.text,HE.plan⟩
end
theorem Kr (c:UInt8)(l:List UInt8):l.length+1=((jN c l).map λx=>x.length+1).sum:=by
 induction l with
 |nil=>simp[jN]
 |cons b r ih=>
  by_cases h:b=c
  ·subst h;rw[jN,awd rfl];simp only[av3,av4,axe,av5];omega
  ·rw[vJ c b r h]
   cases hs:jN c r with
   |nil=>exact absurd hs (vI c r)
   |cons x y=>
    rw[hs]at ih;simp only[av3,av4,av5]at ih ⊢;omega
theorem Wo (l:List (List UInt8))(h:∀ x∈l,x.length<=16):(l.map λx=>x.length+1).sum<=17*l.length:=by
 induction l with
 |nil=>simp
 |cons x r ih=>
  have h1:=h x sp7;have h2:=ih λy hy=>h y (by simp[hy]);simp only[av3,av4,av5];omega
theorem iz (h:aJ s=true):s.length<=16:=by
 unfold aJ at h;simp only[awo,awt]at h;exact h.1.1.2
theorem Fo (h:(bA s).isSome=true):s.length<=137:=by
 obtain⟨l,hl⟩:=Option.isSome_iff_exists.1 h;obtain⟨r,rfl,hr⟩:=iV hl;rcases hr with⟨rfl,_⟩|⟨_,kX,h8,hn⟩
 ·simp
 ·have h1:=Kr 47 r;rw[<-kX]at h1;have h2:=Wo l (λx hx=>iz (awp.1 hn x hx));simp only[av5];omega
theorem tE:∀(k u:Nat),u<10 ^ k->1<=k->Lib.nDigits u<=k
 |0,_,_,h=>J
 |k+1,u,h,_=>by
  by_cases h1:u<10
  ·rw[Lib.nDigits_small h1];omega
  ·rw[Lib.nDigits_big h1];rw[awy]at h;by_cases hk:1<=k
   ·have:=tE k (u/10) J hk;omega
   ·obtain rfl:k=0:=J
    simp at h;omega
theorem dy {c:cm}{f:Nat}(h:c.fieldOk f=true):(c.fieldText f).length<=1024/\(f≠4->(c.fieldText f).length<=137):=by
 unfold cm.fieldOk at h;unfold cm.fieldText;split at h
 ·have:=Fo h;exact⟨by show c.path.length<=_;omega,λ_=>this⟩
 ·have:=Fo h;exact⟨by show c.dest.length<=_;omega,λ_=>this⟩
 ·simp only[awo,awt]at h;have:(Lib.itoa c.pos).length<=10:=by
   obtain⟨u,hu⟩:∃ u:Nat,c.pos=u:=⟨c.pos.toNat,J⟩
   rw[hu,Lib.itoa_nonneg,Lib.decDigits_length];exact tE 10 u J J
  exact⟨by show(Lib.itoa c.pos).length<=_;omega,λ_=>by show(Lib.itoa c.pos).length<=_;omega⟩
 ·have hd:c.data.length<=512:=by simpa using h
  refine⟨?_,λhh=>absurd rfl hh⟩;show(rL c.data).length<=_;unfold rL;split
  ·simp
  ·rw[sT];omega
 ·rename_i h2 h3 h4 h5
  have:=iz h;split
  ·exact absurd rfl h3
  ·exact absurd rfl h4
  ·exact absurd rfl h5
  ·exact⟨by omega,λ_=>J⟩
theorem Wp {c:cm}(h:c.fieldOk 3=true):(c.fieldText 3).length<=10:=by
 have h':(decide (0<=c.pos)&&decide (c.pos<=16384))=true:=h;simp only[awo,awt]at h';show(Lib.itoa c.pos).length<=10;obtain⟨u,hu⟩:∃ u:Nat,c.pos=u:=⟨c.pos.toNat,J⟩
 rw[hu,Lib.itoa_nonneg,Lib.decDigits_length];exact tE 10 u J J
theorem xY {c:cm}(h:c.ok=true):c.line.length<=1300:=by
 have hw:=GL h;have h1:=Kr 32 c.line;rw[hw]at h1;obtain⟨hk,hf⟩:=oC h;have hk9:c.k<9:=hk;have ff:∀ f∈fieldsOf c.k,c.fieldOk f=true:=by
  intro f hf';unfold cm.ok at h;simp only[awo]at h;exact awp.1 h.2.1 f hf'
 rcases(by omega:c.k=0\/c.k=1\/c.k=2\/c.k=3\/c.k=4\/c.k=5\/c.k=6\/c.k=7\/c.k=8)with e|e|e|e|e|e|e|e|e<;>rw[e]at h1 ff<;>simp only[fieldsOf,cP,av3,List.map_nil,av4,List.sum_nil,av5,axe]at h1
 ·have:=(dy (ff 1 (by simp[fieldsOf]))).2 dc7;omega
 ·have:=(dy (ff 1 (by simp[fieldsOf]))).2 dc7;omega
 ·have a1:=(dy (ff 1 (by simp[fieldsOf]))).2 dc7;have a2:=Wp (ff 3 (by simp[fieldsOf]));have a3:=(dy (ff 4 (by simp[fieldsOf]))).1;omega
 ·have a1:=(dy (ff 1 (by simp[fieldsOf]))).2 dc7;have a2:=(dy (ff 3 (by simp[fieldsOf]))).2 dc7;omega
 ·have a1:=(dy (ff 1 (by simp[fieldsOf]))).2 dc7;have a2:=(dy (ff 2 (by simp[fieldsOf]))).2 dc7;omega
 ·have a1:=(dy (ff 1 (by simp[fieldsOf]))).2 dc7;have a2:=(dy (ff 2 (by simp[fieldsOf]))).2 dc7;omega
 ·have:=(dy (ff 1 (by simp[fieldsOf]))).2 dc7;omega
 ·have:=(dy (ff 5 (by simp[fieldsOf]))).2 dc7;omega
 ·have:=(dy (ff 5 (by simp[fieldsOf]))).2 dc7;omega
theorem Ax {c:cm}(h:c.ok=true)(h7:c.kind=7):aJ c.path=true/\c.path.length<=16/\c.path≠[]:=by
 have hk:c.k=7:=by unfold cm.k;rw[h7];decide
 unfold cm.ok at h;simp only[awo]at h;have h5:=awp.1 h.2.1 5 (by rw[hk];simp[fieldsOf]);have hn:aJ c.path=true:=h5;refine⟨hn,iz hn,?_⟩;intro e;rw[e]at hn
 cases hn
theorem RX {l:Nm}(hl:l.length<=60)(hn:∀ p∈l,aJ p.1=true)(hp:∀ p∈l,0<=p.2/\p.2<=65535):(lQ l).length<=16384:=by
 have abt:∀ n:Nat,n<=65535->(aD n).length<=3:=by
  intro n hn;rw[aD];split
  ·simp
  ·rw[aD];split
   ·simp
   ·rw[aD,dif_pos J];simp
 have key:∀ m:Nm,(∀ p∈m,aJ p.1=true/\0<=p.2/\p.2<=65535)->(m.flatMap ly).length<=30*m.length:=by
  intro m
  induction m with
  |nil=>intro _;simp
  |cons p r ih=>
   intro hm;obtain⟨a1,a2,a3⟩:=hm p sp7;have h2:=ih λq hq=>hm q (by simp[hq]);have h3:=iz a1;have h4:=abt p.1.length J;have h5:=abt p.2.toNat J;have h6:(ly p).length<=30:=by unfold ly;simp only[awn];omega
   simp only[awL,awn,av5];omega
 unfold lQ;have h1:=abt l.length J;have h2:=key l λp CK=>⟨hn p CK,hp p CK⟩
 rw[awn];omega
theorem aac (h:∀ x∈l,x<=k):l.sum<=k*l.length:=by
 induction l with
 |nil=>simp
 |cons x r ih=>
  have h1:=h x sp7;have h2:=ih λy hy=>h y (by simp[hy]);simp only[av4,av5,Nat.mul_succ];omega
theorem Wq {T:Tr}(h1:T.length<=60)(h2:∀ n∈T,n.names.length<=60)(j:Int):lZ T j<=3600:=by
 unfold lZ;have h3:=aac (l:=T.map λn=>gH n.names j) (k:=60) (λx hx=>by
  obtain⟨n,hn,rfl⟩:=awB.1 hx;exact av2 List.countP_le_length (h2 n hn))
 rw[awz]at h3;omega
theorem Ay {T:Tr}{d:Int->Nat}(h:WF T d):iw (aw T):=by
 have iD:∀(was:Int) (S:Tr),S.Pairwise (λa b=>a.num<b.num)->(∀ n∈S,was<n.num/\n.num<=65535)->lD was (aw S)=true:=by
  intro was S
  induction S generalizing was with
  |nil=>intro _ _;rfl
  |cons x r ih=>
   intro hp hm;rw[aw9]at hp;have h1:=hm x sp7;have h2:=ih x.num hp.2 (λn hn=>⟨hp.1 n hn,(hm n (by simp[hn])).2⟩);show(decide (was<x.num)&&decide (x.num<=65535)&&lD x.num (aw r))=true;rw[decide_eq_true h1.1,decide_eq_true h1.2,h2];rfl
 refine⟨⟨by unfold aw;rw[awz];exact h.many,iD 0 T h.sorted (λn hn=>by have:=h.nums n hn;omega),?_,?_⟩,T,d,h,rfl⟩
 ·intro x hx;obtain⟨n,hn,rfl⟩:=awB.1 hx;show 1<=n.links/\n.links<=3600;by_cases h1:n.num=1
  ·obtain⟨r,hr,Gf,_,yF⟩:=h.root;have e:n=r:=by
    have g1:=(aG h.sorted).2 ⟨hn,h1⟩;have g2:=(aG h.sorted).2 ⟨hr,Gf⟩;rw[g1]at g2;injection g2
   rw[e,yF];decide
  ·obtain⟨h2,h3,_⟩:=h.count n hn h1;have h4:=Wq h.many (λm hm=>(h.names m hm).1) n.num;have h2':(lZ T n.num:Int)+0=n.links:=h2;omega
 ·intro x hx;obtain⟨n,hn,rfl⟩:=awB.1 hx;show(if n.dir=true then lQ n.names else n.data).length<=16384;split
  ·refine RX (h.names n hn).1 (h.names n hn).2 (λp hp=>?_);obtain⟨_,m,hm,e⟩:=h.closed n hn p hp;have:=h.nums m hm;omega
  ·rename_i hd
   exact(h.file n hn (by simpa using hd)).2
structure adr (v:Vs)(c:cm)(r:Int)(u:Vs):Prop where
 run:BG v c=.ok (r,u)
 good:mu u
 blocks:u.blocks=v.blocks
 half:u.half=v.half
 num:v.num<=u.num/\u.num<=v.num+3
 id:u.b.id<=v.b.id+1
 T:u.T=v.T\/u.T=(qG v.T c).1
theorem aad {v:Vs}(h:mu v)(c:cm)(YT:c.ok=true->c.line.length+2<=v.half)(hn:iw (aw (qG v.T c).1)):∃ r u,adr v c r u:=by
 cases hX:kS v c with
 |error x=>
  exact⟨x,v,(E6 hX).2,h,rfl,rfl,J,J,.inl rfl⟩
 |ok T=>
  obtain⟨bZ,hm,hT⟩:=Ko hX;have hTM:iw (aw T):=by
   rcases hT with rfl|rfl
   ·exact h.told
   ·exact hn
  obtain⟨v1,e1,oc,FS,Gf⟩:∃ v1,(if(c.kind=7\/c.kind=8)\/c.line.length+2<=cG v then(.ok v:Except Int Vs)else bF v v.b.list [])=.ok v1/\iJ v v1/\v1.num<=v.num+1/\((c.kind=7\/c.kind=8)\/c.line.length+2<=cG v1):=by
   by_cases hr:(c.kind=7\/c.kind=8)\/c.line.length+2<=cG v
   ·exact⟨v,by rw[awd hr],iJ.refl h,J,hr⟩
   ·obtain⟨u,hu,hs,_,ak5,iD⟩:=gZ h;refine⟨u,by rw[awf hr,hu],hs,J,.inr ?_⟩;unfold cG;rw[ak5,hs.half];have:=YT bZ;simp[kY];omega
  obtain⟨b,v2,e2,j5,hb1,fh,afr⟩:=Wd oc.good T c.kind;have hs:=oc.trans j5;have Fy:=(E8 oc.good e2).2.1;have hd:=Kp bZ hm e1 e2;have iD:v.num<=v2.num/\v2.num<=v.num+2:=⟨hs.num,J⟩
  cases b with
  |false=>exact⟨151,v2,by rw[hd,awd rfl],hs.good,hs.blocks,hs.half,J,by rw[hs.id];omega,.inl hs.T⟩
  |true=>
   rw[awf dc7]at hd;have aj4:=hb1 rfl;by_cases h7:c.kind=7
   ·obtain⟨g1,g2,g3⟩:=E7 hm h7;obtain⟨k1,k2,_⟩:=Ax bZ h7;have T8:fE v2 v2.b.list c.path:=⟨List.Sublist.refl _,.inr ⟨k1,k2,λx hx=>by rw[hs.list]at hx;exact xK g1 x hx,by rw[hs.list];exact g2,by rw[hs.id];omega⟩⟩
    obtain⟨u,hu⟩:=xx hs.good T8;refine⟨0,u,by rw[hd,awd h7,hu.run];rfl,hu.good,hu.blocks.trans hs.blocks,hu.half.trans hs.half,by have:=hu.num;omega,?_,.inl (hu.T.trans hs.T)⟩;rw[hu.id];split
    ·rw[hs.id];omega
    ·rw[hs.id];exact av9 _
   ·by_cases h8:c.kind=8
    ·have T8:fE v2 (v2.b.list.eraseIdx ((dt v2 c.path).getD 0)) []:=⟨List.eraseIdx_sublist _ _,.inl rfl⟩
     obtain⟨u,hu⟩:=xx hs.good T8;refine⟨0,u,by rw[hd,awf h7,awd h8,hu.run];rfl,hu.good,hu.blocks.trans hs.blocks,hu.half.trans hs.half,by have:=hu.num;omega,?_,.inl (hu.T.trans hs.T)⟩;rw[hu.id,awd rfl,hs.id];omega
    ·have lI:c.line.length+2<=cG v2:=by
      rcases Gf with(hh|hh)|hh
      ·exact absurd hh h7
      ·exact absurd hh h8
      ·rcases afr with hh2|hh2
       ·unfold cG at hh ⊢;rw[j5.half,hh2];exact hh
       ·unfold cG;rw[hh2,hs.half];have:=YT bZ;simp[kY];omega
     refine⟨0,{ v2 with T:=T,recs:=v2.recs++[c.line] },by rw[hd,awf h7,awf h8,awf J],I0 hs.good hTM J,hs.blocks,hs.half,by show v.num<=v2.num/\v2.num<=v.num+3;omega,by show v2.b.id<=v.b.id+1;rw[hs.id];omega,?_⟩;rcases hT with e|e
     ·exact .inl e
     ·exact .inr e
def uI:Vs->List cm->Except Int Vs
 |v,[]=>.ok v
 |v,c::r=>match BG v c with
  | .error e=>.error e
  | .ok o=>uI o.2 r
theorem Nq {v:Vs}{l:List cm}{u:Vs}(h:uI v l=.ok u){c:cm}{r:Int}{x:Vs}(hd:BG u c=.ok (r,x)):uI v (l++[c])=.ok x:=by
 induction l generalizing v with
 |nil=>
  injection h with h;subst h;show(match BG v c with | .error e=>(.error e:Except Int Vs) | .ok o=>uI o.2 [])=_;rw[hd];rfl
 |cons y l ih=>
  have h':(match BG v y with | .error e=>(.error e:Except Int Vs) | .ok o=>uI o.2 l)=.ok u:=h;show(match BG v y with | .error e=>(.error e:Except Int Vs) | .ok o=>uI o.2 (l++[c]))=_
  cases hy:BG v y with
  |error e=>rw[hy]at h';cases h'
  |ok o=>rw[hy]at h';exact ih h'
structure Lv (v:Vs)(k:Nat):Prop where
 good:mu v
 wf:∃ d,WF v.T d
 id:v.b.id<=k+1
 num:v.num<=2+3*k
 half:1302<=v.half
theorem Lv.step {v:Vs}(h:Lv v k)(c:cm):∃ r u,BG v c=.ok (r,u)/\Lv u (k+1)/\u.blocks=v.blocks/\u.half=v.half:=by
 obtain⟨d,hw⟩:=h.wf;obtain⟨d',bD⟩:=P0 hw c;obtain⟨r,u,hr⟩:=aad h.good c (λbZ=>by have:=xY bZ;have:=h.half;omega) (Ay bD);refine⟨r,u,hr.run,⟨hr.good,?_,by have:=hr.id;have:=h.id;omega,by have:=hr.num;have:=h.num;omega,by rw[hr.half];exact h.half⟩,hr.blocks,hr.half⟩;rcases hr.T with e|e
 ·exact⟨d,by rw[e];exact hw⟩
 ·exact⟨d',by rw[e];exact bD⟩
section
open Go.RowKit
attribute [local go_sem] av0
def BN (c:cm):List Value:=[.int .i64 c.kind,.string ⟨c.path.toArray⟩,.string ⟨c.dest.toArray⟩,.int .i64 c.pos,.string ⟨c.data.toArray⟩]
def pf (m:Nat):Vs:=dF (il (gR (4*m))) m 1 (bH (gR 100)*64) Tr.new
theorem RY (h:48<=m/\m<=300){v:Vs}(hv:bF (pf m) [] []=.ok v):Lv v 0/\v.blocks=m:=by
 have hr:mw (pf m):=xM _ _ _ _ J xO (by rw[jB];rfl) (λx hx=>by rw[jB]at hx;simp at hx;subst hx;decide);obtain⟨u,hu⟩:=uo hr (list:=[]) (more:=[]) ⟨List.Sublist.refl _,.inl rfl⟩;have e:u=v:=by have:=hu.run.symm.trans hv;injection this
 subst e;have hh:u.half=bH (gR 100)*64:=hu.half;have hid:u.b.id=1:=by rw[hu.id,awd rfl];rfl
 have iD:u.num=1+1:=hu.num;refine⟨⟨hu.good,⟨_,by rw[hu.T];exact GM⟩,J,J,?_⟩,hu.blocks⟩;rw[hh];unfold bH;rw[iR];decide
structure Fp (w:World)(p:Nat)(v:Vs)(a:eX)(w':World):Prop where
 at_:lc w' p v a
 text:a.text=fT v.b
 foot:∀ g,a.foot p g->w.heap.size<=g
 keep:af w w'
theorem Fp.did {w1 w2:World}{v u:Vs}{a a':eX}(h:Fp w p v a w1)(k:Z0 w1 p v a u a' w2):Fp w p u a' w2:=
 ⟨k.at_,k.text h.text,λg hg=>(k.foot g hg).elim (h.foot g) (λh1=>av2 h.keep.size h1),h.keep.trans k.mod (λg hl hg=>by have:=h.foot g hg;omega)⟩
def xZ (w:World)(m:Nat)(cs:List cm)(e:Ending)(w':World):Prop:=
 ∃ p v0 v a,e=.returned (au p)/\bF (pf m) [] []=.ok v0/\uI v0 (cs.take 60)=.ok v/\Lv v (min cs.length 60)/\v.blocks=m/\Fp w p v a w'
theorem xZ.intro {w':World}{cs:List cm}{v0 v:Vs}{a:eX}(h1:bF (pf m) [] []=.ok v0)(h2:uI v0 (cs.take 60)=.ok v)(h3:Lv v (min cs.length 60))(h4:v.blocks=m)(h5:Fp w p v a w'):xZ w m cs (.returned (au p)) w':=
 ⟨p,v0,v,a,rfl,h1,h2,h3,h4,h5⟩
theorem Nr (he:yK w)(blocks:Int)(hb:-9223372036854775808<=blocks/\blocks<=9223372036854775807)(cs:List cm)(cv:Value)(hr:ms BN 5 w cv cs)(hs:∀ c∈cs,c.Small)(hl:cs.length<=1048576)(TO:(∃ c∈cs,c.kind=8)->XV)(uA:∀ c∈cs,VP c):
  Calls prog 14 #[.int .i64 blocks,cv] w (xZ w (max 48 (min blocks 300)).toNat cs):=by
 obtain⟨m,hm⟩:∃ m:Nat,max 48 (min blocks 300)=(m:Int):=⟨(max 48 (min blocks 300)).toNat,J⟩
 have zn:48<=m/\m<=300:=J
 have hmt:(max 48 (min blocks 300)).toNat=m:=J
 obtain⟨n4,Xu⟩:∃ n4:Nat,(4:Int)*(m:Int)=(n4:Int):=⟨4*m,J⟩
 have agK:n4=4*m:=J
 obtain⟨D1,HM,HE,HS,HD,HDO⟩:=K6 (Dd w n4 J) (And.intro zn (And.intro hmt agK)) he hs TO uA;obtain⟨ca,cap,rfl,hx⟩:=hr;have HX:=Z hx;have FK:(cs.length:Int)<=1048576:=J
 have w4:IntKind.i64.wrap ((4:Int)*(m:Int))=(n4:Int):=by rw[Xu];exact eZ J
 clear he hs TO uA hx zn hmt agK;go_enter func14,ntmps14;go_wp2_with fail;refine D1.mono ?_;rintro e w1 ⟨d1,rfl,k1,F1,OU,hF1⟩;obtain⟨cC,D2,HD1⟩:=K3 k1 (Dd w1 100 J) (And.intro OU hF1);clear k1 OU hF1 D1 w4;go_wp2_with fail;refine D2.mono ?_;rintro e w2 ⟨d2,rfl,k2,F2,SM,Ze⟩;have bJ:=Z (cC.keep k2);have OU:bE w2 d1 (gR n4) F1:=HD1.1.mod k2 (λb _=>id);have FO:=Nc OU SM (λb h1 h2=>by have:=HD1.1.lt b h1;have:=Ze b h2;omega) (by rw[iR];have:=HM.1;have:=HM.2.2;omega) (by rw[iR];decide);have e1:(gR n4).size/4=m:=by rw[iR,HM.2.2];omega
 rw[e1,HM.2.2]at FO;have FO:=Z FO;have HFF:Hid (∀ b,F1 b\/F2 b->w.heap.size<=b):=Z (λb h=>h.elim (HD1.2 b) (λh2=>av2 cC.size (Ze b h2)));clear k2 OU SM Ze D2 e1 HD1 Xu hm;go_wp2_with fail;refine FO.mono ?_;rintro e w3 ⟨p,v0,a0,rfl,Ge,UJ,Ky,hft,uZ⟩;have HPT:Hid (bF (pf m) [] []=.ok v0):=Z UJ;have HLV:=Z (RY HM.1 HPT.o);have HL0:Hid (Fp w p v0 a0 w3):=Z ⟨Ge,Ky,λg hg=>by
  rcases hft g hg with h|h|h
  ·exact HFF.o g (.inl h)
  ·exact HFF.o g (.inr h)
  ·exact av2 bJ.size h,bJ.trans uZ (λg hl hg=>by have:=HFF.o g hg;omega)⟩
 clear Ge UJ Ky hft uZ FO HFF;go_wp2_with fail
 go_loopw [10] (λy wr=>∃ k:Nat,k<=cs.length/\k<=60/\y=.int .i64 (k:Int)/\Hid (∃ v a,uI v0 (cs.take k)=.ok v/\Lv v k/\v.blocks=m/\Fp w p v a wr)) (λy _=>60-(intOf y).toNat)
 case atStart=>exact⟨0,J,J,rfl,Z ⟨v0,a0,rfl,HLV.1,HLV.2,HL0.o⟩⟩
 case round=>
  clear HL0 HLV;obtain⟨k,hk,pX,rfl,HR⟩:=hrel;obtain⟨v,a,bN,iA,mL,uE⟩:=HR.o;have HRU:=Z (And.intro bN (And.intro iA (And.intro mL uE)));clear bN iA mL uE HR;by_cases aP:k<cs.length
  ·have dL:(k:Int)<(cs.length:Int):=J
   by_cases AE:k<60
   ·have aiK:(k:Int)<60:=J
    obtain⟨c,hc⟩:∃ c,cs[k]?=some c:=⟨_,av6 aP⟩
    obtain⟨rb,o,rfl,Zp⟩:=HX.o k c hc;have HAT:=HRU.2.2.2;have cx:∀ i u,(BN c)[i]?=some u->wr.cell? ⟨rb,o+k*5+i,none⟩=some u:=λi u hi=>by
     have h1:=Zp i u hi;rw[HAT.keep.cell (p:=⟨rb,o+k*5+i,none⟩) (am h1) id];exact h1
    have c0:wr.cell? ⟨rb,o+k*5,none⟩=some (.int .i64 c.kind):=cx 0 _ rfl;have c1:wr.cell? ⟨rb,o+k*5+1,none⟩=some (.string ⟨c.path.toArray⟩):=cx 1 _ rfl;have c2:wr.cell? ⟨rb,o+k*5+2,none⟩=some (.string ⟨c.dest.toArray⟩):=cx 2 _ rfl;have c3:wr.cell? ⟨rb,o+k*5+3,none⟩=some (.int .i64 c.pos):=cx 3 _ rfl;have c4:wr.cell? ⟨rb,o+k*5+4,none⟩=some (.string ⟨c.data.toArray⟩):=cx 4 _ rfl;have CA:=av7 hc;have hda:adk v c:=by
     obtain⟨_,iA,_,_⟩:=HRU.o;obtain⟨d,hw⟩:=iA.wf;obtain⟨d',bD⟩:=P0 hw c;exact⟨iA.good,by have:=iA.id;omega,by have:=iA.num;omega,HS.o c CA,λbZ=>⟨by have:=xY bZ;have:=iA.half;omega,xY bZ⟩,Ay bD,Ax⟩
    obtain⟨DO,HC⟩:=K2 (Wg HAT.at_ (HE.keep HAT.keep) hda (λh8=>HD.o ⟨c,CA,h8⟩) (HDO.o c CA)) hc;clear cx Zp HAT CA hda hc;go_wp2_with fail;unfold kZ dq at DO;refine DO.mono ?_;rintro e w4 ⟨r,u,a',uA,rfl,hvd⟩;have HN:Hid (∃ v a,uI v0 (cs.take (k+1))=.ok v/\Lv v (k+1)/\v.blocks=m/\Fp w p v a w4):=Z (by
     obtain⟨bN,iA,mL,uE⟩:=HRU.o;obtain⟨r',u',q1,q2,q3,_⟩:=iA.step c;rw[q1]at uA;injection uA with uA;injection uA with h1 h2;subst h1 h2;refine⟨u',a',?_,q2,q3.trans mL,uE.did hvd⟩;rw[av8,HC.o];exact Nq bN q1)
    clear uA hvd DO c0 c1 c2 c3 c4;go_wp2_with fail;exact⟨⟨k+1,J,J,by go_num,HN⟩,by simp[intOf];omega⟩
   ·have aiK:¬(k:Int)<60:=J
    have ai8:k=60:=J
    go_wp2;go_ret;obtain⟨bN,iA,mL,uE⟩:=HRU.o;rw[HM.2.1];exact xZ.intro HPT.o (by rw[<-ai8];exact bN) (by rw[show min cs.length 60=k by omega];exact iA) mL uE
  ·have dL:¬(k:Int)<(cs.length:Int):=J
   go_wp2;go_ret;obtain⟨bN,iA,mL,uE⟩:=HRU.o;rw[HM.2.1];exact xZ.intro HPT.o (by rw[awQ (show cs.length<=60 by omega)];rw[awQ (show cs.length<=k by omega)]at bN;exact bN) (by rw[show min cs.length 60=k by omega];exact iA) mL uE
end
def cmA:cm:=⟨0,[47,97],[],0,[]⟩
def Ul (c:UInt8):cm:=⟨7,[c],[],0,[]⟩
def aae (rd:Rd):Except Int Vs:=match bF (dF rd 100 1 3136 Tr.new) [] []with
 | .ok u=>uI u [cmA,Ul 97,Ul 98]
 | .error e=>.error e
def aaf (v:Vs):=(qm v [] [97],qm v [98] [97],qm v [] [120],v.b.planes.getD 1 [],v.rd 5,v.rd 6,((bB v.b.list [97]).getD fg).id)
def aag:Except Int (Hd×List Nat)×Except Int (Hd×List Nat)×Except Int (Hd×List Nat)×ay×Except Int ay×Except Int ay×Int:=
 (.ok (⟨1,0,[97],⟨6,11⟩,2,[]⟩,[5,6]),.error 190,.error 162,[96],.ok [1,1,97,2],.ok [2,1,1,1,5,4,2,0,1,0,0],1)
theorem Ws (rd:Rd):(match aae rd with | .ok v=>aaf v | .error _=>(.error 0,.error 0,.error 0,[],.error 0,.error 0,0))=aag:=kr7
theorem adt {v0 v:Vs}(h0:bF (pf 100) [] []=.ok v0)(h1:uI v0 [cmA,Ul 97,Ul 98]=.ok v):aaf v=aag:=by
 have e:pf 100=dF (il (gR (4*100))) 100 1 3136 Tr.new:=by
  unfold pf;rw[show bH (gR 100)*64=3136 by unfold bH;rw[iR]]
 have ho:aae (il (gR (4*100)))=.ok v:=by
  unfold aae;rw[<-e,h0];exact h1
 have:=Ws (il (gR (4*100)));rw[ho]at this;exact this
section
open Go.ChangeShapes Go.WideShapes Go.ChangeAt Go.RowKit
section
variable {H:Type}{enc:TypeId×Value->H}{P:Program}
theorem rY (hl:laidOutB P=true){W W':World}(hb:Below W.heap.size W W'):∀(ts:List TypeId) (vs:List Value) (ds:List (DataW H)) (ps:List MemPlace),
  (ts.all λt=>P.readableRec t&&decide (t<P.types.size))=true->DataW.TrodAll enc P W 0 (λ_=>true) true ts vs ds ps->(∀ x∈ps,x.block<W.heap.size)->
  DataW.TrodAll enc P W' 0 (λb=>decide (b<W.heap.size)) true ts vs ds ps
 |[],[],[],_,_,h,_=>h
 |t::ts,v::vs,d::ds,ps,hr,h,aP=>by
  obtain⟨p,q,h1,h2,rfl⟩:=h;simp only[List.all_cons,awo,awt]at hr;exact⟨p,q,Below.trod hl hr.1.1 hr.1.2 h1 hb (λx hx=>aP x (by simp[hx])),rY hl hb ts vs ds q hr.2 h2 (λx hx=>aP x (by simp[hx])),rfl⟩
 |[],_::_,_,_,_,h,_=>h.elim
 |[],[],_::_,_,_,h,_=>h.elim
 |_::_,[],_,_,_,h,_=>h.elim
 |_::_,_::_,[],_,_,h,_=>h.elim
theorem Ns {fn:Func}{s:ChangeSpec}{W W':World}{args:Array Value}{ds gs:List (DataW H)}{before:List MemPlace}{tb:TypeId}
  (hl:laidOutB P=true) (hr:(fn.params.toList.all λt=>P.readableRec t&&decide (t<P.types.size))=true) (hv:s.vars=[]) (hrt:fn.resultTypes=#[tb]) (hb:P.underlying tb=some .bool)
  (TD:s.fn H (ds++gs)={ results:=[.lit (.bool true)],args:=ds }) (hW:DataW.Whole enc P fn.params.toList s.vars false W args.toList ds gs before) (hk:af W W'):
  s.post enc P fn false true false false W args (.bool true) W':=by
 have aP:∀ x∈before,x.block<W.heap.size:=λx hx=>by simpa using hW.lt x hx
 have hW':=hW;obtain⟨p,q,hA,hV,rfl,_,_⟩:=hW;rw[hv]at hV;obtain⟨_,rfl⟩:=trodVars_none hV;refine⟨ds,gs,p++[],[],p,[],hW',?_,?_,?_,hk.below.frame _,λh=>by cases h⟩
 ·rw[TD,hrt];exact trodAll_mk1 (shut_bool hb _)
 ·rw[TD];exact rY hl hk.below _ _ _ _ hr hA (λx hx=>aP x (by simp[hx]))
 ·rw[TD,hv];rfl
end
end
end Go.Proofs.YtkghpdcloaiflaaGreatDoor
