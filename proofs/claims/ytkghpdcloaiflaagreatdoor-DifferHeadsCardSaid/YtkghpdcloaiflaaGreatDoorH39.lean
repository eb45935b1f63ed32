import Derived.Test.YtkghpdcloaiflaaGreatDoorH38
set_option maxHeartbeats 4000000
set_option maxRecDepth 100000
namespace Go.Proofs.YtkghpdcloaiflaaGreatDoor
open _root_.Go.Proofs.Tryz
variable {l:List Nat}{lv:Value}{p q:Nat}{w w':World}
section
open Go.RowKit
attribute [local go_sem] av0
structure Hd where
 id:Int
 base:Int
 name:ay
 table:fI
 count:Int
 drop:ay
def qm (v:Vs)(base target:ay):Except Int (Hd×List Nat):=match gw v base target with
 | .error e=>.error e
 | .ok (sx,drop)=>
  if((bB v.b.list target).getD fg).id<=((bB v.b.list base).getD fg).id then .error 190 else
   .ok (⟨((bB v.b.list target).getD fg).id,((bB v.b.list base).getD fg).id,((bB v.b.list target).getD fg).name,((bB v.b.list target).getD fg).table,((cL sx).length:Int),drop⟩,cL sx)
structure qY (w:World)(base q p:Nat)(h:Hd)(l:List Nat)(lv:Value):Prop where
 own:World.blk w q #[au p,.int .i64 h.id,.int .i64 h.base,.string ⟨h.name.toArray⟩,.int .i64 h.table.root,.int .i64 h.table.size,.int .i64 h.count,.string ⟨h.drop.toArray⟩,lv] 88
 row:aO w base lv (gh l)
 new:base<=q
theorem qY.keep {base:Nat}{h:Hd}(a:qY w base q p h l lv)(k:af w w'):qY w' base q p h l lv:=⟨ab k a.own id,aA a.row λg hg=>k.block g (aX a.row hg) id,a.new⟩
def lW (w:World)(v:Vs)(p:Nat)(base target:ay)(e:Ending)(w':World):Prop:=
 af w w'/\match qm v base target with
  | .error x=>e=.returned (.tuple #[.pointer none,.int .i64 x])
  | .ok (hd,l)=>∃ q lv,e=.returned (.tuple #[au q,.int .i64 0])/\qY w' w.heap.size q p hd l lv
theorem lW.err {v:Vs}{base target:ay}{x:Int}(h:qm v base target=.error x)(k:af w w'):lW w v p base target (.returned (.tuple #[.pointer none,.int .i64 x])) w':=by
 unfold lW;rw[h];exact⟨k,rfl⟩
theorem lW.new {v:Vs}{base target:ay}{hd:Hd}(h:qm v base target=.ok (hd,l))(k:af w w')(ha:qY w' w.heap.size q p hd l lv):lW w v p base target (.returned (.tuple #[au q,.int .i64 0])) w':=by
 unfold lW;rw[h];exact⟨k,q,lv,rfl,ha⟩
theorem Ni {v:Vs}{a:eX}(h:lc w p v a)(hl:v.b.list.length<=1000)(hp:∀ x∈v.b.list,1<=x.plane/\x.plane<=7)(hs:∀ x y,x∈v.b.list->y∈v.b.list->(dT v x).length<=600/\(bV (dT v x) (dT v y)).length<=600)(base target:ay)(hb:base.length<=140737488355328)(ht:target.length<=140737488355328):
  Calls prog 15 #[au p,az base,az target] w (lW w v p base target):=by
 obtain⟨DI,H,HL⟩:=K3 (Nh h hl hp base target hb ht) h hl;have YI:∀ s d,gw v base target=.ok (s,d)->s.length<=600:=by
  intro s d he;unfold gw at he;split at he
  ·cases he
  ·cases hx:bB v.b.list target with
   |none=>rw[hx]at he;cases he
   |some x=>
    rw[hx]at he;simp only at he;split at he
    ·injection he with he;injection he with he _;subst he;exact(hs x x (gL hx) (gL hx)).1
    ·cases hy:bB v.b.list base with
     |none=>rw[hy]at he;cases he
     |some y=>
      rw[hy]at he;injection he with he;injection he with he _;subst he;exact(hs x y (gL hx) (gL hy)).2
 have HSH:=Z YI;have HPX:Hid (qm v base target=match gw v base target with
  | .error e=>.error e
  | .ok (sx,drop)=>
   if((bB v.b.list target).getD fg).id<=((bB v.b.list base).getD fg).id then .error 190 else
    .ok (⟨((bB v.b.list target).getD fg).id,((bB v.b.list base).getD fg).id,((bB v.b.list target).getD fg).name,((bB v.b.list target).getD fg).table,((cL sx).length:Int),drop⟩,cL sx)):=Z rfl
 obtain⟨NX,NY⟩:=K2 (λW (k:af w W)=>qW (h.keep k) hl target) (λW (k:af w W)=>qW (h.keep k) hl base);clear h hl hp hs hb ht YI;go_enter func15,ntmps15;go_wp2_with fail;refine DI.mono ?_;rintro e w1 ⟨rfl,k1⟩;have cC:=Z k1;clear k1 DI
 cases hd:gw v base target with
 |error x=>
  have HM:Hid (qm v base target=.error x):=Z (by rw[HPX.o,hd]);have rf:(x==0)=false:=by
   unfold gw at hd;split at hd
   ·injection hd with hd;subst hd;rfl
   ·split at hd
    ·injection hd with hd;subst hd;rfl
    ·split at hd
     ·cases hd
     ·split at hd
      ·injection hd with hd;subst hd;rfl
      ·cases hd
  clear hd;unfold RH;simp only;go_wp2;go_ret2;exact lW.err HM.o cC.o
 |ok sd=>
  obtain⟨sx,drop⟩:=sd;have Uz:=Z (HSH.o sx drop hd);have HM:Hid (qm v base target=if((bB v.b.list target).getD fg).id<=((bB v.b.list base).getD fg).id then .error 190 else
    .ok (⟨((bB v.b.list target).getD fg).id,((bB v.b.list base).getD fg).id,((bB v.b.list target).getD fg).name,((bB v.b.list target).getD fg).table,((cL sx).length:Int),drop⟩,cL sx)):=Z (by rw[HPX.o,hd])
  clear hd;unfold RH;simp only;generalize (bB v.b.list target).getD fg=x at*;generalize (bB v.b.list base).getD fg=y at*;go_wp2_with fail;refine(NX.o _ cC.o).mono ?_;rintro e w2 ⟨rfl,k2⟩;have bJ:=Z (cC.keep k2);clear k2;go_wp2_with fail;refine(NY.o _ bJ.o).mono ?_;rintro e w3 ⟨rfl,k3⟩;have ez:=Z (bJ.keep k3);clear k3 cC bJ;unfold Bu;by_cases hq:x.id<=y.id
  ·have gi:Hid (qm v base target=.error 190):=Z (by rw[HM.o,awd hq]);go_wp2;go_ret2;exact lW.err gi.o (by first|exact ez.o|exact ez.alloc _|exact(ez.alloc _).alloc _)
  ·have gi:=HM.o;rw[awf hq]at gi;have gi:=Z gi;clear HM;obtain⟨xb,yy⟩:∃ xb,w3.heap.size=xb:=⟨_,rfl⟩
   have ka:af w3 ((w3.alloc (.cells #[.string ⟨x.name.toArray⟩,.int .i64 x.id,.int .i64 x.plane,.int .i64 x.table.root,.int .i64 x.table.size] 85)).alloc (.cells #[.string ⟨y.name.toArray⟩,.int .i64 y.id,.int .i64 y.plane,.int .i64 y.table.root,.int .i64 y.table.size] 85)):=((ai.refl _ w3).alloc _).alloc _;have hX:World.blk ((w3.alloc (.cells #[.string ⟨x.name.toArray⟩,.int .i64 x.id,.int .i64 x.plane,.int .i64 x.table.root,.int .i64 x.table.size] 85)).alloc (.cells #[.string ⟨y.name.toArray⟩,.int .i64 y.id,.int .i64 y.plane,.int .i64 y.table.root,.int .i64 y.table.size] 85)) xb #[.string ⟨x.name.toArray⟩,.int .i64 x.id,.int .i64 x.plane,.int .i64 x.table.root,.int .i64 x.table.size] 85:=by rw[<-yy];exact aE (av _ _ _) _
   have hY:World.blk ((w3.alloc (.cells #[.string ⟨x.name.toArray⟩,.int .i64 x.id,.int .i64 x.plane,.int .i64 x.table.root,.int .i64 x.table.size] 85)).alloc (.cells #[.string ⟨y.name.toArray⟩,.int .i64 y.id,.int .i64 y.plane,.int .i64 y.table.root,.int .i64 y.table.size] 85)) (xb+1) #[.string ⟨y.name.toArray⟩,.int .i64 y.id,.int .i64 y.plane,.int .i64 y.table.root,.int .i64 y.table.size] 85:=by rw[<-yy];exact aV sp7 _ _
   obtain⟨SL,HKA,HX,HY⟩:=K4 (zJ sx (by have:=Uz.o;omega) ((w3.alloc (.cells #[.string ⟨x.name.toArray⟩,.int .i64 x.id,.int .i64 x.plane,.int .i64 x.table.root,.int .i64 x.table.size] 85)).alloc (.cells #[.string ⟨y.name.toArray⟩,.int .i64 y.id,.int .i64 y.plane,.int .i64 y.table.root,.int .i64 y.table.size] 85))) (ez.keep ka) hX hY;clear ka hX hY;go_wp2_with fail;refine SL.mono ?_;rintro e w4 ⟨lv,rfl,ho,_,k4⟩;obtain⟨la,cap,rfl,_⟩:=bh ho;have yl:(bu (gh (cL sx))).length=(cL sx).length:=by simp[bu,gh]
   rw[yl]at ho ⊢;obtain⟨HO,pO⟩:=K2 ho (HKA.keep k4);have Yb:=ab k4 HX.o id;have hy4:=ab k4 HY.o id;have c0:w4.cell? ⟨xb,0,none⟩=some (.string ⟨x.name.toArray⟩):=aa Yb 0;have c1:w4.cell? ⟨xb,1,none⟩=some (.int .i64 x.id):=aa Yb 1;have c3:w4.cell? ⟨xb,3,none⟩=some (.int .i64 x.table.root):=aa Yb 3;have c4:w4.cell? ⟨xb,4,none⟩=some (.int .i64 x.table.size):=aa Yb 4;have d1:w4.cell? ⟨xb+1,1,none⟩=some (.int .i64 y.id):=aa hy4 1;have cJ:w.heap.size<=w4.heap.size:=pO.size;have W9:=Z (And.intro cJ (show w.heap.size<=((w3.alloc (.cells #[.string ⟨x.name.toArray⟩,.int .i64 x.id,.int .i64 x.plane,.int .i64 x.table.root,.int .i64 x.table.size] 85)).alloc (.cells #[.string ⟨y.name.toArray⟩,.int .i64 y.id,.int .i64 y.plane,.int .i64 y.table.root,.int .i64 y.table.size] 85)).heap.size from HKA.size))
   try rw[yy]
   clear ho k4 Yb hy4 yl SL yy cJ;go_wp2;go_ret2;have kb:af w4 (w4.alloc (.cells #[au p,.int .i64 x.id,.int .i64 y.id,.string ⟨x.name.toArray⟩,.int .i64 x.table.root,.int .i64 x.table.size,.int .i64 ((cL sx).length:Int),.string ⟨drop.toArray⟩,.slice la (cL sx).length cap] 88)):=(ai.refl _ w4).alloc _;exact lW.new gi.o (pO.keep kb) ⟨av _ _ _,aA (eS HO.o W9.2) (λg hg=>kb.block g (aX HO.o hg) id),W9.1⟩
inductive Pc where
 |num (n:Nat)
 |text (s:ay)
def Pc.val:Pc->Value
 | .num n=>.iface 3 (.int .i64 (n:Int))
 | .text s=>.iface 9 (.string ⟨s.toArray⟩)
def Pc.bytes:Pc->ay
 | .num n=>aD n
 | .text s=>aD s.length++s
def Pc.ok:Pc->Prop
 | .num n=>n<=4611686018427387903
 | .text s=>s.length<=65536
theorem RI {x:Pc}(h:x.ok):x.bytes.length<=70000:=by
 cases x with
 |num n=>have:=aK (n:=n) (by have:n<=4611686018427387903:=h;omega);show(aD n).length<=_;omega
 |text s=>
  have h':s.length<=65536:=h;have:=aK (n:=s.length) J;show(aD s.length++s).length<=_;rw[awn];omega
theorem RJ (l:List Pc)(h:∀ x∈l,x.bytes.length<=70000):(l.flatMap Pc.bytes).length<=70000*l.length:=by
 induction l with
 |nil=>simp
 |cons x r ih=>
  have h1:=h x sp7;have h2:=ih λy hy=>h y (by simp[hy]);simp only[awL,awn,av5];omega
theorem Z2 (v:Value)(W:World):(Instr.typeAssert (.iface 3 v) 20 3 true).run prog W=.ok (.tuple #[v,.bool true]) W:=kr7
theorem Z3 (v:Value)(W:World):(Instr.typeAssert (.iface 9 v) 20 3 true).run prog W=.ok (.tuple #[.int .i64 0,.bool false]) W:=kr7
theorem Z4 (v:Value)(W:World):(Instr.typeAssert (.iface 9 v) 20 9 true).run prog W=.ok (.tuple #[v,.bool true]) W:=kr7
theorem Ar (l:List Pc)(v:Value)(w:World)(h:eg w v (l.map Pc.val))(hl:l.length<=100)(bZ:∀ x∈l,x.ok):
  Calls prog 35 #[v] w λe w'=>e=.returned (az (l.flatMap Pc.bytes))/\af w w':=by
 obtain⟨a,cap,rfl,hx⟩:=h;rw[awz];obtain⟨HX,Ga⟩:=K2 hx bZ;have FK:(l.length:Int)<=100:=J
 have ha1:=Z2;have ha2:=Z3;have ha3:=Z4;clear hx bZ;go_enter func35,ntmps35;go_wp2_with fail
 go_loopw [3,11] (λs i wr=>∃ k:Nat,k<=l.length/\i=.int .i64 (k:Int)/\s=az ((l.take k).flatMap Pc.bytes)/\Hid (af w wr)) (λ_ i _=>l.length-(intOf i).toNat)
 case atStart=>exact⟨0,J,rfl,rfl,Z (ai.refl _ _)⟩
 case round=>
  obtain⟨k,hk,rfl,rfl,HK⟩:=hrel;by_cases aP:k<l.length
  ·have dL:(k:Int)<(l.length:Int):=J
   obtain⟨x,hx⟩:∃ x,l[k]?=some x:=⟨_,av6 aP⟩
   obtain⟨b,o,rfl,hc⟩:=HX.o k x.val (by rw[aw5,hx];rfl);have c0:wr.cell? ⟨b,o+k,none⟩=some x.val:=by rw[HK.cell (p:=⟨b,o+k,none⟩) (am hc) id];exact hc
   have hxo:=Ga.o x (av7 hx);have Y2:(l.take (k+1)).flatMap Pc.bytes=(l.take k).flatMap Pc.bytes++x.bytes:=by rw[av8,hx];simp
   have HT:=Z Y2;have OX:=RJ (l.take k) (λy hy=>RI (Ga.o y (awb hy)));have alg:(l.take k).length<=100:=by rw[awc];omega
   have hac:((l.take k).flatMap Pc.bytes).length<=7000000:=J
   have rj:=RI hxo;clear Y2 hx hc OX alg;generalize (l.take k).flatMap Pc.bytes=dm at*
   cases x with
   |num n=>
    have fh:(aD n).length<=70000:=rj;have JD:¬ 9223372036854775807<dm.length+(aD n).length:=J
    clear rj;have NU:=Z (lB n wr hxo);unfold Pc.val at c0;simp only at c0;go_wp2_with fail;refine NU.mono ?_;rintro e w2 ⟨rfl,k2⟩;have bJ:=Z (HK.keep k2);clear k2 NU;go_wp2_with fail;exact⟨⟨k+1,J,by go_num,by rw[HT.o];simp[Pc.bytes],bJ⟩,by simp[intOf];omega⟩
   |text s=>
    have fh:(aD s.length++s).length<=70000:=rj;rw[awn]at fh;have JD:¬ 9223372036854775807<dm.length+((aD s.length).length+s.length):=J
    clear rj;have NU:=Z (th s wr hxo);unfold Pc.val at c0;simp only at c0;go_wp2_with fail;refine NU.mono ?_;rintro e w2 ⟨rfl,k2⟩;have bJ:=Z (HK.keep k2);clear k2 NU;go_wp2_with fail;exact⟨⟨k+1,J,by go_num,by rw[HT.o];simp[Pc.bytes],bJ⟩,by simp[intOf];omega⟩
  ·obtain rfl:k=l.length:=J
   rw[awa];go_wp2;go_ret;exact⟨rfl,HK.o⟩
def As (n:Int)(s:ay):Prop:=1<=n/\n<=4095/\s.length<=240
instance (n:Int)(s:ay):Decidable (As n s):=by unfold As;exact inferInstance
def ey (n:Int)(s:ay):ay:=aD n.toNat++(aD s.length++s)
def I3 (n:Int)(s:ay):Value:=if As n s then .tuple #[az (ey n s),.int .i64 0]else .tuple #[.string ⟨#[]⟩,.int .i64 190]
theorem xS (n:Int)(s:ay)(w:World)(hs:s.length<=140737488351232):
  Calls prog 9 #[.int .i64 n,az s] w λe w'=>e=.returned (I3 n s)/\af w w':=by
 by_cases bZ:As n s
 ·have hv:I3 n s=.tuple #[az (ey n s),.int .i64 0]:=awd bZ;obtain⟨h1,h2,h3⟩:=bZ;have q1:¬ n<1:=J
  have q2:¬(4095:Int)<n:=J
  have q3:¬(240:Int)<(s.length:Int):=J
  obtain⟨m,rfl⟩:∃ m:Nat,n=(m:Int):=⟨n.toNat,J⟩
  have cq:eg (w.alloc (.cells #[.iface 3 (.int .i64 (m:Int)),.iface 9 (.string ⟨s.toArray⟩)] 20)) (.slice (some ⟨w.heap.size,0,none⟩) 2 2) ([Pc.num m,Pc.text s].map Pc.val):=by
   refine⟨_,_,rfl,λk x hx=>⟨w.heap.size,0,rfl,?_⟩⟩;have hb:=av w #[.iface 3 (.int .i64 (m:Int)),.iface 9 (.string ⟨s.toArray⟩)] 20;rw[awR,aa hb k];rcases k with _|_|k
   ·exact hx
   ·exact hx
   ·simp at hx
  obtain⟨LA,HV⟩:=K2 (Ar _ _ _ cq sp7 (λx hx=>by simp at hx;rcases hx with rfl|rfl;exact(by show m<=_;omega);exact(by show s.length<=_;omega))) hv;have HK:Hid (af w (w.alloc (.cells #[.iface 3 (.int .i64 (m:Int)),.iface 9 (.string ⟨s.toArray⟩)] 20))):=Z ((ai.refl _ w).alloc _);clear cq hv h1 h2 h3;go_enter func9,ntmps9;go_wp2_with fail;refine LA.mono ?_;rintro e w2 ⟨rfl,k2⟩;have bJ:=Z (HK.keep k2);clear k2 LA;go_wp2;go_ret2;exact⟨by rw[HV.o];simp[ey,Pc.bytes],bJ.o⟩
 ·have hv:I3 n s=.tuple #[.string ⟨#[]⟩,.int .i64 190]:=awf bZ;have HV:=Z hv;have hsi:(s.length:Int)<=140737488351232:=J
  unfold As at bZ;by_cases q1:n<1
  ·clear bZ hv;go_enter func9,ntmps9;go_wp2;go_ret2;exact⟨by rw[HV.o];rfl,ai.refl _ _⟩
  ·by_cases q2:(4095:Int)<n
   ·clear bZ hv;go_enter func9,ntmps9;go_wp2;go_ret2;exact⟨by rw[HV.o];rfl,ai.refl _ _⟩
   ·have q3:(240:Int)<(s.length:Int):=J
    clear bZ hv;go_enter func9,ntmps9;go_wp2;go_ret2;exact⟨by rw[HV.o];rfl,ai.refl _ _⟩
end
end Go.Proofs.YtkghpdcloaiflaaGreatDoor
