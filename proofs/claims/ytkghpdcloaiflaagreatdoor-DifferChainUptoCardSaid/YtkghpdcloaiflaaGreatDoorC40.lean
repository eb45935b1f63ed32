import Derived.Test.YtkghpdcloaiflaaGreatDoorC39
set_option maxHeartbeats 4000000
set_option maxRecDepth 100000
namespace Go.Proofs.YtkghpdcloaiflaaGreatDoor
open _root_.Go.Proofs.Tryz
section
open Go.RowKit
attribute [local go_sem] atC
structure Hd where
 id:Int
 base:Int
 name:ay
 table:fR
 count:Int
 drop:ay
def qg (v:Vs)(base target:ay):Except Int (Hd×List Nat):=match bZ v base target with
 | .error e=>.error e
 | .ok (sy,drop)=>
  if((bf v.b.list target).getD fi).id<=((bf v.b.list base).getD fi).id then .error 190 else
   .ok (⟨((bf v.b.list target).getD fi).id,((bf v.b.list base).getD fi).id,((bf v.b.list target).getD fi).name,((bf v.b.list target).getD fi).table,((cK sy).length:Int),drop⟩,cK sy)
structure qO (w:World)(base q p:Nat)(h:Hd)(l:List Nat)(lv:Value):Prop where
 own:World.blk w q #[aq p,.int .i64 h.id,.int .i64 h.base,.string ⟨h.name.toArray⟩,.int .i64 h.table.root,.int .i64 h.table.size,.int .i64 h.count,.string ⟨h.drop.toArray⟩,lv] 88
 row:aL w base lv (gh l)
 new:base<=q
theorem qO.keep {w w':World}{base q p:Nat}{h:Hd}{l:List Nat}{lv:Value}(a:qO w base q p h l lv)(k:af w w'):qO w' base q p h l lv:=⟨ab k a.own id,az a.row fun g hg=>k.block g (aS a.row hg) id,a.new⟩
def mg (w:World)(v:Vs)(p:Nat)(base target:ay)(e:Ending)(w':World):Prop:=
 af w w'/\match qg v base target with
  | .error x=>e=.returned (.tuple #[.pointer none,.int .i64 x])
  | .ok (hd,l)=>∃ q lv,e=.returned (.tuple #[aq q,.int .i64 0])/\qO w' w.heap.size q p hd l lv
theorem mg.err {w w':World}{v:Vs}{p:Nat}{base target:ay}{x:Int}(h:qg v base target=.error x)(k:af w w'):mg w v p base target (.returned (.tuple #[.pointer none,.int .i64 x])) w':=by
 unfold mg;rw[h];exact⟨k,rfl⟩
theorem mg.new {w w':World}{v:Vs}{p:Nat}{base target:ay}{hd:Hd}{l:List Nat}{q:Nat}{lv:Value}(h:qg v base target=.ok (hd,l))(k:af w w')(ha:qO w' w.heap.size q p hd l lv):mg w v p base target (.returned (.tuple #[aq q,.int .i64 0])) w':=by
 unfold mg;rw[h];exact⟨k,q,lv,rfl,ha⟩
theorem My {w:World}{p:Nat}{v:Vs}{a:eX}(h:ls w p v a)(hl:v.b.list.length<=1000)(hp:∀ x∈v.b.list,1<=x.plane/\x.plane<=7)(hs:∀ x y,x∈v.b.list->y∈v.b.list->(bR v x).length<=600/\(bK (bR v x) (bR v y)).length<=600)(base target:ay)(hb:base.length<=140737488355328)(ht:target.length<=140737488355328):
  Calls prog 15 #[aq p,aB base,aB target] w (mg w v p base target):=by
 have DI:=hd0 (Ab h hl hp base target hb ht);have H:=hd0 h;have HL:=hd0 hl;have XP:∀ s d,bZ v base target=.ok (s,d)->s.length<=600:=by
  intro s d he;unfold bZ at he;split at he
  ·cases he
  ·cases hx:bf v.b.list target with
   |none=>rw[hx]at he;cases he
   |some x=>
    rw[hx]at he;simp only at he;split at he
    ·injection he with he;injection he with he _;subst he;exact(hs x x (eJ hx) (eJ hx)).1
    ·cases hy:bf v.b.list base with
     |none=>rw[hy]at he;cases he
     |some y=>
      rw[hy]at he;injection he with he;injection he with he _;subst he;exact(hs x y (eJ hx) (eJ hy)).2
 have HSH:=hd0 XP;have HPX:Hid (qg v base target=match bZ v base target with
  | .error e=>.error e
  | .ok (sy,drop)=>
   if((bf v.b.list target).getD fi).id<=((bf v.b.list base).getD fi).id then .error 190 else
    .ok (⟨((bf v.b.list target).getD fi).id,((bf v.b.list base).getD fi).id,((bf v.b.list target).getD fi).name,((bf v.b.list target).getD fi).table,((cK sy).length:Int),drop⟩,cK sy)):=hd0 rfl
 have NX:=hd0 (fun W (k:af w W)=>qM (h.keep k) hl target);have NY:=hd0 (fun W (k:af w W)=>qM (h.keep k) hl base);clear h hl hp hs hb ht XP;go_enter func15,ntmps15;go_wp2_with fail;refine DI.out.mono ?_;rintro e w1 ⟨rfl,k1⟩;have bU:=hd0 k1;clear k1 DI
 cases hd:bZ v base target with
 |error x=>
  have HM:Hid (qg v base target=.error x):=hd0 (by rw[HPX.out,hd]);have sD:(x==0)=false:=by
   unfold bZ at hd;split at hd
   ·injection hd with hd;subst hd;rfl
   ·split at hd
    ·injection hd with hd;subst hd;rfl
    ·split at hd
     ·cases hd
     ·split at hd
      ·injection hd with hd;subst hd;rfl
      ·cases hd
  clear hd;unfold JP;simp only;go_wp2;go_ret2;exact mg.err HM.out bU.out
 |ok sd=>
  obtain⟨sy,drop⟩:=sd;have HSL:=hd0 (HSH.out sy drop hd);have HM:Hid (qg v base target=if((bf v.b.list target).getD fi).id<=((bf v.b.list base).getD fi).id then .error 190 else
    .ok (⟨((bf v.b.list target).getD fi).id,((bf v.b.list base).getD fi).id,((bf v.b.list target).getD fi).name,((bf v.b.list target).getD fi).table,((cK sy).length:Int),drop⟩,cK sy)):=hd0 (by rw[HPX.out,hd])
  clear hd;unfold JP;simp only;generalize (bf v.b.list target).getD fi=x at*;generalize (bf v.b.list base).getD fi=y at*;go_wp2_with fail;refine(NX.out _ bU.out).mono ?_;rintro e w2 ⟨rfl,k2⟩;have bu:=hd0 (bU.out.keep k2);clear k2;go_wp2_with fail;refine(NY.out _ bu.out).mono ?_;rintro e w3 ⟨rfl,k3⟩;have dT:=hd0 (bu.out.keep k3);clear k3 bU bu;unfold A4;by_cases hq:x.id<=y.id
  ·have oh:Hid (qg v base target=.error 190):=hd0 (by rw[HM.out,atP hq]);go_wp2;go_ret2;exact mg.err oh.out (by first|exact dT.out|exact dT.out.alloc _|exact(dT.out.alloc _).alloc _)
  ·have oh:=HM.out;rw[atR hq]at oh;have oh:=hd0 oh;clear HM;obtain⟨xb,ye⟩:∃ xb,w3.heap.size=xb:=⟨_,rfl⟩
   have ka:af w3 ((w3.alloc (.cells #[.string ⟨x.name.toArray⟩,.int .i64 x.id,.int .i64 x.plane,.int .i64 x.table.root,.int .i64 x.table.size] 85)).alloc (.cells #[.string ⟨y.name.toArray⟩,.int .i64 y.id,.int .i64 y.plane,.int .i64 y.table.root,.int .i64 y.table.size] 85)):=((ah.refl _ w3).alloc _).alloc _;have hX:World.blk ((w3.alloc (.cells #[.string ⟨x.name.toArray⟩,.int .i64 x.id,.int .i64 x.plane,.int .i64 x.table.root,.int .i64 x.table.size] 85)).alloc (.cells #[.string ⟨y.name.toArray⟩,.int .i64 y.id,.int .i64 y.plane,.int .i64 y.table.root,.int .i64 y.table.size] 85)) xb #[.string ⟨x.name.toArray⟩,.int .i64 x.id,.int .i64 x.plane,.int .i64 x.table.root,.int .i64 x.table.size] 85:=by rw[<-ye];exact aG (aw _ _ _) _
   have hY:World.blk ((w3.alloc (.cells #[.string ⟨x.name.toArray⟩,.int .i64 x.id,.int .i64 x.plane,.int .i64 x.table.root,.int .i64 x.table.size] 85)).alloc (.cells #[.string ⟨y.name.toArray⟩,.int .i64 y.id,.int .i64 y.plane,.int .i64 y.table.root,.int .i64 y.table.size] 85)) (xb+1) #[.string ⟨y.name.toArray⟩,.int .i64 y.id,.int .i64 y.plane,.int .i64 y.table.root,.int .i64 y.table.size] 85:=by rw[<-ye];exact aY (by simp) _ _
   have SL:=hd0 (zt sy (by have:=HSL.out;omega) ((w3.alloc (.cells #[.string ⟨x.name.toArray⟩,.int .i64 x.id,.int .i64 x.plane,.int .i64 x.table.root,.int .i64 x.table.size] 85)).alloc (.cells #[.string ⟨y.name.toArray⟩,.int .i64 y.id,.int .i64 y.plane,.int .i64 y.table.root,.int .i64 y.table.size] 85)));have HKA:=hd0 (dT.out.keep ka);have HX:=hd0 hX;have HY:=hd0 hY;clear ka hX hY;go_wp2_with fail;refine SL.out.mono ?_;rintro e w4 ⟨lv,rfl,ho,_,k4⟩;obtain⟨la,cap,rfl,_⟩:=aZ ho;have yf:(bi (gh (cK sy))).length=(cK sy).length:=by simp[bi,gh]
   rw[yf]at ho ⊢;have HO:=hd0 ho;have lw:=hd0 (HKA.out.keep k4);have W9:=ab k4 HX.out id;have hy4:=ab k4 HY.out id;have c0:w4.cell? ⟨xb,0,none⟩=some (.string ⟨x.name.toArray⟩):=aa W9 0;have c1:w4.cell? ⟨xb,1,none⟩=some (.int .i64 x.id):=aa W9 1;have c3:w4.cell? ⟨xb,3,none⟩=some (.int .i64 x.table.root):=aa W9 3;have c4:w4.cell? ⟨xb,4,none⟩=some (.int .i64 x.table.size):=aa W9 4;have d1:w4.cell? ⟨xb+1,1,none⟩=some (.int .i64 y.id):=aa hy4 1;have cA:w.heap.size<=w4.heap.size:=lw.out.size;have Vk:=hd0 (And.intro cA (show w.heap.size<=((w3.alloc (.cells #[.string ⟨x.name.toArray⟩,.int .i64 x.id,.int .i64 x.plane,.int .i64 x.table.root,.int .i64 x.table.size] 85)).alloc (.cells #[.string ⟨y.name.toArray⟩,.int .i64 y.id,.int .i64 y.plane,.int .i64 y.table.root,.int .i64 y.table.size] 85)).heap.size from HKA.out.size))
   try rw[ye]
   clear ho k4 W9 hy4 yf SL ye cA;go_wp2;go_ret2;have kb:af w4 (w4.alloc (.cells #[aq p,.int .i64 x.id,.int .i64 y.id,.string ⟨x.name.toArray⟩,.int .i64 x.table.root,.int .i64 x.table.size,.int .i64 ((cK sy).length:Int),.string ⟨drop.toArray⟩,.slice la (cK sy).length cap] 88)):=(ah.refl _ w4).alloc _;exact mg.new oh.out (lw.out.keep kb) ⟨aw _ _ _,az (eL HO.out Vk.out.2) (fun g hg=>kb.block g (aS HO.out hg) id),Vk.out.1⟩
end
section
open Go.RowKit
attribute [local go_sem] atC
inductive Pc where
 |num (n:Nat)
 |text (s:ay)
def Pc.val:Pc->Value
 | .num n=>.iface 3 (.int .i64 (n:Int))
 | .text s=>.iface 9 (.string ⟨s.toArray⟩)
def Pc.bytes:Pc->ay
 | .num n=>aO n
 | .text s=>aO s.length++s
def Pc.ok:Pc->Prop
 | .num n=>n<=4611686018427387903
 | .text s=>s.length<=65536
theorem QU {x:Pc}(h:x.ok):x.bytes.length<=70000:=by
 cases x with
 |num n=>have:=bG (n:=n) (by have:n<=4611686018427387903:=h;omega);show(aO n).length<=_;omega
 |text s=>
  have h':s.length<=65536:=h;have:=bG (n:=s.length) (by omega);show(aO s.length++s).length<=_;rw[at0];omega
theorem QV (l:List Pc)(h:∀ x∈l,x.bytes.length<=70000):(l.flatMap Pc.bytes).length<=70000*l.length:=by
 induction l with
 |nil=>simp
 |cons x r ih=>
  have h1:=h x (by simp);have h2:=ih fun y hy=>h y (by simp[hy]);simp only[aus,at0,atH];omega
theorem Yy (v:Value)(W:World):(Instr.typeAssert (.iface 3 v) 20 3 true).run prog W=.ok (.tuple #[v,.bool true]) W:=by kernel_rfl
theorem Yz (v:Value)(W:World):(Instr.typeAssert (.iface 9 v) 20 3 true).run prog W=.ok (.tuple #[.int .i64 0,.bool false]) W:=by kernel_rfl
theorem YA (v:Value)(W:World):(Instr.typeAssert (.iface 9 v) 20 9 true).run prog W=.ok (.tuple #[v,.bool true]) W:=by kernel_rfl
theorem Mz (l:List Pc)(v:Value)(w:World)(h:ez w v (l.map Pc.val))(hl:l.length<=100)(cC:∀ x∈l,x.ok):
  Calls prog 35 #[v] w fun e w'=>e=.returned (aB (l.flatMap Pc.bytes))/\af w w':=by
 obtain⟨a,cap,rfl,hx⟩:=h;rw[aug];have HX:=hd0 hx;have Fp:=hd0 cC;have Fw:(l.length:Int)<=100:=by omega
 have ha1:=Yy;have ha2:=Yz;have ha3:=YA;clear hx cC;go_enter func35,ntmps35;go_wp2_with fail
 go_loopw [3,11] (fun s i wr=>∃ k:Nat,k<=l.length/\i=.int .i64 (k:Int)/\s=aB ((l.take k).flatMap Pc.bytes)/\Hid (af w wr)) (fun _ i _=>l.length-(intOf i).toNat)
 case atStart=>exact⟨0,by omega,rfl,rfl,hd0 (ah.refl _ _)⟩
 case round=>
  obtain⟨k,hk,rfl,rfl,HK⟩:=hrel;by_cases aM:k<l.length
  ·have dS:(k:Int)<(l.length:Int):=by omega
   obtain⟨x,hx⟩:∃ x,l[k]?=some x:=⟨_,atI aM⟩
   obtain⟨b,o,rfl,hc⟩:=HX.out k x.val (by rw[auM,hx];rfl);have c0:wr.cell? ⟨b,o+k,none⟩=some x.val:=by rw[HK.out.cell (p:=⟨b,o+k,none⟩) (am hc) id];exact hc
   have hxo:=Fp.out x (atJ hx);have XM:(l.take (k+1)).flatMap Pc.bytes=(l.take k).flatMap Pc.bytes++x.bytes:=by rw[atK,hx];simp
   have HT:=hd0 XM;have Ob:=QV (l.take k) (fun y hy=>QU (Fp.out y (atN hy)));have aiX:(l.take k).length<=100:=by rw[atO];omega
   have hac:((l.take k).flatMap Pc.bytes).length<=7000000:=by omega
   have qS:=QU hxo;clear XM hx hc Ob aiX;generalize (l.take k).flatMap Pc.bytes=j5 at*
   cases x with
   |num n=>
    have eS:(aO n).length<=70000:=qS;have uu:¬ 9223372036854775807<j5.length+(aO n).length:=by omega
    clear qS;have NU:=hd0 (lN n wr hxo);unfold Pc.val at c0;simp only at c0;go_wp2_with fail;refine NU.out.mono ?_;rintro e w2 ⟨rfl,k2⟩;have bu:=hd0 (HK.out.keep k2);clear k2 NU;go_wp2_with fail;exact⟨⟨k+1,by omega,by go_num,by rw[HT.out];simp[Pc.bytes],bu⟩,by simp[intOf];omega⟩
   |text s=>
    have eS:(aO s.length++s).length<=70000:=qS;rw[at0]at eS;have uu:¬ 9223372036854775807<j5.length+((aO s.length).length+s.length):=by omega
    clear qS;have NU:=hd0 (sT s wr hxo);unfold Pc.val at c0;simp only at c0;go_wp2_with fail;refine NU.out.mono ?_;rintro e w2 ⟨rfl,k2⟩;have bu:=hd0 (HK.out.keep k2);clear k2 NU;go_wp2_with fail;exact⟨⟨k+1,by omega,by go_num,by rw[HT.out];simp[Pc.bytes],bu⟩,by simp[intOf];omega⟩
  ·obtain rfl:k=l.length:=by omega
   rw[atM];go_wp2;go_ret;exact⟨rfl,HK.out⟩
def Ac (n:Int)(s:ay):Prop:=1<=n/\n<=4095/\s.length<=240
instance (n:Int)(s:ay):Decidable (Ac n s):=by unfold Ac;exact inferInstance
def el (n:Int)(s:ay):ay:=aO n.toNat++(aO s.length++s)
def Ik (n:Int)(s:ay):Value:=if Ac n s then .tuple #[aB (el n s),.int .i64 0]else .tuple #[.string ⟨#[]⟩,.int .i64 190]
theorem xI (n:Int)(s:ay)(w:World)(hs:s.length<=140737488351232):
  Calls prog 9 #[.int .i64 n,aB s] w fun e w'=>e=.returned (Ik n s)/\af w w':=by
 by_cases cC:Ac n s
 ·have hv:Ik n s=.tuple #[aB (el n s),.int .i64 0]:=atP cC;obtain⟨h1,h2,h3⟩:=cC;have q1:¬ n<1:=by omega
  have q2:¬(4095:Int)<n:=by omega
  have q3:¬(240:Int)<(s.length:Int):=by omega
  obtain⟨m,rfl⟩:∃ m:Nat,n=(m:Int):=⟨n.toNat,by omega⟩
  have cH:ez (w.alloc (.cells #[.iface 3 (.int .i64 (m:Int)),.iface 9 (.string ⟨s.toArray⟩)] 20)) (.slice (some ⟨w.heap.size,0,none⟩) 2 2) ([Pc.num m,Pc.text s].map Pc.val):=by
   refine⟨_,_,rfl,fun k x hx=>⟨w.heap.size,0,rfl,?_⟩⟩;have hb:=aw w #[.iface 3 (.int .i64 (m:Int)),.iface 9 (.string ⟨s.toArray⟩)] 20;rw[auy,aa hb k];rcases k with _|_|k
   ·exact hx
   ·exact hx
   ·simp at hx
  have LA:=hd0 (Mz _ _ _ cH (by simp) (fun x hx=>by simp at hx;rcases hx with rfl|rfl;exact(by show m<=_;omega);exact(by show s.length<=_;omega)));have HV:=hd0 hv;have HK:Hid (af w (w.alloc (.cells #[.iface 3 (.int .i64 (m:Int)),.iface 9 (.string ⟨s.toArray⟩)] 20))):=hd0 ((ah.refl _ w).alloc _);clear cH hv h1 h2 h3;go_enter func9,ntmps9;go_wp2_with fail;refine LA.out.mono ?_;rintro e w2 ⟨rfl,k2⟩;have bu:=hd0 (HK.out.keep k2);clear k2 LA;go_wp2;go_ret2;exact⟨by rw[HV.out];simp[el,Pc.bytes],bu.out⟩
 ·have hv:Ik n s=.tuple #[.string ⟨#[]⟩,.int .i64 190]:=atR cC;have HV:=hd0 hv;have ZJ:(s.length:Int)<=140737488351232:=by omega
  unfold Ac at cC;by_cases q1:n<1
  ·clear cC hv;go_enter func9,ntmps9;go_wp2;go_ret2;exact⟨by rw[HV.out];rfl,ah.refl _ _⟩
  ·by_cases q2:(4095:Int)<n
   ·clear cC hv;go_enter func9,ntmps9;go_wp2;go_ret2;exact⟨by rw[HV.out];rfl,ah.refl _ _⟩
   ·have q3:(240:Int)<(s.length:Int):=by omega
    clear cC hv;go_enter func9,ntmps9;go_wp2;go_ret2;exact⟨by rw[HV.out];rfl,ah.refl _ _⟩
end
end Go.Proofs.YtkghpdcloaiflaaGreatDoor
