import Derived.Test.YtkghpdcloaiflaaGreatDoorD39
set_option maxHeartbeats 4000000
set_option maxRecDepth 100000
namespace Go.Proofs.YtkghpdcloaiflaaGreatDoor
open _root_.Go.Proofs.Tryz
section
open Go.RowKit
attribute [local go_sem] auG
structure Hd where
 id:Int
 base:Int
 name:ay
 table:fQ
 count:Int
 drop:ay
def jI (v:Vs)(base target:ay):Except Int (Hd×List Nat):=match bR v base target with
 | .error e=>.error e
 | .ok (ne,drop)=>
  if((aP v.b.list target).getD eS).id<=((aP v.b.list base).getD eS).id then .error 190 else
   .ok (⟨((aP v.b.list target).getD eS).id,((aP v.b.list base).getD eS).id,((aP v.b.list target).getD eS).name,((aP v.b.list target).getD eS).table,((cq ne).length:Int),drop⟩,cq ne)
structure rg (w:World)(base q p:Nat)(h:Hd)(l:List Nat)(lv:Value):Prop where
 own:World.blk w q #[aq p,.int .i64 h.id,.int .i64 h.base,.string ⟨h.name.toArray⟩,.int .i64 h.table.root,.int .i64 h.table.size,.int .i64 h.count,.string ⟨h.drop.toArray⟩,lv] 88
 row:aI w base lv (eU l)
 new:base<=q
theorem rg.keep {w w':World}{base q p:Nat}{h:Hd}{l:List Nat}{lv:Value}(a:rg w base q p h l lv)(k:af w w'):rg w' base q p h l lv:=⟨ab k a.own id,aA a.row fun g hg=>k.block g (aU a.row hg) id,a.new⟩
def mr (w:World)(v:Vs)(p:Nat)(base target:ay)(e:Ending)(w':World):Prop:=
 af w w'/\match jI v base target with
  | .error x=>e=.returned (.tuple #[.pointer none,.int .i64 x])
  | .ok (hd,l)=>∃ q lv,e=.returned (.tuple #[aq q,.int .i64 0])/\rg w' w.heap.size q p hd l lv
theorem mr.err {w w':World}{v:Vs}{p:Nat}{base target:ay}{x:Int}(h:jI v base target=.error x)(k:af w w'):mr w v p base target (.returned (.tuple #[.pointer none,.int .i64 x])) w':=by
 unfold mr;rw[h];exact⟨k,rfl⟩
theorem mr.new {w w':World}{v:Vs}{p:Nat}{base target:ay}{hd:Hd}{l:List Nat}{q:Nat}{lv:Value}(h:jI v base target=.ok (hd,l))(k:af w w')(ha:rg w' w.heap.size q p hd l lv):mr w v p base target (.returned (.tuple #[aq q,.int .i64 0])) w':=by
 unfold mr;rw[h];exact⟨k,q,lv,rfl,ha⟩
theorem Au {w:World}{p:Nat}{v:Vs}{a:eV}(h:lp w p v a)(hl:v.b.list.length<=1000)(hp:∀ x∈v.b.list,1<=x.plane/\x.plane<=7)(hs:∀ x y,x∈v.b.list->y∈v.b.list->(dh v x).length<=600/\(bZ (dh v x) (dh v y)).length<=600)(base target:ay)(hb:base.length<=140737488355328)(ht:target.length<=140737488355328):
  Calls prog 15 #[aq p,aB base,aB target] w (mr w v p base target):=by
 have DI:=hd0 (At h hl hp base target hb ht);have H:=hd0 h;have HL:=hd0 hl;have Ym:∀ s d,bR v base target=.ok (s,d)->s.length<=600:=by
  intro s d he;unfold bR at he;split at he
  ·cases he
  ·cases hx:aP v.b.list target with
   |none=>rw[hx]at he;cases he
   |some x=>
    rw[hx]at he;simp only at he;split at he
    ·injection he with he;injection he with he _;subst he;exact(hs x x (dQ hx) (dQ hx)).1
    ·cases hy:aP v.b.list base with
     |none=>rw[hy]at he;cases he
     |some y=>
      rw[hy]at he;injection he with he;injection he with he _;subst he;exact(hs x y (dQ hx) (dQ hy)).2
 have HSH:=hd0 Ym;have HPX:Hid (jI v base target=match bR v base target with
  | .error e=>.error e
  | .ok (ne,drop)=>
   if((aP v.b.list target).getD eS).id<=((aP v.b.list base).getD eS).id then .error 190 else
    .ok (⟨((aP v.b.list target).getD eS).id,((aP v.b.list base).getD eS).id,((aP v.b.list target).getD eS).name,((aP v.b.list target).getD eS).table,((cq ne).length:Int),drop⟩,cq ne)):=hd0 rfl
 have NX:=hd0 (fun W (k:af w W)=>re (h.keep k) hl target);have NY:=hd0 (fun W (k:af w W)=>re (h.keep k) hl base);clear h hl hp hs hb ht Ym;go_enter func15,ntmps15;go_wp2_with fail;refine DI.out.mono ?_;rintro e w1 ⟨rfl,k1⟩;have bS:=hd0 k1;clear k1 DI
 cases hd:bR v base target with
 |error x=>
  have HM:Hid (jI v base target=.error x):=hd0 (by rw[HPX.out,hd]);have sP:(x==0)=false:=by
   unfold bR at hd;split at hd
   ·injection hd with hd;subst hd;rfl
   ·split at hd
    ·injection hd with hd;subst hd;rfl
    ·split at hd
     ·cases hd
     ·split at hd
      ·injection hd with hd;subst hd;rfl
      ·cases hd
  clear hd;unfold Ka;simp only;go_wp2;go_ret2;exact mr.err HM.out bS.out
 |ok sd=>
  obtain⟨ne,drop⟩:=sd;have HSL:=hd0 (HSH.out ne drop hd);have HM:Hid (jI v base target=if((aP v.b.list target).getD eS).id<=((aP v.b.list base).getD eS).id then .error 190 else
    .ok (⟨((aP v.b.list target).getD eS).id,((aP v.b.list base).getD eS).id,((aP v.b.list target).getD eS).name,((aP v.b.list target).getD eS).table,((cq ne).length:Int),drop⟩,cq ne)):=hd0 (by rw[HPX.out,hd])
  clear hd;unfold Ka;simp only;generalize (aP v.b.list target).getD eS=x at*;generalize (aP v.b.list base).getD eS=y at*;go_wp2_with fail;refine(NX.out _ bS.out).mono ?_;rintro e w2 ⟨rfl,k2⟩;have bw:=hd0 (bS.out.keep k2);clear k2;go_wp2_with fail;refine(NY.out _ bw.out).mono ?_;rintro e w3 ⟨rfl,k3⟩;have dJ:=hd0 (bw.out.keep k3);clear k3 bS bw;unfold Bt;by_cases hq:x.id<=y.id
  ·have oD:Hid (jI v base target=.error 190):=hd0 (by rw[HM.out,auT hq]);go_wp2;go_ret2;exact mr.err oD.out (by first|exact dJ.out|exact dJ.out.alloc _|exact(dJ.out.alloc _).alloc _)
  ·have oD:=HM.out;rw[auV hq]at oD;have oD:=hd0 oD;clear HM;obtain⟨xb,yw⟩:∃ xb,w3.heap.size=xb:=⟨_,rfl⟩
   have ka:af w3 ((w3.alloc (.cells #[.string ⟨x.name.toArray⟩,.int .i64 x.id,.int .i64 x.plane,.int .i64 x.table.root,.int .i64 x.table.size] 85)).alloc (.cells #[.string ⟨y.name.toArray⟩,.int .i64 y.id,.int .i64 y.plane,.int .i64 y.table.root,.int .i64 y.table.size] 85)):=((ah.refl _ w3).alloc _).alloc _;have hX:World.blk ((w3.alloc (.cells #[.string ⟨x.name.toArray⟩,.int .i64 x.id,.int .i64 x.plane,.int .i64 x.table.root,.int .i64 x.table.size] 85)).alloc (.cells #[.string ⟨y.name.toArray⟩,.int .i64 y.id,.int .i64 y.plane,.int .i64 y.table.root,.int .i64 y.table.size] 85)) xb #[.string ⟨x.name.toArray⟩,.int .i64 x.id,.int .i64 x.plane,.int .i64 x.table.root,.int .i64 x.table.size] 85:=by rw[<-yw];exact aH (aw _ _ _) _
   have hY:World.blk ((w3.alloc (.cells #[.string ⟨x.name.toArray⟩,.int .i64 x.id,.int .i64 x.plane,.int .i64 x.table.root,.int .i64 x.table.size] 85)).alloc (.cells #[.string ⟨y.name.toArray⟩,.int .i64 y.id,.int .i64 y.plane,.int .i64 y.table.root,.int .i64 y.table.size] 85)) (xb+1) #[.string ⟨y.name.toArray⟩,.int .i64 y.id,.int .i64 y.plane,.int .i64 y.table.root,.int .i64 y.table.size] 85:=by rw[<-yw];exact bi (by simp) _ _
   have SL:=hd0 (zM ne (by have:=HSL.out;omega) ((w3.alloc (.cells #[.string ⟨x.name.toArray⟩,.int .i64 x.id,.int .i64 x.plane,.int .i64 x.table.root,.int .i64 x.table.size] 85)).alloc (.cells #[.string ⟨y.name.toArray⟩,.int .i64 y.id,.int .i64 y.plane,.int .i64 y.table.root,.int .i64 y.table.size] 85)));have HKA:=hd0 (dJ.out.keep ka);have HX:=hd0 hX;have HY:=hd0 hY;clear ka hX hY;go_wp2_with fail;refine SL.out.mono ?_;rintro e w4 ⟨lv,rfl,ho,_,k4⟩;obtain⟨la,cap,rfl,_⟩:=aY ho;have uE:(ba (eU (cq ne))).length=(cq ne).length:=by simp[ba,eU]
   rw[uE]at ho ⊢;have HO:=hd0 ho;have lZ:=hd0 (HKA.out.keep k4);have Yc:=ab k4 HX.out id;have hy4:=ab k4 HY.out id;have c0:w4.cell? ⟨xb,0,none⟩=some (.string ⟨x.name.toArray⟩):=aa Yc 0;have c1:w4.cell? ⟨xb,1,none⟩=some (.int .i64 x.id):=aa Yc 1;have c3:w4.cell? ⟨xb,3,none⟩=some (.int .i64 x.table.root):=aa Yc 3;have c4:w4.cell? ⟨xb,4,none⟩=some (.int .i64 x.table.size):=aa Yc 4;have d1:w4.cell? ⟨xb+1,1,none⟩=some (.int .i64 y.id):=aa hy4 1;have cJ:w.heap.size<=w4.heap.size:=lZ.out.size;have Cd:=hd0 (And.intro cJ (show w.heap.size<=((w3.alloc (.cells #[.string ⟨x.name.toArray⟩,.int .i64 x.id,.int .i64 x.plane,.int .i64 x.table.root,.int .i64 x.table.size] 85)).alloc (.cells #[.string ⟨y.name.toArray⟩,.int .i64 y.id,.int .i64 y.plane,.int .i64 y.table.root,.int .i64 y.table.size] 85)).heap.size from HKA.out.size))
   try rw[yw]
   clear ho k4 Yc hy4 uE SL yw cJ;go_wp2;go_ret2;have kb:af w4 (w4.alloc (.cells #[aq p,.int .i64 x.id,.int .i64 y.id,.string ⟨x.name.toArray⟩,.int .i64 x.table.root,.int .i64 x.table.size,.int .i64 ((cq ne).length:Int),.string ⟨drop.toArray⟩,.slice la (cq ne).length cap] 88)):=(ah.refl _ w4).alloc _;exact mr.new oD.out (lZ.out.keep kb) ⟨aw _ _ _,aA (eX HO.out Cd.out.2) (fun g hg=>kb.block g (aU HO.out hg) id),Cd.out.1⟩
end
section
open Go.RowKit
attribute [local go_sem] auG
inductive Pc where
 |num (n:Nat)
 |text (s:ay)
def Pc.val:Pc->Value
 | .num n=>.iface 3 (.int .i64 (n:Int))
 | .text s=>.iface 9 (.string ⟨s.toArray⟩)
def Pc.bytes:Pc->ay
 | .num n=>aM n
 | .text s=>aM s.length++s
def Pc.ok:Pc->Prop
 | .num n=>n<=4611686018427387903
 | .text s=>s.length<=65536
theorem Rr {x:Pc}(h:x.ok):x.bytes.length<=70000:=by
 cases x with
 |num n=>have:=bf (n:=n) (by have:n<=4611686018427387903:=h;omega);show(aM n).length<=_;omega
 |text s=>
  have h':s.length<=65536:=h;have:=bf (n:=s.length) (by omega);show(aM s.length++s).length<=_;rw[au3];omega
theorem Rs (l:List Pc)(h:∀ x∈l,x.bytes.length<=70000):(l.flatMap Pc.bytes).length<=70000*l.length:=by
 induction l with
 |nil=>simp
 |cons x r ih=>
  have h1:=h x (by simp);have h2:=ih fun y hy=>h y (by simp[hy]);simp only[avs,au3,auL];omega
theorem Zi (v:Value)(W:World):(Instr.typeAssert (.iface 3 v) 20 3 true).run prog W=.ok (.tuple #[v,.bool true]) W:=by kernel_rfl
theorem Zj (v:Value)(W:World):(Instr.typeAssert (.iface 9 v) 20 3 true).run prog W=.ok (.tuple #[.int .i64 0,.bool false]) W:=by kernel_rfl
theorem Zk (v:Value)(W:World):(Instr.typeAssert (.iface 9 v) 20 9 true).run prog W=.ok (.tuple #[v,.bool true]) W:=by kernel_rfl
theorem Na (l:List Pc)(v:Value)(w:World)(h:eI w v (l.map Pc.val))(hl:l.length<=100)(cg:∀ x∈l,x.ok):
  Calls prog 35 #[v] w fun e w'=>e=.returned (aB (l.flatMap Pc.bytes))/\af w w':=by
 obtain⟨a,cap,rfl,hx⟩:=h;rw[avf];have HX:=hd0 hx;have FT:=hd0 cg;have Cx:(l.length:Int)<=100:=by omega
 have ha1:=Zi;have ha2:=Zj;have ha3:=Zk;clear hx cg;go_enter func35,ntmps35;go_wp2_with fail
 go_loopw [3,11] (fun s i wr=>∃ k:Nat,k<=l.length/\i=.int .i64 (k:Int)/\s=aB ((l.take k).flatMap Pc.bytes)/\Hid (af w wr)) (fun _ i _=>l.length-(intOf i).toNat)
 case atStart=>exact⟨0,by omega,rfl,rfl,hd0 (ah.refl _ _)⟩
 case round=>
  obtain⟨k,hk,rfl,rfl,HK⟩:=hrel;by_cases aK:k<l.length
  ·have dR:(k:Int)<(l.length:Int):=by omega
   obtain⟨x,hx⟩:∃ x,l[k]?=some x:=⟨_,auM aK⟩
   obtain⟨b,o,rfl,hc⟩:=HX.out k x.val (by rw[avM,hx];rfl);have c0:wr.cell? ⟨b,o+k,none⟩=some x.val:=by rw[HK.out.cell (p:=⟨b,o+k,none⟩) (am hc) id];exact hc
   have hxo:=FT.out x (auN hx);have Tw:(l.take (k+1)).flatMap Pc.bytes=(l.take k).flatMap Pc.bytes++x.bytes:=by rw[auO,hx];simp
   have HT:=hd0 Tw;have OS:=Rs (l.take k) (fun y hy=>Rr (FT.out y (auR hy)));have akB:(l.take k).length<=100:=by rw[auS];omega
   have hac:((l.take k).flatMap Pc.bytes).length<=7000000:=by omega
   have rt:=Rr hxo;clear Tw hx hc OS akB;generalize (l.take k).flatMap Pc.bytes=j3 at*
   cases x with
   |num n=>
    have eL:(aM n).length<=70000:=rt;have sN:¬ 9223372036854775807<j3.length+(aM n).length:=by omega
    clear rt;have NU:=hd0 (lU n wr hxo);unfold Pc.val at c0;simp only at c0;go_wp2_with fail;refine NU.out.mono ?_;rintro e w2 ⟨rfl,k2⟩;have bw:=hd0 (HK.out.keep k2);clear k2 NU;go_wp2_with fail;exact⟨⟨k+1,by omega,by go_num,by rw[HT.out];simp[Pc.bytes],bw⟩,by simp[intOf];omega⟩
   |text s=>
    have eL:(aM s.length++s).length<=70000:=rt;rw[au3]at eL;have sN:¬ 9223372036854775807<j3.length+((aM s.length).length+s.length):=by omega
    clear rt;have NU:=hd0 (tu s wr hxo);unfold Pc.val at c0;simp only at c0;go_wp2_with fail;refine NU.out.mono ?_;rintro e w2 ⟨rfl,k2⟩;have bw:=hd0 (HK.out.keep k2);clear k2 NU;go_wp2_with fail;exact⟨⟨k+1,by omega,by go_num,by rw[HT.out];simp[Pc.bytes],bw⟩,by simp[intOf];omega⟩
  ·obtain rfl:k=l.length:=by omega
   rw[auQ];go_wp2;go_ret;exact⟨rfl,HK.out⟩
def uz (n:Int)(s:ay):Prop:=1<=n/\n<=4095/\s.length<=240
instance (n:Int)(s:ay):Decidable (uz n s):=by unfold uz;exact inferInstance
def cX (n:Int)(s:ay):ay:=aM n.toNat++(aM s.length++s)
def xX (n:Int)(s:ay):Value:=if uz n s then .tuple #[aB (cX n s),.int .i64 0]else .tuple #[.string ⟨#[]⟩,.int .i64 190]
theorem xY (n:Int)(s:ay)(w:World)(hs:s.length<=140737488351232):
  Calls prog 9 #[.int .i64 n,aB s] w fun e w'=>e=.returned (xX n s)/\af w w':=by
 by_cases cg:uz n s
 ·have hv:xX n s=.tuple #[aB (cX n s),.int .i64 0]:=auT cg;obtain⟨h1,h2,h3⟩:=cg;have q1:¬ n<1:=by omega
  have q2:¬(4095:Int)<n:=by omega
  have q3:¬(240:Int)<(s.length:Int):=by omega
  obtain⟨m,rfl⟩:∃ m:Nat,n=(m:Int):=⟨n.toNat,by omega⟩
  have co:eI (w.alloc (.cells #[.iface 3 (.int .i64 (m:Int)),.iface 9 (.string ⟨s.toArray⟩)] 20)) (.slice (some ⟨w.heap.size,0,none⟩) 2 2) ([Pc.num m,Pc.text s].map Pc.val):=by
   refine⟨_,_,rfl,fun k x hx=>⟨w.heap.size,0,rfl,?_⟩⟩;have hb:=aw w #[.iface 3 (.int .i64 (m:Int)),.iface 9 (.string ⟨s.toArray⟩)] 20;rw[avy,aa hb k];rcases k with _|_|k
   ·exact hx
   ·exact hx
   ·simp at hx
  have LA:=hd0 (Na _ _ _ co (by simp) (fun x hx=>by simp at hx;rcases hx with rfl|rfl;exact(by show m<=_;omega);exact(by show s.length<=_;omega)));have HV:=hd0 hv;have HK:Hid (af w (w.alloc (.cells #[.iface 3 (.int .i64 (m:Int)),.iface 9 (.string ⟨s.toArray⟩)] 20))):=hd0 ((ah.refl _ w).alloc _);clear co hv h1 h2 h3;go_enter func9,ntmps9;go_wp2_with fail;refine LA.out.mono ?_;rintro e w2 ⟨rfl,k2⟩;have bw:=hd0 (HK.out.keep k2);clear k2 LA;go_wp2;go_ret2;exact⟨by rw[HV.out];simp[cX,Pc.bytes],bw.out⟩
 ·have hv:xX n s=.tuple #[.string ⟨#[]⟩,.int .i64 190]:=auV cg;have HV:=hd0 hv;have Wb:(s.length:Int)<=140737488351232:=by omega
  unfold uz at cg;by_cases q1:n<1
  ·clear cg hv;go_enter func9,ntmps9;go_wp2;go_ret2;exact⟨by rw[HV.out];rfl,ah.refl _ _⟩
  ·by_cases q2:(4095:Int)<n
   ·clear cg hv;go_enter func9,ntmps9;go_wp2;go_ret2;exact⟨by rw[HV.out];rfl,ah.refl _ _⟩
   ·have q3:(240:Int)<(s.length:Int):=by omega
    clear cg hv;go_enter func9,ntmps9;go_wp2;go_ret2;exact⟨by rw[HV.out];rfl,ah.refl _ _⟩
end
end Go.Proofs.YtkghpdcloaiflaaGreatDoor
