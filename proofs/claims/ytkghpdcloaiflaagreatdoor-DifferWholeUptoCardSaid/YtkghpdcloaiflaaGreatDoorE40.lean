import Derived.Test.YtkghpdcloaiflaaGreatDoorE39
set_option maxHeartbeats 4000000
set_option maxRecDepth 100000
namespace Go.Proofs.YtkghpdcloaiflaaGreatDoor
open _root_.Go.Proofs.Tryz
section
open Go.RowKit
attribute [local go_sem] auv
structure Hd where
 id:Int
 base:Int
 name:az
 table:fP
 count:Int
 drop:az
def iS (v:Vs)(base target:az):Except Int (Hd×List Nat):=match cX v base target with
 | .error e=>.error e
 | .ok (mX,drop)=>
  if((aK v.b.list target).getD dY).id<=((aK v.b.list base).getD dY).id then .error 190 else
   .ok (⟨((aK v.b.list target).getD dY).id,((aK v.b.list base).getD dY).id,((aK v.b.list target).getD dY).name,((aK v.b.list target).getD dY).table,((cy mX).length:Int),drop⟩,cy mX)
structure rh (w:World)(base q p:Nat)(h:Hd)(l:List Nat)(lv:Value):Prop where
 own:World.blk w q #[aq p,.int .i64 h.id,.int .i64 h.base,.string ⟨h.name.toArray⟩,.int .i64 h.table.root,.int .i64 h.table.size,.int .i64 h.count,.string ⟨h.drop.toArray⟩,lv] 88
 row:aN w base lv (gy l)
 new:base<=q
theorem rh.keep {w w':World}{base q p:Nat}{h:Hd}{l:List Nat}{lv:Value}(a:rh w base q p h l lv)(k:af w w'):rh w' base q p h l lv:=⟨ab k a.own id,aA a.row fun g hg=>k.block g (aT a.row hg) id,a.new⟩
def mr (w:World)(v:Vs)(p:Nat)(base target:az)(e:Ending)(w':World):Prop:=
 af w w'/\match iS v base target with
  | .error x=>e=.returned (.tuple #[.pointer none,.int .i64 x])
  | .ok (hd,l)=>∃ q lv,e=.returned (.tuple #[aq q,.int .i64 0])/\rh w' w.heap.size q p hd l lv
theorem mr.err {w w':World}{v:Vs}{p:Nat}{base target:az}{x:Int}(h:iS v base target=.error x)(k:af w w'):mr w v p base target (.returned (.tuple #[.pointer none,.int .i64 x])) w':=by
 unfold mr;rw[h];exact⟨k,rfl⟩
theorem mr.new {w w':World}{v:Vs}{p:Nat}{base target:az}{hd:Hd}{l:List Nat}{q:Nat}{lv:Value}(h:iS v base target=.ok (hd,l))(k:af w w')(ha:rh w' w.heap.size q p hd l lv):mr w v p base target (.returned (.tuple #[aq q,.int .i64 0])) w':=by
 unfold mr;rw[h];exact⟨k,q,lv,rfl,ha⟩
theorem As {w:World}{p:Nat}{v:Vs}{a:eF}(h:kg w p v a)(hl:v.b.list.length<=1000)(hp:∀ x∈v.b.list,1<=x.plane/\x.plane<=7)(hs:∀ x y,x∈v.b.list->y∈v.b.list->(co v x).length<=600/\(bQ (co v x) (co v y)).length<=600)(base target:az)(hb:base.length<=140737488355328)(ht:target.length<=140737488355328):
  Calls prog 15 #[aq p,aC base,aC target] w (mr w v p base target):=by
 have DI:=hd0 (Nc h hl hp base target hb ht);have H:=hd0 h;have HL:=hd0 hl;have Xr:∀ s d,cX v base target=.ok (s,d)->s.length<=600:=by
  intro s d he;unfold cX at he;split at he
  ·cases he
  ·cases hx:aK v.b.list target with
   |none=>rw[hx]at he;cases he
   |some x=>
    rw[hx]at he;simp only at he;split at he
    ·injection he with he;injection he with he _;subst he;exact(hs x x (da hx) (da hx)).1
    ·cases hy:aK v.b.list base with
     |none=>rw[hy]at he;cases he
     |some y=>
      rw[hy]at he;injection he with he;injection he with he _;subst he;exact(hs x y (da hx) (da hy)).2
 have HSH:=hd0 Xr;have HPX:Hid (iS v base target=match cX v base target with
  | .error e=>.error e
  | .ok (mX,drop)=>
   if((aK v.b.list target).getD dY).id<=((aK v.b.list base).getD dY).id then .error 190 else
    .ok (⟨((aK v.b.list target).getD dY).id,((aK v.b.list base).getD dY).id,((aK v.b.list target).getD dY).name,((aK v.b.list target).getD dY).table,((cy mX).length:Int),drop⟩,cy mX)):=hd0 rfl
 have NX:=hd0 (fun W (k:af w W)=>nP (h.keep k) hl target);have NY:=hd0 (fun W (k:af w W)=>nP (h.keep k) hl base);clear h hl hp hs hb ht Xr;go_enter func15,ntmps15;go_wp2_with fail;refine DI.out.mono ?_;rintro e w1 ⟨rfl,k1⟩;have bU:=hd0 k1;clear k1 DI
 cases hd:cX v base target with
 |error x=>
  have HM:Hid (iS v base target=.error x):=hd0 (by rw[HPX.out,hd]);have sX:(x==0)=false:=by
   unfold cX at hd;split at hd
   ·injection hd with hd;subst hd;rfl
   ·split at hd
    ·injection hd with hd;subst hd;rfl
    ·split at hd
     ·cases hd
     ·split at hd
      ·injection hd with hd;subst hd;rfl
      ·cases hd
  clear hd;unfold Rn;simp only;go_wp2;go_ret2;exact mr.err HM.out bU.out
 |ok sd=>
  obtain⟨mX,drop⟩:=sd;have HSL:=hd0 (HSH.out mX drop hd);have HM:Hid (iS v base target=if((aK v.b.list target).getD dY).id<=((aK v.b.list base).getD dY).id then .error 190 else
    .ok (⟨((aK v.b.list target).getD dY).id,((aK v.b.list base).getD dY).id,((aK v.b.list target).getD dY).name,((aK v.b.list target).getD dY).table,((cy mX).length:Int),drop⟩,cy mX)):=hd0 (by rw[HPX.out,hd])
  clear hd;unfold Rn;simp only;generalize (aK v.b.list target).getD dY=x at*;generalize (aK v.b.list base).getD dY=y at*;go_wp2_with fail;refine(NX.out _ bU.out).mono ?_;rintro e w2 ⟨rfl,k2⟩;have bu:=hd0 (bU.out.keep k2);clear k2;go_wp2_with fail;refine(NY.out _ bu.out).mono ?_;rintro e w3 ⟨rfl,k3⟩;have dZ:=hd0 (bu.out.keep k3);clear k3 bU bu;unfold Bp;by_cases hq:x.id<=y.id
  ·have oF:Hid (iS v base target=.error 190):=hd0 (by rw[HM.out,auI hq]);go_wp2;go_ret2;exact mr.err oF.out (by first|exact dZ.out|exact dZ.out.alloc _|exact(dZ.out.alloc _).alloc _)
  ·have oF:=HM.out;rw[auK hq]at oF;have oF:=hd0 oF;clear HM;obtain⟨xb,yA⟩:∃ xb,w3.heap.size=xb:=⟨_,rfl⟩
   have ka:af w3 ((w3.alloc (.cells #[.string ⟨x.name.toArray⟩,.int .i64 x.id,.int .i64 x.plane,.int .i64 x.table.root,.int .i64 x.table.size] 85)).alloc (.cells #[.string ⟨y.name.toArray⟩,.int .i64 y.id,.int .i64 y.plane,.int .i64 y.table.root,.int .i64 y.table.size] 85)):=((ah.refl _ w3).alloc _).alloc _;have hX:World.blk ((w3.alloc (.cells #[.string ⟨x.name.toArray⟩,.int .i64 x.id,.int .i64 x.plane,.int .i64 x.table.root,.int .i64 x.table.size] 85)).alloc (.cells #[.string ⟨y.name.toArray⟩,.int .i64 y.id,.int .i64 y.plane,.int .i64 y.table.root,.int .i64 y.table.size] 85)) xb #[.string ⟨x.name.toArray⟩,.int .i64 x.id,.int .i64 x.plane,.int .i64 x.table.root,.int .i64 x.table.size] 85:=by rw[<-yA];exact aH (aw _ _ _) _
   have hY:World.blk ((w3.alloc (.cells #[.string ⟨x.name.toArray⟩,.int .i64 x.id,.int .i64 x.plane,.int .i64 x.table.root,.int .i64 x.table.size] 85)).alloc (.cells #[.string ⟨y.name.toArray⟩,.int .i64 y.id,.int .i64 y.plane,.int .i64 y.table.root,.int .i64 y.table.size] 85)) (xb+1) #[.string ⟨y.name.toArray⟩,.int .i64 y.id,.int .i64 y.plane,.int .i64 y.table.root,.int .i64 y.table.size] 85:=by rw[<-yA];exact ba (by simp) _ _
   have SL:=hd0 (zL mX (by have:=HSL.out;omega) ((w3.alloc (.cells #[.string ⟨x.name.toArray⟩,.int .i64 x.id,.int .i64 x.plane,.int .i64 x.table.root,.int .i64 x.table.size] 85)).alloc (.cells #[.string ⟨y.name.toArray⟩,.int .i64 y.id,.int .i64 y.plane,.int .i64 y.table.root,.int .i64 y.table.size] 85)));have HKA:=hd0 (dZ.out.keep ka);have HX:=hd0 hX;have HY:=hd0 hY;clear ka hX hY;go_wp2_with fail;refine SL.out.mono ?_;rintro e w4 ⟨lv,rfl,ho,_,k4⟩;obtain⟨la,cap,rfl,_⟩:=bd ho;have tX:(bo (gy (cy mX))).length=(cy mX).length:=by simp[bo,gy]
   rw[tX]at ho ⊢;have HO:=hd0 ho;have ou:=hd0 (HKA.out.keep k4);have XD:=ab k4 HX.out id;have hy4:=ab k4 HY.out id;have c0:w4.cell? ⟨xb,0,none⟩=some (.string ⟨x.name.toArray⟩):=aa XD 0;have c1:w4.cell? ⟨xb,1,none⟩=some (.int .i64 x.id):=aa XD 1;have c3:w4.cell? ⟨xb,3,none⟩=some (.int .i64 x.table.root):=aa XD 3;have c4:w4.cell? ⟨xb,4,none⟩=some (.int .i64 x.table.size):=aa XD 4;have d1:w4.cell? ⟨xb+1,1,none⟩=some (.int .i64 y.id):=aa hy4 1;have cK:w.heap.size<=w4.heap.size:=ou.out.size;have Fh:=hd0 (And.intro cK (show w.heap.size<=((w3.alloc (.cells #[.string ⟨x.name.toArray⟩,.int .i64 x.id,.int .i64 x.plane,.int .i64 x.table.root,.int .i64 x.table.size] 85)).alloc (.cells #[.string ⟨y.name.toArray⟩,.int .i64 y.id,.int .i64 y.plane,.int .i64 y.table.root,.int .i64 y.table.size] 85)).heap.size from HKA.out.size))
   try rw[yA]
   clear ho k4 XD hy4 tX SL yA cK;go_wp2;go_ret2;have kb:af w4 (w4.alloc (.cells #[aq p,.int .i64 x.id,.int .i64 y.id,.string ⟨x.name.toArray⟩,.int .i64 x.table.root,.int .i64 x.table.size,.int .i64 ((cy mX).length:Int),.string ⟨drop.toArray⟩,.slice la (cy mX).length cap] 88)):=(ah.refl _ w4).alloc _;exact mr.new oF.out (ou.out.keep kb) ⟨aw _ _ _,aA (eX HO.out Fh.out.2) (fun g hg=>kb.block g (aT HO.out hg) id),Fh.out.1⟩
end
section
open Go.RowKit
attribute [local go_sem] auv
inductive Pc where
 |num (n:Nat)
 |text (s:az)
def Pc.val:Pc->Value
 | .num n=>.iface 3 (.int .i64 (n:Int))
 | .text s=>.iface 9 (.string ⟨s.toArray⟩)
def Pc.bytes:Pc->az
 | .num n=>aP n
 | .text s=>aP s.length++s
def Pc.ok:Pc->Prop
 | .num n=>n<=4611686018427387903
 | .text s=>s.length<=65536
theorem Ro {x:Pc}(h:x.ok):x.bytes.length<=70000:=by
 cases x with
 |num n=>have:=bI (n:=n) (by have:n<=4611686018427387903:=h;omega);show(aP n).length<=_;omega
 |text s=>
  have h':s.length<=65536:=h;have:=bI (n:=s.length) (by omega);show(aP s.length++s).length<=_;rw[auS];omega
theorem Rp (l:List Pc)(h:∀ x∈l,x.bytes.length<=70000):(l.flatMap Pc.bytes).length<=70000*l.length:=by
 induction l with
 |nil=>simp
 |cons x r ih=>
  have h1:=h x (by simp);have h2:=ih fun y hy=>h y (by simp[hy]);simp only[avg,auS,auA];omega
theorem Y3 (v:Value)(W:World):(Instr.typeAssert (.iface 3 v) 20 3 true).run prog W=.ok (.tuple #[v,.bool true]) W:=by kernel_rfl
theorem Y4 (v:Value)(W:World):(Instr.typeAssert (.iface 9 v) 20 3 true).run prog W=.ok (.tuple #[.int .i64 0,.bool false]) W:=by kernel_rfl
theorem Y5 (v:Value)(W:World):(Instr.typeAssert (.iface 9 v) 20 9 true).run prog W=.ok (.tuple #[v,.bool true]) W:=by kernel_rfl
theorem Nf (l:List Pc)(v:Value)(w:World)(h:eJ w v (l.map Pc.val))(hl:l.length<=100)(cq:∀ x∈l,x.ok):
  Calls prog 35 #[v] w fun e w'=>e=.returned (aC (l.flatMap Pc.bytes))/\af w w':=by
 obtain⟨a,cap,rfl,hx⟩:=h;rw[au4];have HX:=hd0 hx;have FJ:=hd0 cq;have E9:(l.length:Int)<=100:=by omega
 have ha1:=Y3;have ha2:=Y4;have ha3:=Y5;clear hx cq;go_enter func35,ntmps35;go_wp2_with fail
 go_loopw [3,11] (fun s i wr=>∃ k:Nat,k<=l.length/\i=.int .i64 (k:Int)/\s=aC ((l.take k).flatMap Pc.bytes)/\Hid (af w wr)) (fun _ i _=>l.length-(intOf i).toNat)
 case atStart=>exact⟨0,by omega,rfl,rfl,hd0 (ah.refl _ _)⟩
 case round=>
  obtain⟨k,hk,rfl,rfl,HK⟩:=hrel;by_cases aL:k<l.length
  ·have dN:(k:Int)<(l.length:Int):=by omega
   obtain⟨x,hx⟩:∃ x,l[k]?=some x:=⟨_,auB aL⟩
   obtain⟨b,o,rfl,hc⟩:=HX.out k x.val (by rw[avB,hx];rfl);have c0:wr.cell? ⟨b,o+k,none⟩=some x.val:=by rw[HK.out.cell (p:=⟨b,o+k,none⟩) (ak hc) id];exact hc
   have hxo:=FJ.out x (auC hx);have Yu:(l.take (k+1)).flatMap Pc.bytes=(l.take k).flatMap Pc.bytes++x.bytes:=by rw[auD,hx];simp
   have HT:=hd0 Yu;have OO:=Rp (l.take k) (fun y hy=>Ro (FJ.out y (auG hy)));have ajt:(l.take k).length<=100:=by rw[auH];omega
   have hac:((l.take k).flatMap Pc.bytes).length<=7000000:=by omega
   have rp:=Ro hxo;clear Yu hx hc OO ajt;generalize (l.take k).flatMap Pc.bytes=kn at*
   cases x with
   |num n=>
    have fi:(aP n).length<=70000:=rp;have uR:¬ 9223372036854775807<kn.length+(aP n).length:=by omega
    clear rp;have NU:=hd0 (lU n wr hxo);unfold Pc.val at c0;simp only at c0;go_wp2_with fail;refine NU.out.mono ?_;rintro e w2 ⟨rfl,k2⟩;have bu:=hd0 (HK.out.keep k2);clear k2 NU;go_wp2_with fail;exact⟨⟨k+1,by omega,by go_num,by rw[HT.out];simp[Pc.bytes],bu⟩,by simp[intOf];omega⟩
   |text s=>
    have fi:(aP s.length++s).length<=70000:=rp;rw[auS]at fi;have uR:¬ 9223372036854775807<kn.length+((aP s.length).length+s.length):=by omega
    clear rp;have NU:=hd0 (tE s wr hxo);unfold Pc.val at c0;simp only at c0;go_wp2_with fail;refine NU.out.mono ?_;rintro e w2 ⟨rfl,k2⟩;have bu:=hd0 (HK.out.keep k2);clear k2 NU;go_wp2_with fail;exact⟨⟨k+1,by omega,by go_num,by rw[HT.out];simp[Pc.bytes],bu⟩,by simp[intOf];omega⟩
  ·obtain rfl:k=l.length:=by omega
   rw[auF];go_wp2;go_ret;exact⟨rfl,HK.out⟩
def At (n:Int)(s:az):Prop:=1<=n/\n<=4095/\s.length<=240
instance (n:Int)(s:az):Decidable (At n s):=by unfold At;exact inferInstance
def eE (n:Int)(s:az):az:=aP n.toNat++(aP s.length++s)
def IL (n:Int)(s:az):Value:=if At n s then .tuple #[aC (eE n s),.int .i64 0]else .tuple #[.string ⟨#[]⟩,.int .i64 190]
theorem xZ (n:Int)(s:az)(w:World)(hs:s.length<=140737488351232):
  Calls prog 9 #[.int .i64 n,aC s] w fun e w'=>e=.returned (IL n s)/\af w w':=by
 by_cases cq:At n s
 ·have hv:IL n s=.tuple #[aC (eE n s),.int .i64 0]:=auI cq;obtain⟨h1,h2,h3⟩:=cq;have q1:¬ n<1:=by omega
  have q2:¬(4095:Int)<n:=by omega
  have q3:¬(240:Int)<(s.length:Int):=by omega
  obtain⟨m,rfl⟩:∃ m:Nat,n=(m:Int):=⟨n.toNat,by omega⟩
  have cJ:eJ (w.alloc (.cells #[.iface 3 (.int .i64 (m:Int)),.iface 9 (.string ⟨s.toArray⟩)] 20)) (.slice (some ⟨w.heap.size,0,none⟩) 2 2) ([Pc.num m,Pc.text s].map Pc.val):=by
   refine⟨_,_,rfl,fun k x hx=>⟨w.heap.size,0,rfl,?_⟩⟩;have hb:=aw w #[.iface 3 (.int .i64 (m:Int)),.iface 9 (.string ⟨s.toArray⟩)] 20;rw[avm,aa hb k];rcases k with _|_|k
   ·exact hx
   ·exact hx
   ·simp at hx
  have LA:=hd0 (Nf _ _ _ cJ (by simp) (fun x hx=>by simp at hx;rcases hx with rfl|rfl;exact(by show m<=_;omega);exact(by show s.length<=_;omega)));have HV:=hd0 hv;have HK:Hid (af w (w.alloc (.cells #[.iface 3 (.int .i64 (m:Int)),.iface 9 (.string ⟨s.toArray⟩)] 20))):=hd0 ((ah.refl _ w).alloc _);clear cJ hv h1 h2 h3;go_enter func9,ntmps9;go_wp2_with fail;refine LA.out.mono ?_;rintro e w2 ⟨rfl,k2⟩;have bu:=hd0 (HK.out.keep k2);clear k2 LA;go_wp2;go_ret2;exact⟨by rw[HV.out];simp[eE,Pc.bytes],bu.out⟩
 ·have hv:IL n s=.tuple #[.string ⟨#[]⟩,.int .i64 190]:=auK cq;have HV:=hd0 hv;have hsi:(s.length:Int)<=140737488351232:=by omega
  unfold At at cq;by_cases q1:n<1
  ·clear cq hv;go_enter func9,ntmps9;go_wp2;go_ret2;exact⟨by rw[HV.out];rfl,ah.refl _ _⟩
  ·by_cases q2:(4095:Int)<n
   ·clear cq hv;go_enter func9,ntmps9;go_wp2;go_ret2;exact⟨by rw[HV.out];rfl,ah.refl _ _⟩
   ·have q3:(240:Int)<(s.length:Int):=by omega
    clear cq hv;go_enter func9,ntmps9;go_wp2;go_ret2;exact⟨by rw[HV.out];rfl,ah.refl _ _⟩
end
end Go.Proofs.YtkghpdcloaiflaaGreatDoor
