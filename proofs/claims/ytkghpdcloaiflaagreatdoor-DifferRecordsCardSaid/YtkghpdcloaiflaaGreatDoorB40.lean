import Derived.Test.YtkghpdcloaiflaaGreatDoorB39
set_option maxHeartbeats 4000000
set_option maxRecDepth 100000
namespace Go.Proofs.YtkghpdcloaiflaaGreatDoor
open _root_.Go.Proofs.Tryz
section
open Go.RowKit
attribute [local go_sem] auV
structure Hd where
 id:Int
 base:Int
 name:ay
 table:fU
 count:Int
 drop:ay
def qp (v:Vs)(base target:ay):Except Int (Hd×List Nat):=match gA v base target with
 | .error e=>.error e
 | .ok (sy,drop)=>
  if((bt v.b.list target).getD fq).id<=((bt v.b.list base).getD fq).id then .error 190 else
   .ok (⟨((bt v.b.list target).getD fq).id,((bt v.b.list base).getD fq).id,((bt v.b.list target).getD fq).name,((bt v.b.list target).getD fq).table,((cL sy).length:Int),drop⟩,cL sy)
structure re (w:World)(base q p:Nat)(h:Hd)(l:List Nat)(lv:Value):Prop where
 own:World.blk w q #[aq p,.int .i64 h.id,.int .i64 h.base,.string ⟨h.name.toArray⟩,.int .i64 h.table.root,.int .i64 h.table.size,.int .i64 h.count,.string ⟨h.drop.toArray⟩,lv] 88
 row:aN w base lv (gm l)
 new:base<=q
theorem re.keep {w w':World}{base q p:Nat}{h:Hd}{l:List Nat}{lv:Value}(a:re w base q p h l lv)(k:af w w'):re w' base q p h l lv:=⟨ab k a.own id,az a.row fun g hg=>k.block g (aT a.row hg) id,a.new⟩
def mh (w:World)(v:Vs)(p:Nat)(base target:ay)(e:Ending)(w':World):Prop:=
 af w w'/\match qp v base target with
  | .error x=>e=.returned (.tuple #[.pointer none,.int .i64 x])
  | .ok (hd,l)=>∃ q lv,e=.returned (.tuple #[aq q,.int .i64 0])/\re w' w.heap.size q p hd l lv
theorem mh.err {w w':World}{v:Vs}{p:Nat}{base target:ay}{x:Int}(h:qp v base target=.error x)(k:af w w'):mh w v p base target (.returned (.tuple #[.pointer none,.int .i64 x])) w':=by
 unfold mh;rw[h];exact⟨k,rfl⟩
theorem mh.new {w w':World}{v:Vs}{p:Nat}{base target:ay}{hd:Hd}{l:List Nat}{q:Nat}{lv:Value}(h:qp v base target=.ok (hd,l))(k:af w w')(ha:re w' w.heap.size q p hd l lv):mh w v p base target (.returned (.tuple #[aq q,.int .i64 0])) w':=by
 unfold mh;rw[h];exact⟨k,q,lv,rfl,ha⟩
theorem MZ {w:World}{p:Nat}{v:Vs}{a:eY}(h:lz w p v a)(hl:v.b.list.length<=1000)(hp:∀ x∈v.b.list,1<=x.plane/\x.plane<=7)(hs:∀ x y,x∈v.b.list->y∈v.b.list->(d6 v x).length<=600/\(bV (d6 v x) (d6 v y)).length<=600)(base target:ay)(hb:base.length<=140737488355328)(ht:target.length<=140737488355328):
  Calls prog 15 #[aq p,ax base,ax target] w (mh w v p base target):=by
 have DI:=hd0 (MX h hl hp base target hb ht);have H:=hd0 h;have HL:=hd0 hl;have XH:∀ s d,gA v base target=.ok (s,d)->s.length<=600:=by
  intro s d he;unfold gA at he;split at he
  ·cases he
  ·cases hx:bt v.b.list target with
   |none=>rw[hx]at he;cases he
   |some x=>
    rw[hx]at he;simp only at he;split at he
    ·injection he with he;injection he with he _;subst he;exact(hs x x (gO hx) (gO hx)).1
    ·cases hy:bt v.b.list base with
     |none=>rw[hy]at he;cases he
     |some y=>
      rw[hy]at he;injection he with he;injection he with he _;subst he;exact(hs x y (gO hx) (gO hy)).2
 have HSH:=hd0 XH;have HPX:Hid (qp v base target=match gA v base target with
  | .error e=>.error e
  | .ok (sy,drop)=>
   if((bt v.b.list target).getD fq).id<=((bt v.b.list base).getD fq).id then .error 190 else
    .ok (⟨((bt v.b.list target).getD fq).id,((bt v.b.list base).getD fq).id,((bt v.b.list target).getD fq).name,((bt v.b.list target).getD fq).table,((cL sy).length:Int),drop⟩,cL sy)):=hd0 rfl
 have NX:=hd0 (fun W (k:af w W)=>ra (h.keep k) hl target);have NY:=hd0 (fun W (k:af w W)=>ra (h.keep k) hl base);clear h hl hp hs hb ht XH;go_enter func15,ntmps15;go_wp2_with fail;refine DI.out.mono ?_;rintro e w1 ⟨rfl,k1⟩;have bZ:=hd0 k1;clear k1 DI
 cases hd:gA v base target with
 |error x=>
  have HM:Hid (qp v base target=.error x):=hd0 (by rw[HPX.out,hd]);have rq:(x==0)=false:=by
   unfold gA at hd;split at hd
   ·injection hd with hd;subst hd;rfl
   ·split at hd
    ·injection hd with hd;subst hd;rfl
    ·split at hd
     ·cases hd
     ·split at hd
      ·injection hd with hd;subst hd;rfl
      ·cases hd
  clear hd;unfold Ri;simp only;go_wp2;go_ret2;exact mh.err HM.out bZ.out
 |ok sd=>
  obtain⟨sy,drop⟩:=sd;have HSL:=hd0 (HSH.out sy drop hd);have HM:Hid (qp v base target=if((bt v.b.list target).getD fq).id<=((bt v.b.list base).getD fq).id then .error 190 else
    .ok (⟨((bt v.b.list target).getD fq).id,((bt v.b.list base).getD fq).id,((bt v.b.list target).getD fq).name,((bt v.b.list target).getD fq).table,((cL sy).length:Int),drop⟩,cL sy)):=hd0 (by rw[HPX.out,hd])
  clear hd;unfold Ri;simp only;generalize (bt v.b.list target).getD fq=x at*;generalize (bt v.b.list base).getD fq=y at*;go_wp2_with fail;refine(NX.out _ bZ.out).mono ?_;rintro e w2 ⟨rfl,k2⟩;have bw:=hd0 (bZ.out.keep k2);clear k2;go_wp2_with fail;refine(NY.out _ bw.out).mono ?_;rintro e w3 ⟨rfl,k3⟩;have dR:=hd0 (bw.out.keep k3);clear k3 bZ bw;unfold Bm;by_cases hq:x.id<=y.id
  ·have ft:Hid (qp v base target=.error 190):=hd0 (by rw[HM.out,au8 hq]);go_wp2;go_ret2;exact mh.err ft.out (by first|exact dR.out|exact dR.out.alloc _|exact(dR.out.alloc _).alloc _)
  ·have ft:=HM.out;rw[ava hq]at ft;have ft:=hd0 ft;clear HM;obtain⟨xb,yr⟩:∃ xb,w3.heap.size=xb:=⟨_,rfl⟩
   have ka:af w3 ((w3.alloc (.cells #[.string ⟨x.name.toArray⟩,.int .i64 x.id,.int .i64 x.plane,.int .i64 x.table.root,.int .i64 x.table.size] 85)).alloc (.cells #[.string ⟨y.name.toArray⟩,.int .i64 y.id,.int .i64 y.plane,.int .i64 y.table.root,.int .i64 y.table.size] 85)):=((ah.refl _ w3).alloc _).alloc _;have hX:World.blk ((w3.alloc (.cells #[.string ⟨x.name.toArray⟩,.int .i64 x.id,.int .i64 x.plane,.int .i64 x.table.root,.int .i64 x.table.size] 85)).alloc (.cells #[.string ⟨y.name.toArray⟩,.int .i64 y.id,.int .i64 y.plane,.int .i64 y.table.root,.int .i64 y.table.size] 85)) xb #[.string ⟨x.name.toArray⟩,.int .i64 x.id,.int .i64 x.plane,.int .i64 x.table.root,.int .i64 x.table.size] 85:=by rw[<-yr];exact aF (av _ _ _) _
   have hY:World.blk ((w3.alloc (.cells #[.string ⟨x.name.toArray⟩,.int .i64 x.id,.int .i64 x.plane,.int .i64 x.table.root,.int .i64 x.table.size] 85)).alloc (.cells #[.string ⟨y.name.toArray⟩,.int .i64 y.id,.int .i64 y.plane,.int .i64 y.table.root,.int .i64 y.table.size] 85)) (xb+1) #[.string ⟨y.name.toArray⟩,.int .i64 y.id,.int .i64 y.plane,.int .i64 y.table.root,.int .i64 y.table.size] 85:=by rw[<-yr];exact aZ (by simp) _ _
   have SL:=hd0 (zL sy (by have:=HSL.out;omega) ((w3.alloc (.cells #[.string ⟨x.name.toArray⟩,.int .i64 x.id,.int .i64 x.plane,.int .i64 x.table.root,.int .i64 x.table.size] 85)).alloc (.cells #[.string ⟨y.name.toArray⟩,.int .i64 y.id,.int .i64 y.plane,.int .i64 y.table.root,.int .i64 y.table.size] 85)));have HKA:=hd0 (dR.out.keep ka);have HX:=hd0 hX;have HY:=hd0 hY;clear ka hX hY;go_wp2_with fail;refine SL.out.mono ?_;rintro e w4 ⟨lv,rfl,ho,_,k4⟩;obtain⟨la,cap,rfl,_⟩:=ba ho;have yo:(bi (gm (cL sy))).length=(cL sy).length:=by simp[bi,gm]
   rw[yo]at ho ⊢;have HO:=hd0 ho;have od:=hd0 (HKA.out.keep k4);have Yl:=ab k4 HX.out id;have hy4:=ab k4 HY.out id;have c0:w4.cell? ⟨xb,0,none⟩=some (.string ⟨x.name.toArray⟩):=aa Yl 0;have c1:w4.cell? ⟨xb,1,none⟩=some (.int .i64 x.id):=aa Yl 1;have c3:w4.cell? ⟨xb,3,none⟩=some (.int .i64 x.table.root):=aa Yl 3;have c4:w4.cell? ⟨xb,4,none⟩=some (.int .i64 x.table.size):=aa Yl 4;have d1:w4.cell? ⟨xb+1,1,none⟩=some (.int .i64 y.id):=aa hy4 1;have cV:w.heap.size<=w4.heap.size:=od.out.size;have WC:=hd0 (And.intro cV (show w.heap.size<=((w3.alloc (.cells #[.string ⟨x.name.toArray⟩,.int .i64 x.id,.int .i64 x.plane,.int .i64 x.table.root,.int .i64 x.table.size] 85)).alloc (.cells #[.string ⟨y.name.toArray⟩,.int .i64 y.id,.int .i64 y.plane,.int .i64 y.table.root,.int .i64 y.table.size] 85)).heap.size from HKA.out.size))
   try rw[yr]
   clear ho k4 Yl hy4 yo SL yr cV;go_wp2;go_ret2;have kb:af w4 (w4.alloc (.cells #[aq p,.int .i64 x.id,.int .i64 y.id,.string ⟨x.name.toArray⟩,.int .i64 x.table.root,.int .i64 x.table.size,.int .i64 ((cL sy).length:Int),.string ⟨drop.toArray⟩,.slice la (cL sy).length cap] 88)):=(ah.refl _ w4).alloc _;exact mh.new ft.out (od.out.keep kb) ⟨av _ _ _,az (eQ HO.out WC.out.2) (fun g hg=>kb.block g (aT HO.out hg) id),WC.out.1⟩
end
section
open Go.RowKit
attribute [local go_sem] auV
inductive Pc where
 |num (n:Nat)
 |text (s:ay)
def Pc.val:Pc->Value
 | .num n=>.iface 3 (.int .i64 (n:Int))
 | .text s=>.iface 9 (.string ⟨s.toArray⟩)
def Pc.bytes:Pc->ay
 | .num n=>aG n
 | .text s=>aG s.length++s
def Pc.ok:Pc->Prop
 | .num n=>n<=4611686018427387903
 | .text s=>s.length<=65536
theorem Rj {x:Pc}(h:x.ok):x.bytes.length<=70000:=by
 cases x with
 |num n=>have:=aV (n:=n) (by have:n<=4611686018427387903:=h;omega);show(aG n).length<=_;omega
 |text s=>
  have h':s.length<=65536:=h;have:=aV (n:=s.length) (by omega);show(aG s.length++s).length<=_;rw[avi];omega
theorem Rk (l:List Pc)(h:∀ x∈l,x.bytes.length<=70000):(l.flatMap Pc.bytes).length<=70000*l.length:=by
 induction l with
 |nil=>simp
 |cons x r ih=>
  have h1:=h x (by simp);have h2:=ih fun y hy=>h y (by simp[hy]);simp only[avH,avi,au0];omega
theorem Zh (v:Value)(W:World):(Instr.typeAssert (.iface 3 v) 20 3 true).run prog W=.ok (.tuple #[v,.bool true]) W:=by kernel_rfl
theorem Zi (v:Value)(W:World):(Instr.typeAssert (.iface 9 v) 20 3 true).run prog W=.ok (.tuple #[.int .i64 0,.bool false]) W:=by kernel_rfl
theorem Zj (v:Value)(W:World):(Instr.typeAssert (.iface 9 v) 20 9 true).run prog W=.ok (.tuple #[v,.bool true]) W:=by kernel_rfl
theorem M0 (l:List Pc)(v:Value)(w:World)(h:eF w v (l.map Pc.val))(hl:l.length<=100)(bQ:∀ x∈l,x.ok):
  Calls prog 35 #[v] w fun e w'=>e=.returned (ax (l.flatMap Pc.bytes))/\af w w':=by
 obtain⟨a,cap,rfl,hx⟩:=h;rw[avv];have HX:=hd0 hx;have Cw:=hd0 bQ;have FF:(l.length:Int)<=100:=by omega
 have ha1:=Zh;have ha2:=Zi;have ha3:=Zj;clear hx bQ;go_enter func35,ntmps35;go_wp2_with fail
 go_loopw [3,11] (fun s i wr=>∃ k:Nat,k<=l.length/\i=.int .i64 (k:Int)/\s=ax ((l.take k).flatMap Pc.bytes)/\Hid (af w wr)) (fun _ i _=>l.length-(intOf i).toNat)
 case atStart=>exact⟨0,by omega,rfl,rfl,hd0 (ah.refl _ _)⟩
 case round=>
  obtain⟨k,hk,rfl,rfl,HK⟩:=hrel;by_cases aL:k<l.length
  ·have dU:(k:Int)<(l.length:Int):=by omega
   obtain⟨x,hx⟩:∃ x,l[k]?=some x:=⟨_,au1 aL⟩
   obtain⟨b,o,rfl,hc⟩:=HX.out k x.val (by rw[av1,hx];rfl);have c0:wr.cell? ⟨b,o+k,none⟩=some x.val:=by rw[HK.out.cell (p:=⟨b,o+k,none⟩) (ai hc) id];exact hc
   have hxo:=Cw.out x (au2 hx);have Yc:(l.take (k+1)).flatMap Pc.bytes=(l.take k).flatMap Pc.bytes++x.bytes:=by rw[au3,hx];simp
   have HT:=hd0 Yc;have ON:=Rk (l.take k) (fun y hy=>Rj (Cw.out y (au6 hy)));have ajL:(l.take k).length<=100:=by rw[au7];omega
   have hac:((l.take k).flatMap Pc.bytes).length<=7000000:=by omega
   have rm:=Rj hxo;clear Yc hx hc ON ajL;generalize (l.take k).flatMap Pc.bytes=dw at*
   cases x with
   |num n=>
    have eV:(aG n).length<=70000:=rm;have tJ:¬ 9223372036854775807<dw.length+(aG n).length:=by omega
    clear rm;have NU:=hd0 (lP n wr hxo);unfold Pc.val at c0;simp only at c0;go_wp2_with fail;refine NU.out.mono ?_;rintro e w2 ⟨rfl,k2⟩;have bw:=hd0 (HK.out.keep k2);clear k2 NU;go_wp2_with fail;exact⟨⟨k+1,by omega,by go_num,by rw[HT.out];simp[Pc.bytes],bw⟩,by simp[intOf];omega⟩
   |text s=>
    have eV:(aG s.length++s).length<=70000:=rm;rw[avi]at eV;have tJ:¬ 9223372036854775807<dw.length+((aG s.length).length+s.length):=by omega
    clear rm;have NU:=hd0 (tg s wr hxo);unfold Pc.val at c0;simp only at c0;go_wp2_with fail;refine NU.out.mono ?_;rintro e w2 ⟨rfl,k2⟩;have bw:=hd0 (HK.out.keep k2);clear k2 NU;go_wp2_with fail;exact⟨⟨k+1,by omega,by go_num,by rw[HT.out];simp[Pc.bytes],bw⟩,by simp[intOf];omega⟩
  ·obtain rfl:k=l.length:=by omega
   rw[au5];go_wp2;go_ret;exact⟨rfl,HK.out⟩
def jZ (n:Int)(s:ay):Prop:=1<=n/\n<=4095/\s.length<=240
instance (n:Int)(s:ay):Decidable (jZ n s):=by unfold jZ;exact inferInstance
def bJ (n:Int)(s:ay):ay:=aG n.toNat++(aG s.length++s)
def pr (n:Int)(s:ay):Value:=if jZ n s then .tuple #[ax (bJ n s),.int .i64 0]else .tuple #[.string ⟨#[]⟩,.int .i64 190]
theorem mR (n:Int)(s:ay)(w:World)(hs:s.length<=140737488351232):
  Calls prog 9 #[.int .i64 n,ax s] w fun e w'=>e=.returned (pr n s)/\af w w':=by
 by_cases bQ:jZ n s
 ·have hv:pr n s=.tuple #[ax (bJ n s),.int .i64 0]:=au8 bQ;obtain⟨h1,h2,h3⟩:=bQ;have q1:¬ n<1:=by omega
  have q2:¬(4095:Int)<n:=by omega
  have q3:¬(240:Int)<(s.length:Int):=by omega
  obtain⟨m,rfl⟩:∃ m:Nat,n=(m:Int):=⟨n.toNat,by omega⟩
  have cI:eF (w.alloc (.cells #[.iface 3 (.int .i64 (m:Int)),.iface 9 (.string ⟨s.toArray⟩)] 20)) (.slice (some ⟨w.heap.size,0,none⟩) 2 2) ([Pc.num m,Pc.text s].map Pc.val):=by
   refine⟨_,_,rfl,fun k x hx=>⟨w.heap.size,0,rfl,?_⟩⟩;have hb:=av w #[.iface 3 (.int .i64 (m:Int)),.iface 9 (.string ⟨s.toArray⟩)] 20;rw[avN,aa hb k];rcases k with _|_|k
   ·exact hx
   ·exact hx
   ·simp at hx
  have LA:=hd0 (M0 _ _ _ cI (by simp) (fun x hx=>by simp at hx;rcases hx with rfl|rfl;exact(by show m<=_;omega);exact(by show s.length<=_;omega)));have HV:=hd0 hv;have HK:Hid (af w (w.alloc (.cells #[.iface 3 (.int .i64 (m:Int)),.iface 9 (.string ⟨s.toArray⟩)] 20))):=hd0 ((ah.refl _ w).alloc _);clear cI hv h1 h2 h3;go_enter func9,ntmps9;go_wp2_with fail;refine LA.out.mono ?_;rintro e w2 ⟨rfl,k2⟩;have bw:=hd0 (HK.out.keep k2);clear k2 LA;go_wp2;go_ret2;exact⟨by rw[HV.out];simp[bJ,Pc.bytes],bw.out⟩
 ·have hv:pr n s=.tuple #[.string ⟨#[]⟩,.int .i64 190]:=ava bQ;have HV:=hd0 hv;have Yk:(s.length:Int)<=140737488351232:=by omega
  unfold jZ at bQ;by_cases q1:n<1
  ·clear bQ hv;go_enter func9,ntmps9;go_wp2;go_ret2;exact⟨by rw[HV.out];rfl,ah.refl _ _⟩
  ·by_cases q2:(4095:Int)<n
   ·clear bQ hv;go_enter func9,ntmps9;go_wp2;go_ret2;exact⟨by rw[HV.out];rfl,ah.refl _ _⟩
   ·have q3:(240:Int)<(s.length:Int):=by omega
    clear bQ hv;go_enter func9,ntmps9;go_wp2;go_ret2;exact⟨by rw[HV.out];rfl,ah.refl _ _⟩
end
end Go.Proofs.YtkghpdcloaiflaaGreatDoor
