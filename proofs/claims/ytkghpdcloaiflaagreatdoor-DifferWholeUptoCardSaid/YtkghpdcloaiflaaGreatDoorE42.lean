import Derived.Test.YtkghpdcloaiflaaGreatDoorE41
set_option maxHeartbeats 8000000
set_option maxRecDepth 100000
namespace Go.Proofs.YtkghpdcloaiflaaGreatDoor
open _root_.Go.Proofs.Tryz
section
open Go.RowKit
attribute [local go_sem] auv
abbrev hdF (h:Hd):Value:=.agg #[.int .i64 h.id,.int .i64 h.base,.string ⟨h.name.toArray⟩,.int .i64 h.table.root,.int .i64 h.table.size,.int .i64 h.count,.string ⟨h.drop.toArray⟩]
theorem ahz {w:World}{b:Nat}{t:TypeId}{c0 c1 c2 c3 c4 c5 c6:Value}(h:World.blk w b #[c0,c1,c2,c3,c4,c5,c6] t)(x0 x1 x2 x3 x4 x5 x6:Value):
  World.blk (((((((w.setCell ⟨b,0,none⟩ x0).setCell ⟨b,1,none⟩ x1).setCell ⟨b,2,none⟩ x2).setCell ⟨b,3,none⟩ x3).setCell ⟨b,4,none⟩ x4).setCell ⟨b,5,none⟩ x5).setCell ⟨b,6,none⟩ x6) b #[x0,x1,x2,x3,x4,x5,x6] t/\ah (fun g=>g=b) w (((((((w.setCell ⟨b,0,none⟩ x0).setCell ⟨b,1,none⟩ x1).setCell ⟨b,2,none⟩ x2).setCell ⟨b,3,none⟩ x3).setCell ⟨b,4,none⟩ x4).setCell ⟨b,5,none⟩ x5).setCell ⟨b,6,none⟩ x6):=by
 have h1:World.blk (w.setCell ⟨b,0,none⟩ x0) b #[x0,c1,c2,c3,c4,c5,c6] t:=ag h 0 x0;have h2:World.blk ((w.setCell ⟨b,0,none⟩ x0).setCell ⟨b,1,none⟩ x1) b #[x0,x1,c2,c3,c4,c5,c6] t:=ag h1 1 x1;have h3:World.blk (((w.setCell ⟨b,0,none⟩ x0).setCell ⟨b,1,none⟩ x1).setCell ⟨b,2,none⟩ x2) b #[x0,x1,x2,c3,c4,c5,c6] t:=ag h2 2 x2;have h4:World.blk ((((w.setCell ⟨b,0,none⟩ x0).setCell ⟨b,1,none⟩ x1).setCell ⟨b,2,none⟩ x2).setCell ⟨b,3,none⟩ x3) b #[x0,x1,x2,x3,c4,c5,c6] t:=ag h3 3 x3;have h5:World.blk (((((w.setCell ⟨b,0,none⟩ x0).setCell ⟨b,1,none⟩ x1).setCell ⟨b,2,none⟩ x2).setCell ⟨b,3,none⟩ x3).setCell ⟨b,4,none⟩ x4) b #[x0,x1,x2,x3,x4,c5,c6] t:=ag h4 4 x4;have h6:World.blk ((((((w.setCell ⟨b,0,none⟩ x0).setCell ⟨b,1,none⟩ x1).setCell ⟨b,2,none⟩ x2).setCell ⟨b,3,none⟩ x3).setCell ⟨b,4,none⟩ x4).setCell ⟨b,5,none⟩ x5) b #[x0,x1,x2,x3,x4,x5,c6] t:=ag h5 5 x5;have h7:World.blk (((((((w.setCell ⟨b,0,none⟩ x0).setCell ⟨b,1,none⟩ x1).setCell ⟨b,2,none⟩ x2).setCell ⟨b,3,none⟩ x3).setCell ⟨b,4,none⟩ x4).setCell ⟨b,5,none⟩ x5).setCell ⟨b,6,none⟩ x6) b #[x0,x1,x2,x3,x4,x5,x6] t:=ag h6 6 x6;exact⟨h7,((((((((ah.refl (fun g=>g=b) w).setCell (p:=⟨b,0,none⟩) (.inl rfl) x0).setCell (p:=⟨b,1,none⟩) (.inl rfl) x1).setCell (p:=⟨b,2,none⟩) (.inl rfl) x2).setCell (p:=⟨b,3,none⟩) (.inl rfl) x3).setCell (p:=⟨b,4,none⟩) (.inl rfl) x4).setCell (p:=⟨b,5,none⟩) (.inl rfl) x5).setCell (p:=⟨b,6,none⟩) (.inl rfl) x6)⟩
theorem tP {w:World}{base q p:Nat}{h:Hd}{l:List Nat}{lv:Value}(a:rh w base q p h l lv):
  Calls prog 18 #[aq q] w fun e w'=>e=.returned (hdF h)/\af w w':=by
 obtain⟨W,hW⟩:∃ W,w.alloc (.cells #[.int .i64 0,.int .i64 0,.string ⟨#[]⟩,.int .i64 0,.int .i64 0,.int .i64 0,.string ⟨#[]⟩] 44)=W:=⟨_,rfl⟩
 obtain⟨b,hb⟩:∃ b,w.heap.size=b:=⟨_,rfl⟩
 have hk:af w W:=by rw[<-hW];exact(ah.refl _ w).alloc _
 have hz:World.blk W b #[.int .i64 0,.int .i64 0,.string ⟨#[]⟩,.int .i64 0,.int .i64 0,.int .i64 0,.string ⟨#[]⟩] 44:=by rw[<-hW,<-hb];exact aw _ _ _
 have ho:=ab hk a.own id;have c1:W.cell? ⟨q,1,none⟩=some (.int .i64 h.id):=aa ho 1;have c2:W.cell? ⟨q,2,none⟩=some (.int .i64 h.base):=aa ho 2;have c3:W.cell? ⟨q,3,none⟩=some (.string ⟨h.name.toArray⟩):=aa ho 3;have c4:W.cell? ⟨q,4,none⟩=some (.int .i64 h.table.root):=aa ho 4;have c5:W.cell? ⟨q,5,none⟩=some (.int .i64 h.table.size):=aa ho 5;have c6:W.cell? ⟨q,6,none⟩=some (.int .i64 h.count):=aa ho 6;have c7:W.cell? ⟨q,7,none⟩=some (.string ⟨h.drop.toArray⟩):=aa ho 7;have z0:W.cell? ⟨b,0,none⟩=some (.int .i64 0):=aa hz 0;have z1:W.cell? ⟨b,1,none⟩=some (.int .i64 0):=aa hz 1;have z2:W.cell? ⟨b,2,none⟩=some (.string ⟨#[]⟩):=aa hz 2;have z3:W.cell? ⟨b,3,none⟩=some (.int .i64 0):=aa hz 3;have z4:W.cell? ⟨b,4,none⟩=some (.int .i64 0):=aa hz 4;have z5:W.cell? ⟨b,5,none⟩=some (.int .i64 0):=aa hz 5;have z6:W.cell? ⟨b,6,none⟩=some (.string ⟨#[]⟩):=aa hz 6;have f0:=ae hz ⟨b,0,none⟩ rfl;have f1:=ae hz ⟨b,1,none⟩ rfl;have f2:=ae hz ⟨b,2,none⟩ rfl;have f3:=ae hz ⟨b,3,none⟩ rfl;have f4:=ae hz ⟨b,4,none⟩ rfl;have f5:=ae hz ⟨b,5,none⟩ rfl;have f6:=ae hz ⟨b,6,none⟩ rfl;have sV:=ahz hz (.int .i64 h.id) (.int .i64 h.base) (.string ⟨h.name.toArray⟩) (.int .i64 h.table.root) (.int .i64 h.table.size) (.int .i64 h.count) (.string ⟨h.drop.toArray⟩);have HK:=hd0 hk;have HF:=hd0 sV;have Hb:=hd0 hb;clear ho hk hz sV a;go_enter func18,ntmps18;go_wp2_with fail
 try rw[hW]
 try rw[hb]
 go_wp2_with fail;have q0:World.cell? _ ⟨b,0,none⟩=some (.int .i64 h.id):=aa HF.out.1 0;have q1:World.cell? _ ⟨b,1,none⟩=some (.int .i64 h.base):=aa HF.out.1 1;have q2:World.cell? _ ⟨b,2,none⟩=some (.string ⟨h.name.toArray⟩):=aa HF.out.1 2;have q3:World.cell? _ ⟨b,3,none⟩=some (.int .i64 h.table.root):=aa HF.out.1 3;have q4:World.cell? _ ⟨b,4,none⟩=some (.int .i64 h.table.size):=aa HF.out.1 4;have q5:World.cell? _ ⟨b,5,none⟩=some (.int .i64 h.count):=aa HF.out.1 5;have q6:World.cell? _ ⟨b,6,none⟩=some (.string ⟨h.drop.toArray⟩):=aa HF.out.1 6;have CA:=HK.out.new HF.out.2 (Nat.le_of_eq Hb.out);exact au7 (v:=hdF h) (by simp[results,Tryz.results18,go_sem,q0,q1,q2,q3,q4,q5,q6]) rfl ⟨rfl,CA⟩
structure eT (w:World)(p:Nat)(a:eF)(q:Nat)(h:Hd)(l:List Nat)(lv:Value):Prop where
 at_:∃ base,rh w base q p h l lv
 qf:¬ a.foot p q
 lf:∀ g,lv.ownBlock=some g->¬ a.foot p g
theorem eT.keep {w w':World}{p:Nat}{a:eF}{q:Nat}{h:Hd}{l:List Nat}{lv:Value}(x:eT w p a q h l lv)(k:af w w'):eT w' p a q h l lv:=by
 obtain⟨base,ha⟩:=x.at_;exact⟨⟨base,ha.keep k⟩,x.qf,x.lf⟩
theorem eT.to {w w':World}{p:Nat}{__v __u:Vs}{a a':eF}{q:Nat}{h:Hd}{l:List Nat}{lv:Value}(x:eT w p a q h l lv)(m:ah (a.foot p) w w')(hf:∀ g,a'.foot p g->a.foot p g\/w.heap.size<=g):eT w' p a' q h l lv:=by
 obtain⟨base,ha⟩:=x.at_;refine⟨⟨base,ab m ha.own x.qf,aA ha.row (fun g hg=>m.block g (aT ha.row hg) (x.lf g hg)),ha.new⟩,fun h1=>(hf q h1).elim x.qf (fun h2=>?_),fun g hg h1=>(hf g h1).elim (x.lf g hg) (fun h2=>?_)⟩
 ·have:=ai ha.own;omega
 ·have:=aT ha.row hg;omega
theorem BE {w:World}{p:Nat}{a:eF}{q:Nat}{h:Hd}{l:List Nat}{lv:Value}(x:eT w p a q h l lv)(i:Int)(hi:i<0\/(l.length:Int)<=i):
  Calls prog 21 #[aq q,.int .i64 i] w fun e w'=>e=.returned (.tuple #[.string ⟨#[]⟩,.int .i64 191])/\af w w':=by
 obtain⟨base,ha⟩:=x.at_;obtain⟨la,cap,rfl,_⟩:=bd ha.row;have tX:(bo (gy l)).length=l.length:=by simp[bo,gy]
 rw[tX]at ha;have c8:w.cell? ⟨q,8,none⟩=some (.slice la l.length cap):=aa ha.own 8;clear ha x tX;by_cases h0:i<0
 ·go_enter func21,ntmps21;go_wp2;go_ret2;exact⟨rfl,ah.refl _ _⟩
 ·have h1:(l.length:Int)<=i:=hi.resolve_left h0;clear hi;go_enter func21,ntmps21;go_wp2;go_ret2;exact⟨rfl,ah.refl _ _⟩
end
section
open Go.RowKit
attribute [local go_sem] auv
theorem Ni (n:Nat)(s:az)(cq:At (n:Int) s)(w:World):
  Calls prog 11 #[aC (eE (n:Int) s)] w fun e w'=>e=.returned (.tuple #[.int .i64 (n:Int),aC s,.int .i64 0])/\af w w':=by
 have RN:=hd0 (Nh (eE (n:Int) s) w);have FJ:=hd0 cq;have he:eE (n:Int) s=aP n++(aP s.length++(s++[])):=by unfold eE;simp
 have HE:=hd0 he;obtain⟨h1,h2,h3⟩:=cq;have HB:=hd0 (And.intro h1 (And.intro h2 h3));clear h1 h2 h3 he;go_enter func11,ntmps11;go_wp2_with fail;refine RN.out.mono ?_;rintro e w1 ⟨rfl,hr,k1⟩;have bU:=hd0 k1;rw[HE.out]at hr;obtain⟨r,hrr⟩:∃ r,w.heap.size=r:=⟨_,rfl⟩
 have Hrr:=hd0 hrr;rw[hrr]at hr ⊢;have NU:=hd0 (Ke n (aP s.length++(s++[])) 4095 r w1 hr (by have:=HB.out;omega) HB.out.2.1 (by
  have h3:=HB.out.2.2;have h4:=bI (n:=s.length) (by omega);simp only[auS,avK];omega))
 clear k1 RN hr hrr;go_wp2_with fail;refine NU.out.mono ?_;rintro e w2 ⟨rfl,tT,m2⟩;have oF:Hid (af w w2):=hd0 (bU.out.new m2 (by rw[Hrr.out];exact auE _));have TX:=hd0 (Rq s [] 240 r w2 tT (by have:=HB.out.2.2;omega) (by have:=HB.out.2.2;omega) (by omega) (by simp));clear m2 tT NU;go_wp2_with fail;refine TX.out.mono ?_;rintro e w3 ⟨rfl,KT,m3⟩;have nW:Hid (af w w3):=hd0 (oF.out.new m3 (by rw[Hrr.out];exact auE _));have Jw:=hd0 KT;have DR:=xZ (n:Int) s w3 (by have:=HB.out.2.2;omega);rw[show IL (n:Int) s=.tuple #[aC (eE (n:Int) s),.int .i64 0]from auI FJ.out]at DR;have DR:=hd0 DR;clear m3 KT TX;go_wp2_with fail;refine DR.out.mono ?_;rintro e w4 ⟨rfl,k4⟩;have rH:=hd0 (nW.out.keep k4);have EN:=hd0 (Vi r w4 (ab k4 Jw.out id));clear k4 DR;go_wp2_with fail;refine EN.out.mono ?_;rintro e w5 ⟨rfl,k5⟩;have Cr:=hd0 (rH.out.keep k5);clear k5 EN;go_wp2;go_ret3;exact⟨rfl,Cr.out⟩
end
section
section
open Go.RowKit
end
section
open Go.RowKit
end
section
open Go.RowKit
end
section
open Go.RowKit
end
end
section
open Go.RowKit
attribute [local go_sem] auv
end
section
open Go.RowKit
attribute [local go_sem] auv
theorem eT.cells {w:World}{p:Nat}{a:eF}{q:Nat}{h:Hd}{l:List Nat}{lv:Value}(x:eT w p a q h l lv):
  ∃ la cap,lv=.slice la l.length cap/\w.cell? ⟨q,0,none⟩=some (aq p)/\w.cell? ⟨q,1,none⟩=some (.int .i64 h.id)/\w.cell? ⟨q,3,none⟩=some (aC h.name)/\w.cell? ⟨q,8,none⟩=some (.slice la l.length cap)/\
   ∀ i n,l[i]?=some n->∃ b o,la=some ⟨b,o,none⟩/\w.cell? ⟨b,o+i,none⟩=some (.int .i64 ((n:Nat):Int)):=by
 obtain⟨base,ha⟩:=x.at_;obtain⟨la,cap,rfl,hx⟩:=bd ha.row;have tX:(bo (gy l)).length=l.length:=by simp[bo,gy]
 rw[tX]at ha;exact⟨la,cap,by rw[tX],aa ha.own 0,aa ha.own 1,aa ha.own 3,aa ha.own 8,fun i n hn=>hx i _ (by simp[bo,gy,hn])⟩
theorem IM {w:World}{p:Nat}{v:Vs}{a:eF}{q:Nat}{h:Hd}{l:List Nat}{lv:Value}(hv:kg w p v a)(hl:v.b.list.length<=1000)(x:eT w p a q h l lv)(hid:((aK v.b.list h.name).getD dY).id=h.id)
  (i n:Nat) (hi:l[i]?=some n) (tX:l.length<=5000) (h1:1<=n) (h2:n<v.blocks) (hb:v.blocks<=4096) (s:az) (hs:v.rd n=.ok s) (uW:s.length<=240):
  Calls prog 21 #[aq q,.int .i64 (i:Int)] w fun e w'=>e=.returned (.tuple #[aC (eE (n:Int) s),.int .i64 0])/\∃ a',eg w p v a v a' w'/\a'.text=a.text/\eT w' p a' q h l lv:=by
 have IU:=(auP.1 hi).1;have hfd:∀(x0 x1 x2 x3 x4:Value) (W:World),(Instr.field 85 (.agg #[x0,x1,x2,x3,x4]) 1).run prog W=.ok x1 W:=fun _ _ _ _ _ _=>by kernel_rfl
 obtain⟨la,cap,ZN,c0,c1,c3,c8,cJ⟩:=x.cells;obtain⟨lb,lo,rfl,ci⟩:=cJ i n hi;have HV:=hd0 hv;have HX:=hd0 x;have HL:=hd0 hl;have HI:=hd0 hi;have HN:=hd0 (And.intro h1 (And.intro h2 (And.intro hb (And.intro hs uW))));have HID:=hd0 hid;have akf:(i:Int)<(l.length:Int):=by omega
 have Z5:(l.length:Int)<=5000:=by omega
 clear hv hl x hi h1 h2 hb hs uW cJ IU tX;go_enter func21,ntmps21
 go_upto_region 3 with fail
 go_cut [20]from 8 to 66 (fun y wx=>y=.bool false/\af w wx)
 case first=>
  have e0:∀ X,(w.ext X).cell? ⟨q,0,none⟩=some (aq p):=fun X=>((ay w X).cell (p:=⟨q,0,none⟩) (ak c0) id).trans c0;have e1:∀ X,(w.ext X).cell? ⟨q,1,none⟩=some (.int .i64 h.id):=fun X=>((ay w X).cell (p:=⟨q,1,none⟩) (ak c1) id).trans c1;have e3:∀ X,(w.ext X).cell? ⟨q,3,none⟩=some (aC h.name):=fun X=>((ay w X).cell (p:=⟨q,3,none⟩) (ak c3) id).trans c3;refine bA (by kernel_rfl) (by kernel_rfl) ?_
  repeat (quiet_step (with_reducible exact aZ (nP (HV.out.keep (ay _ _)) HL.out h.name)))
  refine avt ?_;intro _ cf;obtain⟨xq,rfl⟩:=cf;go_wp2_with fail;go_meet
  case rel=>exact⟨rfl,ay _ _⟩
 case rest=>
  obtain⟨rfl,hk⟩:=hcut;have Fg:=hd0 hk;have c0':wc.cell? ⟨q,0,none⟩=some (aq p):=(hk.cell (p:=⟨q,0,none⟩) (ak c0) id).trans c0;have c8':wc.cell? ⟨q,8,none⟩=some (.slice (some ⟨lb,lo,none⟩) l.length cap):=(hk.cell (p:=⟨q,8,none⟩) (ak c8) id).trans c8;have ci':wc.cell? ⟨lb,lo+i,none⟩=some (.int .i64 (n:Int)):=(hk.cell (p:=⟨lb,lo+i,none⟩) (ak ci) id).trans ci;clear hk c0 c1 c3 c8 ci
  go_upto_region 5 with fail
  go_cut [6,7]from 8 to 66 (fun y z wx=>y=aC s/\z=.int .i64 0/\∃ a',eg w p v a v a' wx/\a'.text=a.text)
  case first=>
   have RD:Hid (∀ W,af w W->Calls prog 22 #[aq p,.int .i64 (n:Int)] W fun e w'=>e=.returned (.tuple #[aC s,.int .i64 0])/\∃ a',eg W p v a v a' w'/\a'.text=a.text):=hd0 (fun W k=>IK (HV.out.keep k) n HN.out.1 HN.out.2.1 s HN.out.2.2.2.1)
   go_region_with (go_at_call 22;refine auN (RD.out _ (Fg.out.drew)) ?_;rintro e w2 ⟨rfl,a2,gW,AA⟩;have yZ:=hd0 (And.intro (eg.ahead (Fg.out.drew) gW) AA);clear gW AA)
   all_goals (go_wp2_with fail;go_meet)
   all_goals (case rel=>exact⟨rfl,rfl,a2,yZ.out⟩)
  case rest=>
   obtain⟨rfl,rfl,a2,gW,AA⟩:=hcut;have yZ:=hd0 (And.intro gW AA);have vz:=HX.out.to (__v:=v) (__u:=v) gW.mod gW.foot;have lE:=hd0 vz;obtain⟨la2,VW,ad2,d0,d1,d3,d8,XR⟩:=vz.cells;rw[ZN]at ad2;injection ad2 with e1 _ e3;subst e1 e3;obtain⟨b2,o2,e4,di⟩:=XR i n HI.out;injection e4 with e4;injection e4 with e5 e6;subst e5 e6;have DR:=xZ (n:Int) s wc (by have:=HN.out.2.2.2.2;omega);rw[show IL (n:Int) s=.tuple #[aC (eE (n:Int) s),.int .i64 0]from auI ⟨by have:=HN.out.1;omega,by have:=HN.out.2.1;have:=HN.out.2.2.1;omega,HN.out.2.2.2.2⟩]at DR;have DR:=hd0 DR;clear gW AA vz XR c0' c8' ci' d0 d1 d3;go_wp2_with fail;refine DR.out.mono ?_;rintro e w4 ⟨rfl,k4⟩;have ou:=hd0 k4;clear k4 DR;go_wp2;go_ret2;exact⟨rfl,a2,yZ.out.1.keep ou.out,yZ.out.2,lE.out.keep ou.out⟩
end
section
open Go.RowKit
theorem Vj (key:List UInt8)(w:World)(hk:key.length=16):
  Calls prog 58 #[.string ⟨key.toArray⟩] w fun e w'=>e=.returned (.tuple #[.pointer (some ⟨w.heap.size,0,none⟩),.int .i64 0])/\World.blk w' w.heap.size (eM (oa key) [] 0) 186/\af w w':=
 (JB key w hk).mono fun _ _ ⟨he,n,hw⟩=>by
  subst hw;exact⟨he,fQ (aw _ _ _) _,((ah.refl _ _).alloc _).drewN _⟩
theorem Nj (b:Nat)(v:St)(rest s:List UInt8)(size:Nat)(w:World)(hB:World.blk w b (eM v rest size) 186)(hr:rest.length<8)(hs:size+s.length+8<=9223372036854775807):
  Calls prog 59 #[.pointer (some ⟨b,0,none⟩),.string ⟨s.toArray⟩] w fun e w'=>e=.returned (.tuple #[])/\
   World.blk w' b (eM (dT v (rest++s)).1 (dT v (rest++s)).2 (size+s.length)) 186/\ah (·=b) w w':=by
 have h:=zq b v rest s size w 0 (ai hB) hr hs;rw[KV hB,World.drewN_zero]at h;refine h.mono fun _ _ ⟨he,n,hw⟩=>?_;subst hw;exact⟨he,fQ (vD (ai hB)) _,((ah.refl (·=b) w).putB (Or.inl rfl) _ _).drewN _⟩
def rj (key l:List UInt8):Array Value:=eM (dT (oa key) l).1 (dT (oa key) l).2 l.length
theorem EX (s:List UInt8):∀(v:St) (t:List UInt8),dT v (s++t)=dT (dT v s).1 ((dT v s).2++t):=by
 generalize hn:s.length=n
 induction n using Nat.strongRecOn generalizing s with
 |_ n ih=>
  intro v t;by_cases h:8<=s.length
  ·have h2:8<=(s++t).length:=by simp;omega
   rw[lL v (s++t) h2,lL v s h,List.take_append_of_le_length h,List.drop_append_of_le_length h];exact ih (s.drop 8).length (by simp;omega) _ rfl _ _
  ·rw[qD v s h]
theorem EY (key:List UInt8)(w:World)(hk:key.length=16):
  Calls prog 58 #[.string ⟨key.toArray⟩] w fun e w'=>e=.returned (.tuple #[.pointer (some ⟨w.heap.size,0,none⟩),.int .i64 0])/\World.blk w' w.heap.size (rj key []) 186/\af w w':=
 Vj key w hk
theorem IN (b:Nat)(key l s:List UInt8)(w:World)(hB:World.blk w b (rj key l) 186)(hs:l.length+s.length+8<=9223372036854775807):
  Calls prog 59 #[.pointer (some ⟨b,0,none⟩),.string ⟨s.toArray⟩] w fun e w'=>e=.returned (.tuple #[])/\World.blk w' b (rj key (l++s)) 186/\ah (·=b) w w':=by
 refine(Nj b _ _ s l.length w hB (oI _ _) hs).mono fun _ _ ⟨he,h,hm⟩=>⟨he,?_,hm⟩
 rw[rj,EX,auS];exact h
theorem Rr (b:Nat)(key l:List UInt8)(w:World)(hB:World.blk w b (rj key l) 186)(hs:l.length<=9223372036854775807):
  Calls prog 60 #[.pointer (some ⟨b,0,none⟩)] w fun e w'=>e=.returned (.string ⟨(KX key l).toArray⟩)/\af w w':=
 JA b _ _ _ w hB (oI _ _) hs
end
section
open Go.RowKit
attribute [local go_sem] auv
def fX:az:=[115,116,105,108,108,97,103,101,32,115,116,114,101,97,109,33]
def fY (f:Nat->az)(l:List Nat):az:=l.flatMap fun(n:Nat)=>eE (n:Int) (f n)
theorem ya (f:Nat->az)(l:List Nat)(h:∀ n∈l,n<=4096/\(f n).length<=240):(fY f l).length<=300*l.length:=by
 unfold fY
 induction l with
 |nil=>simp
 |cons y r ih=>
  have h1:=h y (by simp);have h2:=ih fun z hz=>h z (by simp[hz]);have h3:(eE (y:Int) (f y)).length<=300:=by
   unfold eE;have e1:=bI (n:=(y:Int).toNat) (by omega);have e2:=bI (n:=(f y).length) (by omega);simp only[auS];omega
  simp only[avg,auS,auA];omega
structure pB (w w1:World)(p:Nat)(v:Vs)(a a':eF)(q:Nat)(h:Hd)(l:List Nat)(lv:Value)(hb:Nat)(done:az)(wr:World):Prop where
 at_:kg wr p v a'
 role:a'.role=a.role
 text:a'.text=a.text
 foot:∀ g,a'.foot p g->a.foot p g\/w1.heap.size<=g
 mod:ah (a.foot p) w wr
 still:fG (fun b=>a.role b≠.none) w wr
 plan:eT wr p a' q h l lv
 hash:World.blk wr hb (rj fX done) 186
section
variable {w w1 wr w2:World}{p:Nat}{v:Vs}{a a' a2:eF}{q:Nat}{h:Hd}{l:List Nat}{lv:Value}{hb:Nat}{done:az}
theorem pB.read (s:pB w w1 p v a a' q h l lv hb done wr)(h1:hb<w1.heap.size)(h2:w1.heap.size<=wr.heap.size)(h3:¬ a.foot p hb)(hw:w.heap.size<=w1.heap.size)(k:eg wr p v a' v a2 w2)(ht:a2.text=a'.text)(pl:eT w2 p a2 q h l lv):pB w w1 p v a a2 q h l lv hb done w2:=
 ⟨k.at_,k.role.trans s.role,ht.trans s.text,fun g hg=>(k.foot g hg).elim (s.foot g) (fun h=>.inr (aux h2 h)),s.mod.trans k.mod (fun g hl hs=>(s.foot g hs).elim id (fun h=>by omega)),
  fun b N7 hl=>(k.still b (by rw[s.role];exact N7) (auL hl s.mod.size)).trans (s.still b N7 hl),pl,ab k.mod s.hash (fun hf=>(s.foot hb hf).elim h3 (fun h=>by omega))⟩
theorem pB.wrote (s:pB w w1 p v a a' q h l lv hb done wr)(h1:hb<w1.heap.size)(h3:¬ a.foot p hb)(h4:w.heap.size<=hb)(hq:q<w.heap.size)(hl:∀ g,lv.ownBlock=some g->g<w.heap.size)(m:ah (·=hb) wr w2){Xn:az}(hh:World.blk w2 hb (rj fX Xn) 186):pB w w1 p v a a' q h l lv hb Xn w2:=by
 have hn:¬ a'.foot p hb:=fun hf=>(s.foot hb hf).elim h3 (fun h=>by omega);refine⟨s.at_.same (m.on fun g hg e=>hn (by rw[<-e];exact hg)) m.size,s.role,s.text,s.foot,s.mod.trans m (fun g hl e=>by omega),fun b N7 TT=>(m.block b (auL TT s.mod.size) (by omega)).trans (s.still b N7 TT),?_,hh⟩;obtain⟨base,ha⟩:=s.plan.at_;exact⟨⟨base,ab m ha.own (by omega),aA ha.row (fun g hg=>m.block g (aT ha.row hg) (by have:=hl g hg;omega)),ha.new⟩,s.plan.qf,s.plan.lf⟩
theorem pB.keep (s:pB w w1 p v a a' q h l lv hb done wr)(k:af wr w2):pB w w1 p v a a' q h l lv hb done w2:=
 ⟨s.at_.keep k,s.role,s.text,s.foot,s.mod.trans (k.mono (T:=a.foot p) (fun _ _ h=>h.elim)) (fun _ _ h=>h),fun b N7 TT=>(k.block b (auL TT s.mod.size) id).trans (s.still b N7 TT),s.plan.keep k,ab k s.hash id⟩
end
theorem sD {w:World}{p:Nat}{v:Vs}{a:eF}{q:Nat}{h:Hd}{l:List Nat}{lv:Value}(hv:kg w p v a)(hl:v.b.list.length<=1000)(x:eT w p a q h l lv)(hid:l≠[]->((aK v.b.list h.name).getD dY).id=h.id)
  (tX:l.length<=5000) (hb:v.blocks<=4096) (f:Nat->az) (hf:∀ n∈l,1<=n/\n<v.blocks/\v.rd n=.ok (f n)/\(f n).length<=240):
  Calls prog 23 #[aq q] w fun e w'=>e=.returned (.tuple #[aC (KX fX (fY f l)),.int .i64 0])/\∃ a',eg w p v a v a' w'/\a'.text=a.text/\eT w' p a' q h l lv:=by
 have NH:=hd0 (EY fX w rfl);obtain⟨base,ha⟩:=x.at_;have hqw:=ai ha.own;have hlw:∀ g,lv.ownBlock=some g->g<w.heap.size:=fun g hg=>aT ha.row hg;obtain⟨iM,Yp⟩:∃ iM,w.heap.size=iM:=⟨_,rfl⟩
 have Hhb:=hd0 Yp;have Fy:¬ a.foot p iM:=fun hf=>by have:=hv.lt hf;omega
 have HQ:=hd0 (And.intro hqw (And.intro hlw Fy));have HV:=hd0 hv;have HX:=hd0 x;have HL:=hd0 (And.intro hl (And.intro tX hb));have HID:=hd0 hid;have HF:=hd0 hf;have Z5:(l.length:Int)<=5000:=by omega
 clear hv hl x hid hb hf ha hqw hlw Fy;go_enter func23,ntmps23;go_wp2_with fail;refine NH.out.mono ?_;rintro e w1 ⟨rfl,hh,k1⟩;rw[Yp]at hh ⊢;have HS:Hid (pB w w1 p v a a q h l lv iM (fY f (l.take 0)) w1):=hd0 ⟨HV.out.keep k1,rfl,rfl,fun g hg=>.inl hg,k1.mono (fun _ _ h=>h.elim),fun b N7 TT=>k1.block b TT id,HX.out.keep k1,(by rw[show fY f (l.take 0)=[]from rfl];exact hh)⟩;have H1:Hid (iM<w1.heap.size/\w.heap.size<=w1.heap.size):=hd0 ⟨ai hh,k1.size⟩;obtain⟨la,cap,ZN,_,_,_,c8,_⟩:=(HX.out.keep k1).cells;clear k1 hh NH Yp;go_wp2_with fail
 go_loopw [18] (fun y wr=>∃ k:Nat,k<=l.length/\y=.int .i64 (k:Int)/\Hid (∃ a',pB w w1 p v a a' q h l lv iM (fY f (l.take k)) wr/\w1.heap.size<=wr.heap.size)) (fun y _=>l.length-(intOf y).toNat)
 case atStart=>exact⟨0,by omega,rfl,hd0 ⟨a,HS.out,auE _⟩⟩
 case round=>
  clear HS c8;obtain⟨k,hk,rfl,HR⟩:=hrel;obtain⟨a1,hs,cK⟩:=HR.out;have HS:=hd0 (And.intro hs cK);clear hs cK HR;by_cases aL:k<l.length
  ·have dN:(k:Int)<(l.length:Int):=by omega
   obtain⟨n,hn⟩:∃ n,l[k]?=some n:=⟨_,auB aL⟩
   obtain⟨g1,g2,g3,g4⟩:=HF.out n (auC hn);have PR:=hd0 (IM HS.out.1.at_ HL.out.1 HS.out.1.plan (HID.out (fun e=>by rw[e]at hn;cases hn)) k n hn HL.out.2.1 g1 g2 HL.out.2.2 (f n) g3 g4);have Yu:fY f (l.take (k+1))=fY f (l.take k)++eE (n:Int) (f n):=by unfold fY;rw[auD,hn];simp
   have aV:(eE (n:Int) (f n)).length<=300:=by
    unfold eE;have h1:=bI (n:=(n:Int).toNat) (by have:=HL.out.2.2;omega);have h2:=bI (n:=(f n).length) (by omega);simp only[auS];omega
   have HT:=hd0 (And.intro Yu aV);clear hn g1 g2 g3 g4 Yu aV;go_wp2_with fail;refine PR.out.mono ?_;rintro e w2 ⟨rfl,a2,gW,AA,jJ⟩;have kp:=HS.out.1.read H1.out.1 HS.out.2 HQ.out.2.2 H1.out.2 gW AA jJ;have BV:=hd0 (And.intro kp (aux HS.out.2 gW.mod.size));have WH:=hd0 (IN iM fX (fY f (l.take k)) (eE (n:Int) (f n)) w2 kp.hash (by
    have h1:=ya f (l.take k) (fun y hy=>by
     obtain⟨g1,g2,g3,g4⟩:=HF.out y (auG hy);exact⟨by have:=HL.out.2.2;omega,g4⟩)
    rw[auH]at h1;have h4:min k l.length<=l.length:=Nat.min_le_right _ _;have h2:=HT.out.2;have h3:=HL.out.2.1;omega))
   clear kp gW AA jJ PR;go_wp2_with fail;refine WH.out.mono ?_;rintro e w3 ⟨rfl,hh3,m3⟩;rw[<-HT.out.1]at hh3;have I8:=hd0 (And.intro (BV.out.1.wrote H1.out.1 HQ.out.2.2 (Nat.le_of_eq Hhb.out) HQ.out.1 HQ.out.2.1 m3 hh3) (aux BV.out.2 m3.size));clear hh3 m3 WH;go_wp2_with fail;exact⟨⟨k+1,by omega,by go_num,hd0 ⟨a2,I8.out⟩⟩,by simp[intOf];omega⟩
  ·obtain nY:k=l.length:=by omega
   have hs:=HS.out.1;rw[nY,auF]at hs;have SH:=hd0 (Rr iM fX (fY f l) wr hs.hash (by
    have h1:=ya f l (fun y hy=>by
     obtain⟨g1,g2,g3,g4⟩:=HF.out y hy;exact⟨by have:=HL.out.2.2;omega,g4⟩)
    have h3:=HL.out.2.1;omega))
   have Jd:=hd0 hs;clear hs hk;go_wp2_with fail;refine SH.out.mono ?_;rintro e w4 ⟨rfl,k4⟩;have HE:=hd0 (Jd.out.keep k4);clear k4 SH;go_wp2;go_ret2;exact⟨rfl,a1,⟨HE.out.at_,HE.out.role,fun g hg=>(HE.out.foot g hg).imp id (fun h=>aux H1.out.2 h),HE.out.mod,HE.out.still,fun e=>HE.out.text.trans e⟩,HE.out.text,HE.out.plan⟩
end
theorem Kf (c:UInt8)(l:List UInt8):l.length+1=((jZ c l).map fun x=>x.length+1).sum:=by
 induction l with
 |nil=>simp[jZ]
 |cons b r ih=>
  by_cases h:b=c
  ·subst h;rw[jZ,auI rfl];simp only[auy,auz,avK,auA];omega
  ·rw[vR c b r h]
   cases hs:jZ c r with
   |nil=>exact absurd hs (vQ c r)
   |cons x y=>
    rw[hs]at ih;simp only[auy,auz,auA]at ih ⊢;omega
theorem Vk (l:List (List UInt8))(h:∀ x∈l,x.length<=16):(l.map fun x=>x.length+1).sum<=17*l.length:=by
 induction l with
 |nil=>simp
 |cons x r ih=>
  have h1:=h x (by simp);have h2:=ih fun y hy=>h y (by simp[hy]);simp only[auy,auz,auA];omega
theorem kj {s:List UInt8}(h:aG s=true):s.length<=16:=by
 unfold aG at h;simp only[auT,auY]at h;exact h.1.1.2
theorem EZ {s:List UInt8}(h:(bg s).isSome=true):s.length<=137:=by
 obtain⟨l,hl⟩:=Option.isSome_iff_exists.1 h;obtain⟨r,rfl,hr⟩:=jb hl;rcases hr with⟨rfl,_⟩|⟨_,lA,h8,hn⟩
 ·simp
 ·have h1:=Kf 47 r;rw[<-lA]at h1;have h2:=Vk l (fun x hx=>kj (auU.1 hn x hx));simp only[auA];omega
theorem tQ:∀(k u:Nat),u<10 ^ k->1<=k->Lib.nDigits u<=k
 |0,_,_,h=>by omega
 |k+1,u,h,_=>by
  by_cases h1:u<10
  ·rw[Lib.nDigits_small h1];omega
  ·rw[Lib.nDigits_big h1];rw[au3]at h;by_cases hk:1<=k
   ·have:=tQ k (u/10) (by omega) hk;omega
   ·obtain rfl:k=0:=by omega
    simp at h;omega
theorem dH {c:bP}{f:Nat}(h:c.fieldOk f=true):(c.fieldText f).length<=1024/\(f≠4->(c.fieldText f).length<=137):=by
 unfold bP.fieldOk at h;unfold bP.fieldText;split at h
 ·have:=EZ h;exact⟨by show c.path.length<=_;omega,fun _=>this⟩
 ·have:=EZ h;exact⟨by show c.dest.length<=_;omega,fun _=>this⟩
 ·simp only[auT,auY]at h;have:(Lib.itoa c.pos).length<=10:=by
   obtain⟨u,hu⟩:∃ u:Nat,c.pos=u:=⟨c.pos.toNat,by omega⟩
   rw[hu,Lib.itoa_nonneg,Lib.decDigits_length];exact tQ 10 u (by omega) (by omega)
  exact⟨by show(Lib.itoa c.pos).length<=_;omega,fun _=>by show(Lib.itoa c.pos).length<=_;omega⟩
 ·have hd:c.data.length<=512:=by simpa using h
  refine⟨?_,fun hh=>absurd rfl hh⟩;show(rU c.data).length<=_;unfold rU;split
  ·simp
  ·rw[tu];omega
 ·rename_i h2 h3 h4 h5
  have:=kj h;split
  ·exact absurd rfl h3
  ·exact absurd rfl h4
  ·exact absurd rfl h5
  ·exact⟨by omega,fun _=>by omega⟩
theorem Vl {c:bP}(h:c.fieldOk 3=true):(c.fieldText 3).length<=10:=by
 have h':(decide (0<=c.pos)&&decide (c.pos<=16384))=true:=h;simp only[auT,auY]at h';show(Lib.itoa c.pos).length<=10;obtain⟨u,hu⟩:∃ u:Nat,c.pos=u:=⟨c.pos.toNat,by omega⟩
 rw[hu,Lib.itoa_nonneg,Lib.decDigits_length];exact tQ 10 u (by omega) (by omega)
theorem pC {c:bP}(h:c.ok=true):c.line.length<=1300:=by
 have hw:=Gy h;have h1:=Kf 32 c.line;rw[hw]at h1;obtain⟨hk,hf⟩:=oW h;have hk9:c.k<9:=hk;have ff:∀ f∈fieldsOf c.k,c.fieldOk f=true:=by
  intro f hf';unfold bP.ok at h;simp only[auT]at h;exact auU.1 h.2.1 f hf'
 rcases(by omega:c.k=0\/c.k=1\/c.k=2\/c.k=3\/c.k=4\/c.k=5\/c.k=6\/c.k=7\/c.k=8)with e|e|e|e|e|e|e|e|e<;>rw[e]at h1 ff<;>simp only[fieldsOf,cP,auy,List.map_nil,auz,List.sum_nil,auA,avK]at h1
 ·have:=(dH (ff 1 (by simp[fieldsOf]))).2 (by decide);omega
 ·have:=(dH (ff 1 (by simp[fieldsOf]))).2 (by decide);omega
 ·have a1:=(dH (ff 1 (by simp[fieldsOf]))).2 (by decide);have a2:=Vl (ff 3 (by simp[fieldsOf]));have a3:=(dH (ff 4 (by simp[fieldsOf]))).1;omega
 ·have a1:=(dH (ff 1 (by simp[fieldsOf]))).2 (by decide);have a2:=(dH (ff 3 (by simp[fieldsOf]))).2 (by decide);omega
 ·have a1:=(dH (ff 1 (by simp[fieldsOf]))).2 (by decide);have a2:=(dH (ff 2 (by simp[fieldsOf]))).2 (by decide);omega
 ·have a1:=(dH (ff 1 (by simp[fieldsOf]))).2 (by decide);have a2:=(dH (ff 2 (by simp[fieldsOf]))).2 (by decide);omega
 ·have:=(dH (ff 1 (by simp[fieldsOf]))).2 (by decide);omega
 ·have:=(dH (ff 5 (by simp[fieldsOf]))).2 (by decide);omega
 ·have:=(dH (ff 5 (by simp[fieldsOf]))).2 (by decide);omega
theorem qe {c:bP}(h:c.ok=true)(h7:c.kind=7):aG c.path=true/\c.path.length<=16/\c.path≠[]:=by
 have hk:c.k=7:=by unfold bP.k;rw[h7];decide
 unfold bP.ok at h;simp only[auT]at h;have h5:=auU.1 h.2.1 5 (by rw[hk];simp[fieldsOf]);have hn:aG c.path=true:=h5;refine⟨hn,kj hn,?_⟩;intro e;rw[e]at hn
 cases hn
theorem Rs {l:Nm}(hl:l.length<=60)(hn:∀ p∈l,aG p.1=true)(hp:∀ p∈l,0<=p.2/\p.2<=65535):(mg l).length<=16384:=by
 have Z4:∀ n:Nat,n<=65535->(aP n).length<=3:=by
  intro n hn;rw[aP];split
  ·simp
  ·rw[aP];split
   ·simp
   ·rw[aP,dif_pos (by omega)];simp
 have key:∀ m:Nm,(∀ p∈m,aG p.1=true/\0<=p.2/\p.2<=65535)->(m.flatMap lQ).length<=30*m.length:=by
  intro m
  induction m with
  |nil=>intro _;simp
  |cons p r ih=>
   intro hm;obtain⟨a1,a2,a3⟩:=hm p (by simp);have h2:=ih fun q hq=>hm q (by simp[hq]);have h3:=kj a1;have h4:=Z4 p.1.length (by omega);have h5:=Z4 p.2.toNat (by omega);have h6:(lQ p).length<=30:=by unfold lQ;simp only[auS];omega
   simp only[avg,auS,auA];omega
 unfold mg;have h1:=Z4 l.length (by omega);have h2:=key l fun p CC=>⟨hn p CC,hp p CC⟩
 rw[auS];omega
theorem Y7 {l:List Nat}{k:Nat}(h:∀ x∈l,x<=k):l.sum<=k*l.length:=by
 induction l with
 |nil=>simp
 |cons x r ih=>
  have h1:=h x (by simp);have h2:=ih fun y hy=>h y (by simp[hy]);simp only[auz,auA,Nat.mul_succ];omega
theorem Vm {T:Tr}(h1:T.length<=60)(h2:∀ n∈T,n.names.length<=60)(j:Int):j8 T j<=3600:=by
 unfold j8;have h3:=Y7 (l:=T.map fun n=>gD n.names j) (k:=60) (fun x hx=>by
  obtain⟨n,hn,rfl⟩:=au6.1 hx;exact aux List.countP_le_length (h2 n hn))
 rw[au4]at h3;omega
theorem tR {T:Tr}{d:Int->Nat}(h:WF T d):iI (ar T):=by
 have dC:∀(was:Int) (S:Tr),S.Pairwise (fun a b=>a.num<b.num)->(∀ n∈S,was<n.num/\n.num<=65535)->lW was (ar S)=true:=by
  intro was S
  induction S generalizing was with
  |nil=>intro _ _;rfl
  |cons x r ih=>
   intro hp hm;rw[avF]at hp;have h1:=hm x (by simp);have h2:=ih x.num hp.2 (fun n hn=>⟨hp.1 n hn,(hm n (by simp[hn])).2⟩);show(decide (was<x.num)&&decide (x.num<=65535)&&lW x.num (ar r))=true;rw[decide_eq_true h1.1,decide_eq_true h1.2,h2];rfl
 refine⟨⟨by unfold ar;rw[au4];exact h.many,dC 0 T h.sorted (fun n hn=>by have:=h.nums n hn;omega),?_,?_⟩,T,d,h,rfl⟩
 ·intro x hx;obtain⟨n,hn,rfl⟩:=au6.1 hx;show 1<=n.links/\n.links<=3600;by_cases h1:n.num=1
  ·obtain⟨r,hr,KG,_,KT⟩:=h.root;have e:n=r:=by
    have g1:=(ax h.sorted).2 ⟨hn,h1⟩;have g2:=(ax h.sorted).2 ⟨hr,KG⟩;rw[g1]at g2;injection g2
   rw[e,KT];decide
  ·obtain⟨h2,h3,_⟩:=h.count n hn h1;have h4:=Vm h.many (fun m hm=>(h.names m hm).1) n.num;have h2':(j8 T n.num:Int)+0=n.links:=h2;omega
 ·intro x hx;obtain⟨n,hn,rfl⟩:=au6.1 hx;show(if n.dir=true then mg n.names else n.data).length<=16384;split
  ·refine Rs (h.names n hn).1 (h.names n hn).2 (fun p hp=>?_);obtain⟨_,m,hm,e⟩:=h.closed n hn p hp;have:=h.nums m hm;omega
  ·rename_i hd
   exact(h.file n hn (by simpa using hd)).2
structure acv (v:Vs)(c:bP)(r:Int)(u:Vs):Prop where
 run:yP v c=.ok (r,u)
 good:io u
 blocks:u.blocks=v.blocks
 half:u.half=v.half
 num:v.num<=u.num/\u.num<=v.num+3
 id:u.b.id<=v.b.id+1
 T:u.T=v.T\/u.T=(qN v.T c).1
theorem Y8 {v:Vs}(h:io v)(c:bP)(XF:c.ok=true->c.line.length+2<=v.half)(hn:iI (ar (qN v.T c).1)):∃ r u,acv v c r u:=by
 cases hX:ly v c with
 |error x=>
  exact⟨x,v,(ER hX).2,h,rfl,rfl,by omega,by omega,.inl rfl⟩
 |ok T=>
  obtain⟨cq,hm,hT⟩:=Kb hX;have hTM:iI (ar T):=by
   rcases hT with rfl|rfl
   ·exact h.told
   ·exact hn
  obtain⟨v1,e1,sQ,Cl,KG⟩:∃ v1,(if(c.kind=7\/c.kind=8)\/c.line.length+2<=cl v then(.ok v:Except Int Vs)else bB v v.b.list [])=.ok v1/\im v v1/\v1.num<=v.num+1/\((c.kind=7\/c.kind=8)\/c.line.length+2<=cl v1):=by
   by_cases hr:(c.kind=7\/c.kind=8)\/c.line.length+2<=cl v
   ·exact⟨v,by rw[auI hr],im.refl h,by omega,hr⟩
   ·obtain⟨u,hu,hs,_,aj6,dC⟩:=fM h;refine⟨u,by rw[auK hr,hu],hs,by omega,.inr ?_⟩;unfold cl;rw[aj6,hs.half];have:=XF cq;simp[lB];omega
  obtain⟨b,v2,e2,kp,hb1,fi,afC⟩:=Ka sQ.good T c.kind;have hs:=sQ.trans kp;have AK:=(ES sQ.good e2).2.1;have hd:=Kc cq hm e1 e2;have dC:v.num<=v2.num/\v2.num<=v.num+2:=⟨hs.num,by omega⟩
  cases b with
  |false=>exact⟨151,v2,by rw[hd,auI rfl],hs.good,hs.blocks,hs.half,by omega,by rw[hs.id];omega,.inl hs.T⟩
  |true=>
   rw[auK (by decide)]at hd;have ajR:=hb1 rfl;by_cases h7:c.kind=7
   ·obtain⟨g1,g2,g3⟩:=xV hm h7;obtain⟨k1,k2,_⟩:=qe cq h7;have BZ:dX v2 v2.b.list c.path:=⟨List.Sublist.refl _,.inr ⟨k1,k2,fun x hx=>by rw[hs.list]at hx;exact re g1 x hx,by rw[hs.list];exact g2,by rw[hs.id];omega⟩⟩
    obtain⟨u,hu⟩:=ls hs.good BZ;refine⟨0,u,by rw[hd,auI h7,hu.run];rfl,hu.good,hu.blocks.trans hs.blocks,hu.half.trans hs.half,by have:=hu.num;omega,?_,.inl (hu.T.trans hs.T)⟩;rw[hu.id];split
    ·rw[hs.id];omega
    ·rw[hs.id];exact auE _
   ·by_cases h8:c.kind=8
    ·have BZ:dX v2 (v2.b.list.eraseIdx ((du v2 c.path).getD 0)) []:=⟨List.eraseIdx_sublist _ _,.inl rfl⟩
     obtain⟨u,hu⟩:=ls hs.good BZ;refine⟨0,u,by rw[hd,auK h7,auI h8,hu.run];rfl,hu.good,hu.blocks.trans hs.blocks,hu.half.trans hs.half,by have:=hu.num;omega,?_,.inl (hu.T.trans hs.T)⟩;rw[hu.id,auI rfl,hs.id];omega
    ·have l5:c.line.length+2<=cl v2:=by
      rcases KG with(hh|hh)|hh
      ·exact absurd hh h7
      ·exact absurd hh h8
      ·rcases afC with hh2|hh2
       ·unfold cl at hh ⊢;rw[kp.half,hh2];exact hh
       ·unfold cl;rw[hh2,hs.half];have:=XF cq;simp[lB];omega
     refine⟨0,{ v2 with T:=T,recs:=v2.recs++[c.line] },by rw[hd,auK h7,auK h8,auK (by omega)],II hs.good hTM (by omega),hs.blocks,hs.half,by show v.num<=v2.num/\v2.num<=v.num+3;omega,by show v2.b.id<=v.b.id+1;rw[hs.id];omega,?_⟩;rcases hT with e|e
     ·exact .inl e
     ·exact .inr e
def uL:Vs->List bP->Except Int Vs
 |v,[]=>.ok v
 |v,c::r=>match yP v c with
  | .error e=>.error e
  | .ok o=>uL o.2 r
theorem Nk {v:Vs}{l:List bP}{u:Vs}(h:uL v l=.ok u){c:bP}{r:Int}{x:Vs}(hd:yP u c=.ok (r,x)):uL v (l++[c])=.ok x:=by
 induction l generalizing v with
 |nil=>
  injection h with h;subst h;show(match yP v c with | .error e=>(.error e:Except Int Vs) | .ok o=>uL o.2 [])=_;rw[hd];rfl
 |cons y l ih=>
  have h':(match yP v y with | .error e=>(.error e:Except Int Vs) | .ok o=>uL o.2 l)=.ok u:=h;show(match yP v y with | .error e=>(.error e:Except Int Vs) | .ok o=>uL o.2 (l++[c]))=_
  cases hy:yP v y with
  |error e=>rw[hy]at h';cases h'
  |ok o=>rw[hy]at h';exact ih h'
structure Lv (v:Vs)(k:Nat):Prop where
 good:io v
 wf:∃ d,WF v.T d
 id:v.b.id<=k+1
 num:v.num<=2+3*k
 half:1302<=v.half
theorem Lv.step {v:Vs}{k:Nat}(h:Lv v k)(c:bP):∃ r u,yP v c=.ok (r,u)/\Lv u (k+1)/\u.blocks=v.blocks/\u.half=v.half:=by
 obtain⟨d,hw⟩:=h.wf;obtain⟨d',cf⟩:=JR hw c;obtain⟨r,u,hr⟩:=Y8 h.good c (fun cq=>by have:=pC cq;have:=h.half;omega) (tR cf);refine⟨r,u,hr.run,⟨hr.good,?_,by have:=hr.id;have:=h.id;omega,by have:=hr.num;have:=h.num;omega,by rw[hr.half];exact h.half⟩,hr.blocks,hr.half⟩;rcases hr.T with e|e
 ·exact⟨d,by rw[e];exact hw⟩
 ·exact⟨d',by rw[e];exact cf⟩
end Go.Proofs.YtkghpdcloaiflaaGreatDoor
