import Derived.Test.YtkghpdcloaiflaaGreatDoorH40
set_option maxHeartbeats 4000000
set_option maxRecDepth 100000
namespace Go.Proofs.YtkghpdcloaiflaaGreatDoor
open _root_.Go.Proofs.Tryz
variable {l:List Nat}{lv:Value}{p q:Nat}{w w':World}
section
open Go.RowKit
attribute [local go_sem] av0
abbrev sF (h:Hd):Value:=.agg #[.int .i64 h.id,.int .i64 h.base,.string ⟨h.name.toArray⟩,.int .i64 h.table.root,.int .i64 h.table.size,.int .i64 h.count,.string ⟨h.drop.toArray⟩]
theorem yU {b:Nat}{t:TypeId}{c0 c1 c2 c3 c4 c5 c6:Value}(h:World.blk w b #[c0,c1,c2,c3,c4,c5,c6] t)(x0 x1 x2 x3 x4 x5 x6:Value):
  World.blk (((((((w.setCell ⟨b,0,none⟩ x0).setCell ⟨b,1,none⟩ x1).setCell ⟨b,2,none⟩ x2).setCell ⟨b,3,none⟩ x3).setCell ⟨b,4,none⟩ x4).setCell ⟨b,5,none⟩ x5).setCell ⟨b,6,none⟩ x6) b #[x0,x1,x2,x3,x4,x5,x6] t/\ai (λg=>g=b) w (((((((w.setCell ⟨b,0,none⟩ x0).setCell ⟨b,1,none⟩ x1).setCell ⟨b,2,none⟩ x2).setCell ⟨b,3,none⟩ x3).setCell ⟨b,4,none⟩ x4).setCell ⟨b,5,none⟩ x5).setCell ⟨b,6,none⟩ x6):=by
 have h1:World.blk (w.setCell ⟨b,0,none⟩ x0) b #[x0,c1,c2,c3,c4,c5,c6] t:=ah h 0 x0;have h2:World.blk ((w.setCell ⟨b,0,none⟩ x0).setCell ⟨b,1,none⟩ x1) b #[x0,x1,c2,c3,c4,c5,c6] t:=ah h1 1 x1;have h3:World.blk (((w.setCell ⟨b,0,none⟩ x0).setCell ⟨b,1,none⟩ x1).setCell ⟨b,2,none⟩ x2) b #[x0,x1,x2,c3,c4,c5,c6] t:=ah h2 2 x2;have h4:World.blk ((((w.setCell ⟨b,0,none⟩ x0).setCell ⟨b,1,none⟩ x1).setCell ⟨b,2,none⟩ x2).setCell ⟨b,3,none⟩ x3) b #[x0,x1,x2,x3,c4,c5,c6] t:=ah h3 3 x3;have h5:World.blk (((((w.setCell ⟨b,0,none⟩ x0).setCell ⟨b,1,none⟩ x1).setCell ⟨b,2,none⟩ x2).setCell ⟨b,3,none⟩ x3).setCell ⟨b,4,none⟩ x4) b #[x0,x1,x2,x3,x4,c5,c6] t:=ah h4 4 x4;have h6:World.blk ((((((w.setCell ⟨b,0,none⟩ x0).setCell ⟨b,1,none⟩ x1).setCell ⟨b,2,none⟩ x2).setCell ⟨b,3,none⟩ x3).setCell ⟨b,4,none⟩ x4).setCell ⟨b,5,none⟩ x5) b #[x0,x1,x2,x3,x4,x5,c6] t:=ah h5 5 x5;have h7:World.blk (((((((w.setCell ⟨b,0,none⟩ x0).setCell ⟨b,1,none⟩ x1).setCell ⟨b,2,none⟩ x2).setCell ⟨b,3,none⟩ x3).setCell ⟨b,4,none⟩ x4).setCell ⟨b,5,none⟩ x5).setCell ⟨b,6,none⟩ x6) b #[x0,x1,x2,x3,x4,x5,x6] t:=ah h6 6 x6;exact⟨h7,((((((((ai.refl (λg=>g=b) w).setCell (p:=⟨b,0,none⟩) (.inl rfl) x0).setCell (p:=⟨b,1,none⟩) (.inl rfl) x1).setCell (p:=⟨b,2,none⟩) (.inl rfl) x2).setCell (p:=⟨b,3,none⟩) (.inl rfl) x3).setCell (p:=⟨b,4,none⟩) (.inl rfl) x4).setCell (p:=⟨b,5,none⟩) (.inl rfl) x5).setCell (p:=⟨b,6,none⟩) (.inl rfl) x6)⟩
theorem Nl {base:Nat}{h:Hd}(a:qY w base q p h l lv):
  Calls prog 18 #[au q] w λe w'=>e=.returned (sF h)/\af w w':=by
 obtain⟨W,hW⟩:∃ W,w.alloc (.cells #[.int .i64 0,.int .i64 0,.string ⟨#[]⟩,.int .i64 0,.int .i64 0,.int .i64 0,.string ⟨#[]⟩] 44)=W:=⟨_,rfl⟩
 obtain⟨b,hb⟩:∃ b,w.heap.size=b:=⟨_,rfl⟩
 have hk:af w W:=by rw[<-hW];exact(ai.refl _ w).alloc _
 have hz:World.blk W b #[.int .i64 0,.int .i64 0,.string ⟨#[]⟩,.int .i64 0,.int .i64 0,.int .i64 0,.string ⟨#[]⟩] 44:=by rw[<-hW,<-hb];exact av _ _ _
 have ho:=ab hk a.own id;have c1:W.cell? ⟨q,1,none⟩=some (.int .i64 h.id):=aa ho 1;have c2:W.cell? ⟨q,2,none⟩=some (.int .i64 h.base):=aa ho 2;have c3:W.cell? ⟨q,3,none⟩=some (.string ⟨h.name.toArray⟩):=aa ho 3;have c4:W.cell? ⟨q,4,none⟩=some (.int .i64 h.table.root):=aa ho 4;have c5:W.cell? ⟨q,5,none⟩=some (.int .i64 h.table.size):=aa ho 5;have c6:W.cell? ⟨q,6,none⟩=some (.int .i64 h.count):=aa ho 6;have c7:W.cell? ⟨q,7,none⟩=some (.string ⟨h.drop.toArray⟩):=aa ho 7;have z0:W.cell? ⟨b,0,none⟩=some (.int .i64 0):=aa hz 0;have z1:W.cell? ⟨b,1,none⟩=some (.int .i64 0):=aa hz 1;have z2:W.cell? ⟨b,2,none⟩=some (.string ⟨#[]⟩):=aa hz 2;have z3:W.cell? ⟨b,3,none⟩=some (.int .i64 0):=aa hz 3;have z4:W.cell? ⟨b,4,none⟩=some (.int .i64 0):=aa hz 4;have z5:W.cell? ⟨b,5,none⟩=some (.int .i64 0):=aa hz 5;have z6:W.cell? ⟨b,6,none⟩=some (.string ⟨#[]⟩):=aa hz 6;have f0:=ae hz ⟨b,0,none⟩ rfl;have f1:=ae hz ⟨b,1,none⟩ rfl;have f2:=ae hz ⟨b,2,none⟩ rfl;have f3:=ae hz ⟨b,3,none⟩ rfl;have f4:=ae hz ⟨b,4,none⟩ rfl;have f5:=ae hz ⟨b,5,none⟩ rfl;have f6:=ae hz ⟨b,6,none⟩ rfl;have yV:=yU hz (.int .i64 h.id) (.int .i64 h.base) (.string ⟨h.name.toArray⟩) (.int .i64 h.table.root) (.int .i64 h.table.size) (.int .i64 h.count) (.string ⟨h.drop.toArray⟩);obtain⟨HK,HF,Hb⟩:=K3 hk yV hb;clear ho hk hz yV a;go_enter func18,ntmps18;go_wp2_with fail
 try rw[hW]
 try rw[hb]
 go_wp2_with fail;have q0:World.cell? _ ⟨b,0,none⟩=some (.int .i64 h.id):=aa HF.1 0;have q1:World.cell? _ ⟨b,1,none⟩=some (.int .i64 h.base):=aa HF.1 1;have q2:World.cell? _ ⟨b,2,none⟩=some (.string ⟨h.name.toArray⟩):=aa HF.1 2;have q3:World.cell? _ ⟨b,3,none⟩=some (.int .i64 h.table.root):=aa HF.1 3;have q4:World.cell? _ ⟨b,4,none⟩=some (.int .i64 h.table.size):=aa HF.1 4;have q5:World.cell? _ ⟨b,5,none⟩=some (.int .i64 h.count):=aa HF.1 5;have q6:World.cell? _ ⟨b,6,none⟩=some (.string ⟨h.drop.toArray⟩):=aa HF.1 6;have od:=HK.new HF.2 (Nat.le_of_eq Hb.o);exact awC (v:=sF h) (by simp[results,Tryz.results18,go_sem,q0,q1,q2,q3,q4,q5,q6]) rfl ⟨rfl,od⟩
structure gc (w:World)(p:Nat)(a:eX)(q:Nat)(h:Hd)(l:List Nat)(lv:Value):Prop where
 at_:∃ base,qY w base q p h l lv
 qf:¬ a.foot p q
 lf:∀ g,lv.ownBlock=some g->¬ a.foot p g
theorem gc.keep {a:eX}{h:Hd}(x:gc w p a q h l lv)(k:af w w'):gc w' p a q h l lv:=by
 obtain⟨base,ha⟩:=x.at_;exact⟨⟨base,ha.keep k⟩,x.qf,x.lf⟩
theorem gc.to {_v _u:Vs}{a a':eX}{h:Hd}(x:gc w p a q h l lv)(m:ai (a.foot p) w w')(hf:∀ g,a'.foot p g->a.foot p g\/w.heap.size<=g):gc w' p a' q h l lv:=by
 obtain⟨base,ha⟩:=x.at_;refine⟨⟨base,ab m ha.own x.qf,aA ha.row (λg hg=>m.block g (aX ha.row hg) (x.lf g hg)),ha.new⟩,λh1=>(hf q h1).elim x.qf (λh2=>?_),λg hg h1=>(hf g h1).elim (x.lf g hg) (λh2=>?_)⟩
 ·have:=ak ha.own;omega
 ·have:=aX ha.row hg;omega
theorem BK {a:eX}{h:Hd}(x:gc w p a q h l lv)(i:Int)(hi:i<0\/(l.length:Int)<=i):
  Calls prog 21 #[au q,.int .i64 i] w λe w'=>e=.returned (.tuple #[.string ⟨#[]⟩,.int .i64 191])/\af w w':=by
 obtain⟨base,ha⟩:=x.at_;obtain⟨la,cap,rfl,_⟩:=bh ha.row;have yl:(bu (gh l)).length=l.length:=by simp[bu,gh]
 rw[yl]at ha;have c8:w.cell? ⟨q,8,none⟩=some (.slice la l.length cap):=aa ha.own 8;clear ha x yl;by_cases h0:i<0
 ·go_enter func21,ntmps21;go_wp2;go_ret2;exact⟨rfl,ai.refl _ _⟩
 ·have h1:(l.length:Int)<=i:=hi.resolve_left h0;clear hi;go_enter func21,ntmps21;go_wp2;go_ret2;exact⟨rfl,ai.refl _ _⟩
theorem Nn (n:Nat)(s:ay)(bZ:As (n:Int) s)(w:World):
  Calls prog 11 #[az (ey (n:Int) s)] w λe w'=>e=.returned (.tuple #[.int .i64 (n:Int),az s,.int .i64 0])/\af w w':=by
 obtain⟨RN,Ga⟩:=K2 (tB (ey (n:Int) s) w) bZ;have he:ey (n:Int) s=aD n++(aD s.length++(s++[])):=by unfold ey;simp
 have HE:=Z he;obtain⟨h1,h2,h3⟩:=bZ;have HB:=Z (And.intro h1 (And.intro h2 h3));clear h1 h2 h3 he;go_enter func11,ntmps11;go_wp2_with fail;refine RN.mono ?_;rintro e w1 ⟨rfl,hr,k1⟩;have cC:=Z k1;rw[HE.o]at hr;obtain⟨r,hrr⟩:∃ r,w.heap.size=r:=⟨_,rfl⟩
 have Hrr:=Z hrr;rw[hrr]at hr ⊢;have NU:=Z (BH n (aD s.length++(s++[])) 4095 r w1 hr (by have:=HB.o;omega) HB.2.1 (by
  have h3:=HB.2.2;have h4:=aK (n:=s.length) J;simp only[awn,axe];omega))
 clear k1 RN hr hrr;go_wp2_with fail;refine NU.mono ?_;rintro e w2 ⟨rfl,nU,m2⟩;have gi:Hid (af w w2):=Z (cC.new m2 (by rw[Hrr.o];exact av9 _));have TX:=Z (Fe s [] 240 r w2 nU (by have:=HB.2.2;omega) (by have:=HB.2.2;omega) J sp7);clear m2 nU NU;go_wp2_with fail;refine TX.mono ?_;rintro e w3 ⟨rfl,yF,m3⟩;have pU:Hid (af w w3):=Z (gi.new m3 (by rw[Hrr.o];exact av9 _));have Ji:=Z yF;have DR:=xS (n:Int) s w3 (by have:=HB.2.2;omega);rw[show I3 (n:Int) s=.tuple #[az (ey (n:Int) s),.int .i64 0]from awd Ga.o]at DR;have DR:=Z DR;clear m3 yF TX;go_wp2_with fail;refine DR.mono ?_;rintro e w4 ⟨rfl,k4⟩;obtain⟨sG,EN⟩:=K2 (pU.keep k4) (Kq r w4 (ab k4 Ji.o id));clear k4 DR;go_wp2_with fail;refine EN.mono ?_;rintro e w5 ⟨rfl,k5⟩;have Gk:=Z (sG.keep k5);clear k5 EN;go_wp2;go_ret3;exact⟨rfl,Gk.o⟩
end
end Go.Proofs.YtkghpdcloaiflaaGreatDoor
