import Derived.Test.YtkghpdcloaiflaaGreatDoorB40
import Derived.Test.YtkghpdcloaiflaaGreatDoorB41
set_option maxHeartbeats 4000000
set_option maxRecDepth 100000
namespace Go.Proofs.YtkghpdcloaiflaaGreatDoor
open _root_.Go.Proofs.Tryz
section
open Go.RowKit
attribute [local go_sem] auV
abbrev hdF (h:Hd):Value:=.agg #[.int .i64 h.id,.int .i64 h.base,.string ⟨h.name.toArray⟩,.int .i64 h.table.root,.int .i64 h.table.size,.int .i64 h.count,.string ⟨h.drop.toArray⟩]
theorem ahP {w:World}{b:Nat}{t:TypeId}{c0 c1 c2 c3 c4 c5 c6:Value}(h:World.blk w b #[c0,c1,c2,c3,c4,c5,c6] t)(x0 x1 x2 x3 x4 x5 x6:Value):
  World.blk (((((((w.setCell ⟨b,0,none⟩ x0).setCell ⟨b,1,none⟩ x1).setCell ⟨b,2,none⟩ x2).setCell ⟨b,3,none⟩ x3).setCell ⟨b,4,none⟩ x4).setCell ⟨b,5,none⟩ x5).setCell ⟨b,6,none⟩ x6) b #[x0,x1,x2,x3,x4,x5,x6] t/\ah (fun g=>g=b) w (((((((w.setCell ⟨b,0,none⟩ x0).setCell ⟨b,1,none⟩ x1).setCell ⟨b,2,none⟩ x2).setCell ⟨b,3,none⟩ x3).setCell ⟨b,4,none⟩ x4).setCell ⟨b,5,none⟩ x5).setCell ⟨b,6,none⟩ x6):=by
 have h1:World.blk (w.setCell ⟨b,0,none⟩ x0) b #[x0,c1,c2,c3,c4,c5,c6] t:=ag h 0 x0;have h2:World.blk ((w.setCell ⟨b,0,none⟩ x0).setCell ⟨b,1,none⟩ x1) b #[x0,x1,c2,c3,c4,c5,c6] t:=ag h1 1 x1;have h3:World.blk (((w.setCell ⟨b,0,none⟩ x0).setCell ⟨b,1,none⟩ x1).setCell ⟨b,2,none⟩ x2) b #[x0,x1,x2,c3,c4,c5,c6] t:=ag h2 2 x2;have h4:World.blk ((((w.setCell ⟨b,0,none⟩ x0).setCell ⟨b,1,none⟩ x1).setCell ⟨b,2,none⟩ x2).setCell ⟨b,3,none⟩ x3) b #[x0,x1,x2,x3,c4,c5,c6] t:=ag h3 3 x3;have h5:World.blk (((((w.setCell ⟨b,0,none⟩ x0).setCell ⟨b,1,none⟩ x1).setCell ⟨b,2,none⟩ x2).setCell ⟨b,3,none⟩ x3).setCell ⟨b,4,none⟩ x4) b #[x0,x1,x2,x3,x4,c5,c6] t:=ag h4 4 x4;have h6:World.blk ((((((w.setCell ⟨b,0,none⟩ x0).setCell ⟨b,1,none⟩ x1).setCell ⟨b,2,none⟩ x2).setCell ⟨b,3,none⟩ x3).setCell ⟨b,4,none⟩ x4).setCell ⟨b,5,none⟩ x5) b #[x0,x1,x2,x3,x4,x5,c6] t:=ag h5 5 x5;have h7:World.blk (((((((w.setCell ⟨b,0,none⟩ x0).setCell ⟨b,1,none⟩ x1).setCell ⟨b,2,none⟩ x2).setCell ⟨b,3,none⟩ x3).setCell ⟨b,4,none⟩ x4).setCell ⟨b,5,none⟩ x5).setCell ⟨b,6,none⟩ x6) b #[x0,x1,x2,x3,x4,x5,x6] t:=ag h6 6 x6;exact⟨h7,((((((((ah.refl (fun g=>g=b) w).setCell (p:=⟨b,0,none⟩) (.inl rfl) x0).setCell (p:=⟨b,1,none⟩) (.inl rfl) x1).setCell (p:=⟨b,2,none⟩) (.inl rfl) x2).setCell (p:=⟨b,3,none⟩) (.inl rfl) x3).setCell (p:=⟨b,4,none⟩) (.inl rfl) x4).setCell (p:=⟨b,5,none⟩) (.inl rfl) x5).setCell (p:=⟨b,6,none⟩) (.inl rfl) x6)⟩
theorem Nc {w:World}{base q p:Nat}{h:Hd}{l:List Nat}{lv:Value}(a:re w base q p h l lv):
  Calls prog 18 #[aq q] w fun e w'=>e=.returned (hdF h)/\af w w':=by
 obtain⟨W,hW⟩:∃ W,w.alloc (.cells #[.int .i64 0,.int .i64 0,.string ⟨#[]⟩,.int .i64 0,.int .i64 0,.int .i64 0,.string ⟨#[]⟩] 44)=W:=⟨_,rfl⟩
 obtain⟨b,hb⟩:∃ b,w.heap.size=b:=⟨_,rfl⟩
 have hk:af w W:=by rw[<-hW];exact(ah.refl _ w).alloc _
 have hz:World.blk W b #[.int .i64 0,.int .i64 0,.string ⟨#[]⟩,.int .i64 0,.int .i64 0,.int .i64 0,.string ⟨#[]⟩] 44:=by rw[<-hW,<-hb];exact av _ _ _
 have ho:=ab hk a.own id;have c1:W.cell? ⟨q,1,none⟩=some (.int .i64 h.id):=aa ho 1;have c2:W.cell? ⟨q,2,none⟩=some (.int .i64 h.base):=aa ho 2;have c3:W.cell? ⟨q,3,none⟩=some (.string ⟨h.name.toArray⟩):=aa ho 3;have c4:W.cell? ⟨q,4,none⟩=some (.int .i64 h.table.root):=aa ho 4;have c5:W.cell? ⟨q,5,none⟩=some (.int .i64 h.table.size):=aa ho 5;have c6:W.cell? ⟨q,6,none⟩=some (.int .i64 h.count):=aa ho 6;have c7:W.cell? ⟨q,7,none⟩=some (.string ⟨h.drop.toArray⟩):=aa ho 7;have z0:W.cell? ⟨b,0,none⟩=some (.int .i64 0):=aa hz 0;have z1:W.cell? ⟨b,1,none⟩=some (.int .i64 0):=aa hz 1;have z2:W.cell? ⟨b,2,none⟩=some (.string ⟨#[]⟩):=aa hz 2;have z3:W.cell? ⟨b,3,none⟩=some (.int .i64 0):=aa hz 3;have z4:W.cell? ⟨b,4,none⟩=some (.int .i64 0):=aa hz 4;have z5:W.cell? ⟨b,5,none⟩=some (.int .i64 0):=aa hz 5;have z6:W.cell? ⟨b,6,none⟩=some (.string ⟨#[]⟩):=aa hz 6;have f0:=ae hz ⟨b,0,none⟩ rfl;have f1:=ae hz ⟨b,1,none⟩ rfl;have f2:=ae hz ⟨b,2,none⟩ rfl;have f3:=ae hz ⟨b,3,none⟩ rfl;have f4:=ae hz ⟨b,4,none⟩ rfl;have f5:=ae hz ⟨b,5,none⟩ rfl;have f6:=ae hz ⟨b,6,none⟩ rfl;have yU:=ahP hz (.int .i64 h.id) (.int .i64 h.base) (.string ⟨h.name.toArray⟩) (.int .i64 h.table.root) (.int .i64 h.table.size) (.int .i64 h.count) (.string ⟨h.drop.toArray⟩);have HK:=hd0 hk;have HF:=hd0 yU;have Hb:=hd0 hb;clear ho hk hz yU a;go_enter func18,ntmps18;go_wp2_with fail
 try rw[hW]
 try rw[hb]
 go_wp2_with fail;have q0:World.cell? _ ⟨b,0,none⟩=some (.int .i64 h.id):=aa HF.out.1 0;have q1:World.cell? _ ⟨b,1,none⟩=some (.int .i64 h.base):=aa HF.out.1 1;have q2:World.cell? _ ⟨b,2,none⟩=some (.string ⟨h.name.toArray⟩):=aa HF.out.1 2;have q3:World.cell? _ ⟨b,3,none⟩=some (.int .i64 h.table.root):=aa HF.out.1 3;have q4:World.cell? _ ⟨b,4,none⟩=some (.int .i64 h.table.size):=aa HF.out.1 4;have q5:World.cell? _ ⟨b,5,none⟩=some (.int .i64 h.count):=aa HF.out.1 5;have q6:World.cell? _ ⟨b,6,none⟩=some (.string ⟨h.drop.toArray⟩):=aa HF.out.1 6;have Cp:=HK.out.new HF.out.2 (Nat.le_of_eq Hb.out);exact avy (v:=hdF h) (by simp[results,Tryz.results18,go_sem,q0,q1,q2,q3,q4,q5,q6]) rfl ⟨rfl,Cp⟩
structure gi (w:World)(p:Nat)(a:eY)(q:Nat)(h:Hd)(l:List Nat)(lv:Value):Prop where
 at_:∃ base,re w base q p h l lv
 qf:¬ a.foot p q
 lf:∀ g,lv.ownBlock=some g->¬ a.foot p g
theorem gi.keep {w w':World}{p:Nat}{a:eY}{q:Nat}{h:Hd}{l:List Nat}{lv:Value}(x:gi w p a q h l lv)(k:af w w'):gi w' p a q h l lv:=by
 obtain⟨base,ha⟩:=x.at_;exact⟨⟨base,ha.keep k⟩,x.qf,x.lf⟩
theorem gi.to {w w':World}{p:Nat}{_v _u:Vs}{a a':eY}{q:Nat}{h:Hd}{l:List Nat}{lv:Value}(x:gi w p a q h l lv)(m:ah (a.foot p) w w')(hf:∀ g,a'.foot p g->a.foot p g\/w.heap.size<=g):gi w' p a' q h l lv:=by
 obtain⟨base,ha⟩:=x.at_;refine⟨⟨base,ab m ha.own x.qf,az ha.row (fun g hg=>m.block g (aT ha.row hg) (x.lf g hg)),ha.new⟩,fun h1=>(hf q h1).elim x.qf (fun h2=>?_),fun g hg h1=>(hf g h1).elim (x.lf g hg) (fun h2=>?_)⟩
 ·have:=ak ha.own;omega
 ·have:=aT ha.row hg;omega
theorem BB {w:World}{p:Nat}{a:eY}{q:Nat}{h:Hd}{l:List Nat}{lv:Value}(x:gi w p a q h l lv)(i:Int)(hi:i<0\/(l.length:Int)<=i):
  Calls prog 21 #[aq q,.int .i64 i] w fun e w'=>e=.returned (.tuple #[.string ⟨#[]⟩,.int .i64 191])/\af w w':=by
 obtain⟨base,ha⟩:=x.at_;obtain⟨la,cap,rfl,_⟩:=ba ha.row;have yo:(bi (gm l)).length=l.length:=by simp[bi,gm]
 rw[yo]at ha;have c8:w.cell? ⟨q,8,none⟩=some (.slice la l.length cap):=aa ha.own 8;clear ha x yo;by_cases h0:i<0
 ·go_enter func21,ntmps21;go_wp2;go_ret2;exact⟨rfl,ah.refl _ _⟩
 ·have h1:(l.length:Int)<=i:=hi.resolve_left h0;clear hi;go_enter func21,ntmps21;go_wp2;go_ret2;exact⟨rfl,ah.refl _ _⟩
end
section
open Go.RowKit
attribute [local go_sem] auV
theorem tB (n:Nat)(s:ay)(bQ:jZ (n:Int) s)(w:World):
  Calls prog 11 #[ax (bJ (n:Int) s)] w fun e w'=>e=.returned (.tuple #[.int .i64 (n:Int),ax s,.int .i64 0])/\af w w':=by
 have RN:=hd0 (At (bJ (n:Int) s) w);have Cw:=hd0 bQ;have he:bJ (n:Int) s=aG n++(aG s.length++(s++[])):=by unfold bJ;simp
 have HE:=hd0 he;obtain⟨h1,h2,h3⟩:=bQ;have HB:=hd0 (And.intro h1 (And.intro h2 h3));clear h1 h2 h3 he;go_enter func11,ntmps11;go_wp2_with fail;refine RN.out.mono ?_;rintro e w1 ⟨rfl,hr,k1⟩;have bZ:=hd0 k1;rw[HE.out]at hr;obtain⟨r,TF⟩:∃ r,w.heap.size=r:=⟨_,rfl⟩
 have Hrr:=hd0 TF;rw[TF]at hr ⊢;have NU:=hd0 (Ke n (aG s.length++(s++[])) 4095 r w1 hr (by have:=HB.out;omega) HB.out.2.1 (by
  have h3:=HB.out.2.2;have h4:=aV (n:=s.length) (by omega);simp only[avi,awa];omega))
 clear k1 RN hr TF;go_wp2_with fail;refine NU.out.mono ?_;rintro e w2 ⟨rfl,ol,m2⟩;have ft:Hid (af w w2):=hd0 (bZ.out.new m2 (by rw[Hrr.out];exact au4 _));have TX:=hd0 (Rl s [] 240 r w2 ol (by have:=HB.out.2.2;omega) (by have:=HB.out.2.2;omega) (by omega) (by simp));clear m2 ol NU;go_wp2_with fail;refine TX.out.mono ?_;rintro e w3 ⟨rfl,vh,m3⟩;have lq:Hid (af w w3):=hd0 (ft.out.new m3 (by rw[Hrr.out];exact au4 _));have yC:=hd0 vh;have DR:=mR (n:Int) s w3 (by have:=HB.out.2.2;omega);rw[show pr (n:Int) s=.tuple #[ax (bJ (n:Int) s),.int .i64 0]from au8 Cw.out]at DR;have DR:=hd0 DR;clear m3 vh TX;go_wp2_with fail;refine DR.out.mono ?_;rintro e w4 ⟨rfl,k4⟩;have ne:=hd0 (lq.out.keep k4);have EN:=hd0 (Vn r w4 (ab k4 yC.out id));clear k4 DR;go_wp2_with fail;refine EN.out.mono ?_;rintro e w5 ⟨rfl,k5⟩;have sE:=hd0 (ne.out.keep k5);clear k5 EN;go_wp2;go_ret3;exact⟨rfl,sE.out⟩
theorem IQ (S:ay)(hS:S.length<=140737488351232)(yA:∀(n:Int) (s:ay),jZ n s->bJ n s≠S)(w:World)(hg:nN w):
  Calls prog 11 #[ax S] w fun e w'=>e=.returned (.tuple #[.int .i64 0,.string ⟨#[]⟩,.int .i64 190])/\af w w':=by
 have RN:=hd0 (At S w);have aa2:=hd0 yA;have HG:=hd0 hg;have HS:=hd0 hS;clear yA hg hS;go_enter func11,ntmps11;go_wp2_with fail;refine RN.out.mono ?_;rintro e w1 ⟨rfl,hr,k1⟩;have bZ:=hd0 k1;obtain⟨r,TF⟩:∃ r,w.heap.size=r:=⟨_,rfl⟩
 have Hrr:=hd0 TF;rw[TF]at hr ⊢;have RU:=HG.out.keep k1;have NU:=hd0 (Au S none 4095 r w1 hr (by have:=HS.out;omega) RU);have SJ:=hd0 hr;have HG1:=hd0 RU;clear k1 RN hr TF RU;go_wp2_with fail;refine NU.out.mono ?_;rintro e w2 ⟨n,y,s2,x2,rfl,ol,m2,jH,FZ,BW⟩;have ft:Hid (af w w2):=hd0 (bZ.out.new m2 (by rw[Hrr.out];exact au4 _));have ye:=us HG1.out (show pu w1 r S none from SJ.out) m2;have TX:=hd0 (IP s2 x2 240 r w2 ol (by have:=HS.out;omega) ye);have qx:=hd0 ol;have N6:=hd0 ye;have Om:=hd0 jH;clear m2 ol NU ye jH;go_wp2_with fail;refine TX.out.mono ?_;rintro e w3 ⟨t,y3,s3,x3,rfl,vh,m3,qu,zn⟩;have lq:Hid (af w w3):=hd0 (ft.out.new m3 (by rw[Hrr.out];exact au4 _));have Fe:=us N6.out qx.out m3;have yC:=hd0 vh;have HG3:=hd0 Fe;have DR:=mR n t w3 (by have:=Om.out;have:=HS.out;omega);clear m3 vh TX Fe qu zn;by_cases hq:jZ n t
 ·rw[show pr n t=.tuple #[ax (bJ n t),.int .i64 0]from au8 hq]at DR;have DR:=hd0 DR;have dV:(bJ n t==S)=false:=by simpa using aa2.out n t hq
  clear hq;go_wp2_with fail;refine DR.out.mono ?_;rintro e w4 ⟨rfl,k4⟩;have ne:=hd0 (lq.out.keep k4);have EN:=hd0 (Nb s3 x3 r w4 (ab k4 yC.out id) (HG3.out.keep k4));clear k4 DR;go_wp2_with fail;refine EN.out.mono ?_;rintro e w5 ⟨z,rfl,k5⟩;have sE:=hd0 (ne.out.keep k5);clear k5 EN;by_cases hz:z=0
  ·subst hz;go_wp2;go_ret3;exact⟨rfl,sE.out⟩
  ·have bz:(z==0)=false:=by simpa using hz
   have bz2:(z != 0)=true:=by simpa using hz
   clear hz;go_wp2_with fail
   all_goals (go_ret3;exact⟨rfl,sE.out⟩)
 ·rw[show pr n t=.tuple #[.string ⟨#[]⟩,.int .i64 190]from ava hq]at DR;have DR:=hd0 DR;clear hq;go_wp2_with fail;refine DR.out.mono ?_;rintro e w4 ⟨rfl,k4⟩;have ne:=hd0 (lq.out.keep k4);clear k4 DR;go_wp2;go_ret3;exact⟨rfl,ne.out⟩
end
end Go.Proofs.YtkghpdcloaiflaaGreatDoor
