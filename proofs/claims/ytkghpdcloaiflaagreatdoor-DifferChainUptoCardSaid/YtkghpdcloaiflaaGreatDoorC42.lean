import Derived.Test.YtkghpdcloaiflaaGreatDoorC41
set_option maxHeartbeats 8000000
set_option maxRecDepth 100000
namespace Go.Proofs.YtkghpdcloaiflaaGreatDoor
open _root_.Go.Proofs.Tryz
section
open Go.RowKit
attribute [local go_sem] atC
abbrev hdF (h:Hd):Value:=.agg #[.int .i64 h.id,.int .i64 h.base,.string ⟨h.name.toArray⟩,.int .i64 h.table.root,.int .i64 h.table.size,.int .i64 h.count,.string ⟨h.drop.toArray⟩]
theorem agU {w:World}{b:Nat}{t:TypeId}{c0 c1 c2 c3 c4 c5 c6:Value}(h:World.blk w b #[c0,c1,c2,c3,c4,c5,c6] t)(x0 x1 x2 x3 x4 x5 x6:Value):
  World.blk (((((((w.setCell ⟨b,0,none⟩ x0).setCell ⟨b,1,none⟩ x1).setCell ⟨b,2,none⟩ x2).setCell ⟨b,3,none⟩ x3).setCell ⟨b,4,none⟩ x4).setCell ⟨b,5,none⟩ x5).setCell ⟨b,6,none⟩ x6) b #[x0,x1,x2,x3,x4,x5,x6] t/\ah (fun g=>g=b) w (((((((w.setCell ⟨b,0,none⟩ x0).setCell ⟨b,1,none⟩ x1).setCell ⟨b,2,none⟩ x2).setCell ⟨b,3,none⟩ x3).setCell ⟨b,4,none⟩ x4).setCell ⟨b,5,none⟩ x5).setCell ⟨b,6,none⟩ x6):=by
 have h1:World.blk (w.setCell ⟨b,0,none⟩ x0) b #[x0,c1,c2,c3,c4,c5,c6] t:=ag h 0 x0;have h2:World.blk ((w.setCell ⟨b,0,none⟩ x0).setCell ⟨b,1,none⟩ x1) b #[x0,x1,c2,c3,c4,c5,c6] t:=ag h1 1 x1;have h3:World.blk (((w.setCell ⟨b,0,none⟩ x0).setCell ⟨b,1,none⟩ x1).setCell ⟨b,2,none⟩ x2) b #[x0,x1,x2,c3,c4,c5,c6] t:=ag h2 2 x2;have h4:World.blk ((((w.setCell ⟨b,0,none⟩ x0).setCell ⟨b,1,none⟩ x1).setCell ⟨b,2,none⟩ x2).setCell ⟨b,3,none⟩ x3) b #[x0,x1,x2,x3,c4,c5,c6] t:=ag h3 3 x3;have h5:World.blk (((((w.setCell ⟨b,0,none⟩ x0).setCell ⟨b,1,none⟩ x1).setCell ⟨b,2,none⟩ x2).setCell ⟨b,3,none⟩ x3).setCell ⟨b,4,none⟩ x4) b #[x0,x1,x2,x3,x4,c5,c6] t:=ag h4 4 x4;have h6:World.blk ((((((w.setCell ⟨b,0,none⟩ x0).setCell ⟨b,1,none⟩ x1).setCell ⟨b,2,none⟩ x2).setCell ⟨b,3,none⟩ x3).setCell ⟨b,4,none⟩ x4).setCell ⟨b,5,none⟩ x5) b #[x0,x1,x2,x3,x4,x5,c6] t:=ag h5 5 x5;have h7:World.blk (((((((w.setCell ⟨b,0,none⟩ x0).setCell ⟨b,1,none⟩ x1).setCell ⟨b,2,none⟩ x2).setCell ⟨b,3,none⟩ x3).setCell ⟨b,4,none⟩ x4).setCell ⟨b,5,none⟩ x5).setCell ⟨b,6,none⟩ x6) b #[x0,x1,x2,x3,x4,x5,x6] t:=ag h6 6 x6;exact⟨h7,((((((((ah.refl (fun g=>g=b) w).setCell (p:=⟨b,0,none⟩) (.inl rfl) x0).setCell (p:=⟨b,1,none⟩) (.inl rfl) x1).setCell (p:=⟨b,2,none⟩) (.inl rfl) x2).setCell (p:=⟨b,3,none⟩) (.inl rfl) x3).setCell (p:=⟨b,4,none⟩) (.inl rfl) x4).setCell (p:=⟨b,5,none⟩) (.inl rfl) x5).setCell (p:=⟨b,6,none⟩) (.inl rfl) x6)⟩
theorem MD {w:World}{base q p:Nat}{h:Hd}{l:List Nat}{lv:Value}(a:qO w base q p h l lv):
  Calls prog 18 #[aq q] w fun e w'=>e=.returned (hdF h)/\af w w':=by
 obtain⟨W,hW⟩:∃ W,w.alloc (.cells #[.int .i64 0,.int .i64 0,.string ⟨#[]⟩,.int .i64 0,.int .i64 0,.int .i64 0,.string ⟨#[]⟩] 44)=W:=⟨_,rfl⟩
 obtain⟨b,hb⟩:∃ b,w.heap.size=b:=⟨_,rfl⟩
 have hk:af w W:=by rw[<-hW];exact(ah.refl _ w).alloc _
 have hz:World.blk W b #[.int .i64 0,.int .i64 0,.string ⟨#[]⟩,.int .i64 0,.int .i64 0,.int .i64 0,.string ⟨#[]⟩] 44:=by rw[<-hW,<-hb];exact aw _ _ _
 have ho:=ab hk a.own id;have c1:W.cell? ⟨q,1,none⟩=some (.int .i64 h.id):=aa ho 1;have c2:W.cell? ⟨q,2,none⟩=some (.int .i64 h.base):=aa ho 2;have c3:W.cell? ⟨q,3,none⟩=some (.string ⟨h.name.toArray⟩):=aa ho 3;have c4:W.cell? ⟨q,4,none⟩=some (.int .i64 h.table.root):=aa ho 4;have c5:W.cell? ⟨q,5,none⟩=some (.int .i64 h.table.size):=aa ho 5;have c6:W.cell? ⟨q,6,none⟩=some (.int .i64 h.count):=aa ho 6;have c7:W.cell? ⟨q,7,none⟩=some (.string ⟨h.drop.toArray⟩):=aa ho 7;have z0:W.cell? ⟨b,0,none⟩=some (.int .i64 0):=aa hz 0;have z1:W.cell? ⟨b,1,none⟩=some (.int .i64 0):=aa hz 1;have z2:W.cell? ⟨b,2,none⟩=some (.string ⟨#[]⟩):=aa hz 2;have z3:W.cell? ⟨b,3,none⟩=some (.int .i64 0):=aa hz 3;have z4:W.cell? ⟨b,4,none⟩=some (.int .i64 0):=aa hz 4;have z5:W.cell? ⟨b,5,none⟩=some (.int .i64 0):=aa hz 5;have z6:W.cell? ⟨b,6,none⟩=some (.string ⟨#[]⟩):=aa hz 6;have f0:=ae hz ⟨b,0,none⟩ rfl;have f1:=ae hz ⟨b,1,none⟩ rfl;have f2:=ae hz ⟨b,2,none⟩ rfl;have f3:=ae hz ⟨b,3,none⟩ rfl;have f4:=ae hz ⟨b,4,none⟩ rfl;have f5:=ae hz ⟨b,5,none⟩ rfl;have f6:=ae hz ⟨b,6,none⟩ rfl;have sq:=agU hz (.int .i64 h.id) (.int .i64 h.base) (.string ⟨h.name.toArray⟩) (.int .i64 h.table.root) (.int .i64 h.table.size) (.int .i64 h.count) (.string ⟨h.drop.toArray⟩);have HK:=hd0 hk;have HF:=hd0 sq;have Hb:=hd0 hb;clear ho hk hz sq a;go_enter func18,ntmps18;go_wp2_with fail
 try rw[hW]
 try rw[hb]
 go_wp2_with fail;have q0:World.cell? _ ⟨b,0,none⟩=some (.int .i64 h.id):=aa HF.out.1 0;have q1:World.cell? _ ⟨b,1,none⟩=some (.int .i64 h.base):=aa HF.out.1 1;have q2:World.cell? _ ⟨b,2,none⟩=some (.string ⟨h.name.toArray⟩):=aa HF.out.1 2;have q3:World.cell? _ ⟨b,3,none⟩=some (.int .i64 h.table.root):=aa HF.out.1 3;have q4:World.cell? _ ⟨b,4,none⟩=some (.int .i64 h.table.size):=aa HF.out.1 4;have q5:World.cell? _ ⟨b,5,none⟩=some (.int .i64 h.count):=aa HF.out.1 5;have q6:World.cell? _ ⟨b,6,none⟩=some (.string ⟨h.drop.toArray⟩):=aa HF.out.1 6;have BR:=HK.out.new HF.out.2 (Nat.le_of_eq Hb.out);exact auj (v:=hdF h) (by simp[results,Tryz.results18,go_sem,q0,q1,q2,q3,q4,q5,q6]) rfl ⟨rfl,BR⟩
structure gg (w:World)(p:Nat)(a:eX)(q:Nat)(h:Hd)(l:List Nat)(lv:Value):Prop where
 at_:∃ base,qO w base q p h l lv
 qf:¬ a.foot p q
 lf:∀ g,lv.ownBlock=some g->¬ a.foot p g
theorem gg.keep {w w':World}{p:Nat}{a:eX}{q:Nat}{h:Hd}{l:List Nat}{lv:Value}(x:gg w p a q h l lv)(k:af w w'):gg w' p a q h l lv:=by
 obtain⟨base,ha⟩:=x.at_;exact⟨⟨base,ha.keep k⟩,x.qf,x.lf⟩
theorem gg.to {w w':World}{p:Nat}{_v _u:Vs}{a a':eX}{q:Nat}{h:Hd}{l:List Nat}{lv:Value}(x:gg w p a q h l lv)(m:ah (a.foot p) w w')(hf:∀ g,a'.foot p g->a.foot p g\/w.heap.size<=g):gg w' p a' q h l lv:=by
 obtain⟨base,ha⟩:=x.at_;refine⟨⟨base,ab m ha.own x.qf,az ha.row (fun g hg=>m.block g (aS ha.row hg) (x.lf g hg)),ha.new⟩,fun h1=>(hf q h1).elim x.qf (fun h2=>?_),fun g hg h1=>(hf g h1).elim (x.lf g hg) (fun h2=>?_)⟩
 ·have:=ai ha.own;omega
 ·have:=aS ha.row hg;omega
theorem Bg {w:World}{p:Nat}{a:eX}{q:Nat}{h:Hd}{l:List Nat}{lv:Value}(x:gg w p a q h l lv)(i:Int)(hi:i<0\/(l.length:Int)<=i):
  Calls prog 21 #[aq q,.int .i64 i] w fun e w'=>e=.returned (.tuple #[.string ⟨#[]⟩,.int .i64 191])/\af w w':=by
 obtain⟨base,ha⟩:=x.at_;obtain⟨la,cap,rfl,_⟩:=aZ ha.row;have yf:(bi (gh l)).length=l.length:=by simp[bi,gh]
 rw[yf]at ha;have c8:w.cell? ⟨q,8,none⟩=some (.slice la l.length cap):=aa ha.own 8;clear ha x yf;by_cases h0:i<0
 ·go_enter func21,ntmps21;go_wp2;go_ret2;exact⟨rfl,ah.refl _ _⟩
 ·have h1:(l.length:Int)<=i:=hi.resolve_left h0;clear hi;go_enter func21,ntmps21;go_wp2;go_ret2;exact⟨rfl,ah.refl _ _⟩
end
section
open Go.RowKit
attribute [local go_sem] atC
theorem ME (n:Nat)(s:ay)(cC:Ac (n:Int) s)(w:World):
  Calls prog 11 #[aB (el (n:Int) s)] w fun e w'=>e=.returned (.tuple #[.int .i64 (n:Int),aB s,.int .i64 0])/\af w w':=by
 have RN:=hd0 (MC (el (n:Int) s) w);have Fp:=hd0 cC;have he:el (n:Int) s=aO n++(aO s.length++(s++[])):=by unfold el;simp
 have HE:=hd0 he;obtain⟨h1,h2,h3⟩:=cC;have HB:=hd0 (And.intro h1 (And.intro h2 h3));clear h1 h2 h3 he;go_enter func11,ntmps11;go_wp2_with fail;refine RN.out.mono ?_;rintro e w1 ⟨rfl,hr,k1⟩;have bU:=hd0 k1;rw[HE.out]at hr;obtain⟨r,hrr⟩:∃ r,w.heap.size=r:=⟨_,rfl⟩
 have Hrr:=hd0 hrr;rw[hrr]at hr ⊢;have NU:=hd0 (JQ n (aO s.length++(s++[])) 4095 r w1 hr (by have:=HB.out;omega) HB.out.2.1 (by
  have h3:=HB.out.2.2;have h4:=bG (n:=s.length) (by omega);simp only[at0,auV];omega))
 clear k1 RN hr hrr;go_wp2_with fail;refine NU.out.mono ?_;rintro e w2 ⟨rfl,tC,m2⟩;have oh:Hid (af w w2):=hd0 (bU.out.new m2 (by rw[Hrr.out];exact atL _));have TX:=hd0 (QW s [] 240 r w2 tC (by have:=HB.out.2.2;omega) (by have:=HB.out.2.2;omega) (by omega) (by simp));clear m2 tC NU;go_wp2_with fail;refine TX.out.mono ?_;rintro e w3 ⟨rfl,Ks,m3⟩;have nL:Hid (af w w3):=hd0 (oh.out.new m3 (by rw[Hrr.out];exact atL _));have Is:=hd0 Ks;have DR:=xI (n:Int) s w3 (by have:=HB.out.2.2;omega);rw[show Ik (n:Int) s=.tuple #[aB (el (n:Int) s),.int .i64 0]from atP Fp.out]at DR;have DR:=hd0 DR;clear m3 Ks TX;go_wp2_with fail;refine DR.out.mono ?_;rintro e w4 ⟨rfl,k4⟩;have rf:=hd0 (nL.out.keep k4);have EN:=hd0 (UJ r w4 (ab k4 Is.out id));clear k4 DR;go_wp2_with fail;refine EN.out.mono ?_;rintro e w5 ⟨rfl,k5⟩;have BY:=hd0 (rf.out.keep k5);clear k5 EN;go_wp2;go_ret3;exact⟨rfl,BY.out⟩
end
section
section
open Go.RowKit
end
section
open Go.RowKit
end
section
open Go.RowKit
end
section
open Go.RowKit
end
end
section
open Go.RowKit
attribute [local go_sem] atC
end
section
open Go.RowKit
attribute [local go_sem] atC
theorem gg.cells {w:World}{p:Nat}{a:eX}{q:Nat}{h:Hd}{l:List Nat}{lv:Value}(x:gg w p a q h l lv):
  ∃ la cap,lv=.slice la l.length cap/\w.cell? ⟨q,0,none⟩=some (aq p)/\w.cell? ⟨q,1,none⟩=some (.int .i64 h.id)/\w.cell? ⟨q,3,none⟩=some (aB h.name)/\w.cell? ⟨q,8,none⟩=some (.slice la l.length cap)/\
   ∀ i n,l[i]?=some n->∃ b o,la=some ⟨b,o,none⟩/\w.cell? ⟨b,o+i,none⟩=some (.int .i64 ((n:Nat):Int)):=by
 obtain⟨base,ha⟩:=x.at_;obtain⟨la,cap,rfl,hx⟩:=aZ ha.row;have yf:(bi (gh l)).length=l.length:=by simp[bi,gh]
 rw[yf]at ha;exact⟨la,cap,by rw[yf],aa ha.own 0,aa ha.own 1,aa ha.own 3,aa ha.own 8,fun i n hn=>hx i _ (by simp[bi,gh,hn])⟩
theorem Il {w:World}{p:Nat}{v:Vs}{a:eX}{q:Nat}{h:Hd}{l:List Nat}{lv:Value}(hv:ls w p v a)(hl:v.b.list.length<=1000)(x:gg w p a q h l lv)(hid:((bf v.b.list h.name).getD fi).id=h.id)
  (i n:Nat) (hi:l[i]?=some n) (yf:l.length<=5000) (h1:1<=n) (h2:n<v.blocks) (hb:v.blocks<=4096) (s:ay) (hs:v.rd n=.ok s) (uw:s.length<=240):
  Calls prog 21 #[aq q,.int .i64 (i:Int)] w fun e w'=>e=.returned (.tuple #[aB (el (n:Int) s),.int .i64 0])/\∃ a',ei w p v a v a' w'/\a'.text=a.text/\gg w' p a' q h l lv:=by
 have I9:=(atX.1 hi).1;have hfd:∀(x0 x1 x2 x3 x4:Value) (W:World),(Instr.field 85 (.agg #[x0,x1,x2,x3,x4]) 1).run prog W=.ok x1 W:=fun _ _ _ _ _ _=>by kernel_rfl
 obtain⟨la,cap,elv,c0,c1,c3,c8,cH⟩:=x.cells;obtain⟨lb,lo,rfl,ci⟩:=cH i n hi;have HV:=hd0 hv;have HX:=hd0 x;have HL:=hd0 hl;have HI:=hd0 hi;have HN:=hd0 (And.intro h1 (And.intro h2 (And.intro hb (And.intro hs uw))));have HID:=hd0 hid;have aou:(i:Int)<(l.length:Int):=by omega
 have aiq:(l.length:Int)<=5000:=by omega
 clear hv hl x hi h1 h2 hb hs uw cH I9 yf;go_enter func21,ntmps21
 go_upto_region 3 with fail
 go_cut [20]from 8 to 66 (fun y wx=>y=.bool false/\af w wx)
 case first=>
  have e0:∀ X,(w.ext X).cell? ⟨q,0,none⟩=some (aq p):=fun X=>((aD w X).cell (p:=⟨q,0,none⟩) (am c0) id).trans c0;have e1:∀ X,(w.ext X).cell? ⟨q,1,none⟩=some (.int .i64 h.id):=fun X=>((aD w X).cell (p:=⟨q,1,none⟩) (am c1) id).trans c1;have e3:∀ X,(w.ext X).cell? ⟨q,3,none⟩=some (aB h.name):=fun X=>((aD w X).cell (p:=⟨q,3,none⟩) (am c3) id).trans c3;refine cN (by kernel_rfl) (by kernel_rfl) ?_
  repeat (quiet_step (with_reducible exact bw (qM (HV.out.keep (aD _ _)) HL.out h.name)))
  refine auE ?_;intro _ cJ;obtain⟨xq,rfl⟩:=cJ;go_wp2_with fail;go_meet
  case rel=>exact⟨rfl,aD _ _⟩
 case rest=>
  obtain⟨rfl,hk⟩:=hcut;have IO:=hd0 hk;have c0':wc.cell? ⟨q,0,none⟩=some (aq p):=(hk.cell (p:=⟨q,0,none⟩) (am c0) id).trans c0;have c8':wc.cell? ⟨q,8,none⟩=some (.slice (some ⟨lb,lo,none⟩) l.length cap):=(hk.cell (p:=⟨q,8,none⟩) (am c8) id).trans c8;have ci':wc.cell? ⟨lb,lo+i,none⟩=some (.int .i64 (n:Int)):=(hk.cell (p:=⟨lb,lo+i,none⟩) (am ci) id).trans ci;clear hk c0 c1 c3 c8 ci
  go_upto_region 5 with fail
  go_cut [6,7]from 8 to 66 (fun y z wx=>y=aB s/\z=.int .i64 0/\∃ a',ei w p v a v a' wx/\a'.text=a.text)
  case first=>
   have RD:Hid (∀ W,af w W->Calls prog 22 #[aq p,.int .i64 (n:Int)] W fun e w'=>e=.returned (.tuple #[aB s,.int .i64 0])/\∃ a',ei W p v a v a' w'/\a'.text=a.text):=hd0 (fun W k=>Ij (HV.out.keep k) n HN.out.1 HN.out.2.1 s HN.out.2.2.2.1)
   go_region_with (go_at_call 22;refine atV (RD.out _ (IO.out.drew)) ?_;rintro e w2 ⟨rfl,a2,jj,Kj⟩;have yF:=hd0 (And.intro (ei.ahead (IO.out.drew) jj) Kj);clear jj Kj)
   all_goals (go_wp2_with fail;go_meet)
   all_goals (case rel=>exact⟨rfl,rfl,a2,yF.out⟩)
  case rest=>
   obtain⟨rfl,rfl,a2,jj,Kj⟩:=hcut;have yF:=hd0 (And.intro jj Kj);have uW:=HX.out.to (_v:=v) (_u:=v) jj.mod jj.foot;have ly:=hd0 uW;obtain⟨la2,U2,acf,d0,d1,d3,d8,WI⟩:=uW.cells;rw[elv]at acf;injection acf with e1 _ e3;subst e1 e3;obtain⟨b2,o2,e4,di⟩:=WI i n HI.out;injection e4 with e4;injection e4 with e5 e6;subst e5 e6;have DR:=xI (n:Int) s wc (by have:=HN.out.2.2.2.2;omega);rw[show Ik (n:Int) s=.tuple #[aB (el (n:Int) s),.int .i64 0]from atP ⟨by have:=HN.out.1;omega,by have:=HN.out.2.1;have:=HN.out.2.2.1;omega,HN.out.2.2.2.2⟩]at DR;have DR:=hd0 DR;clear jj Kj uW WI c0' c8' ci' d0 d1 d3;go_wp2_with fail;refine DR.out.mono ?_;rintro e w4 ⟨rfl,k4⟩;have lw:=hd0 k4;clear k4 DR;go_wp2;go_ret2;exact⟨rfl,a2,yF.out.1.keep lw.out,yF.out.2,ly.out.keep lw.out⟩
end
section
open Go.RowKit
theorem UK (key:List UInt8)(w:World)(hk:key.length=16):
  Calls prog 58 #[.string ⟨key.toArray⟩] w fun e w'=>e=.returned (.tuple #[.pointer (some ⟨w.heap.size,0,none⟩),.int .i64 0])/\World.blk w' w.heap.size (eE (nN key) [] 0) 186/\af w w':=
 (Jc key w hk).mono fun _ _ ⟨he,n,hw⟩=>by
  subst hw;exact⟨he,fJ (aw _ _ _) _,((ah.refl _ _).alloc _).drewN _⟩
theorem MF (b:Nat)(v:St)(rest s:List UInt8)(size:Nat)(w:World)(hB:World.blk w b (eE v rest size) 186)(hr:rest.length<8)(hs:size+s.length+8<=9223372036854775807):
  Calls prog 59 #[.pointer (some ⟨b,0,none⟩),.string ⟨s.toArray⟩] w fun e w'=>e=.returned (.tuple #[])/\
   World.blk w' b (eE (dP v (rest++s)).1 (dP v (rest++s)).2 (size+s.length)) 186/\ah (·=b) w w':=by
 have h:=yW b v rest s size w 0 (ai hB) hr hs;rw[Kv hB,World.drewN_zero]at h;refine h.mono fun _ _ ⟨he,n,hw⟩=>?_;subst hw;exact⟨he,fJ (u9 (ai hB)) _,((ah.refl (·=b) w).putB (Or.inl rfl) _ _).drewN _⟩
def qP (key l:List UInt8):Array Value:=eE (dP (nN key) l).1 (dP (nN key) l).2 l.length
theorem Ev (s:List UInt8):∀(v:St) (t:List UInt8),dP v (s++t)=dP (dP v s).1 ((dP v s).2++t):=by
 generalize hn:s.length=n
 induction n using Nat.strongRecOn generalizing s with
 |_ n ih=>
  intro v t;by_cases h:8<=s.length
  ·have h2:8<=(s++t).length:=by simp;omega
   rw[lF v (s++t) h2,lF v s h,List.take_append_of_le_length h,List.drop_append_of_le_length h];exact ih (s.drop 8).length (by simp;omega) _ rfl _ _
  ·rw[qo v s h]
theorem QX (key:List UInt8)(w:World)(hk:key.length=16):
  Calls prog 58 #[.string ⟨key.toArray⟩] w fun e w'=>e=.returned (.tuple #[.pointer (some ⟨w.heap.size,0,none⟩),.int .i64 0])/\World.blk w' w.heap.size (qP key []) 186/\af w w':=
 UK key w hk
theorem Im (b:Nat)(key l s:List UInt8)(w:World)(hB:World.blk w b (qP key l) 186)(hs:l.length+s.length+8<=9223372036854775807):
  Calls prog 59 #[.pointer (some ⟨b,0,none⟩),.string ⟨s.toArray⟩] w fun e w'=>e=.returned (.tuple #[])/\World.blk w' b (qP key (l++s)) 186/\ah (·=b) w w':=by
 refine(MF b _ _ s l.length w hB (oo _ _) hs).mono fun _ _ ⟨he,h,hm⟩=>⟨he,?_,hm⟩
 rw[qP,Ev,at0];exact h
theorem QY (b:Nat)(key l:List UInt8)(w:World)(hB:World.blk w b (qP key l) 186)(hs:l.length<=9223372036854775807):
  Calls prog 60 #[.pointer (some ⟨b,0,none⟩)] w fun e w'=>e=.returned (.string ⟨(NL key l).toArray⟩)/\af w w':=
 Jb b _ _ _ w hB (oo _ _) hs
end
section
open Go.RowKit
attribute [local go_sem] atC
def jc:ay:=[115,116,105,108,108,97,103,101,32,115,116,114,101,97,109,33]
def gE (f:Nat->ay)(l:List Nat):ay:=l.flatMap fun(n:Nat)=>el (n:Int) (f n)
theorem xJ (f:Nat->ay)(l:List Nat)(h:∀ n∈l,n<=4096/\(f n).length<=240):(gE f l).length<=300*l.length:=by
 unfold gE
 induction l with
 |nil=>simp
 |cons y r ih=>
  have h1:=h y (by simp);have h2:=ih fun z hz=>h z (by simp[hz]);have h3:(el (y:Int) (f y)).length<=300:=by
   unfold el;have e1:=bG (n:=(y:Int).toNat) (by omega);have e2:=bG (n:=(f y).length) (by omega);simp only[at0];omega
  simp only[aus,at0,atH];omega
structure ph (w w1:World)(p:Nat)(v:Vs)(a a':eX)(q:Nat)(h:Hd)(l:List Nat)(lv:Value)(hb:Nat)(done:ay)(wr:World):Prop where
 at_:ls wr p v a'
 role:a'.role=a.role
 text:a'.text=a.text
 foot:∀ g,a'.foot p g->a.foot p g\/w1.heap.size<=g
 mod:ah (a.foot p) w wr
 still:fy (fun b=>a.role b≠.none) w wr
 plan:gg wr p a' q h l lv
 hash:World.blk wr hb (qP jc done) 186
section
variable {w w1 wr w2:World}{p:Nat}{v:Vs}{a a' a2:eX}{q:Nat}{h:Hd}{l:List Nat}{lv:Value}{hb:Nat}{done:ay}
theorem ph.read (s:ph w w1 p v a a' q h l lv hb done wr)(h1:hb<w1.heap.size)(h2:w1.heap.size<=wr.heap.size)(h3:¬ a.foot p hb)(hw:w.heap.size<=w1.heap.size)(k:ei wr p v a' v a2 w2)(ht:a2.text=a'.text)(pl:gg w2 p a2 q h l lv):ph w w1 p v a a2 q h l lv hb done w2:=
 ⟨k.at_,k.role.trans s.role,ht.trans s.text,fun g hg=>(k.foot g hg).elim (s.foot g) (fun h=>.inr (atE h2 h)),s.mod.trans k.mod (fun g hl hs=>(s.foot g hs).elim id (fun h=>by omega)),
  fun b Te hl=>(k.still b (by rw[s.role];exact Te) (atS hl s.mod.size)).trans (s.still b Te hl),pl,ab k.mod s.hash (fun hf=>(s.foot hb hf).elim h3 (fun h=>by omega))⟩
theorem ph.wrote (s:ph w w1 p v a a' q h l lv hb done wr)(h1:hb<w1.heap.size)(h3:¬ a.foot p hb)(h4:w.heap.size<=hb)(hq:q<w.heap.size)(hl:∀ g,lv.ownBlock=some g->g<w.heap.size)(m:ah (·=hb) wr w2){Wv:ay}(hh:World.blk w2 hb (qP jc Wv) 186):ph w w1 p v a a' q h l lv hb Wv w2:=by
 have hn:¬ a'.foot p hb:=fun hf=>(s.foot hb hf).elim h3 (fun h=>by omega);refine⟨s.at_.same (m.on fun g hg e=>hn (by rw[<-e];exact hg)) m.size,s.role,s.text,s.foot,s.mod.trans m (fun g hl e=>by omega),fun b Te SQ=>(m.block b (atS SQ s.mod.size) (by omega)).trans (s.still b Te SQ),?_,hh⟩;obtain⟨base,ha⟩:=s.plan.at_;exact⟨⟨base,ab m ha.own (by omega),az ha.row (fun g hg=>m.block g (aS ha.row hg) (by have:=hl g hg;omega)),ha.new⟩,s.plan.qf,s.plan.lf⟩
theorem ph.keep (s:ph w w1 p v a a' q h l lv hb done wr)(k:af wr w2):ph w w1 p v a a' q h l lv hb done w2:=
 ⟨s.at_.keep k,s.role,s.text,s.foot,s.mod.trans (k.mono (T:=a.foot p) (fun _ _ h=>h.elim)) (fun _ _ h=>h),fun b Te SQ=>(k.block b (atS SQ s.mod.size) id).trans (s.still b Te SQ),s.plan.keep k,ab k s.hash id⟩
end
theorem QZ {w:World}{p:Nat}{v:Vs}{a:eX}{q:Nat}{h:Hd}{l:List Nat}{lv:Value}(hv:ls w p v a)(hl:v.b.list.length<=1000)(x:gg w p a q h l lv)(hid:((bf v.b.list h.name).getD fi).id=h.id)
  (yf:l.length<=5000) (hb:v.blocks<=4096) (f:Nat->ay) (hf:∀ n∈l,1<=n/\n<v.blocks/\v.rd n=.ok (f n)/\(f n).length<=240):
  Calls prog 23 #[aq q] w fun e w'=>e=.returned (.tuple #[aB (NL jc (gE f l)),.int .i64 0])/\∃ a',ei w p v a v a' w'/\a'.text=a.text/\gg w' p a' q h l lv:=by
 have NH:=hd0 (QX jc w rfl);obtain⟨base,ha⟩:=x.at_;have hqw:=ai ha.own;have hlw:∀ g,lv.ownBlock=some g->g<w.heap.size:=fun g hg=>aS ha.row hg;obtain⟨iC,hhb⟩:∃ iC,w.heap.size=iC:=⟨_,rfl⟩
 have Hhb:=hd0 hhb;have EO:¬ a.foot p iC:=fun hf=>by have:=hv.lt hf;omega
 have HQ:=hd0 (And.intro hqw (And.intro hlw EO));have HV:=hd0 hv;have HX:=hd0 x;have HL:=hd0 (And.intro hl (And.intro yf hb));have HID:=hd0 hid;have HF:=hd0 hf;have aiq:(l.length:Int)<=5000:=by omega
 clear hv hl x hid hb hf ha hqw hlw EO;go_enter func23,ntmps23;go_wp2_with fail;refine NH.out.mono ?_;rintro e w1 ⟨rfl,hh,k1⟩;rw[hhb]at hh ⊢;have HS:Hid (ph w w1 p v a a q h l lv iC (gE f (l.take 0)) w1):=hd0 ⟨HV.out.keep k1,rfl,rfl,fun g hg=>.inl hg,k1.mono (fun _ _ h=>h.elim),fun b Te SQ=>k1.block b SQ id,HX.out.keep k1,(by rw[show gE f (l.take 0)=[]from rfl];exact hh)⟩;have H1:Hid (iC<w1.heap.size/\w.heap.size<=w1.heap.size):=hd0 ⟨ai hh,k1.size⟩;obtain⟨la,cap,elv,_,_,_,c8,_⟩:=(HX.out.keep k1).cells;clear k1 hh NH hhb;go_wp2_with fail
 go_loopw [18] (fun y wr=>∃ k:Nat,k<=l.length/\y=.int .i64 (k:Int)/\Hid (∃ a',ph w w1 p v a a' q h l lv iC (gE f (l.take k)) wr/\w1.heap.size<=wr.heap.size)) (fun y _=>l.length-(intOf y).toNat)
 case atStart=>exact⟨0,by omega,rfl,hd0 ⟨a,HS.out,atL _⟩⟩
 case round=>
  clear HS c8;obtain⟨k,hk,rfl,HR⟩:=hrel;obtain⟨a1,hs,cA⟩:=HR.out;have HS:=hd0 (And.intro hs cA);clear hs cA HR;by_cases aM:k<l.length
  ·have dS:(k:Int)<(l.length:Int):=by omega
   obtain⟨n,hn⟩:∃ n,l[k]?=some n:=⟨_,atI aM⟩
   obtain⟨g1,g2,g3,g4⟩:=HF.out n (atJ hn);have PR:=hd0 (Il HS.out.1.at_ HL.out.1 HS.out.1.plan HID.out k n hn HL.out.2.1 g1 g2 HL.out.2.2 (f n) g3 g4);have XM:gE f (l.take (k+1))=gE f (l.take k)++el (n:Int) (f n):=by unfold gE;rw[atK,hn];simp
   have aU:(el (n:Int) (f n)).length<=300:=by
    unfold el;have h1:=bG (n:=(n:Int).toNat) (by have:=HL.out.2.2;omega);have h2:=bG (n:=(f n).length) (by omega);simp only[at0];omega
   have HT:=hd0 (And.intro XM aU);clear hn g1 g2 g3 g4 XM aU;go_wp2_with fail;refine PR.out.mono ?_;rintro e w2 ⟨rfl,a2,jj,Kj,nI⟩;have lh:=HS.out.1.read H1.out.1 HS.out.2 HQ.out.2.2 H1.out.2 jj Kj nI;have Bw:=hd0 (And.intro lh (atE HS.out.2 jj.mod.size));have WH:=hd0 (Im iC jc (gE f (l.take k)) (el (n:Int) (f n)) w2 lh.hash (by
    have h1:=xJ f (l.take k) (fun y hy=>by
     obtain⟨g1,g2,g3,g4⟩:=HF.out y (atN hy);exact⟨by have:=HL.out.2.2;omega,g4⟩)
    rw[atO]at h1;have h4:min k l.length<=l.length:=Nat.min_le_right _ _;have h2:=HT.out.2;have h3:=HL.out.2.1;omega))
   clear lh jj Kj nI PR;go_wp2_with fail;refine WH.out.mono ?_;rintro e w3 ⟨rfl,hh3,m3⟩;rw[<-HT.out.1]at hh3;have IK:=hd0 (And.intro (Bw.out.1.wrote H1.out.1 HQ.out.2.2 (Nat.le_of_eq Hhb.out) HQ.out.1 HQ.out.2.1 m3 hh3) (atE Bw.out.2 m3.size));clear hh3 m3 WH;go_wp2_with fail;exact⟨⟨k+1,by omega,by go_num,hd0 ⟨a2,IK.out⟩⟩,by simp[intOf];omega⟩
  ·obtain nH:k=l.length:=by omega
   have hs:=HS.out.1;rw[nH,atM]at hs;have SH:=hd0 (QY iC jc (gE f l) wr hs.hash (by
    have h1:=xJ f l (fun y hy=>by
     obtain⟨g1,g2,g3,g4⟩:=HF.out y hy;exact⟨by have:=HL.out.2.2;omega,g4⟩)
    have h3:=HL.out.2.1;omega))
   have IB:=hd0 hs;clear hs hk;go_wp2_with fail;refine SH.out.mono ?_;rintro e w4 ⟨rfl,k4⟩;have HE:=hd0 (IB.out.keep k4);clear k4 SH;go_wp2;go_ret2;exact⟨rfl,a1,⟨HE.out.at_,HE.out.role,fun g hg=>(HE.out.foot g hg).imp id (fun h=>atE H1.out.2 h),HE.out.mod,HE.out.still,fun e=>HE.out.text.trans e⟩,HE.out.text,HE.out.plan⟩
end
theorem JR (c:UInt8)(l:List UInt8):l.length+1=((jM c l).map fun x=>x.length+1).sum:=by
 induction l with
 |nil=>simp[jM]
 |cons b r ih=>
  by_cases h:b=c
  ·subst h;rw[jM,atP rfl];simp only[atF,atG,auV,atH];omega
  ·rw[vw c b r h]
   cases hs:jM c r with
   |nil=>exact absurd hs (vu c r)
   |cons x y=>
    rw[hs]at ih;simp only[atF,atG,atH]at ih ⊢;omega
theorem UL (l:List (List UInt8))(h:∀ x∈l,x.length<=16):(l.map fun x=>x.length+1).sum<=17*l.length:=by
 induction l with
 |nil=>simp
 |cons x r ih=>
  have h1:=h x (by simp);have h2:=ih fun y hy=>h y (by simp[hy]);simp only[atF,atG,atH];omega
theorem j3 {s:List UInt8}(h:aH s=true):s.length<=16:=by
 unfold aH at h;simp only[at2,aua]at h;exact h.1.1.2
theorem Ew {s:List UInt8}(h:(bd s).isSome=true):s.length<=137:=by
 obtain⟨l,hl⟩:=Option.isSome_iff_exists.1 h;obtain⟨r,rfl,hr⟩:=iT hl;rcases hr with⟨rfl,_⟩|⟨_,lj,h8,hn⟩
 ·simp
 ·have h1:=JR 47 r;rw[<-lj]at h1;have h2:=UL l (fun x hx=>j3 (at3.1 hn x hx));simp only[atH];omega
theorem ti:∀(k u:Nat),u<10 ^ k->1<=k->Lib.nDigits u<=k
 |0,_,_,h=>by omega
 |k+1,u,h,_=>by
  by_cases h1:u<10
  ·rw[Lib.nDigits_small h1];omega
  ·rw[Lib.nDigits_big h1];rw[auf]at h;by_cases hk:1<=k
   ·have:=ti k (u/10) (by omega) hk;omega
   ·obtain rfl:k=0:=by omega
    simp at h;omega
theorem dD {c:bT}{f:Nat}(h:c.fieldOk f=true):(c.fieldText f).length<=1024/\(f≠4->(c.fieldText f).length<=137):=by
 unfold bT.fieldOk at h;unfold bT.fieldText;split at h
 ·have:=Ew h;exact⟨by show c.path.length<=_;omega,fun _=>this⟩
 ·have:=Ew h;exact⟨by show c.dest.length<=_;omega,fun _=>this⟩
 ·simp only[at2,aua]at h;have:(Lib.itoa c.pos).length<=10:=by
   obtain⟨u,hu⟩:∃ u:Nat,c.pos=u:=⟨c.pos.toNat,by omega⟩
   rw[hu,Lib.itoa_nonneg,Lib.decDigits_length];exact ti 10 u (by omega) (by omega)
  exact⟨by show(Lib.itoa c.pos).length<=_;omega,fun _=>by show(Lib.itoa c.pos).length<=_;omega⟩
 ·have hd:c.data.length<=512:=by simpa using h
  refine⟨?_,fun hh=>absurd rfl hh⟩;show(rB c.data).length<=_;unfold rB;split
  ·simp
  ·rw[sM];omega
 ·rename_i h2 h3 h4 h5
  have:=j3 h;split
  ·exact absurd rfl h3
  ·exact absurd rfl h4
  ·exact absurd rfl h5
  ·exact⟨by omega,fun _=>by omega⟩
theorem UM {c:bT}(h:c.fieldOk 3=true):(c.fieldText 3).length<=10:=by
 have h':(decide (0<=c.pos)&&decide (c.pos<=16384))=true:=h;simp only[at2,aua]at h';show(Lib.itoa c.pos).length<=10;obtain⟨u,hu⟩:∃ u:Nat,c.pos=u:=⟨c.pos.toNat,by omega⟩
 rw[hu,Lib.itoa_nonneg,Lib.decDigits_length];exact ti 10 u (by omega) (by omega)
theorem xK {c:bT}(h:c.ok=true):c.line.length<=1300:=by
 have hw:=Ga h;have h1:=JR 32 c.line;rw[hw]at h1;obtain⟨hk,hf⟩:=oH h;have hk9:c.k<9:=hk;have ff:∀ f∈fieldsOf c.k,c.fieldOk f=true:=by
  intro f hf';unfold bT.ok at h;simp only[at2]at h;exact at3.1 h.2.1 f hf'
 rcases(by omega:c.k=0\/c.k=1\/c.k=2\/c.k=3\/c.k=4\/c.k=5\/c.k=6\/c.k=7\/c.k=8)with e|e|e|e|e|e|e|e|e<;>rw[e]at h1 ff<;>simp only[fieldsOf,cP,atF,List.map_nil,atG,List.sum_nil,atH,auV]at h1
 ·have:=(dD (ff 1 (by simp[fieldsOf]))).2 (by decide);omega
 ·have:=(dD (ff 1 (by simp[fieldsOf]))).2 (by decide);omega
 ·have a1:=(dD (ff 1 (by simp[fieldsOf]))).2 (by decide);have a2:=UM (ff 3 (by simp[fieldsOf]));have a3:=(dD (ff 4 (by simp[fieldsOf]))).1;omega
 ·have a1:=(dD (ff 1 (by simp[fieldsOf]))).2 (by decide);have a2:=(dD (ff 3 (by simp[fieldsOf]))).2 (by decide);omega
 ·have a1:=(dD (ff 1 (by simp[fieldsOf]))).2 (by decide);have a2:=(dD (ff 2 (by simp[fieldsOf]))).2 (by decide);omega
 ·have a1:=(dD (ff 1 (by simp[fieldsOf]))).2 (by decide);have a2:=(dD (ff 2 (by simp[fieldsOf]))).2 (by decide);omega
 ·have:=(dD (ff 1 (by simp[fieldsOf]))).2 (by decide);omega
 ·have:=(dD (ff 5 (by simp[fieldsOf]))).2 (by decide);omega
 ·have:=(dD (ff 5 (by simp[fieldsOf]))).2 (by decide);omega
theorem Ad {c:bT}(h:c.ok=true)(h7:c.kind=7):aH c.path=true/\c.path.length<=16/\c.path≠[]:=by
 have hk:c.k=7:=by unfold bT.k;rw[h7];decide
 unfold bT.ok at h;simp only[at2]at h;have h5:=at3.1 h.2.1 5 (by rw[hk];simp[fieldsOf]);have hn:aH c.path=true:=h5;refine⟨hn,j3 hn,?_⟩;intro e;rw[e]at hn
 cases hn
theorem Q0 {l:Nm}(hl:l.length<=60)(hn:∀ p∈l,aH p.1=true)(hp:∀ p∈l,0<=p.2/\p.2<=65535):(l6 l).length<=16384:=by
 have nine:∀ n:Nat,n<=65535->(aO n).length<=3:=by
  intro n hn;rw[aO];split
  ·simp
  ·rw[aO];split
   ·simp
   ·rw[aO,dif_pos (by omega)];simp
 have key:∀ m:Nm,(∀ p∈m,aH p.1=true/\0<=p.2/\p.2<=65535)->(m.flatMap lK).length<=30*m.length:=by
  intro m
  induction m with
  |nil=>intro _;simp
  |cons p r ih=>
   intro hm;obtain⟨a1,a2,a3⟩:=hm p (by simp);have h2:=ih fun q hq=>hm q (by simp[hq]);have h3:=j3 a1;have h4:=nine p.1.length (by omega);have h5:=nine p.2.toNat (by omega);have h6:(lK p).length<=30:=by unfold lK;simp only[at0];omega
   simp only[aus,at0,atH];omega
 unfold l6;have h1:=nine l.length (by omega);have h2:=key l fun p BU=>⟨hn p BU,hp p BU⟩
 rw[at0];omega
theorem YC {l:List Nat}{k:Nat}(h:∀ x∈l,x<=k):l.sum<=k*l.length:=by
 induction l with
 |nil=>simp
 |cons x r ih=>
  have h1:=h x (by simp);have h2:=ih fun y hy=>h y (by simp[hy]);simp only[atG,atH,Nat.mul_succ];omega
theorem UN {T:Tr}(h1:T.length<=60)(h2:∀ n∈T,n.names.length<=60)(j:Int):jS T j<=3600:=by
 unfold jS;have h3:=YC (l:=T.map fun n=>gq n.names j) (k:=60) (fun x hx=>by
  obtain⟨n,hn,rfl⟩:=aui.1 hx;exact atE List.countP_le_length (h2 n hn))
 rw[aug]at h3;omega
theorem Ae {T:Tr}{d:Int->Nat}(h:WF T d):iz (ar T):=by
 have dy:∀(was:Int) (S:Tr),S.Pairwise (fun a b=>a.num<b.num)->(∀ n∈S,was<n.num/\n.num<=65535)->lP was (ar S)=true:=by
  intro was S
  induction S generalizing was with
  |nil=>intro _ _;rfl
  |cons x r ih=>
   intro hp hm;rw[auQ]at hp;have h1:=hm x (by simp);have h2:=ih x.num hp.2 (fun n hn=>⟨hp.1 n hn,(hm n (by simp[hn])).2⟩);show(decide (was<x.num)&&decide (x.num<=65535)&&lP x.num (ar r))=true;rw[decide_eq_true h1.1,decide_eq_true h1.2,h2];rfl
 refine⟨⟨by unfold ar;rw[aug];exact h.many,dy 0 T h.sorted (fun n hn=>by have:=h.nums n hn;omega),?_,?_⟩,T,d,h,rfl⟩
 ·intro x hx;obtain⟨n,hn,rfl⟩:=aui.1 hx;show 1<=n.links/\n.links<=3600;by_cases h1:n.num=1
  ·obtain⟨r,hr,Kq,_,Ks⟩:=h.root;have e:n=r:=by
    have g1:=(ax h.sorted).2 ⟨hn,h1⟩;have g2:=(ax h.sorted).2 ⟨hr,Kq⟩;rw[g1]at g2;injection g2
   rw[e,Ks];decide
  ·obtain⟨h2,h3,_⟩:=h.count n hn h1;have h4:=UN h.many (fun m hm=>(h.names m hm).1) n.num;have h2':(jS T n.num:Int)+0=n.links:=h2;omega
 ·intro x hx;obtain⟨n,hn,rfl⟩:=aui.1 hx;show(if n.dir=true then l6 n.names else n.data).length<=16384;split
  ·refine Q0 (h.names n hn).1 (h.names n hn).2 (fun p hp=>?_);obtain⟨_,m,hm,e⟩:=h.closed n hn p hp;have:=h.nums m hm;omega
  ·rename_i hd
   exact(h.file n hn (by simpa using hd)).2
structure abR (v:Vs)(c:bT)(r:Int)(u:Vs):Prop where
 run:Bf v c=.ok (r,u)
 good:ma u
 blocks:u.blocks=v.blocks
 half:u.half=v.half
 num:v.num<=u.num/\u.num<=v.num+3
 id:u.b.id<=v.b.id+1
 T:u.T=v.T\/u.T=(qy v.T c).1
theorem YD {v:Vs}(h:ma v)(c:bT)(WE:c.ok=true->c.line.length+2<=v.half)(hn:iz (ar (qy v.T c).1)):∃ r u,abR v c r u:=by
 cases hX:le v c with
 |error x=>
  exact⟨x,v,(Ep hX).2,h,rfl,rfl,by omega,by omega,.inl rfl⟩
 |ok T=>
  obtain⟨cC,hm,hT⟩:=JN hX;have hTM:iz (ar T):=by
   rcases hT with rfl|rfl
   ·exact h.told
   ·exact hn
  obtain⟨v1,e1,uC,By,Kq⟩:∃ v1,(if(c.kind=7\/c.kind=8)\/c.line.length+2<=cG v then(.ok v:Except Int Vs)else bB v v.b.list [])=.ok v1/\iI v v1/\v1.num<=v.num+1/\((c.kind=7\/c.kind=8)\/c.line.length+2<=cG v1):=by
   by_cases hr:(c.kind=7\/c.kind=8)\/c.line.length+2<=cG v
   ·exact⟨v,by rw[atP hr],iI.refl h,by omega,hr⟩
   ·obtain⟨u,hu,hs,_,ajr,dy⟩:=hZ h;refine⟨u,by rw[atR hr,hu],hs,by omega,.inr ?_⟩;unfold cG;rw[ajr,hs.half];have:=WE cC;simp[lq];omega
  obtain⟨b,v2,e2,lh,hb1,eS,aek⟩:=UD uC.good T c.kind;have hs:=uC.trans lh;have Aq:=(Es uC.good e2).2.1;have hd:=JO cC hm e1 e2;have dy:v.num<=v2.num/\v2.num<=v.num+2:=⟨hs.num,by omega⟩
  cases b with
  |false=>exact⟨151,v2,by rw[hd,atP rfl],hs.good,hs.blocks,hs.half,by omega,by rw[hs.id];omega,.inl hs.T⟩
  |true=>
   rw[atR (by decide)]at hd;have ajT:=hb1 rfl;by_cases h7:c.kind=7
   ·obtain⟨g1,g2,g3⟩:=Er hm h7;obtain⟨k1,k2,_⟩:=Ad cC h7;have Ns:fG v2 v2.b.list c.path:=⟨List.Sublist.refl _,.inr ⟨k1,k2,fun x hx=>by rw[hs.list]at hx;exact xA g1 x hx,by rw[hs.list];exact g2,by rw[hs.id];omega⟩⟩
    obtain⟨u,hu⟩:=xk hs.good Ns;refine⟨0,u,by rw[hd,atP h7,hu.run];rfl,hu.good,hu.blocks.trans hs.blocks,hu.half.trans hs.half,by have:=hu.num;omega,?_,.inl (hu.T.trans hs.T)⟩;rw[hu.id];split
    ·rw[hs.id];omega
    ·rw[hs.id];exact atL _
   ·by_cases h8:c.kind=8
    ·have Ns:fG v2 (v2.b.list.eraseIdx ((dw v2 c.path).getD 0)) []:=⟨List.eraseIdx_sublist _ _,.inl rfl⟩
     obtain⟨u,hu⟩:=xk hs.good Ns;refine⟨0,u,by rw[hd,atR h7,atP h8,hu.run];rfl,hu.good,hu.blocks.trans hs.blocks,hu.half.trans hs.half,by have:=hu.num;omega,?_,.inl (hu.T.trans hs.T)⟩;rw[hu.id,atP rfl,hs.id];omega
    ·have lR:c.line.length+2<=cG v2:=by
      rcases Kq with(hh|hh)|hh
      ·exact absurd hh h7
      ·exact absurd hh h8
      ·rcases aek with hh2|hh2
       ·unfold cG at hh ⊢;rw[lh.half,hh2];exact hh
       ·unfold cG;rw[hh2,hs.half];have:=WE cC;simp[lq];omega
     refine⟨0,{ v2 with T:=T,recs:=v2.recs++[c.line] },by rw[hd,atR h7,atR h8,atR (by omega)],Ih hs.good hTM (by omega),hs.blocks,hs.half,by show v.num<=v2.num/\v2.num<=v.num+3;omega,by show v2.b.id<=v.b.id+1;rw[hs.id];omega,?_⟩;rcases hT with e|e
     ·exact .inl e
     ·exact .inr e
def uo:Vs->List bT->Except Int Vs
 |v,[]=>.ok v
 |v,c::r=>match Bf v c with
  | .error e=>.error e
  | .ok o=>uo o.2 r
theorem MG {v:Vs}{l:List bT}{u:Vs}(h:uo v l=.ok u){c:bT}{r:Int}{x:Vs}(hd:Bf u c=.ok (r,x)):uo v (l++[c])=.ok x:=by
 induction l generalizing v with
 |nil=>
  injection h with h;subst h;show(match Bf v c with | .error e=>(.error e:Except Int Vs) | .ok o=>uo o.2 [])=_;rw[hd];rfl
 |cons y l ih=>
  have h':(match Bf v y with | .error e=>(.error e:Except Int Vs) | .ok o=>uo o.2 l)=.ok u:=h;show(match Bf v y with | .error e=>(.error e:Except Int Vs) | .ok o=>uo o.2 (l++[c]))=_
  cases hy:Bf v y with
  |error e=>rw[hy]at h';cases h'
  |ok o=>rw[hy]at h';exact ih h'
structure Lv (v:Vs)(k:Nat):Prop where
 good:ma v
 wf:∃ d,WF v.T d
 id:v.b.id<=k+1
 num:v.num<=2+3*k
 half:1302<=v.half
theorem Lv.step {v:Vs}{k:Nat}(h:Lv v k)(c:bT):∃ r u,Bf v c=.ok (r,u)/\Lv u (k+1)/\u.blocks=v.blocks/\u.half=v.half:=by
 obtain⟨d,hw⟩:=h.wf;obtain⟨d',cJ⟩:=Pe hw c;obtain⟨r,u,hr⟩:=YD h.good c (fun cC=>by have:=xK cC;have:=h.half;omega) (Ae cJ);refine⟨r,u,hr.run,⟨hr.good,?_,by have:=hr.id;have:=h.id;omega,by have:=hr.num;have:=h.num;omega,by rw[hr.half];exact h.half⟩,hr.blocks,hr.half⟩;rcases hr.T with e|e
 ·exact⟨d,by rw[e];exact hw⟩
 ·exact⟨d',by rw[e];exact cJ⟩
end Go.Proofs.YtkghpdcloaiflaaGreatDoor
