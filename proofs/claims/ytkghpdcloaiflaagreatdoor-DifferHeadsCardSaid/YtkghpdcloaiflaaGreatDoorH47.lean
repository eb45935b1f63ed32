import Derived.Test.YtkghpdcloaiflaaGreatDoorH45
import Derived.Test.YtkghpdcloaiflaaGreatDoorH46
import Derived.Laws.StructEq
set_option maxHeartbeats 16000000
set_option maxRecDepth 100000
namespace Go.Proofs.YtkghpdcloaiflaaGreatDoor
open _root_.Go.Proofs.Tryz
section
open Go.RowKit
attribute [local go_sem] av0
theorem jf {S a b:ay}{k:Nat}(h:S.drop k=a++b):S.drop (k+a.length)=b:=by rw[<-List.drop_drop,h,List.drop_left' rfl]
structure XW (w:World)(z r:Nat)(S:ay)(k:Nat)(x:Int)(wr:World):Prop where
 keep:af w wr
 zero:World.blk wr z #[.int .i64 0,.int .i64 0,.string ⟨#[]⟩,.int .i64 0,.int .i64 0,.int .i64 0,.string ⟨#[]⟩] 44
 rd:jd wr r S k x
 ord:w.heap.size<=z/\z<r
section
variable {w wr w2:World}{z r:Nat}{S:ay}{k k2:Nat}{x x2:Int}
theorem XW.call (s:XW w z r S k x wr)(h:jd w2 r S k2 x2)(m:ai (·=r) wr w2):XW w z r S k2 x2 w2:=
 ⟨s.keep.trans m (λg hl e=>by have:=s.ord;omega),ab m s.zero (by have:=s.ord;omega),h,s.ord⟩
theorem XW.keep' (s:XW w z r S k x wr)(m:af wr w2):XW w z r S k x w2:=⟨s.keep.keep m,ab m s.zero id,ab m s.rd id,s.ord⟩
end
theorem NJ (h:Hd)(k:ge h)(w:World):
  Calls prog 31 #[az (eQ h)] w λe w'=>e=.returned (.tuple #[sF h,.int .i64 0])/\af w w':=by
 have DH:=λW=>tG h W (by have:=k.name.2;omega) (by have:=k.drop.2;omega);have hv:lF h=.tuple #[az (eQ h),.int .i64 0]:=awd ((dU h).2 k);rw[hv]at DH;have hE:=rZ h;have CB:=k.nums;have yw:=k.drop.2;have rk:=k.name.2;have a1:=k.id.2;have a2:=k.base.2;have a3:=k.root.2;have a4:=k.size.2;have a5:=k.count.2;have WY:=k.few;clear hv k;obtain⟨po,base,name,⟨root,size⟩,count,drop⟩:=h;simp only at CB yw rk a1 a2 a3 a4 a5 hE;generalize eQ ⟨po,base,name,⟨root,size⟩,count,drop⟩=S at*;obtain⟨i,hi⟩:∃ i,po.toNat=i:=⟨_,rfl⟩
 obtain⟨j,hj⟩:∃ i,base.toNat=i:=⟨_,rfl⟩
 obtain⟨r,hr⟩:∃ i,root.toNat=i:=⟨_,rfl⟩
 obtain⟨z,hz⟩:∃ i,size.toNat=i:=⟨_,rfl⟩
 obtain⟨c,hc⟩:∃ i,count.toNat=i:=⟨_,rfl⟩
 rw[hi,hj,hr,hz,hc]at CB hE;obtain⟨rfl,rfl,rfl,rfl,rfl⟩:=CB;obtain⟨HB,DH⟩:=K2 (And.intro (And.intro yw rk) (And.intro a1 (And.intro a2 (And.intro a3 (And.intro a4 a5))))) DH;have Uz:Hid (S.length<=140737488351232):=Z J;have D1:S.drop 0=_:=hE;have D2:=jf D1;have D3:=jf D2;have D4:=jf (jf D3);have D5:=jf D4;have D6:=jf D5;have D7:=jf D6;have gN:0+(aD i).length+(aD j).length+(aD name.length).length+name.length+(aD r).length+(aD z).length+(aD c).length+(aD drop.length).length+drop.length=S.length:=by rw[hE];simp only[awn,axe];omega
 obtain⟨HD,alI⟩:=K2 (And.intro D1 (And.intro D2 (And.intro D3 (And.intro D4 (And.intro D5 (And.intro D6 D7)))))) gN;obtain⟨z0,iK⟩:∃ z0,w.heap.size=z0:=⟨_,rfl⟩
 have HA:Hid (XW w z0 (z0+1) S 0 0 ((w.alloc (.cells #[.int .i64 0,.int .i64 0,.string ⟨#[]⟩,.int .i64 0,.int .i64 0,.int .i64 0,.string ⟨#[]⟩] 44)).alloc (.cells #[az S,.int .i64 0,.int .i64 0] 75))):=Z
  ⟨((ai.refl _ w).alloc _).alloc _,by rw[<-iK];exact aE (av _ _ _) _,aV (by simp[iK]) _ _,J⟩
 clear hE yw rk a1 a2 a3 a4 a5 WY hi hj hr hz hc D1 D2 D3 D4 D5 D6 D7 gN;go_enter func31,ntmps31;go_wp2_with fail
 try simp only[World.alloc_size,iK]
 try rw[iK]
 refine(o8 S _ i _ 4611686018427387904 (z0+1) _ HA.rd HD.1 Uz.o (by have:=HB.o;omega) (by have:=HB.o;omega) (by have:=HB.o;omega)).mono ?_;rintro e w2 ⟨rfl,nU,m2⟩;have H2:=Z (HA.call nU m2);clear nU m2 HA;go_wp2_with fail;refine(o8 S _ j _ 4611686018427387904 (z0+1) _ H2.rd HD.2.1 Uz.o (by have:=HB.o;omega) (by have:=HB.o;omega) (by have:=HB.o;omega)).mono ?_;rintro e w3 ⟨rfl,yF,m3⟩;have H3:=Z (H2.call yF m3);clear yF m3 H2;go_wp2_with fail;refine(Av S name _ _ 65536 (z0+1) _ H3.rd HD.2.2.1 Uz.o J (by have:=HB.o;omega)).mono ?_;rintro e w4 ⟨rfl,O4,m4⟩;have H4:=Z (H3.call O4 m4);clear O4 m4 H3;go_wp2_with fail;refine(o8 S _ r _ 4611686018427387904 (z0+1) _ H4.rd HD.2.2.2.1 Uz.o (by have:=HB.o;omega) (by have:=HB.o;omega) (by have:=HB.o;omega)).mono ?_;rintro e w5 ⟨rfl,Ce,m5⟩;have H5:=Z (H4.call Ce m5);clear Ce m5 H4;go_wp2_with fail;refine(o8 S _ z _ 4611686018427387904 (z0+1) _ H5.rd HD.2.2.2.2.1 Uz.o (by have:=HB.o;omega) (by have:=HB.o;omega) (by have:=HB.o;omega)).mono ?_;rintro e w6 ⟨rfl,hr6,m6⟩;have H6:=Z (H5.call hr6 m6);clear hr6 m6 H5;go_wp2_with fail;refine(o8 S _ c _ 4611686018427387904 (z0+1) _ H6.rd HD.2.2.2.2.2.1 Uz.o (by have:=HB.o;omega) (by have:=HB.o;omega) (by have:=HB.o;omega)).mono ?_;rintro e w7 ⟨rfl,Sl,m7⟩;have H7:=Z (H6.call Sl m7);clear Sl m7 H6;go_wp2_with fail;refine(Av S drop _ _ 65536 (z0+1) _ H7.rd HD.2.2.2.2.2.2 Uz.o J (by have:=HB.o;omega)).mono ?_;rintro e w8 ⟨rfl,OD,m8⟩;have H8:=Z (H7.call OD m8);clear OD m8 H7;go_wp2_with fail;obtain⟨w9,Ww⟩:∃ W,w8.alloc (.cells #[.int .i64 (i:Int),.int .i64 (j:Int),.string ⟨name.toArray⟩,.int .i64 (r:Int),.int .i64 (z:Int),.int .i64 (c:Int),.string ⟨drop.toArray⟩] 44)=W:=⟨_,rfl⟩
 obtain⟨hb,Cq⟩:∃ b,w8.heap.size=b:=⟨_,rfl⟩
 have k9:af w8 w9:=by rw[<-Ww];exact(ai.refl _ w8).alloc _
 have HHD:Hid (World.blk w9 hb #[.int .i64 (i:Int),.int .i64 (j:Int),.string ⟨name.toArray⟩,.int .i64 (r:Int),.int .i64 (z:Int),.int .i64 (c:Int),.string ⟨drop.toArray⟩] 44):=Z (by rw[<-Ww,<-Cq];exact av _ _ _);have H9:=Z (H8.keep' k9)
 try rw[Ww]
 try rw[Cq]
 clear k9 Ww Cq H8;go_wp2_with fail;refine(DH.o _).mono ?_;rintro e sH ⟨rfl,CD⟩;obtain⟨AJ,akN⟩:=K2 (H9.keep' CD) (ab CD HHD.o id);have yX:=AJ.rd;rw[alI.o]at yX;have EN:=Z (RT S (z0+1) sH yX Uz.o);have beq:(S==S)=true:=by simp
 clear CD H9 HHD DH yX;go_wp2_with fail;refine EN.mono ?_;rintro e Zh ⟨rfl,KG⟩;have uD:=Z (AJ.keep' KG);obtain⟨q0,q1,q2,q3,q4,q5,q6⟩:=bg (ab KG akN.o id);have hq:=uD.zero;obtain⟨y0,y1,y2,y3,y4,y5,y6⟩:=bg hq;have f0:=ae hq ⟨z0,0,none⟩ rfl;have f1:=ae hq ⟨z0,1,none⟩ rfl;have f2:=ae hq ⟨z0,2,none⟩ rfl;have f3:=ae hq ⟨z0,3,none⟩ rfl;have f4:=ae hq ⟨z0,4,none⟩ rfl;have f5:=ae hq ⟨z0,5,none⟩ rfl;have f6:=ae hq ⟨z0,6,none⟩ rfl;have rr:=Z (yU hq (.int .i64 (i:Int)) (.int .i64 (j:Int)) (.string ⟨name.toArray⟩) (.int .i64 (r:Int)) (.int .i64 (z:Int)) (.int .i64 (c:Int)) (.string ⟨drop.toArray⟩));clear hq KG EN AJ;go_wp2_with fail;obtain⟨p0,p1,p2,p3,p4,p5,p6⟩:=bg rr.1;have od:=uD.keep.new rr.2 uD.ord.1;exact awC (v:=.tuple #[sF ⟨(i:Int),(j:Int),name,⟨(r:Int),(z:Int)⟩,(c:Int),drop⟩,.int .i64 0]) (by simp[results,Tryz.results31,go_sem,p0,p1,p2,p3,p4,p5,p6]) rfl ⟨rfl,od⟩
theorem Jf (S:ay)(hS:S.length<=140737488351232)(pj:∀ h,ge h->eQ h≠S)(w:World):
  Calls prog 31 #[az S] w λe w'=>e=.returned (.tuple #[sF ⟨0,0,[],⟨0,0⟩,0,[]⟩,.int .i64 190])/\af w w':=by
 obtain⟨HS,aaQ⟩:=K2 hS pj;obtain⟨z0,iK⟩:∃ z0,w.heap.size=z0:=⟨_,rfl⟩
 have HA:Hid (XW w z0 (z0+1) S 0 0 ((w.alloc (.cells #[.int .i64 0,.int .i64 0,.string ⟨#[]⟩,.int .i64 0,.int .i64 0,.int .i64 0,.string ⟨#[]⟩] 44)).alloc (.cells #[az S,.int .i64 0,.int .i64 0] 75))):=Z
  ⟨((ai.refl _ w).alloc _).alloc _,by rw[<-iK];exact aE (av _ _ _) _,aV (by simp[iK]) _ _,J⟩
 clear hS pj;go_enter func31,ntmps31;go_wp2_with fail
 try simp only[World.alloc_size,iK]
 try rw[iK]
 refine(kT S _ _ 4611686018427387904 (z0+1) _ HA.rd (awP _) HS.o J).mono ?_;rintro e w2 ⟨n1,y1,k1,rfl,Gf,m1,hk1,_,_⟩;obtain⟨H2,K1⟩:=K2 (HA.call Gf m1) hk1;clear Gf m1 hk1 HA;go_wp2_with fail;refine(kT S _ _ 4611686018427387904 (z0+1) _ H2.rd K1.o HS.o J).mono ?_;rintro e w3 ⟨n2,y2,k2,rfl,nU,m2,dK,_,_⟩;obtain⟨H3,Kq2⟩:=K2 (H2.call nU m2) dK;clear nU m2 dK H2;go_wp2_with fail;refine(uy S _ _ (z0+1) _ H3.rd Kq2.o HS.o).mono ?_;rintro e w4 ⟨t3,y3,k3,rfl,yF,m3,dr,Y9⟩;obtain⟨H4,Kq3,T3⟩:=K3 (H3.call yF m3) dr Y9;clear Y9;clear yF m3 dr H3;go_wp2_with fail;refine(kT S _ _ 4611686018427387904 (z0+1) _ H4.rd Kq3.o HS.o J).mono ?_;rintro e w5 ⟨n4,y4,k4,rfl,O4,m4,jE,_,_⟩;obtain⟨H5,Kq4⟩:=K2 (H4.call O4 m4) jE;clear O4 m4 jE H4;go_wp2_with fail;refine(kT S _ _ 4611686018427387904 (z0+1) _ H5.rd Kq4.o HS.o J).mono ?_;rintro e w6 ⟨n5,y5,k5,rfl,Ce,m5,kV,_,_⟩;obtain⟨H6,Kq5⟩:=K2 (H5.call Ce m5) kV;clear Ce m5 kV H5;go_wp2_with fail;refine(kT S _ _ 4611686018427387904 (z0+1) _ H6.rd Kq5.o HS.o J).mono ?_;rintro e w7 ⟨n6,y6,k6,rfl,hr6,m6,pX,_,_⟩;obtain⟨H7,Kq6⟩:=K2 (H6.call hr6 m6) pX;clear hr6 m6 pX H6;go_wp2_with fail;refine(uy S _ _ (z0+1) _ H7.rd Kq6.o HS.o).mono ?_;rintro e w8 ⟨t7,y7,k7,rfl,Sl,m7,pV,ht7⟩;obtain⟨H8,K7,T7⟩:=K3 (H7.call Sl m7) pV ht7;clear ht7;clear Sl m7 pV H7;go_wp2_with fail;obtain⟨w9,Ww⟩:∃ W,w8.alloc (.cells #[.int .i64 n1,.int .i64 n2,.string ⟨t3.toArray⟩,.int .i64 n4,.int .i64 n5,.int .i64 n6,.string ⟨t7.toArray⟩] 44)=W:=⟨_,rfl⟩
 obtain⟨hb,Cq⟩:∃ b,w8.heap.size=b:=⟨_,rfl⟩
 have k9:af w8 w9:=by rw[<-Ww];exact(ai.refl _ w8).alloc _
 have hhd:World.blk w9 hb #[.int .i64 n1,.int .i64 n2,.string ⟨t3.toArray⟩,.int .i64 n4,.int .i64 n5,.int .i64 n6,.string ⟨t7.toArray⟩] 44:=by rw[<-Ww,<-Cq];exact av _ _ _
 obtain⟨q0,q1,q2,q3,q4,q5,q6⟩:=bg hhd;have H9:=Z (H8.keep' k9);have DH:=tG ⟨n1,n2,t3,⟨n4,n5⟩,n6,t7⟩ w9 (by show t3.length<=_;have:=T3.o;omega) (by show t7.length<=_;have:=T7.o;omega)
 try rw[Ww]
 try rw[Cq]
 clear k9 Ww Cq hhd H8;by_cases bZ:kU ⟨n1,n2,t3,⟨n4,n5⟩,n6,t7⟩=true
 ·have hv:lF ⟨n1,n2,t3,⟨n4,n5⟩,n6,t7⟩=.tuple #[az (eQ ⟨n1,n2,t3,⟨n4,n5⟩,n6,t7⟩),.int .i64 0]:=awd bZ;rw[hv]at DH;have eG:(eQ ⟨n1,n2,t3,⟨n4,n5⟩,n6,t7⟩==S)=false:=by simpa using aaQ.o _ ((dU _).1 bZ)
  generalize eQ ⟨n1,n2,t3,⟨n4,n5⟩,n6,t7⟩=E at*;have DH:=Z DH;clear bZ hv;go_wp2_with fail;refine DH.mono ?_;rintro e sH ⟨rfl,CD⟩;have AJ:=Z (H9.keep' CD);have EN:=Z (xW S _ _ (z0+1) sH AJ.rd HS.o K7.o);clear CD H9 DH q0 q1 q2 q3 q4 q5 q6;go_wp2_with fail;refine EN.mono ?_;rintro e Zh ⟨y,rfl,KG⟩;have uD:=Z (AJ.keep' KG);clear KG EN AJ;have hq:=uD.zero;obtain⟨y0,y1,y2,y3,y4,y5,y6⟩:=bg hq;have f0:=ae hq ⟨z0,0,none⟩ rfl;have f1:=ae hq ⟨z0,1,none⟩ rfl;have f2:=ae hq ⟨z0,2,none⟩ rfl;have f3:=ae hq ⟨z0,3,none⟩ rfl;have f4:=ae hq ⟨z0,4,none⟩ rfl;have f5:=ae hq ⟨z0,5,none⟩ rfl;have f6:=ae hq ⟨z0,6,none⟩ rfl;by_cases hy:y=0
  ·subst hy;have rr:=Z (yU hq (.int .i64 0) (.int .i64 0) (.string ⟨#[]⟩) (.int .i64 0) (.int .i64 0) (.int .i64 0) (.string ⟨#[]⟩));clear hq;go_wp2_with fail
   all_goals (
    obtain⟨p0,p1,p2,p3,p4,p5,p6⟩:=bg rr.1;have od:=uD.keep.new rr.2 uD.ord.1;exact awC (v:=.tuple #[sF ⟨0,0,[],⟨0,0⟩,0,[]⟩,.int .i64 190]) (by simp[results,Tryz.results31,go_sem,p0,p1,p2,p3,p4,p5,p6]) rfl ⟨rfl,od⟩)
  ·have by1:(y != 0)=true:=by simpa using hy
   clear hy;have rr:=Z (yU hq (.int .i64 0) (.int .i64 0) (.string ⟨#[]⟩) (.int .i64 0) (.int .i64 0) (.int .i64 0) (.string ⟨#[]⟩));clear hq;go_wp2_with fail
   all_goals (
    obtain⟨p0,p1,p2,p3,p4,p5,p6⟩:=bg rr.1;have od:=uD.keep.new rr.2 uD.ord.1;exact awC (v:=.tuple #[sF ⟨0,0,[],⟨0,0⟩,0,[]⟩,.int .i64 190]) (by simp[results,Tryz.results31,go_sem,p0,p1,p2,p3,p4,p5,p6]) rfl ⟨rfl,od⟩)
 ·have hv:lF ⟨n1,n2,t3,⟨n4,n5⟩,n6,t7⟩=.tuple #[.string ⟨#[]⟩,.int .i64 190]:=awf bZ;rw[hv]at DH;have DH:=Z DH;clear bZ hv;go_wp2_with fail;refine DH.mono ?_;rintro e sH ⟨rfl,CD⟩;have AJ:=Z (H9.keep' CD);have EN:=Z (xW S _ _ (z0+1) sH AJ.rd HS.o K7.o);clear CD H9 DH q0 q1 q2 q3 q4 q5 q6;go_wp2_with fail;refine EN.mono ?_;rintro e Zh ⟨y,rfl,KG⟩;have uD:=Z (AJ.keep' KG);clear KG EN AJ;have hq:=uD.zero;obtain⟨y0,y1,y2,y3,y4,y5,y6⟩:=bg hq;have f0:=ae hq ⟨z0,0,none⟩ rfl;have f1:=ae hq ⟨z0,1,none⟩ rfl;have f2:=ae hq ⟨z0,2,none⟩ rfl;have f3:=ae hq ⟨z0,3,none⟩ rfl;have f4:=ae hq ⟨z0,4,none⟩ rfl;have f5:=ae hq ⟨z0,5,none⟩ rfl;have f6:=ae hq ⟨z0,6,none⟩ rfl;by_cases hy:y=0
  ·subst hy;have rr:=Z (yU hq (.int .i64 0) (.int .i64 0) (.string ⟨#[]⟩) (.int .i64 0) (.int .i64 0) (.int .i64 0) (.string ⟨#[]⟩));clear hq;go_wp2_with fail
   all_goals (
    obtain⟨p0,p1,p2,p3,p4,p5,p6⟩:=bg rr.1;have od:=uD.keep.new rr.2 uD.ord.1;exact awC (v:=.tuple #[sF ⟨0,0,[],⟨0,0⟩,0,[]⟩,.int .i64 190]) (by simp[results,Tryz.results31,go_sem,p0,p1,p2,p3,p4,p5,p6]) rfl ⟨rfl,od⟩)
  ·have by1:(y != 0)=true:=by simpa using hy
   clear hy;have rr:=Z (yU hq (.int .i64 0) (.int .i64 0) (.string ⟨#[]⟩) (.int .i64 0) (.int .i64 0) (.int .i64 0) (.string ⟨#[]⟩));clear hq;go_wp2_with fail
   all_goals (
    obtain⟨p0,p1,p2,p3,p4,p5,p6⟩:=bg rr.1;have od:=uD.keep.new rr.2 uD.ord.1;exact awC (v:=.tuple #[sF ⟨0,0,[],⟨0,0⟩,0,[]⟩,.int .i64 190]) (by simp[results,Tryz.results31,go_sem,p0,p1,p2,p3,p4,p5,p6]) rfl ⟨rfl,od⟩)
theorem yb (S:ay)(hS:S.length<=140737488351232):∃(h:Hd) (c:Int),
  (∀ w,o6 w->Calls prog 30 #[az S] w λe w'=>e=.returned (.tuple #[sF h,.int .i64 c])/\af w w')/\
  (∀ w,Calls prog 31 #[az S] w λe w'=>e=.returned (.tuple #[sF h,.int .i64 c])/\af w w'):=by
 by_cases h:∃ h,ge h/\eQ h=S
 ·obtain⟨h,bZ,rfl⟩:=h;exact⟨h,0,λw _=>AB h bZ w,λw=>NJ h bZ w⟩
 ·have pj:∀ x,ge x->eQ x≠S:=λx h1 h2=>h ⟨x,h1,h2⟩;exact⟨⟨0,0,[],⟨0,0⟩,0,[]⟩,190,λw hg=>Je S hS pj w hg,λw=>Jf S hS pj w⟩
theorem NL (h:Hd)(hn:h.name.length<=140737488351232)(hd:h.drop.length<=140737488351232):∃(a:ay) (e:Int),a.length<=140737488351232/\
  (∀ w,Calls prog 28 #[sF h] w λx w'=>x=.returned (.tuple #[az a,.int .i64 e])/\af w w')/\
  (∀ w,Calls prog 29 #[sF h] w λx w'=>x=.returned (.tuple #[az a,.int .i64 e])/\af w w')/\
  ((e=0/\∀ w,Calls prog 30 #[az a] w λx w'=>x=.returned (.tuple #[sF h,.int .i64 0])/\af w w')\/e≠0):=by
 have D:=λw=>tF h w J hd;have R:=λw=>tG h w J hd;by_cases bZ:kU h=true
 ·have e:lF h=.tuple #[az (eQ h),.int .i64 0]:=awd bZ;rw[e]at D R;have k:=(dU h).1 bZ;exact⟨eQ h,0,by have:=k.few;omega,D,R,.inl ⟨rfl,λw=>AB h k w⟩⟩
 ·have e:lF h=.tuple #[az [],.int .i64 190]:=awf bZ;rw[e]at D R;exact⟨[],190,by simp,D,R,.inr dc7⟩
theorem Kt (h:Hd)(W:World):(binOp .eql 44 (sF h) (sF h)).run prog W=.ok (.bool true) W:=by
 rw[run_eql_struct,run_equalIn_struct _ _ _ _ _ kr7 kr7];simp only[Program.fieldsOf,underlying44];simp[go_sem,Op.eqFields]
theorem so (w:World)(h:Hd):∃ b W,w.heap.size=b/\w.alloc (.cells #[.int .i64 h.id,.int .i64 h.base,.string ⟨h.name.toArray⟩,.int .i64 h.table.root,.int .i64 h.table.size,.int .i64 h.count,.string ⟨h.drop.toArray⟩] 44)=W/\af w W/\World.blk W b #[.int .i64 h.id,.int .i64 h.base,.string ⟨h.name.toArray⟩,.int .i64 h.table.root,.int .i64 h.table.size,.int .i64 h.count,.string ⟨h.drop.toArray⟩] 44:=⟨_,_,rfl,rfl,(ai.refl _ w).alloc _,av _ _ _⟩
theorem NN (h:Hd)(S:ay)(w:World)(he:yK w)(hg:o6 w)(hn:h.name.length<=140737488351232)(hd:h.drop.length<=140737488351232)(hS:S.length<=140737488351232):
  Calls prog 7 #[sF h,az S] w λe w'=>e=.returned (.bool true)/\af w w':=by
 obtain⟨a,e,ha,r1,r2,r3⟩:=NL h hn hd;obtain⟨h2,c2,p1,p2⟩:=yb S hS;obtain⟨h3,c3,q1,_⟩:=yb a ha;obtain⟨R1,R2,R3,P1,P2,Q1,HE,HG⟩:=K8 r1 r2 r3 p1 p2 q1 he hg;obtain⟨b0,W0,ic,pQ,k0,z0⟩:=so w h;obtain⟨eR,HZ0⟩:=K2 k0 z0;obtain⟨x0,x1,x2,x3,x4,x5,x6⟩:=bg z0;clear r1 r2 r3 p1 p2 q1 he hg hn hd hS ha k0 z0;go_enter func7,ntmps7
 go_upto_region 1 with fail
 try rw[pQ]
 try rw[ic]
 clear pQ ic;go_wp2_with fail;refine(R1.o _).mono ?_;rintro x w1 ⟨rfl,k1⟩;obtain⟨K1,HZ1⟩:=K2 (eR.keep k1) (ab k1 HZ0.o id);obtain⟨y0,y1,y2,y3,y4,y5,y6⟩:=bg HZ1.o;clear k1 x0 x1 x2 x3 x4 x5 x6;go_wp2_with fail;refine(R2.o _).mono ?_;rintro x w2 ⟨rfl,k2⟩;obtain⟨Kq2,Y3⟩:=K2 (K1.keep k2) (ab k2 HZ1.o id);clear k2 K1 y0 y1 y2 y3 y4 y5 y6;go_wp2_with fail;refine(P1.o _ (HG.keep Kq2.o)).mono ?_;rintro x w3 ⟨rfl,k3⟩;obtain⟨bc,W3,sK,T4,k3',z3⟩:=so w3 h2;obtain⟨Kq3,HZ3,HC3⟩:=K3 ((Kq2.keep k3).keep k3') (ab k3' (ab k3 Y3.o id) id) z3;clear k3 k3' Kq2 z3
 go_upto_region 4 with fail
 try rw[T4]
 try rw[sK]
 clear T4 sK;go_wp2_with fail;refine(P2.o _).mono ?_;rintro x w4 ⟨rfl,k4⟩;obtain⟨bd,W4,FA,YQ,k4',z4⟩:=so w4 h2;obtain⟨Kq4,TL,HC4,HD4⟩:=K4 ((Kq3.keep k4).keep k4') (ab k4' (ab k4 HZ3.o id) id) (ab k4' (ab k4 HC3.o id) id) z4;clear k4 k4' Kq3 z4
 go_upto_region 5 with fail
 try rw[YQ]
 try rw[FA]
 clear YQ FA;go_wp2_with fail;have alk:∃ h4 c4,(Calls prog 30 #[az a] W4 λx w'=>x=.returned (.tuple #[sF h4,.int .i64 c4])/\af W4 w')/\(e=0->h4=h/\c4=0):=by
  rcases R3.o with⟨h0,h1⟩|h1
  ·exact⟨h,0,h1 W4,λ_=>⟨rfl,rfl⟩⟩
  ·exact⟨h3,c3,Q1.o W4 (HG.keep Kq4.o),λh=>absurd h h1⟩
 obtain⟨h4,c4,hc,hh4⟩:=alk;have H4:=Z hh4;clear hh4;refine hc.mono ?_;rintro x w5 ⟨rfl,k5⟩;obtain⟨bx,W5,SA,yE,k5',z5⟩:=so w5 h4;obtain⟨Kq5,HZ5,HC5,HD5,tK⟩:=K5 ((Kq4.keep k5).keep k5') (ab k5' (ab k5 TL.o id) id) (ab k5' (ab k5 HC4.o id) id) (ab k5' (ab k5 HD4.o id) id) z5;have FX:=Z (Nu (HE.keep Kq5.o));clear k5 k5' Kq4 z5 hc R1 R2 P1 P2 Q1
 go_upto_region 6 with fail
 try rw[yE]
 try rw[SA]
 clear yE SA;go_wp2_with fail;refine FX.mono ?_;rintro x w6 ⟨rfl,k6⟩;have Kq6:=Z (Kq5.keep k6);obtain⟨s0,s1,s2,s3,s4,s5,s6⟩:=bg (ab k6 HZ5.o id);obtain⟨t0,t1,t2,t3,t4,t5,t6⟩:=bg (ab k6 HC5.o id);obtain⟨u0,u1,u2,u3,u4,u5,u6⟩:=bg (ab k6 HD5.o id);obtain⟨v0,v1,v2,v3,v4,v5,v6⟩:=bg (ab k6 tK.o id);have hq:=Kt h2;have vs1:az a=.string ⟨a.toArray⟩:=rfl;clear k6 FX;by_cases h0:e=0
 ·obtain⟨rfl,rfl⟩:=H4.o h0;have SQ:=Kt h4;subst h0;clear H4 R3;go_wp2;go_ret;exact⟨rfl,Kq6.o⟩
 ·clear H4 R3;go_wp2;go_ret;exact⟨rfl,Kq6.o⟩
end
end Go.Proofs.YtkghpdcloaiflaaGreatDoor
section
namespace Go.Proofs.YtkghpdcloaiflaaGreatDoor.lawHeads
open _root_.Go.Proofs.Tryz
open Go.ChangeShapes Go.WideShapes Go.ChangeAt Go.RowKit
open Go.ChangeMaps (open_string shut_string)
theorem own:ownKnob prog.godebug=none:=kr7
theorem Wu:laidOutB prog=true:=kr7
theorem adu (os:Os){H:Type}(enc:TypeId×Value->H):∃ places,DataW.whole enc prog ((BO os).forCall (λ_ _=>0) ⟨#[],#[.agg #[.int .i64 0,.int .i64 0,.string .empty,.int .i64 0,.int .i64 0,.int .i64 0,.string .empty],.string .empty],[]⟩).memory Tryz.f7.params.toList Rows.differHeadsSpec.vars false (#[.agg #[.int .i64 0,.int .i64 0,.string .empty,.int .i64 0,.int .i64 0,.int .i64 0,.string .empty],.string .empty]:Array Value).toList 8=some ([.agg [.lit (.int .i64 0),.lit (.int .i64 0),.lit (.string []),.agg [.lit (.int .i64 0),.lit (.int .i64 0)],.lit (.int .i64 0),.lit (.string [])],.lit (.string [])],[],places):=
 ⟨[],kr7⟩
theorem lifted (os:Os)(started:os.Started)(H:Type)(enc:TypeId×Value->H)(F:Stop.Interp):
  ReturnsInHanded {} Tryz.checked os 7 .any ((OpenSpec.ofChange Rows.differHeadsSpec).preRow enc prog Tryz.f7 Rows.differHeadsRow.domain false Rows.differHeadsRow.laid) (((OpenSpec.ofChange Rows.differHeadsSpec).at F).post enc prog Tryz.f7 false true false false):=by
 obtain⟨places,hx⟩:=adu os enc;refine returnsInHanded_of_row (C:=Tryz.checked) (s:=OpenSpec.ofChange Rows.differHeadsSpec) own started kr7 func7
  (witness_row_atRef (enc:=enc) (C:=Tryz.checked) false (BO os) #[.agg #[.int .i64 0,.int .i64 0,.string .empty,.int .i64 0,.int .i64 0,.int .i64 0,.string .empty],.string .empty] (Nv _) kr7 kr7 kr7
   (OpenSpec.preRow_of_cond 8 hx kr7 (λk hk=>by cases hk) kr7 (RZ os _))) ?_
 intro W base args ds gs before Yz hW _ ams za hL ace _;have alA:yK W:=ZA ace (C6 hL kr7) (C7 hL kr7) (C8 hL kr7);have cJ:(DataW.weightsEach prog (Tryz.f7.params.toList++Rows.differHeadsSpec.plain.varTypes prog) (ds++gs)).all (·<=reachBytes)=true:=za;have Of:∀(j:Nat) t v,Tryz.f7.params[j]?=some t->args[j]?=some v->Value.okWide prog W .any base t v:=Yz;clear za Yz;have hW':=hW;obtain⟨p,q,hA0,hV,rfl,_,_⟩:=hW;have hA:DataW.TrodAll enc prog W 0 (λ_=>true) true Tryz.f7.params.toList args.toList ds p:=hA0;clear hA0;rw[params7]at hA Of cJ;obtain⟨v0,vs0,d0,ds0,p0,q0,aoD,rfl,rfl,h0,r0⟩:=trodAll_cons hA;obtain⟨v1,vs1,d1,ds1,p1,q1,rfl,rfl,rfl,h1,r1⟩:=trodAll_cons r0;obtain⟨rfl,rfl,rfl⟩:=trodAll_nil r1;obtain rfl:args=#[v0,v1]:=by cases args;simp_all
 obtain⟨rfl,rfl⟩:=trodVars_none hV;obtain⟨Z,rfl,hi0,iK⟩:=NC (Of 0 44 v0 rfl rfl) h0 cJ (j:=0) rfl rfl;obtain⟨b1,rfl,rfl,rfl,_⟩:=open_string underlying9 (Of 1 9 v1 rfl rfl) h1;have z1:b1.data.toList.length<=140737488351232:=sized_string cJ (j:=1) (t:=9) rfl rfl;obtain⟨l1,rfl⟩:∃ l:List UInt8,b1=⟨l.toArray⟩:=⟨b1.data.toList,rfl⟩
 refine(NN Z l1 W alA (BP (show laidMetH prog Rows.differHeadsRow.laid W from hL) kr7) hi0 iK z1).mono λe W' ⟨he,hk⟩=>?_;subst he;exact⟨_,rfl,Ns Wu kr7 rfl rfl underlying4 rfl hW' hk⟩
end Go.Proofs.YtkghpdcloaiflaaGreatDoor.lawHeads
end
