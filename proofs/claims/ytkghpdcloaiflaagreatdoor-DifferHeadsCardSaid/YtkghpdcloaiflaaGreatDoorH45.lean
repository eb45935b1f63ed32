import Derived.Test.YtkghpdcloaiflaaGreatDoorH44
set_option maxHeartbeats 16000000
set_option maxRecDepth 100000
namespace Go.Proofs.YtkghpdcloaiflaaGreatDoor
open _root_.Go.Proofs.Tryz
section
open Go.RowKit
attribute [local go_sem] av0
theorem sj (n:Nat)(rest:ay)(B r:Nat)(w:World)(hB:w.cell? ⟨B,0,none⟩=some (au r))(h:yT w r (aD n++rest))(hn:n<=1099511627776)(hr:rest.length<=100000):
  Calls prog 76 #[au B] w λe w'=>e=.returned (.int .i64 (n:Int))/\yT w' r rest/\ai (·=r) w w':=by
 have HC:=Z (BH n rest 1099511627776 r w h J J J);clear h hn hr;go_enter func76,ntmps76;go_wp2_with fail;refine HC.mono ?_;rintro e w1 ⟨rfl,h1,m1⟩;have H1:=Z (And.intro h1 m1);clear h1 m1 hB HC;go_wp2;go_ret;exact⟨rfl,H1.o⟩
theorem Fs (s rest:ay)(most B r:Nat)(w:World)(hB:w.cell? ⟨B,0,none⟩=some (au r))(h:yT w r (aD s.length++(s++rest)))(hs:s.length<=most)(hm:most<=1000)(hr:rest.length<=100000):
  Calls prog 77 #[.int .i64 (most:Int),au B] w λe w'=>e=.returned (az s)/\yT w' r rest/\ai (·=r) w w':=by
 have HC:=Z (Fe s rest (most:Int) r w h J J J J);clear h hs hm hr;go_enter func77,ntmps77;go_wp2_with fail;refine HC.mono ?_;rintro e w1 ⟨rfl,h1,m1⟩;have H1:=Z (And.intro h1 m1);clear h1 m1 hB HC;go_wp2;go_ret;exact⟨rfl,H1.o⟩
theorem pg (S:ay)(x:Option Int)(B r:Nat)(w:World)(hB:w.cell? ⟨B,0,none⟩=some (au r))(h:jP w r S x)(hS:S.length<=140737488351232)(hg:o6 w):
  Calls prog 76 #[au B] w λe w'=>∃(n:Int) (S':ay) (x':Option Int),e=.returned (.int .i64 n)/\jP w' r S' x'/\ai (·=r) w w'/\S'.length<=S.length:=by
 have HC:=Z (At S x 1099511627776 r w h hS hg);clear h hS hg;go_enter func76,ntmps76;go_wp2_with fail;refine HC.mono ?_;rintro e w1 ⟨n,y,s1,x1,rfl,h1,m1,oc,_,_⟩;have H1:=Z (And.intro h1 (And.intro m1 oc));clear h1 m1 oc hB HC;go_wp2;go_ret;exact⟨n,s1,x1,rfl,H1.o⟩
theorem AA (S:ay)(x:Option Int)(most B r:Nat)(w:World)(hB:w.cell? ⟨B,0,none⟩=some (au r))(h:jP w r S x)(hS:S.length<=140737488351232)(hg:o6 w):
  Calls prog 77 #[.int .i64 (most:Int),au B] w λe w'=>∃(t:ay) (S':ay) (x':Option Int),e=.returned (az t)/\jP w' r S' x'/\ai (·=r) w w'/\S'.length<=S.length/\t.length<=S.length:=by
 have HC:=Z (I7 S x (most:Int) r w h hS hg);clear h hS hg;go_enter func77,ntmps77;go_wp2_with fail;refine HC.mono ?_;rintro e w1 ⟨t,y,s1,x1,rfl,h1,m1,oc,OV⟩;have H1:=Z (And.intro h1 (And.intro m1 (And.intro oc OV)));clear h1 m1 oc OV hB HC;go_wp2;go_ret;exact⟨t,s1,x1,rfl,H1.o⟩
structure NA (w:World)(z r B:Nat)(S:ay)(x:Option Int)(wr:World):Prop where
 keep:af w wr
 zero:World.blk wr z #[.int .i64 0,.int .i64 0,.string ⟨#[]⟩,.int .i64 0,.int .i64 0,.int .i64 0,.string ⟨#[]⟩] 44
 rd:jP wr r S x
 box:World.blk wr B #[au r] 68
 ord:w.heap.size<=z/\z<r/\r<B
structure Um (w:World)(z r B hb:Nat)(S:ay)(x:Option Int)(cs:Array Value)(wr:World):Prop extends NA w z r B S x wr where
 hd:World.blk wr hb cs 44
 lt:B<hb
section
variable {w wr w2:World}{z r B hb:Nat}{S S2:ay}{x x2:Option Int}{cs:Array Value}
theorem NA.call (s:NA w z r B S x wr)(h:jP w2 r S2 x2)(m:ai (·=r) wr w2):NA w z r B S2 x2 w2:=
 ⟨s.keep.trans m (λg hl e=>by have:=s.ord;omega),ab m s.zero (by have:=s.ord;omega),h,ab m s.box (by have:=s.ord;omega),s.ord⟩
theorem NA.keep' (s:NA w z r B S x wr)(k:af wr w2):NA w z r B S x w2:=⟨s.keep.keep k,ab k s.zero id,ab k s.rd id,ab k s.box id,s.ord⟩
theorem NA.boxed (s:NA w z r B S x wr):wr.cell? ⟨B,0,none⟩=some (au r):=aa s.box 0
theorem Um.call (s:Um w z r B hb S x cs wr)(h:jP w2 r S2 x2)(m:ai (·=r) wr w2):Um w z r B hb S2 x2 cs w2:=
 ⟨s.toNA.call h m,ab m s.hd (by have:=s.ord;have:=s.lt;omega),s.lt⟩
theorem Um.keep' (s:Um w z r B hb S x cs wr)(k:af wr w2):Um w z r B hb S x cs w2:=⟨s.toNA.keep' k,ab k s.hd id,s.lt⟩
theorem Um.put (s:Um w z r B hb S x cs wr)(i:Nat)(v:Value):Um w z r B hb S x (cs.setIfInBounds i v) (wr.setCell ⟨hb,i,none⟩ v):=by
 have h:=s.ord;have h2:=s.lt;exact⟨⟨s.keep.setCell (p:=⟨hb,i,none⟩) (.inr (by show _<=hb;omega)) v,aZ s.zero ⟨hb,i,none⟩ (by show z≠hb;omega) v,aZ s.rd ⟨hb,i,none⟩ (by show r≠hb;omega) v,aZ s.box ⟨hb,i,none⟩ (by show B≠hb;omega) v,h⟩,ah s.hd i v,h2⟩
theorem NA.new (s:NA w z r B S x wr)(cs:Array Value)(hB:B<wr.heap.size):Um w z r B wr.heap.size S x cs (wr.alloc (.cells cs 44)):=
 ⟨s.keep' ((ai.refl _ wr).alloc _),av _ _ _,hB⟩
end
theorem AB (h:Hd)(k:ge h)(w:World):
  Calls prog 30 #[az (eQ h)] w λe w'=>e=.returned (.tuple #[sF h,.int .i64 0])/\af w w':=by
 have DH:=λW=>tF h W (by have:=k.name.2;omega) (by have:=k.drop.2;omega);have hv:lF h=.tuple #[az (eQ h),.int .i64 0]:=awd ((dU h).2 k);rw[hv]at DH;have hE:=rZ h;have CB:=k.nums;have yw:=k.drop.2;have rk:=k.name.2;have a1:=k.id.2;have a2:=k.base.2;have a3:=k.root.2;have a4:=k.size.2;have a5:=k.count.2;have WY:=k.few;clear hv k;obtain⟨po,base,name,⟨root,size⟩,count,drop⟩:=h;simp only at CB yw rk a1 a2 a3 a4 a5 hE;generalize eQ ⟨po,base,name,⟨root,size⟩,count,drop⟩=S at*;obtain⟨i,hi⟩:∃ i,po.toNat=i:=⟨_,rfl⟩
 obtain⟨j,hj⟩:∃ i,base.toNat=i:=⟨_,rfl⟩
 obtain⟨r,hr⟩:∃ i,root.toNat=i:=⟨_,rfl⟩
 obtain⟨z,hz⟩:∃ i,size.toNat=i:=⟨_,rfl⟩
 obtain⟨c,hc⟩:∃ i,count.toNat=i:=⟨_,rfl⟩
 rw[hi,hj,hr,hz,hc]at CB hE;obtain⟨rfl,rfl,rfl,rfl,rfl⟩:=CB;obtain⟨HE,HB,DH,HF⟩:=K4 hE (And.intro (And.intro yw rk) (And.intro a1 (And.intro a2 (And.intro a3 (And.intro a4 a5))))) DH WY;have l1:=aK (n:=i) J;have l2:=aK (n:=j) J;have l3:=aK (n:=name.length) J;have l4:=aK (n:=r) J;have l5:=aK (n:=z) J;have l6:=aK (n:=c) J;have l7:=aK (n:=drop.length) J;have HL:=Z (And.intro l1 (And.intro l2 (And.intro l3 (And.intro l4 (And.intro l5 (And.intro l6 l7))))));clear hE yw rk a1 a2 a3 a4 a5 WY l1 l2 l3 l4 l5 l6 l7 hi hj hr hz hc;go_enter func30,ntmps30;go_wp2_with fail;refine(tB S _).mono ?_;rintro e w1 ⟨rfl,h1,k1⟩;obtain⟨z0,iK⟩:∃ z0,w.heap.size=z0:=⟨_,rfl⟩
 have O9:(w.alloc (.cells #[.int .i64 0,.int .i64 0,.string ⟨#[]⟩,.int .i64 0,.int .i64 0,.int .i64 0,.string ⟨#[]⟩] 44)).heap.size=z0+1:=by simp[iK]
 have Oi:World.blk w1 z0 #[.int .i64 0,.int .i64 0,.string ⟨#[]⟩,.int .i64 0,.int .i64 0,.int .i64 0,.string ⟨#[]⟩] 44:=by rw[<-iK];exact ab k1 (av _ _ _) id
 rw[O9]at h1 ⊢;rw[iK];have oc:z0+1<w1.heap.size:=ak h1;obtain⟨B,hB⟩:∃ B,w1.heap.size=B:=⟨_,rfl⟩
 have HA:Hid (NA w z0 (z0+1) B (aD i++(aD j++(aD name.length++(name++(aD r++(aD z++(aD c++(aD drop.length++(drop++[]))))))))) none (w1.alloc (.cells #[au (z0+1)] 68))):=Z
  ⟨(cZ k1).alloc _,aE Oi _,by rw[<-HE.o];exact aE h1 _,by rw[<-hB];exact av _ _ _,J⟩
 clear h1 k1 O9 Oi oc iK;go_wp2_with fail
 try rw[hB]
 refine(sj i _ B (z0+1) _ HA.boxed HA.rd (by have:=HB.o;omega) (by have:=HL.o;have:=HB.1;simp only[awn,axe];omega)).mono ?_;rintro e w2 ⟨rfl,nU,m2⟩;have KD:=Z (HA.call (x2:=none) nU m2);clear nU m2 HA;go_wp2_with fail;refine(sj j _ B (z0+1) _ KD.boxed KD.rd (by have:=HB.o;omega) (by have:=HL.o;have:=HB.1;simp only[awn,axe];omega)).mono ?_;rintro e w3 ⟨rfl,yF,m3⟩;have HA3:=Z (KD.call (x2:=none) yF m3);clear yF m3 KD;have HH:=Z (HA3.new #[.int .i64 (i:Int),.int .i64 (j:Int),.string ⟨#[]⟩,.int .i64 0,.int .i64 0,.int .i64 0,.string ⟨#[]⟩] (by have:=ak HA3.box;exact this));obtain⟨hb,Cq⟩:∃ hb,w3.heap.size=hb:=⟨_,rfl⟩
 rw[Cq]at HH;clear HA3;go_wp2_with fail
 try rw[Cq]
 clear Cq;generalize w3.alloc (.cells #[.int .i64 (i:Int),.int .i64 (j:Int),.string ⟨#[]⟩,.int .i64 0,.int .i64 0,.int .i64 0,.string ⟨#[]⟩] 44)=w4 at*;refine(Fs name _ 16 B (z0+1) _ HH.toNA.boxed HH.toNA.rd (by have:=HB.o;omega) J (by have:=HL.o;have:=HB.1;simp only[awn,axe];omega)).mono ?_;rintro e w5 ⟨rfl,Ce,m5⟩;have H5:=Z (HH.call (x2:=none) Ce m5);clear Ce m5 HH;have hq:=H5.hd;have q2:w5.cell? ⟨hb,2,none⟩=some _:=aa hq 2;have f2:w5.frozen? ⟨hb,2,none⟩=false:=ae hq _ rfl;clear hq;go_wp2_with fail;have H6:=Z (H5.put 2 (.string ⟨name.toArray⟩));clear H5 q2 f2;generalize w5.setCell ⟨hb,2,none⟩ (.string ⟨name.toArray⟩)=w6 at*;refine(sj r _ B (z0+1) _ H6.toNA.boxed H6.toNA.rd (by have:=HB.o;omega) (by have:=HL.o;have:=HB.1;simp only[awn,axe];omega)).mono ?_;rintro e w7 ⟨rfl,Sl,m7⟩;have H7:=Z (H6.call (x2:=none) Sl m7);clear Sl m7 H6;go_wp2_with fail;refine(sj z _ B (z0+1) _ H7.toNA.boxed H7.toNA.rd (by have:=HB.o;omega) (by have:=HL.o;have:=HB.1;simp only[awn,axe];omega)).mono ?_;rintro e w8 ⟨rfl,OD,m8⟩;have H8:=Z (H7.call (x2:=none) OD m8);clear OD m8 H7;have hq:=H8.hd;have q3:w8.cell? ⟨hb,3,none⟩=some _:=aa hq 3;have f3:w8.frozen? ⟨hb,3,none⟩=false:=ae hq _ rfl;have q4:w8.cell? ⟨hb,4,none⟩=some _:=aa hq 4;have f4:w8.frozen? ⟨hb,4,none⟩=false:=ae hq _ rfl;clear hq;go_wp2_with fail;have H9:=Z ((H8.put 3 (.int .i64 (r:Int))).put 4 (.int .i64 (z:Int)));clear H8 q3 f3 q4 f4;generalize (w8.setCell ⟨hb,3,none⟩ (.int .i64 (r:Int))).setCell ⟨hb,4,none⟩ (.int .i64 (z:Int))=w9 at*;refine(sj c _ B (z0+1) _ H9.toNA.boxed H9.toNA.rd (by have:=HB.o;omega) (by have:=HL.o;have:=HB.1;simp only[awn,axe];omega)).mono ?_;rintro e sH ⟨rfl,Sp,m10⟩;have AJ:=Z (H9.call (x2:=none) Sp m10);clear Sp m10 H9;have hq:=AJ.hd;have q5:sH.cell? ⟨hb,5,none⟩=some _:=aa hq 5;have f5:sH.frozen? ⟨hb,5,none⟩=false:=ae hq _ rfl;clear hq;go_wp2_with fail;have uD:=Z (AJ.put 5 (.int .i64 (c:Int)));clear AJ q5 f5;generalize sH.setCell ⟨hb,5,none⟩ (.int .i64 (c:Int))=Zh at*;refine(Fs drop _ 512 B (z0+1) _ uD.toNA.boxed uD.toNA.rd (by have:=HB.o;omega) J (by have:=HL.o;have:=HB.1;simp only[axe];omega)).mono ?_;rintro e ve ⟨rfl,TG,m12⟩;have Xk:=Z (uD.call (x2:=none) TG m12);clear TG m12 uD;obtain⟨q0,q1,q2,q3,q4,q5,q6⟩:=bg (c0:=.int .i64 (i:Int)) (c1:=.int .i64 (j:Int)) (c2:=.string ⟨name.toArray⟩) (c3:=.int .i64 (r:Int)) (c4:=.int .i64 (z:Int)) (c5:=.int .i64 (c:Int)) (c6:=.string ⟨#[]⟩) Xk.hd;have f6:ve.frozen? ⟨hb,6,none⟩=false:=ae Xk.hd _ rfl;go_wp2_with fail;have H13:=Z (Xk.put 6 (.string ⟨drop.toArray⟩));clear Xk q0 q1 q2 q3 q4 q5 q6 f6;generalize ve.setCell ⟨hb,6,none⟩ (.string ⟨drop.toArray⟩)=w13 at*;refine(DH.o _).mono ?_;rintro e W8 ⟨rfl,OL⟩;have KT:=Z (H13.keep' OL);have bx:W8.cell? ⟨B,0,none⟩=some (au (z0+1)):=KT.boxed;have EN:=Z (Kq (z0+1) W8 KT.rd);have beq:(S==S)=true:=by simp
 clear OL H13 DH;go_wp2_with fail;refine EN.mono ?_;rintro e w15 ⟨rfl,k15⟩;have UH:=Z (KT.keep' k15);have hq:=UH.o;obtain⟨q0,q1,q2,q3,q4,q5,q6⟩:=bg (c0:=.int .i64 (i:Int)) (c1:=.int .i64 (j:Int)) (c2:=.string ⟨name.toArray⟩) (c3:=.int .i64 (r:Int)) (c4:=.int .i64 (z:Int)) (c5:=.int .i64 (c:Int)) (c6:=.string ⟨drop.toArray⟩) hq.hd;obtain⟨y0,y1,y2,y3,y4,y5,y6⟩:=bg hq.zero;have f0:=ae hq.zero ⟨z0,0,none⟩ rfl;have f1:=ae hq.zero ⟨z0,1,none⟩ rfl;have f2:=ae hq.zero ⟨z0,2,none⟩ rfl;have f3:=ae hq.zero ⟨z0,3,none⟩ rfl;have f4:=ae hq.zero ⟨z0,4,none⟩ rfl;have f5:=ae hq.zero ⟨z0,5,none⟩ rfl;have f6:=ae hq.zero ⟨z0,6,none⟩ rfl;have rr:=Z (yU hq.zero (.int .i64 (i:Int)) (.int .i64 (j:Int)) (.string ⟨name.toArray⟩) (.int .i64 (r:Int)) (.int .i64 (z:Int)) (.int .i64 (c:Int)) (.string ⟨drop.toArray⟩));clear hq k15 EN bx KT;go_wp2_with fail;obtain⟨p0,p1,p2,p3,p4,p5,p6⟩:=bg rr.1;have od:=UH.keep.new rr.2 UH.ord.1;exact awC (v:=.tuple #[sF ⟨(i:Int),(j:Int),name,⟨(r:Int),(z:Int)⟩,(c:Int),drop⟩,.int .i64 0]) (by simp[results,Tryz.results30,go_sem,p0,p1,p2,p3,p4,p5,p6]) rfl ⟨rfl,od⟩
theorem Je (S:ay)(hS:S.length<=140737488351232)(pj:∀ h,ge h->eQ h≠S)(w:World)(hg:o6 w):
  Calls prog 30 #[az S] w λe w'=>e=.returned (.tuple #[sF ⟨0,0,[],⟨0,0⟩,0,[]⟩,.int .i64 190])/\af w w':=by
 obtain⟨HS,aaQ,HG⟩:=K3 hS pj hg;clear hS pj hg;go_enter func30,ntmps30;go_wp2_with fail;refine(tB S _).mono ?_;rintro e w1 ⟨rfl,h1,k1⟩;obtain⟨z0,iK⟩:∃ z0,w.heap.size=z0:=⟨_,rfl⟩
 have O9:(w.alloc (.cells #[.int .i64 0,.int .i64 0,.string ⟨#[]⟩,.int .i64 0,.int .i64 0,.int .i64 0,.string ⟨#[]⟩] 44)).heap.size=z0+1:=by simp[iK]
 have Oi:World.blk w1 z0 #[.int .i64 0,.int .i64 0,.string ⟨#[]⟩,.int .i64 0,.int .i64 0,.int .i64 0,.string ⟨#[]⟩] 44:=by rw[<-iK];exact ab k1 (av _ _ _) id
 rw[O9]at h1 ⊢;rw[iK];have oc:z0+1<w1.heap.size:=ak h1;obtain⟨B,hB⟩:∃ B,w1.heap.size=B:=⟨_,rfl⟩
 have HA:Hid (NA w z0 (z0+1) B S none (w1.alloc (.cells #[au (z0+1)] 68))):=Z
  ⟨(cZ k1).alloc _,aE Oi _,aE h1 _,by rw[<-hB];exact av _ _ _,J⟩
 clear h1 k1 O9 Oi oc iK;go_wp2_with fail
 try rw[hB]
 refine(pg _ _ B (z0+1) _ HA.boxed HA.rd (by have:=HS.o;omega) (HG.keep HA.keep)).mono ?_;rintro e w2 ⟨n1,S2,x2,rfl,nU,m2,l2⟩;have KD:=Z (HA.call nU m2);have L2:S2.length<=140737488351232:=by have:=HS.o;omega
 clear nU m2 l2;clear HA;go_wp2_with fail;refine(pg _ _ B (z0+1) _ KD.boxed KD.rd (by have:=HS.o;omega) (HG.keep KD.keep)).mono ?_;rintro e w3 ⟨n2,S3,x3,rfl,yF,m3,l3⟩;have HA3:=Z (KD.call yF m3);have L3:S3.length<=140737488351232:=by have:=HS.o;omega
 clear yF m3 l3;clear KD;have HH:=Z (HA3.new #[.int .i64 n1,.int .i64 n2,.string ⟨#[]⟩,.int .i64 0,.int .i64 0,.int .i64 0,.string ⟨#[]⟩] (by have:=ak HA3.box;exact this));obtain⟨hb,Cq⟩:∃ hb,w3.heap.size=hb:=⟨_,rfl⟩
 rw[Cq]at HH;clear HA3;go_wp2_with fail
 try rw[Cq]
 clear Cq;generalize w3.alloc (.cells #[.int .i64 n1,.int .i64 n2,.string ⟨#[]⟩,.int .i64 0,.int .i64 0,.int .i64 0,.string ⟨#[]⟩] 44)=w4 at*;refine(AA _ _ 16 B (z0+1) _ HH.toNA.boxed HH.toNA.rd (by have:=HS.o;omega) (HG.keep HH.toNA.keep)).mono ?_;rintro e w5 ⟨t1,S5,x5,rfl,Ce,m5,l5,t5⟩;have H5:=Z (HH.call Ce m5);have L5:S5.length<=140737488351232:=by have:=HS.o;omega
 have T5:t1.length<=140737488351232:=by have:=HS.o;omega
 clear Ce m5 l5 t5;clear HH;have hq:=H5.hd;have q2:w5.cell? ⟨hb,2,none⟩=some _:=aa hq 2;have f2:w5.frozen? ⟨hb,2,none⟩=false:=ae hq _ rfl;clear hq;go_wp2_with fail;have H6:=Z (H5.put 2 (.string ⟨t1.toArray⟩));clear H5 q2 f2;generalize w5.setCell ⟨hb,2,none⟩ (.string ⟨t1.toArray⟩)=w6 at*;refine(pg _ _ B (z0+1) _ H6.toNA.boxed H6.toNA.rd (by have:=HS.o;omega) (HG.keep H6.toNA.keep)).mono ?_;rintro e w7 ⟨n3,S7,x7,rfl,Sl,m7,l7⟩;have H7:=Z (H6.call Sl m7);have L7:S7.length<=140737488351232:=by have:=HS.o;omega
 clear Sl m7 l7;clear H6;go_wp2_with fail;refine(pg _ _ B (z0+1) _ H7.toNA.boxed H7.toNA.rd (by have:=HS.o;omega) (HG.keep H7.toNA.keep)).mono ?_;rintro e w8 ⟨n4,S8,x8,rfl,OD,m8,l8⟩;have H8:=Z (H7.call OD m8);have L8:S8.length<=140737488351232:=by have:=HS.o;omega
 clear OD m8 l8;clear H7;have hq:=H8.hd;have q3:w8.cell? ⟨hb,3,none⟩=some _:=aa hq 3;have f3:w8.frozen? ⟨hb,3,none⟩=false:=ae hq _ rfl;have q4:w8.cell? ⟨hb,4,none⟩=some _:=aa hq 4;have f4:w8.frozen? ⟨hb,4,none⟩=false:=ae hq _ rfl;clear hq;go_wp2_with fail;have H9:=Z ((H8.put 3 (.int .i64 n3)).put 4 (.int .i64 n4));clear H8 q3 f3 q4 f4;generalize (w8.setCell ⟨hb,3,none⟩ (.int .i64 n3)).setCell ⟨hb,4,none⟩ (.int .i64 n4)=w9 at*;refine(pg _ _ B (z0+1) _ H9.toNA.boxed H9.toNA.rd (by have:=HS.o;omega) (HG.keep H9.toNA.keep)).mono ?_;rintro e sH ⟨n5,S10,x10,rfl,Sp,m10,l10⟩;have AJ:=Z (H9.call Sp m10);have L10:S10.length<=140737488351232:=by have:=HS.o;omega
 clear Sp m10 l10;clear H9;have hq:=AJ.hd;have q5:sH.cell? ⟨hb,5,none⟩=some _:=aa hq 5;have f5:sH.frozen? ⟨hb,5,none⟩=false:=ae hq _ rfl;clear hq;go_wp2_with fail;have uD:=Z (AJ.put 5 (.int .i64 n5));clear AJ q5 f5;generalize sH.setCell ⟨hb,5,none⟩ (.int .i64 n5)=Zh at*;refine(AA _ _ 512 B (z0+1) _ uD.toNA.boxed uD.toNA.rd (by have:=HS.o;omega) (HG.keep uD.toNA.keep)).mono ?_;rintro e ve ⟨t2,S12,x12,rfl,TG,m12,l12,t12⟩;have Xk:=Z (uD.call TG m12);have L12:S12.length<=140737488351232:=by have:=HS.o;omega
 have T12:t2.length<=140737488351232:=by have:=HS.o;omega
 clear TG m12 l12 t12;clear uD;obtain⟨q0,q1,q2,q3,q4,q5,q6⟩:=bg (c0:=.int .i64 n1) (c1:=.int .i64 n2) (c2:=.string ⟨t1.toArray⟩) (c3:=.int .i64 n3) (c4:=.int .i64 n4) (c5:=.int .i64 n5) (c6:=.string ⟨#[]⟩) Xk.hd;have f6:ve.frozen? ⟨hb,6,none⟩=false:=ae Xk.hd _ rfl;go_wp2_with fail;have H13:=Z (Xk.put 6 (.string ⟨t2.toArray⟩));clear Xk q0 q1 q2 q3 q4 q5 q6 f6;generalize ve.setCell ⟨hb,6,none⟩ (.string ⟨t2.toArray⟩)=w13 at*;have DH:=tF ⟨n1,n2,t1,⟨n3,n4⟩,n5,t2⟩ w13 (by show t1.length<=_;omega) (by show t2.length<=_;omega);by_cases bZ:kU ⟨n1,n2,t1,⟨n3,n4⟩,n5,t2⟩=true
 ·have hv:lF ⟨n1,n2,t1,⟨n3,n4⟩,n5,t2⟩=.tuple #[az (eQ ⟨n1,n2,t1,⟨n3,n4⟩,n5,t2⟩),.int .i64 0]:=awd bZ;rw[hv]at DH;have eG:(eQ ⟨n1,n2,t1,⟨n3,n4⟩,n5,t2⟩==S)=false:=by simpa using aaQ.o _ ((dU _).1 bZ)
  generalize eQ ⟨n1,n2,t1,⟨n3,n4⟩,n5,t2⟩=E at*;have DH:=Z DH;clear bZ hv;refine DH.mono ?_;rintro e W8 ⟨rfl,OL⟩;have KT:=Z (H13.keep' OL);have bx:W8.cell? ⟨B,0,none⟩=some (au (z0+1)):=KT.boxed;have EN:=Z (Nk _ _ (z0+1) W8 KT.rd (HG.keep KT.keep));clear OL H13 DH;go_wp2_with fail;refine EN.mono ?_;rintro e w15 ⟨y,rfl,k15⟩;have UH:=Z (KT.keep' k15);clear k15 EN bx KT;by_cases hy:y=0
  ·subst hy;have hq:=UH.o;obtain⟨y0,y1,y2,y3,y4,y5,y6⟩:=bg hq.zero;have f0:=ae hq.zero ⟨z0,0,none⟩ rfl;have f1:=ae hq.zero ⟨z0,1,none⟩ rfl;have f2:=ae hq.zero ⟨z0,2,none⟩ rfl;have f3:=ae hq.zero ⟨z0,3,none⟩ rfl;have f4:=ae hq.zero ⟨z0,4,none⟩ rfl;have f5:=ae hq.zero ⟨z0,5,none⟩ rfl;have f6:=ae hq.zero ⟨z0,6,none⟩ rfl;have rr:=Z (yU hq.zero (.int .i64 0) (.int .i64 0) (.string ⟨#[]⟩) (.int .i64 0) (.int .i64 0) (.int .i64 0) (.string ⟨#[]⟩));clear hq;go_wp2_with fail
   all_goals (
    obtain⟨p0,p1,p2,p3,p4,p5,p6⟩:=bg rr.1;have od:=UH.keep.new rr.2 UH.ord.1;exact awC (v:=.tuple #[sF ⟨0,0,[],⟨0,0⟩,0,[]⟩,.int .i64 190]) (by simp[results,Tryz.results30,go_sem,p0,p1,p2,p3,p4,p5,p6]) rfl ⟨rfl,od⟩)
  ·have by1:(y != 0)=true:=by simpa using hy
   clear hy;have hq:=UH.o;obtain⟨y0,y1,y2,y3,y4,y5,y6⟩:=bg hq.zero;have f0:=ae hq.zero ⟨z0,0,none⟩ rfl;have f1:=ae hq.zero ⟨z0,1,none⟩ rfl;have f2:=ae hq.zero ⟨z0,2,none⟩ rfl;have f3:=ae hq.zero ⟨z0,3,none⟩ rfl;have f4:=ae hq.zero ⟨z0,4,none⟩ rfl;have f5:=ae hq.zero ⟨z0,5,none⟩ rfl;have f6:=ae hq.zero ⟨z0,6,none⟩ rfl;have rr:=Z (yU hq.zero (.int .i64 0) (.int .i64 0) (.string ⟨#[]⟩) (.int .i64 0) (.int .i64 0) (.int .i64 0) (.string ⟨#[]⟩));clear hq;go_wp2_with fail
   all_goals (
    obtain⟨p0,p1,p2,p3,p4,p5,p6⟩:=bg rr.1;have od:=UH.keep.new rr.2 UH.ord.1;exact awC (v:=.tuple #[sF ⟨0,0,[],⟨0,0⟩,0,[]⟩,.int .i64 190]) (by simp[results,Tryz.results30,go_sem,p0,p1,p2,p3,p4,p5,p6]) rfl ⟨rfl,od⟩)
 ·have hv:lF ⟨n1,n2,t1,⟨n3,n4⟩,n5,t2⟩=.tuple #[.string ⟨#[]⟩,.int .i64 190]:=awf bZ;rw[hv]at DH;have DH:=Z DH;clear bZ hv;refine DH.mono ?_;rintro e W8 ⟨rfl,OL⟩;have KT:=Z (H13.keep' OL);clear OL H13 DH
  ·skip
   have hq:=KT.o;obtain⟨y0,y1,y2,y3,y4,y5,y6⟩:=bg hq.zero;have f0:=ae hq.zero ⟨z0,0,none⟩ rfl;have f1:=ae hq.zero ⟨z0,1,none⟩ rfl;have f2:=ae hq.zero ⟨z0,2,none⟩ rfl;have f3:=ae hq.zero ⟨z0,3,none⟩ rfl;have f4:=ae hq.zero ⟨z0,4,none⟩ rfl;have f5:=ae hq.zero ⟨z0,5,none⟩ rfl;have f6:=ae hq.zero ⟨z0,6,none⟩ rfl;have rr:=Z (yU hq.zero (.int .i64 0) (.int .i64 0) (.string ⟨#[]⟩) (.int .i64 0) (.int .i64 0) (.int .i64 0) (.string ⟨#[]⟩));clear hq;go_wp2_with fail
   all_goals (
    obtain⟨p0,p1,p2,p3,p4,p5,p6⟩:=bg rr.1;have od:=KT.keep.new rr.2 KT.ord.1;exact awC (v:=.tuple #[sF ⟨0,0,[],⟨0,0⟩,0,[]⟩,.int .i64 190]) (by simp[results,Tryz.results30,go_sem,p0,p1,p2,p3,p4,p5,p6]) rfl ⟨rfl,od⟩)
end
section
open Go.ChangeShapes Go.WideShapes Go.ChangeAt Go.Deep Go.RowKit
section
variable {H:Type}{enc:TypeId×Value->H}
theorem NC {W:World}{base:Nat}{v:Value}{d:DataW H}{p:List MemPlace}{ts:List TypeId}{ds:List (DataW H)}(bZ:Value.okWide prog W .any base 44 v)(h:DataW.Trod enc prog W 0 (λ_=>true) true 44 v d p)
  (cJ:(DataW.weightsEach prog ts ds).all (·<=reachBytes)=true) {j:Nat} (ht:ts[j]?=some 44) (hj:ds[j]?=some d):
  ∃ hd:Hd,v=sF hd/\hd.name.length<=140737488351232/\hd.drop.length<=140737488351232:=by
 obtain⟨cs,rfl,WB⟩:=okWide_struct underlying44 bZ;obtain⟨c0,c1,c2,c3,c4,c5,c6,rfl⟩:∃ c0 c1 c2 c3 c4 c5 c6,cs=#[c0,c1,c2,c3,c4,c5,c6]:=by
  have hs:cs.size=7:=WB.trans kr7;obtain⟨l⟩:=cs
  match l,hs with
  |[a,b,c,d,e,f,g],_=>exact⟨a,b,c,d,e,f,g,rfl⟩
 obtain⟨fuel,hf⟩:=h;obtain⟨xs,n,_,hx,_,bt,tJ⟩:=DataW.trod_struct underlying44 hf;have e3:prog.cellsOf 3=1:=kr7
 have e9:prog.cellsOf 9=1:=kr7
 have eb:prog.cellsOf 42=2:=kr7
 obtain⟨x0,x1,x2,x3,x4,x5,rfl⟩:∃ x0 x1 x2 x3 x4 x5,xs=[x0,x1,x2,x3,x4,x5]:=by
  match xs,bt with
  |[a,b,c,d,e,f],_=>exact⟨a,b,c,d,e,f,rfl⟩
 have h0:=tJ 0 _ rfl;have h1:=tJ 1 _ rfl;have h2:=tJ 2 _ rfl;have h3:=tJ 3 _ rfl;have h4:=tJ 4 _ rfl;have h5:=tJ 5 _ rfl;have hd:d=.agg [x0.1,x1.1,x2.1,x3.1,x4.1,x5.1]:=axi Prod.fst hx;obtain⟨n0,f0,rfl,_⟩:=DataW.trod_int underlying3 h0;obtain⟨n1,f1,rfl,_⟩:=DataW.trod_int underlying3 h1;obtain⟨s2,f2,rfl,_⟩:=DataW.trod_string underlying9 h2;obtain⟨n4,f4,rfl,_⟩:=DataW.trod_int underlying3 h4;obtain⟨s5,f5,rfl,_⟩:=DataW.trod_string underlying9 h5;have g0:c0=Value.int .i64 n0:=by
  have h:List.take (prog.cellsOf 3) (List.drop 0 (Value.agg #[c0,c1,c2,c3,c4,c5,c6]).cells.toList)=[Value.int .i64 n0]:=f0;rw[e3]at h;simpa[Value.cells]using h
 have g1:c1=Value.int .i64 n1:=by
  have h:List.take (prog.cellsOf 3) (List.drop 1 (Value.agg #[c0,c1,c2,c3,c4,c5,c6]).cells.toList)=[Value.int .i64 n1]:=f1;rw[e3]at h;simpa[Value.cells]using h
 have g2:c2=Value.string s2:=by
  have h:List.take (prog.cellsOf 9) (List.drop 2 (Value.agg #[c0,c1,c2,c3,c4,c5,c6]).cells.toList)=[Value.string s2]:=f2;rw[e9]at h;simpa[Value.cells]using h
 have g4:c5=Value.int .i64 n4:=by
  have h:List.take (prog.cellsOf 3) (List.drop 5 (Value.agg #[c0,c1,c2,c3,c4,c5,c6]).cells.toList)=[Value.int .i64 n4]:=f4;rw[e3]at h;simpa[Value.cells]using h
 have g5:c6=Value.string s5:=by
  have h:List.take (prog.cellsOf 9) (List.drop 6 (Value.agg #[c0,c1,c2,c3,c4,c5,c6]).cells.toList)=[Value.string s5]:=f5;rw[e9]at h;simpa[Value.cells]using h
 have k3:DataW.trod enc prog W 0 (λ_=>true) true n 42 [c3,c4]=some (x3.1,x3.2):=by
  have h:DataW.trod enc prog W 0 (λ_=>true) true n 42 (List.take (prog.cellsOf 42) (List.drop 3 (Value.agg #[c0,c1,c2,c3,c4,c5,c6]).cells.toList))=some x3:=h3;rw[eb]at h;simpa[Value.cells]using h
 obtain⟨ys,n',_,hy,_,hyl,hg⟩:=DataW.trod_struct underlying42 k3;obtain⟨y0,y1,rfl⟩:∃ y0 y1,ys=[y0,y1]:=by
  match ys,hyl with
  |[a,b],_=>exact⟨a,b,rfl⟩
 have i0:=hg 0 _ rfl;have i1:=hg 1 _ rfl;obtain⟨m0,r0,rfl,_⟩:=DataW.trod_int underlying3 i0;obtain⟨m1,r1,rfl,_⟩:=DataW.trod_int underlying3 i1;have g3:c3=Value.int .i64 m0:=by
  have h:List.take (prog.cellsOf 3) (List.drop 0 [c3,c4])=[Value.int .i64 m0]:=r0;rw[e3]at h;simpa using h
 have g3':c4=Value.int .i64 m1:=by
  have h:List.take (prog.cellsOf 3) (List.drop 1 [c3,c4])=[Value.int .i64 m1]:=r1;rw[e3]at h;simpa using h
 have wn:s2.data.toList.length<=reachBytes:=by
  have:=awp.1 cJ _ (DataW.weights_mem_each ht (hj.trans (axi some hd)) s2.data.toList.length (by simp[DataW.weights,DataW.weightsEach,underlying44]));simpa using this
 have wd:s5.data.toList.length<=reachBytes:=by
  have:=awp.1 cJ _ (DataW.weights_mem_each ht (hj.trans (axi some hd)) s5.data.toList.length (by simp[DataW.weights,DataW.weightsEach,underlying44]));simpa using this
 subst g0 g1 g2 g3 g3' g4 g5;exact⟨⟨n0,n1,s2.data.toList,⟨m0,m1⟩,n4,s5.data.toList⟩,rfl,wn,wd⟩
end
end
end Go.Proofs.YtkghpdcloaiflaaGreatDoor
