import Derived.Test.YtkghpdcloaiflaaGreatDoorE43
import Derived.LaidEql
import Derived.Stop.Asserts
import Derived.RowKitTokens
import Derived.Deep.RegionWith
import Derived.Laws.StructEq
import Derived.BigQuiet
set_option maxHeartbeats 8000000
set_option maxRecDepth 100000
namespace Go.Proofs.YtkghpdcloaiflaaGreatDoor
open _root_.Go.Proofs.Tryz
theorem a8 (s:List UInt8):(cy s).Pairwise (·<·):=List.pairwise_lt_range.filter _
def a9 (rd:Rd)(b:fP):Except Int az:=(ei rd b true).map (·.2)
section
section
variable {rd:Rd}{ch:Bool}{data:az}{nums:List (List Int)}
theorem cc (h:ez rd data nums)(hs:data.length<=16384):a9 rd (dt data nums)=.ok data:=by
 obtain⟨o,e,_⟩:=kV h hs true;unfold a9;rw[e];rfl
end
end
section
section
variable {rd KF:Rd}{data:az}{b:fP}{S:Nat->Prop}
theorem aR.load (h:aR rd data b S):a9 rd b=.ok data:=by
 obtain⟨hl,nums,rfl,ht,_⟩:=h;exact cc ht hl
end
end
section
section
open Go.RowKit
theorem bb (n:Nat):1<=(aP n).length:=by
 by_cases h:n<128
 ·rw[jj h];simp
 ·rw[pn h];simp
end
end
section
open Go.RowKit Go.Shelf
attribute [local go_sem] auv
theorem b9 {ty:TypeId}{rv:Value}{f:FuncId}{I:World->(Nat->Prop)->Prop}{rd:Rd}(S:qr ty rv f I rd){w:World}{F:Nat->Prop}(hI:I w F)(bl:fP)(hm:bl.may=true)(data:az)(hd:a9 rd bl=.ok data):
  Calls prog 159 #[.iface ty rv,dd bl] w fun e w'=>e=.returned (.tuple #[.string ⟨data.toArray⟩,.int .i64 0])/\∃ F',I w' F'/\d6 F F' w w':=by
 obtain⟨o,ho,rfl⟩:∃ o,ei rd bl true=.ok o/\o.2=data:=by
  unfold a9 at hd
  cases h:ei rd bl true with
  |error e=>rw[h]at hd;cases hd
  |ok o=>rw[h]at hd;exact⟨o,rfl,by injection hd⟩
 have dE:af w (w.alloc (.cells #[.int .i64 bl.root,.int .i64 bl.size] 42)):=(ah.refl _ w).alloc _;have T:=hd0 (uo S (S.same hI (dE.on fun _ _=>id) dE.size) bl true hm o ho);have dO:=hd0 dE;have HS:=hd0 S;clear hI hd ho dE;unfold dd at T ⊢;go_enter func159,ntmps159;go_wp2_with fail;refine T.out.mono ?_;rintro e w1 ⟨b,s1,F1,rfl,NR,TD,_,_,_,hD,kq,qx,nT,dh⟩;have dg:=hd0 (DJ b w1 s1.D TD.own (by
  rcases TD.data with⟨_,h2,h3⟩|⟨_,h2,h3⟩
  ·exact .inl ⟨h3,h2⟩
  ·exact .inr ⟨h2,h3⟩))
 rw[hD]at dg;have Ym:=hd0 NR;have qg:=hd0 TD;have h9:=hd0 nT;have HM:=hd0 ((dO.out.mono (T:=F) (fun _ _ h=>h.elim)).trans dh (fun _ _ h=>h));have aa5:Hid (∀ g,s1.role g≠.none->w.heap.size<=g):=hd0 (fun g hg=>aux dO.out.size (kq g hg));have acX:Hid (∀ g,F1 g->F g\/w.heap.size<=g):=hd0 (fun g hg=>(qx g hg).imp id (fun h=>aux dO.out.size h));clear NR TD nT dh kq qx hD T;go_wp2_with fail;refine dg.out.mono ?_;rintro e w2 ⟨rfl,m2⟩;have eb:ah (fun g=>s1.role g≠.none) w1 w2:=m2.mono fun g _ hg hr=>by have:=qg.out.rdata g hg;rw[hr]at this;cases this
 have Oy:=hd0 (HS.out.same Ym.out (eb.on fun g hg hr=>h9.out g hr hg) eb.size);have oF:Hid (ah F w w2):=hd0 (HM.out.trans eb (fun g hg hr=>by have:=aa5.out g hr;omega));clear m2 eb dg;go_wp2;go_ret2;exact⟨rfl,F1,Oy.out,oF.out,acX.out⟩
end
section
open Go.RowKit
theorem aj (n:Nat)(rest:List UInt8)(cp:Int)(r:Nat)(w:World)(h:Ng w r (aP n++rest))(hn:n<=4611686018427387903)(hm:(n:Int)<=cp)(hr:rest.length<=1000000):
  Calls prog 265 #[.pointer (some ⟨r,0,none⟩),.int .i64 cp] w fun e w'=>e=.returned (.int .i64 (n:Int))/\Ng w' r rest/\ah (·=r) w w':=by
 have HC:=hd0 (Ke n rest cp r w h hn hm (by omega));clear h hn hm hr;go_enter func265,ntmps265;go_wp2_with fail;refine HC.out.mono ?_;rintro e w1 ⟨rfl,h1,mT⟩;have H1:=hd0 h1;have yB:=hd0 mT;clear h1 mT;go_wp2;go_ret;exact⟨rfl,H1.out,yB.out⟩
theorem ca {sz:Nat}{t:TypeId}{w w':World}{base n:Nat}{v:Value}{xs:List Value}{S:Nat->Prop}(h:w.ownsRow base t sz v n xs)(k:ah S w w')(hS:∀ {b},base<=b->¬ S b):w'.ownsRow base t sz v n xs:=by
 obtain⟨h1,h2⟩:=h;refine⟨h1,?_⟩;rcases h2 with h2|⟨g,cap,dz,a,b,c,d⟩
 ·exact .inl h2
 ·exact .inr ⟨g,cap,dz,a,b,k.obj c (hS b),d⟩
theorem ad {sz:Nat}{t:TypeId}{w:World}{base Yw n:Nat}{v:Value}{xs:List Value}(h:w.ownsRow base t sz v n xs)(hb:Yw<=base):w.ownsRow Yw t sz v n xs:=by
 obtain⟨h1,h2⟩:=h;refine⟨h1,?_⟩;rcases h2 with h2|⟨g,cap,dz,a,b,c,d⟩
 ·exact .inl h2
 ·exact .inr ⟨g,cap,dz,a,aux hb b,c,d⟩
theorem cD {w:World}{b:Nat}{t:TypeId}{c0 c1 c2 c3 c4:Value}(h:World.blk w b #[c0,c1,c2,c3,c4] t)(x0 x1 x2 x3 x4:Value):
  World.blk (((((w.setCell ⟨b,0,none⟩ x0).setCell ⟨b,1,none⟩ x1).setCell ⟨b,2,none⟩ x2).setCell ⟨b,3,none⟩ x3).setCell ⟨b,4,none⟩ x4) b #[x0,x1,x2,x3,x4] t/\ah (fun g=>g=b) w (((((w.setCell ⟨b,0,none⟩ x0).setCell ⟨b,1,none⟩ x1).setCell ⟨b,2,none⟩ x2).setCell ⟨b,3,none⟩ x3).setCell ⟨b,4,none⟩ x4):=
 ⟨ag (ag (ag (ag (ag h 0 x0) 1 x1) 2 x2) 3 x3) 4 x4,(((((ah.refl (fun g=>g=b) w).setCell (p:=⟨b,0,none⟩) (.inl rfl) x0).setCell (p:=⟨b,1,none⟩) (.inl rfl) x1).setCell (p:=⟨b,2,none⟩) (.inl rfl) x2).setCell (p:=⟨b,3,none⟩) (.inl rfl) x3).setCell (p:=⟨b,4,none⟩) (.inl rfl) x4⟩
theorem bW (b:fP)(rest:List UInt8)(r:Nat)(w:World)(h:Ng w r (aP b.root.toNat++(aP b.size.toNat++rest)))(hb:b.ok=true)(hr:rest.length<=900000):
  Calls prog 266 #[.pointer (some ⟨r,0,none⟩)] w fun e w'=>e=.returned (dd b)/\Ng w' r rest/\ah (·=r) w w':=by
 simp only[fP.ok,fP.may,auT,auY]at hb;obtain⟨a,ha,ev⟩:∃ a:Nat,b.root=a/\a<=4095:=⟨b.root.toNat,by omega,by omega⟩
 obtain⟨z,hz,mZ⟩:∃ z:Nat,b.size=z/\z<=16384:=⟨b.size.toNat,by omega,by omega⟩
 obtain⟨br,bz⟩:=b;simp only at ha hz h;subst ha hz;simp only[avc]at h;clear hb;obtain⟨N,hN⟩:∃ N,w.heap.size=N:=⟨_,rfl⟩
 obtain⟨W0,rA⟩:∃ W,w.alloc (.cells #[.int .i64 0,.int .i64 0] 42)=W:=⟨_,rfl⟩
 have ck:r<N:=by rw[<-hN];exact ai h
 have H:Hid (Ng W0 r (aP a++(aP z++rest))):=hd0 (by rw[<-rA];exact aH h _);have HZ:Hid (World.blk W0 N #[.int .i64 0,.int .i64 0] 42):=hd0 (by rw[<-rA,<-hN];exact aw _ _ _);have HM:Hid (ah (·=r) w W0):=hd0 (by rw[<-rA];exact(ah.refl (fun x=>x=r) w).alloc _);have HQ:=hd0 (And.intro ev (And.intro mZ (And.intro hr (And.intro ck hN))));clear h ev mZ hr ck;go_enter func266,ntmps266;go_wp2_with fail
 try rw[rA]
 refine(aj a (aP z++rest) 4095 r _ H.out (by have:=HQ.out;omega) (by have:=HQ.out;omega) (by have:=bI (n:=z) (by have:=HQ.out;omega);have:=HQ.out;rw[auS];omega)).mono ?_;rintro e w1 ⟨rfl,h1,m1⟩;have H1:=hd0 h1;have ci:=hd0 (ab m1 HZ.out (by have:=HQ.out;omega));have yB:=hd0 (HM.out.trans m1 (fun _ _ h=>h));clear h1 m1 H HZ HM rA;go_wp2_with fail;refine(aj z rest 16384 r _ H1.out (by have:=HQ.out;omega) (by have:=HQ.out;omega) (by have:=HQ.out;omega)).mono ?_;rintro e w2 ⟨rfl,h2,m2⟩;have H2:=hd0 h2;have oH:=ab m2 ci.out (by have:=HQ.out;omega);have oF:=hd0 (yB.out.trans m2 (fun _ _ h=>h));have y0:w2.frozen? ⟨N,0,none⟩=false:=ae oH _ rfl;have y1:w2.frozen? ⟨N,1,none⟩=false:=ae oH _ rfl;have z0:w2.cell? ⟨N,0,none⟩=some (.int .i64 0):=aa oH 0;have z1:w2.cell? ⟨N,1,none⟩=some (.int .i64 0):=aa oH 1;have HB:=hd0 (ag (ag oH 0 (.int .i64 (a:Int))) 1 (.int .i64 (z:Int)));have HR:Hid (Ng ((w2.setCell ⟨N,0,none⟩ (.int .i64 (a:Int))).setCell ⟨N,1,none⟩ (.int .i64 (z:Int))) r rest):=hd0 (bE (bE H2.out ⟨N,0,none⟩ (by have:=HQ.out;simp;omega) _) ⟨N,1,none⟩ (by have:=HQ.out;simp;omega) _);have HK:Hid (ah (·=r) w ((w2.setCell ⟨N,0,none⟩ (.int .i64 (a:Int))).setCell ⟨N,1,none⟩ (.int .i64 (z:Int)))):=hd0 ((oF.out.setCell (p:=⟨N,0,none⟩) (.inr (Nat.le_of_eq HQ.out.2.2.2.2)) _).setCell (p:=⟨N,1,none⟩) (.inr (Nat.le_of_eq HQ.out.2.2.2.2)) _);clear h2 m2 oH H1 ci yB
 try rw[hN]
 go_wp2_with fail;have q0:World.cell? _ ⟨N,0,none⟩=some (.int .i64 (a:Int)):=aa HB.out 0;have q1:World.cell? _ ⟨N,1,none⟩=some (.int .i64 (z:Int)):=aa HB.out 1;exact au7 (v:=dd ⟨(a:Int),(z:Int)⟩) (by simp[results,Tryz.results266,go_sem,dd,q0,q1]) rfl ⟨rfl,HR.out,HK.out⟩
theorem ce (x:fC)(ii:Int)(rest:List UInt8)(r:Nat)(w:World)(h:Ng w r (oo x++rest))(hx:xB ii x)(h0:0<x.num)(hr:rest.length<=800000):
  Calls prog 280 #[.pointer (some ⟨r,0,none⟩)] w fun e w'=>e=.returned (YX x)/\Ng w' r rest/\ah (·=r) w w':=by
 obtain⟨_,AK,vw,lA,AC⟩:=hx;have he:oo x++rest=aP x.num.toNat++(aP (if x.dir=true then 1 else 0)++(aP x.links.toNat++(aP x.blob.root.toNat++(aP x.blob.size.toNat++rest)))):=by simp[oo,yH]
 rw[he]at h;have Kj:(aP x.blob.root.toNat).length<=9/\(aP x.blob.size.toNat).length<=9:=by
  have:=AC;simp only[fP.ok,fP.may,auT,auY]at this;exact⟨bI (by omega),bI (by omega)⟩
 obtain⟨n,hn,Cl⟩:∃ n:Nat,x.num=n/\n<=65535:=⟨x.num.toNat,by omega,by omega⟩
 obtain⟨l,hl,Kt⟩:∃ n:Nat,x.links=n/\n<=65535:=⟨x.links.toNat,by omega,by omega⟩
 obtain⟨num,dir,links,blob⟩:=x;simp only at hn hl h Kj AC;subst hn hl;simp only[avc]at h;obtain⟨dn,fB,IZ,Wi⟩:∃ d:Nat,(if dir=true then 1 else 0)=d/\d<=1/\(((d:Nat):Int)==1)=dir:=by cases dir<;>exact⟨_,rfl,by decide,by decide⟩
 rw[fB]at h;clear he fB;obtain⟨N,hN⟩:∃ N,w.heap.size=N:=⟨_,rfl⟩
 obtain⟨W0,rA⟩:∃ W,w.alloc (.cells #[.int .i64 0,.bool false,.int .i64 0,.int .i64 0,.int .i64 0] 128)=W:=⟨_,rfl⟩
 have ck:r<N:=by rw[<-hN];exact ai h
 have l1:=bI (n:=dn) (by omega);have l2:=bI (n:=l) (by omega);have H:=hd0 (show Ng W0 r _ by rw[<-rA];exact aH h _);have HZ:Hid (World.blk W0 N #[.int .i64 0,.bool false,.int .i64 0,.int .i64 0,.int .i64 0] 128):=hd0 (by rw[<-rA,<-hN];exact aw _ _ _);have HM:Hid (ah (·=r) w W0):=hd0 (by rw[<-rA];exact(ah.refl (fun x=>x=r) w).alloc _);have HQ:=hd0 (And.intro Cl (And.intro Kt (And.intro hr (And.intro ck (And.intro hN (And.intro l1 (And.intro l2 (And.intro Kj (And.intro IZ AC)))))))));clear h Cl Kt hr ck l1 l2 Kj IZ AC AK vw lA h0;go_enter func280,ntmps280;go_wp2_with fail
 try rw[rA]
 refine(aj n _ 65535 r _ H.out (by have:=HQ.out;omega) (by have:=HQ.out;omega) (by have:=HQ.out;simp only[auS];omega)).mono ?_;rintro e w1 ⟨rfl,h1,m1⟩;have H1:=hd0 h1;have ci:=hd0 (ab m1 HZ.out (by have:=HQ.out;omega));have yB:=hd0 (HM.out.trans m1 (fun _ _ h=>h));clear h1 m1 H HZ HM rA;go_wp2_with fail;refine(aj dn _ 1 r _ H1.out (by have:=HQ.out;omega) (by have:=HQ.out;omega) (by have:=HQ.out;simp only[auS];omega)).mono ?_;rintro e w2 ⟨rfl,h2,m2⟩;have H2:=hd0 h2;have fb:=hd0 (ab m2 ci.out (by have:=HQ.out;omega));have oF:=hd0 (yB.out.trans m2 (fun _ _ h=>h));clear h2 m2 H1 ci yB;go_wp2_with fail;refine(aj l _ 65535 r _ H2.out (by have:=HQ.out;omega) (by have:=HQ.out;omega) (by have:=HQ.out;simp only[auS];omega)).mono ?_;rintro e w3 ⟨rfl,h3,m3⟩;have H3:=hd0 h3;have fc:=hd0 (ab m3 fb.out (by have:=HQ.out;omega));have nW:=hd0 (oF.out.trans m3 (fun _ _ h=>h));clear h3 m3 H2 fb oF;go_wp2_with fail;refine(bW blob rest r _ H3.out HQ.out.2.2.2.2.2.2.2.2.2 (by have:=HQ.out;omega)).mono ?_;rintro e w4 ⟨rfl,h4,m4⟩;obtain⟨br,bz⟩:=blob;have H4:=hd0 h4;have b8:=ab m4 fc.out (by have:=HQ.out;omega);have rH:=hd0 (nW.out.trans m4 (fun _ _ h=>h));have y0:w4.frozen? ⟨N,0,none⟩=false:=ae b8 _ rfl;have y1:w4.frozen? ⟨N,1,none⟩=false:=ae b8 _ rfl;have y2:w4.frozen? ⟨N,2,none⟩=false:=ae b8 _ rfl;have y3:w4.frozen? ⟨N,3,none⟩=false:=ae b8 _ rfl;have y4:w4.frozen? ⟨N,4,none⟩=false:=ae b8 _ rfl;have z0:w4.cell? ⟨N,0,none⟩=some (.int .i64 0):=aa b8 0;have z1:w4.cell? ⟨N,1,none⟩=some (.bool false):=aa b8 1;have z2:w4.cell? ⟨N,2,none⟩=some (.int .i64 0):=aa b8 2;have z3:w4.cell? ⟨N,3,none⟩=some (.int .i64 0):=aa b8 3;have z4:w4.cell? ⟨N,4,none⟩=some (.int .i64 0):=aa b8 4;have cv:=hd0 (cD b8 (.int .i64 (n:Int)) (.bool dir) (.int .i64 (l:Int)) (.int .i64 br) (.int .i64 bz));clear h4 m4 b8 H3 fc nW
 try rw[hN]
 unfold dd;go_wp2_with fail;have HR:=ab cv.out.2 H4.out (by have:=HQ.out;omega);have HK:=rH.out.trans (cv.out.2.mono (T:=fun g=>g=N) (fun _ _ h=>h)) (fun g hl hs=>by have:=HQ.out;omega);have q0:World.cell? _ ⟨N,0,none⟩=some (.int .i64 (n:Int)):=aa cv.out.1 0;have q1:World.cell? _ ⟨N,1,none⟩=some (.bool dir):=aa cv.out.1 1;have q2:World.cell? _ ⟨N,2,none⟩=some (.int .i64 (l:Int)):=aa cv.out.1 2;have q3:World.cell? _ ⟨N,3,none⟩=some (.int .i64 br):=aa cv.out.1 3;have q4:World.cell? _ ⟨N,4,none⟩=some (.int .i64 bz):=aa cv.out.1 4;exact au7 (v:=YX ⟨(n:Int),dir,(l:Int),⟨br,bz⟩⟩) (by simp[results,Tryz.results280,go_sem,q0,q1,q2,q3,q4]) rfl ⟨rfl,HR,HK⟩
theorem bn (l:List fC):l.length<=(l.flatMap oo).length:=by
 induction l with
 |nil=>simp
 |cons x r ih=>
  rw[avg,auS,auA];have h1:1<=(oo x).length:=by
   have:=bb x.num.toNat;unfold oo;simp only[auS];omega
  omega
theorem bp {l:List fC}(h:yI 0 l=true)(hl:l.length<=4096):(l.flatMap oo).length<=409600:=by
 have key:∀(m:List fC),(∀ x∈m,(oo x).length<=100)->(m.flatMap oo).length<=m.length*100:=by
  intro m
  induction m with
  |nil=>intro _;simp
  |cons y r ih=>
   intro hm;have:=ih (fun x hx=>hm x (by simp[hx]));have:=hm y (by simp);rw[avg,auS,auA];omega
 have h1:=key l (fun x hx=>by
  obtain⟨i,hi,rfl⟩:=List.getElem_of_mem hx;have:=sA (ut h (auB hi)) (xG (Int.le_refl 0) h _ (ava hi)) 5
  rwa [avl (by simp[cG]),sx]at this)
 omega
theorem bc (l:List fC)(cq:qQ l=true)(w:World):
  Calls prog 225 #[vr,.string ⟨(j9 l).toArray⟩] w fun e w'=>∃ v,e=.returned (.tuple #[v,.int .i64 0])/\dU jF 5 128 w' w.heap.size v l/\af w w':=by
 have OJ:=hd0 cq;have dl:=cq;simp only[qQ,auT,auY]at dl;obtain⟨aV,hB⟩:=dl;have HB:=hd0 hB;have oG:=bp hB aV;have fz:=hd0 oG;have hh:l.length<(j9 l).length:=by
  have h1:l.length<=(l.flatMap oo).length:=bn l;have h2:1<=(aP l.length).length:=bb _;rw[j9,auS];omega
 have Tt:=hd0 aV;obtain⟨S,hS⟩:∃ S,j9 l=S:=⟨_,rfl⟩
 have kk:(S.length:Int)<=9223372036854775807:=by
  rw[<-hS,j9,auS];have:=bI (n:=l.length) (by omega);omega
 rw[hS]at hh;rw[hS];have HS:=hd0 hS;clear cq aV oG hS hB;go_enter func225,ntmps225;go_wp2_with fail;refine(Nh S _).mono ?_;rintro e w1 ⟨rfl,h1,b7⟩;have eN:Hid (World.blk w1 w.heap.size #[.func (.func 277) #[] #[],.func (.func 278) #[] #[],.func (.func 280) #[] #[]] 308):=hd0 (ab b7 (aw _ _ _) id);have bU:=hd0 (dQ b7);have fx:Ng w1 (w.heap.size+1) (aP l.length++l.flatMap oo):=by
  have e:aP l.length++l.flatMap oo=S:=HS.out;rw[e];simpa using h1
 have H1:=hd0 fx;clear h1 fx b7;go_wp2_with fail;refine(Ke l.length (l.flatMap oo) 4096 (w.heap.size+1) w1 H1.out (by have:=Tt.out;omega) (by have:=Tt.out;omega) (by have:=fz.out;have:=Tt.out;omega)).mono ?_;rintro e w2 ⟨rfl,h2,gV⟩;have H2:=hd0 h2;have Th:=hd0 (ab gV eN.out (by omega));have bu:=hd0 (bU.out.new gV (by omega));have ks:=ai h2;clear h2 gV H1 eN bU;go_wp2_with fail
 go_loopw [9,10] (fun v i wr=>∃ k:Nat,k<=l.length/\i=.int .i64 (k:Int)/\af w wr/\w2.heap.size<=wr.heap.size/\World.blk wr w.heap.size #[.func (.func 277) #[] #[],.func (.func 278) #[] #[],.func (.func 280) #[] #[]] 308/\Ng wr (w.heap.size+1) ((l.drop k).flatMap oo)/\dU jF 5 128 wr w2.heap.size v (l.take k)) (fun _ i _=>l.length-(intOf i).toNat)
 case atStart=>exact⟨0,by omega,rfl,bu.out,auE _,Th.out,H2.out,rfl,.inl ⟨rfl,rfl⟩⟩
 case round=>
  clear bu Th H2;obtain⟨k,hk,rfl,hK,cK,hF,hR,hV⟩:=hrel;have HK:=hd0 hK;have HF:=hd0 hF;have HR:=hd0 hR;have HV:=hd0 hV;clear hK hF hR hV;by_cases aL:k<l.length
  ·obtain⟨x,hx⟩:∃ x,l[k]?=some x:=⟨_,auB aL⟩
   have Hx:=hd0 hx;have Sl:(l.drop k).flatMap oo=oo x++(l.drop (k+1)).flatMap oo:=by
    rw[List.drop_eq_getElem_cons aL,avg];rw[show l[k]=x from avG ((auB aL).symm.trans hx)]
   have rE:Hid (Ng wr (w.heap.size+1) (oo x++(l.drop (k+1)).flatMap oo)):=hd0 (by rw[<-Sl];exact HR.out);have ck:((l.drop (k+1)).flatMap oo).length<=800000:=by
    have h1:(l.flatMap oo).length=((l.take k).flatMap oo).length+((l.drop k).flatMap oo).length:=by rw[<-auS,<-auR,List.take_append_drop]
    have h2:=avO List.length Sl;rw[auS]at h2;have:=fz.out;have:=Tt.out;omega
   have i2:=hd0 ck;have f2:wr.cell? ⟨w.heap.size,2,none⟩=some (.func (.func 280) #[] #[]):=aa HF.out 2;have kr:(k:Int)<S.length:=by omega
   clear hx Sl ck HR;go_wp2_with fail;refine(ce x _ _ (w.heap.size+1) wr rE.out (ut HB.out Hx.out) (xG (Int.le_refl 0) HB.out x (auC Hx.out)) i2.out).mono ?_;rintro e w3 ⟨rfl,KT,lz⟩;have Jw:=hd0 KT;have F8:=hd0 (ab lz HF.out (by omega));have dZ:=hd0 (HK.out.new lz (by omega));have TM:Hid (dU jF 5 128 w3 w2.heap.size u9 (l.take k)):=hd0 (ca HV.out lz (by omega));have rG:w2.heap.size<=w3.heap.size:=aux cK lz.size;obtain⟨v2,w4,hr,ho,de,gV⟩:=qs (f:=jF) (x:=x) (P:=prog) underlying96 QT rfl (by decide) xA w2.heap.size u9 (l.take k) w3 w TM.out (QF x) (by have:=Tt.out;rw[auH];unfold maxLen;omega) (by have:=Tt.out;rw[auH];omega) rG dZ.out (by omega);have Hr:=hd0 hr;have Ho:=hd0 ho;have WA:=hd0 de;have c7:=hd0 (ab gV F8.out (by omega));have g5:Hid (Ng w4 (w.heap.size+1) ((l.drop (k+1)).flatMap oo)):=hd0 (ab gV Jw.out (by omega));have iv:w2.heap.size<=w4.heap.size:=aux rG gV.size;clear hr ho de gV KT lz f2 HF rE HK HV F8 Jw dZ TM;go_wp2_with ((at_builtin;refine aB Hr.out rfl rfl rfl rfl ?_));refine⟨⟨k+1,by omega,by go_num,WA.out,iv,c7.out,g5.out,by rw[kG Hx.out];exact Ho.out⟩,by simp[intOf];omega⟩
  ·obtain rfl:k=l.length:=by omega
   rw[auF]at HV;have Wn:Hid (Ng wr (w.heap.size+1) []):=hd0 (by have h:=HR.out;rwa [List.drop_length]at h);have fl:=hd0 (bZ xA HV.out);go_wp2_with fail;refine(Vi _ wr Wn.out).mono ?_;rintro e w4 ⟨rfl,iT⟩;have c7:=hd0 (ab iT HF.out id);have ou:=hd0 (HK.out.keep iT);have hY:=hd0 (il HV.out iT);have hH:=hd0 (eZ fl.out iT);have f0:w4.cell? ⟨w.heap.size,0,none⟩=some (.func (.func 277) #[] #[]):=aa c7.out 0;have f1:w4.cell? ⟨w.heap.size,1,none⟩=some (.func (.func 278) #[] #[]):=aa c7.out 1;have f2:w4.cell? ⟨w.heap.size,2,none⟩=some (.func (.func 280) #[] #[]):=aa c7.out 2;clear iT HF HK HV fl HR Wn;go_wp2_with fail;refine(Et l _ w4 hH.out OJ.out).mono ?_;rintro e w5 ⟨rfl,mt⟩;have lZ:=hd0 (ou.out.keep mt);have gu:=hd0 (il hY.out mt);rw[show j9 l=S from HS.out];clear mt f0 f1 f2;go_wp2;go_ret2;exact⟨_,rfl,ad gu.out (by omega),lZ.out⟩
theorem a7 (l:List fC)(cq:qQ l=true)(w:World):
  Calls prog 160 #[.string ⟨(j9 l).toArray⟩] w fun e w'=>∃ v,e=.returned (.tuple #[v,.int .i64 0])/\dU jF 5 128 w' w.heap.size v l/\af w w':=by
 have OJ:=hd0 cq;clear cq;go_enter func160,ntmps160;go_wp2_with fail;refine(En _).mono ?_;rintro e w1 ⟨rfl,hk⟩;have hs:=hk.size;have HK:=hd0 hk;clear hk;go_wp2_with fail;refine(bc l OJ.out w1).mono ?_;rintro e w2 ⟨v,rfl,ho,hk⟩;have bu:=hd0 (HK.out.keep hk);have HO:=hd0 ho;clear hk ho;go_wp2;go_ret2;exact⟨_,rfl,ad HO.out hs,bu.out⟩
end
section
open Go.RowKit Go.Shelf
attribute [local go_sem] auv
theorem ap {rd:Rd}:∀ {ys:List fC} {xs:List Nt} {S:Nat->Prop},lC rd ys xs S->∃ P:Nat->Nat->Prop,(∀ k y,ys[k]?=some y->∃ data,aR rd data y.blob (P k))/\∀ n,S n↔∃ k,k<ys.length/\P k n
 |[],[],S,h=>⟨fun _ _=>False,fun k y hk=>by simp at hk,fun n=>⟨fun hn=>absurd hn (h n),fun⟨k,hk,_⟩=>by simp at hk⟩⟩
 |y::ys,x::xs,S,⟨_,A,B,h2,h3,h4⟩=>by
  obtain⟨P,p1,p2⟩:=ap h3;refine⟨fun k=>match k with|0=>A|j+1=>P j,fun k z hk=>?_,fun n=>?_⟩
  ·cases k with
   |zero=>
    simp at hk;subst hk;exact⟨_,h2⟩
   |succ j=>exact p1 j z (by simpa using hk)
  ·rw[h4,p2]
   constructor
   ·rintro(h|⟨k,hk,h⟩)
    ·exact⟨0,by simp,h⟩
    ·exact⟨k+1,by simpa using hk,h⟩
   ·rintro⟨k,hk,h⟩
    cases k with
    |zero=>exact .inl h
    |succ j=>exact .inr ⟨j,by simpa using hk,h⟩
 |[],_::_,_,h=>h.elim
 |_::_,[],_,h=>h.elim
theorem bj {ty:TypeId}{rv:Value}{f:FuncId}{I:World->(Nat->Prop)->Prop}{rd:Rd}(S:qr ty rv f I rd){w:World}{F:Nat->Prop}(hI:I w F){b:fP}{l:List fC}{S0:Nat->Prop}(hb:aR rd (j9 l) b S0)(cq:qQ l=true):
  Calls prog 78 #[.iface ty rv,dd b] w fun e w'=>∃ x,e=.returned (.tuple #[x,.int .i64 0])/\dU jF 5 128 w' w.heap.size x l/\∃ F',I w' F'/\d6 F F' w w'/\∀ g,x.ownBlock=some g->¬ F' g:=by
 have hm:b.may=true:=by
  have:=hb.may;unfold fP.ok at this;simp only[auT]at this;exact this.1.1
 have dE:af w (w.alloc (.cells #[.int .i64 b.root,.int .i64 b.size] 42)):=(ah.refl _ w).alloc _;have R:=hd0 (b9 S (S.same hI (dE.on fun _ _=>id) dE.size) b hm (j9 l) hb.load);have dO:=hd0 dE;have HS:=hd0 S;have PI:=hd0 (fun W=>a7 l cq W);clear hI dE hb cq hm;unfold dd at R ⊢;go_enter func78,ntmps78;go_wp2_with fail;refine R.out.mono ?_;rintro e w1 ⟨rfl,F1,NR,b7⟩;have Ym:=hd0 NR;have bU:Hid (d6 F F1 w w1):=hd0 ⟨(dO.out.mono (T:=F) (fun _ _ h=>h.elim)).trans b7.mod (fun _ _ h=>h),fun g hg=>(b7.foot g hg).imp id (fun h=>aux dO.out.size h)⟩;clear NR b7 R;go_wp2_with fail;refine(PI.out _).mono ?_;rintro e w2 ⟨v,rfl,ho,k2⟩;have HO:=hd0 ho;have bu:=hd0 k2;clear ho k2 PI;go_wp2;go_ret2;exact⟨v,rfl,ad HO.out bU.out.mod.size,F1,HS.out.same Ym.out (bu.out.on fun _ _=>id) bu.out.size,⟨bU.out.mod.keep bu.out,bU.out.foot⟩,fun g hg hf=>by have h1:=HS.out.lt Ym.out g hf;have h2:=(HO.out.lt g hg).1;omega⟩
theorem bq {ty:TypeId}{rv:Value}{f:FuncId}{I:World->(Nat->Prop)->Prop}{rd:Rd}(S:qr ty rv f I rd){w:World}{F:Nat->Prop}(hI:I w F){ac:List fC}{a6:List Nt}{b:fP}{S0:Nat->Prop}(hT:j0 rd ac a6 b S0)(cq:qQ ac=true):
  Calls prog 32 #[.iface ty rv,dd b] w fun e w'=>∃ s,e=.returned (.tuple #[aC s,.int .i64 0])/\(s.length<=600/\ga s/\∀ n,am s n=true↔S0 n)/\∃ F',I w' F'/\d6 F F' w w':=by
 obtain⟨A,B,hA,hB,fk⟩:=hT;obtain⟨P,p1,p2⟩:=ap hA;obtain⟨W0,rA⟩:∃ W,w.alloc (.cells #[.int .i64 b.root,.int .i64 b.size] 42)=W:=⟨_,rfl⟩
 obtain⟨bt,dk⟩:∃ g,w.heap.size=g:=⟨_,rfl⟩
 have dE:af w W0:=by rw[<-rA];exact(ah.refl _ w).alloc _
 have nX:World.blk W0 bt #[.int .i64 b.root,.int .i64 b.size] 42:=by rw[<-rA,<-dk];exact aw _ _ _
 have fp:=S.same hI (dE.on fun _ _=>id) dE.size;have Tu:=S.lt hI;have VI:=hd0 (bj S fp hB cq);obtain⟨s0,r0,l0,h0⟩:=hB.reached [];have SR:=Ey hB (by simp) r0;have R0:=hd0 (fun(W:World) F' (h:I W F')=>Ez S h [] (by simp) hB s0 r0);have dO:=hd0 dE;have dv:=hd0 nX;have HS:=hd0 S;have HP:=hd0 p1;have HF:=hd0 Tu;have j1:Hid (∀ n,S0 n↔B n\/∃ k,k<ac.length/\P k n):=hd0 (fun n=>by rw[fk,p2];exact or_comm);have Oh:Hid (s0.length<=600/\ga s0/\∀ n,am s0 n=true↔B n\/∃ j,j<0/\P j n):=hd0 ⟨SR,l0,fun n=>by rw[h0,gJ];simp⟩;have hG:=hd0 dk;have aV:ac.length<=4096:=by
  have:=cq;simp only[qQ,auT,auY]at this;exact this.1
 have ex:(ac.length:Int)<=4096:=by omega
 have y0:W0.cell? ⟨bt,0,none⟩=some (.int .i64 b.root):=aa nX 0;have y1:W0.cell? ⟨bt,1,none⟩=some (.int .i64 b.size):=aa nX 1;clear hI dE nX fp Tu hA hB fk p1 p2 cq r0 l0 h0 SR aV;unfold dd at VI R0 ⊢;go_enter func32,ntmps32
 go_upto_region 1 with fail
 try rw[rA]
 try rw[dk]
 go_wp2_with fail;refine VI.out.mono ?_;rintro e w1 ⟨x,rfl,ho,F1,NR,b7,fm⟩;obtain⟨la,cap,rfl,hx⟩:=bZ xA ho;have Ym:=hd0 NR;have bU:Hid (d6 F F1 w w1):=hd0 ⟨(dO.out.mono (T:=F) (fun _ _ h=>h.elim)).trans b7.mod (fun _ _ h=>h),fun g hg=>(b7.foot g hg).imp id (fun h=>aux dO.out.size h)⟩;have mZ:=ab b7.mod dv.out (fun h=>by have:=HF.out _ h;have:=hG.out;omega);have z0:w1.cell? ⟨bt,0,none⟩=some (.int .i64 b.root):=aa mZ 0;have z1:w1.cell? ⟨bt,1,none⟩=some (.int .i64 b.size):=aa mZ 1;have HX:=hd0 hx;have HN:Hid (∀ g,(Value.slice la ac.length cap).ownBlock=some g->¬ F1 g/\g<w1.heap.size):=hd0 (fun g hg=>⟨fm g hg,aT ho hg⟩);clear ho NR b7 fm hx mZ VI rA y0 y1;go_wp2_with fail
 try rw[dk]
 refine(R0.out _ _ Ym.out).mono ?_;rintro e w2 ⟨rfl,F2,fj,de⟩;have Oy:=hd0 fj;have bu:=hd0 de;clear fj de z0 z1 R0 dk;go_wp2_with fail
 go_loopw [7,8,28] (fun y v z wr=>∃ k:Nat,k<=ac.length/\z=.int .i64 (k:Int)/\y=.int .i64 0/\Hid (∃ set,v=aC set/\(set.length<=600/\ga set/\∀ n,am set n=true↔B n\/∃ j,j<k/\P j n)/\∃ F3,I wr F3/\d6 F1 F3 w1 wr)) (fun _ _ z _=>ac.length-(intOf z).toNat)
 case atStart=>exact⟨0,by omega,rfl,rfl,hd0 ⟨s0,rfl,Oh.out,F2,Oy.out,bu.out⟩⟩
 case round=>
  clear Oy bu Oh;obtain⟨k,hk,rfl,rfl,HR⟩:=hrel;obtain⟨set,rfl,ac8,F3,fw,dw⟩:=HR.out;have b6:=hd0 ac8;have FU:=hd0 fw;have dZ:=hd0 dw;clear ac8 fw dw HR;by_cases aL:k<ac.length
  ·have dN:(k:Int)<(ac.length:Int):=by omega
   obtain⟨y,hy⟩:∃ y,ac[k]?=some y:=⟨_,auB aL⟩
   obtain⟨rb,o,rfl,hc⟩:=HX.out k y hy;have hn:=HN.out rb rfl;have cx:∀ i u,(jF y)[i]?=some u->wr.cell? ⟨rb,o+k*5+i,none⟩=some u:=fun i u hi=>by
    have h1:=hc i u hi;rw[dZ.out.mod.cell (p:=⟨rb,o+k*5+i,none⟩) hn.2 hn.1];exact h1
   have c0:wr.cell? ⟨rb,o+k*5,none⟩=some (.int .i64 y.num):=cx 0 _ rfl;have c1:wr.cell? ⟨rb,o+k*5+1,none⟩=some (.bool y.dir):=cx 1 _ rfl;have c2:wr.cell? ⟨rb,o+k*5+2,none⟩=some (.int .i64 y.links):=cx 2 _ rfl;have c3:wr.cell? ⟨rb,o+k*5+3,none⟩=some (.int .i64 y.blob.root):=cx 3 _ rfl;have c4:wr.cell? ⟨rb,o+k*5+4,none⟩=some (.int .i64 y.blob.size):=cx 4 _ rfl;obtain⟨data,dg⟩:=HP.out k y hy;obtain⟨s',r',l',h'⟩:=dg.reached set;have f5:=Ey dg b6.out.1 r';have iT:af wr (wr.alloc (.cells #[.int .i64 y.num,.bool y.dir,.int .i64 y.links,.int .i64 y.blob.root,.int .i64 y.blob.size] 128)):=(ah.refl _ wr).alloc _;have RE:=hd0 (Ez HS.out (HS.out.same FU.out (iT.on fun _ _=>id) iT.size) set b6.out.1 dg s' r');have ou:=hd0 iT;have g7:Hid (s'.length<=600/\ga s'/\∀ n,am s' n=true↔B n\/∃ j,j<k+1/\P j n):=hd0 ⟨f5,l',fun n=>by
    rw[h',b6.out.2.2 n]
    constructor
    ·rintro((h|⟨j,hj,h⟩)|h)
     ·exact .inl h
     ·exact .inr ⟨j,by omega,h⟩
     ·exact .inr ⟨k,by omega,h⟩
    ·rintro(h|⟨j,hj,h⟩)
     ·exact .inl (.inl h)
     ·by_cases e:j=k
      ·exact .inr (e▸h)
      ·exact .inl (.inr ⟨j,by omega,h⟩)⟩
   clear cx hc hn dg r' l' h' f5 iT hy;unfold dd at RE;go_wp2_with fail;refine RE.out.mono ?_;rintro e w5 ⟨rfl,F5,gf,mt⟩;have hM:=hd0 gf;have lZ:Hid (d6 F1 F5 w1 w5):=hd0 ⟨(dZ.out.mod.keep ou.out).trans mt.mod (fun g hl hs=>(dZ.out.foot g hs).elim id (fun h1=>absurd h1 (by omega))),fun g hg=>(mt.foot g hg).elim (dZ.out.foot g) (fun h1=>.inr (aux dZ.out.mod.size (aux ou.out.size h1)))⟩;clear gf mt RE c0 c1 c2 c3 c4;go_wp2_with fail;exact⟨⟨k+1,by omega,by go_num,rfl,hd0 ⟨s',rfl,g7.out,F5,hM.out,lZ.out⟩⟩,by simp[intOf];omega⟩
  ·obtain rfl:k=ac.length:=by omega
   go_wp2;go_ret2;exact⟨set,rfl,⟨b6.out.1,b6.out.2.1,fun n=>(b6.out.2.2 n).trans (j1.out n).symm⟩,F3,FU.out,⟨bU.out.mod.trans dZ.out.mod (fun g hl hs=>(bU.out.foot g hs).elim id (fun h1=>absurd h1 (by omega))),fun g hg=>(dZ.out.foot g hg).elim (bU.out.foot g) (fun h1=>.inr (aux bU.out.mod.size h1))⟩⟩
end
section
open Go.RowKit
def go (p:Nat)(v:Vs)(T:az)(w:World)(F:Nat->Prop):Prop:=∃ a,kg w p v a/\a.text=T/\∀ g,F g↔a.foot p g
theorem bX (p:Nat)(v:Vs)(T:az):qr 32 (aq p) 22 (go p v T) v.rd where
 meth _:=by kernel_rfl
 call _ _:=by kernel_rfl
 read:=by
  rintro w F n s ⟨a,h,ht,hF⟩ hn;have Wf:=hn;rw[<-h.rd]at Wf;obtain⟨h1,h2⟩:=Ip Wf;obtain⟨k,rfl⟩:∃ k:Nat,n=k:=⟨n.toNat,by omega⟩
  refine(IK h k (by omega) (by have:=h.size;omega) s hn).mono ?_;rintro e w' ⟨rfl,a',k',Jm⟩;exact⟨rfl,a'.foot p,⟨a',k'.at_,Jm.trans ht,fun _=>Iff.rfl⟩,k'.mod.mono (fun g _ hg=>(hF g).2 hg),fun g hg=>(k'.foot g hg).imp (hF g).2 id⟩
 same:=by
  rintro w w' F ⟨a,h,ht,hF⟩ m hs;exact⟨a,h.same (fun g hg=>m g ((hF g).2 hg)) hs,ht,hF⟩
 lt:=by
  rintro w F ⟨a,h,ht,hF⟩ b hb;exact h.lt ((hF b).1 hb)
end
section
open Go.RowKit
attribute [local go_sem] auv
def bT (l:List Sn)(s:az):Int:=l.foldl (fun a x=>if x.name=s then x.id else a) 0
theorem E8 {l:List Sn}{s:az}(h:∀ x∈l,x.name≠s)(a:Int):l.foldl (fun a x=>if x.name=s then x.id else a) a=a:=by
 induction l generalizing a with
 |nil=>rfl
 |cons x r ih=>
  rw[List.foldl_cons,auK (h x (by simp)),ih (fun y hy=>h y (by simp[hy]))]
theorem fZ {l:List Sn}(h:(l.map (·.name)).Nodup)(s:az):bT l s=((aK l s).getD dY).id:=by
 unfold bT
 induction l with
 |nil=>rfl
 |cons x r ih=>
  rw[auy,List.nodup_cons]at h;rw[List.foldl_cons];by_cases hx:x.name=s
  ·rw[auI hx,E8 (fun y hy e=>h.1 (au6.2 ⟨y,hy,e.trans hx.symm⟩))];have:aK (x::r) s=some x:=by unfold aK;rw[List.find?_cons_of_pos (by simpa using hx)]
   rw[this];rfl
  ·rw[auK hx,ih h.2];have:aK (x::r) s=aK r s:=by unfold aK;rw[List.find?_cons_of_neg (by simpa using hx)]
   rw[this]
end
section
open Go.RowKit
attribute [local go_sem] auv
theorem Aw:Rj:=fun l i v w base h hi hl=>Vo l i v w base h hi hl
def cj:Except Int (az×az)->az
 | .error _=>[]
 | .ok x=>x.1
def cS:Except Int (az×az)->az
 | .error _=>[]
 | .ok x=>x.2
def ef:Except Int (az×az)->Int
 | .error e=>e
 | .ok _=>0
theorem bk (x:Except Int (az×az)):Rn x=.tuple #[aC (cj x),aC (cS x),.int .i64 (ef x)]:=by cases x<;>rfl
theorem Vp {v:Vs}(hg:io v)(b t:az):(cj (cX v b t)).length<=600/\(cS (cX v b t)).length<=600:=by
 cases hx:cX v b t with
 |error e=>exact⟨avk _,avk _⟩
 |ok x=>
  obtain⟨s,d⟩:=x;show s.length<=600/\d.length<=600;unfold cX at hx;split at hx
  ·cases hx
  ·split at hx
   ·cases hx
   ·rename_i x hfx
    have h1:=fN hg (da hfx);split at hx
    ·injection hx with hx;injection hx with e1 e2;subst e1 e2;exact⟨h1,by simp⟩
    ·split at hx
     ·cases hx
     ·rename_i y hfy
      have h2:=fN hg (da hfy);injection hx with hx;injection hx with e1 e2;subst e1 e2;have h3:=ji (co v x) (co v y);have h4:=ji (co v y) (co v x);omega
theorem Ry {v:Vs}{b t:az}{x:az×az}(h:cX v b t=.ok x):aG t=true/\∃ y,aK v.b.list t=some y/\((b=[]/\x=(co v y,[]))\/(b≠[]/\∃ u,aK v.b.list b=some u/\x=(bQ (co v y) (co v u),bQ (co v u) (co v y)))):=by
 unfold cX at h;split at h
 ·cases h
 ·rename_i c
  refine⟨by cases hn:aG t with|true=>rfl|false=>exact absurd (.inl hn) c,?_⟩;split at h
  ·cases h
  ·rename_i y hy
   refine⟨y,hy,?_⟩;split at h
   ·rename_i hb
    injection h with h;exact .inl ⟨hb,h.symm⟩
   ·rename_i hb
    split at h
    ·cases h
    ·rename_i u hu
     injection h with h;exact .inr ⟨hb,u,hu,h.symm⟩
abbrev acy (blocks:Int)(av bv:Value)(base target:az):Value:=.agg #[.int .i64 blocks,av,bv,.string ⟨base.toArray⟩,.string ⟨target.toArray⟩]
theorem Ax {w:World}{b:Nat}{t:TypeId}{c0 c1 c2 c3 c4:Value}(h:World.blk w b #[c0,c1,c2,c3,c4] t):
  w.cell? ⟨b,0,none⟩=some c0/\w.cell? ⟨b,1,none⟩=some c1/\w.cell? ⟨b,2,none⟩=some c2/\w.cell? ⟨b,3,none⟩=some c3/\w.cell? ⟨b,4,none⟩=some c4:=
 ⟨aa h 0,aa h 1,aa h 2,aa h 3,aa h 4⟩
end
section
open Go.RowKit
attribute [local go_sem] auv
structure qk (w ws:World)(Ls:Nat->Prop)(p:Nat)(v:Vs)(a:eF)(q:Nat)(h:Hd)(l:List Nat)(lv:Value)(wr:World):Prop where
 at_:kg wr p v a
 foot:∀ g,a.foot p g->w.heap.size<=g
 keep:af w wr
 plan:eT wr p a q h l lv
 size:ws.heap.size<=wr.heap.size
 own:∀ b,Ls b->b<ws.heap.size/\wr.heap[b]?=ws.heap[b]?/\¬ a.foot p b
section
variable {w ws wr w2:World}{Ls:Nat->Prop}{p:Nat}{v:Vs}{a a2:eF}{q:Nat}{h:Hd}{l:List Nat}{lv:Value}
theorem qk.keep' (s:qk w ws Ls p v a q h l lv wr)(k:af wr w2):qk w ws Ls p v a q h l lv w2:=
 ⟨s.at_.keep k,s.foot,s.keep.keep k,s.plan.keep k,aux s.size k.size,fun b hb=>⟨(s.own b hb).1,(k.block b (auL (s.own b hb).1 s.size) id).trans (s.own b hb).2.1,(s.own b hb).2.2⟩⟩
theorem qk.to (s:qk w ws Ls p v a q h l lv wr)(_hw:w.heap.size<=ws.heap.size)(k:eg wr p v a v a2 w2):qk w ws Ls p v a2 q h l lv w2 where
 at_:=k.at_
 foot g hg:=(k.foot g hg).elim (s.foot g) (fun h1=>aux s.keep.size h1)
 keep:=s.keep.trans k.mod (fun g hl hg=>by have:=s.foot g hg;omega)
 plan:=s.plan.to (__v:=v) (__u:=v) k.mod k.foot
 size:=aux s.size k.mod.size
 own b hb:=⟨(s.own b hb).1,(k.mod.block b (auL (s.own b hb).1 s.size) (s.own b hb).2.2).trans (s.own b hb).2.1,fun hf=>(k.foot b hf).elim (s.own b hb).2.2 (fun h1=>by have:=(s.own b hb).1;have:=s.size;omega)⟩
theorem qk.cell (s:qk w ws Ls p v a q h l lv wr){c:Addr}{x:Value}(hb:Ls c.block)(hc:ws.cell? c=some x):wr.cell? c=some x:=by
 rw[World.cell?_of_block (w:=ws) (s.own c.block hb).2.1];exact hc
end
def uM (v:Vs)(n:Nat):az:=match v.rd n with
 | .ok s=>s
 | .error _=>[]
theorem ye {v:Vs}(hg:io v){b t:az}{h:Hd}{l:List Nat}(hp:iS v b t=.ok (h,l)):∀ n∈l,1<=n/\n<v.blocks/\v.rd n=.ok (uM v n)/\(uM v n).length<=240:=by
 have key:∀ x∈v.b.list,∀ n,am (co v x) n=true->1<=n/\n<v.blocks/\v.rd n=.ok (uM v n)/\(uM v n).length<=240:=by
  intro x hx n hn;obtain⟨h1,h2,s,h3,h4⟩:=Av hg hx n hn;have:uM v n=s:=by unfold uM;rw[h3]
  exact⟨h1,h2,by rw[this];exact h3,by rw[this];exact h4⟩
 intro n hn;unfold iS at hp
 cases hd:cX v b t with
 |error e=>rw[hd]at hp;cases hp
 |ok x=>
  obtain⟨mX,drop⟩:=x;rw[hd]at hp;simp only at hp;split at hp
  ·cases hp
  ·injection hp with hp;injection hp with _ hp;subst hp;rw[mw]at hn;unfold cX at hd;split at hd
   ·cases hd
   ·split at hd
    ·cases hd
    ·rename_i y hy
     split at hd
     ·injection hd with hd;injection hd with hd _;subst hd;exact key y (da hy) n hn
     ·split at hd
      ·cases hd
      ·injection hd with hd;injection hd with hd _;subst hd;rw[ku,auT]at hn;exact key y (da hy) n hn.1
structure RA (v:Vs)(b t:az)(h:Hd)(l:List Nat):Prop where
 diff:cX v b t=.ok (cj (cX v b t),cS (cX v b t))
 list:l=cy (cj (cX v b t))
 id:h.id=bT v.b.list t
 base:h.base=bT v.b.list b
 less:bT v.b.list b<bT v.b.list t
 name:h.name=t/\aG t=true
 first:((aK v.b.list h.name).getD dY).id=h.id
 count:h.count=(l.length:Int)
 drop:h.drop=cS (cX v b t)
 few:l.length<=4800
theorem Az {v:Vs}(hg:io v){b t:az}{h:Hd}{l:List Nat}(hp:iS v b t=.ok (h,l)):RA v b t h l:=by
 unfold iS at hp
 cases hd:cX v b t with
 |error e=>rw[hd]at hp;cases hp
 |ok x=>
  obtain⟨mX,drop⟩:=x;have adZ:=(Vp hg b t).1;rw[hd]at hp adZ;simp only at hp;have nZ:∃ y,aK v.b.list t=some y/\aG t=true:=by
   unfold cX at hd;split at hd
   ·cases hd
   ·rename_i c
    cases hy:aK v.b.list t with
    |none=>rw[hy]at hd;cases hd
    |some y=>exact⟨y,rfl,by cases hn:aG t with|true=>rfl|false=>exact absurd (.inl hn) c⟩
  obtain⟨y,hy,nZ⟩:=nZ;have TF:y.name=t:=by
   have:=avx hy;simpa using this
  split at hp
  ·cases hp
  ·rename_i aL
   injection hp with hp;injection hp with h1 h2;rw[<-fZ hg.list.names,<-fZ hg.list.names]at aL;have e1:h.name=t:=by rw[<-h1];show((aK v.b.list t).getD dY).name=t;rw[hy];exact TF
   refine⟨by rw[hd];rfl,by rw[hd];exact h2.symm,by rw[<-h1,fZ hg.list.names],by rw[<-h1,fZ hg.list.names],by omega,⟨e1,nZ⟩,by rw[e1,<-h1],by rw[<-h1,h2],by rw[hd,<-h1];rfl,?_⟩;rw[<-h2];have:=rY mX;show(cy mX).length<=4800;have hf:mX.length<=600:=adZ;omega
end
section
open Go.RowKit
attribute [local go_sem] auv
section
variable {w ws wr w2:World}{Ls:Nat->Prop}{p:Nat}{v u:Vs}{a a2:eF}{q:Nat}{h:Hd}{l:List Nat}{lv:Value}
theorem qk.did (s:qk w ws Ls p v a q h l lv wr)(_hw:w.heap.size<=ws.heap.size)(k:Ve wr p v a u a2 w2):qk w ws Ls p u a2 q h l lv w2 where
 at_:=k.at_
 foot g hg:=(k.foot g hg).elim (s.foot g) (fun h1=>aux s.keep.size h1)
 keep:=s.keep.trans k.mod (fun g hl hg=>by have:=s.foot g hg;omega)
 plan:=s.plan.to (__v:=v) (__u:=u) k.mod k.foot
 size:=aux s.size k.mod.size
 own b hb:=⟨(s.own b hb).1,(k.mod.block b (auL (s.own b hb).1 s.size) (s.own b hb).2.2).trans (s.own b hb).2.1,fun hf=>(k.foot b hf).elim (s.own b hb).2.2 (fun h1=>by have:=(s.own b hb).1;have:=s.size;omega)⟩
end
end
def an (v:Vs)(b:az)(h:Hd):az:=if b=[]then []else bQ (cj (cX v [] b)) h.drop
structure cn (v:Vs)(b:az)(h:Hd)(l:List Nat)(y:Sn):Prop where
 mem:y∈v.b.list
 table:h.table=y.table
 diff:b≠[]->ef (cX v [] b)=0
 few:(an v b h).length<=600/\h.drop.length<=600
 none:∀ n∈l,am (an v b h) n=false
 all:∀ s,ga s->(∀ n,am s n=true↔am (co v y) n=true)->eH (an v b h) (iO l)=s
 up:l.Pairwise (·<·)
theorem bm {v:Vs}(hg:io v){b t:az}{h:Hd}{l:List Nat}(hp:iS v b t=.ok (h,l)):∃ y,cn v b h l y:=by
 have adZ:=Vp hg b t;unfold iS at hp
 cases hd:cX v b t with
 |error e=>rw[hd]at hp;cases hp
 |ok x=>
  obtain⟨mX,drop⟩:=x;rw[hd]at hp adZ;simp only at hp;split at hp
  ·cases hp
  ·injection hp with hp;injection hp with h1 h2;obtain⟨_,y,hy,hq⟩:=Ry hd;have ht:h.table=y.table:=by rw[<-h1,hy];rfl
   have Sl:h.drop=drop:=by rw[<-h1]
   have Fz:h.drop.length<=600:=by rw[Sl];exact adZ.2
   have yh:l.Pairwise (·<·):=by rw[<-h2];exact a8 _
   have Cw:∀ n,n∈l↔am mX n=true:=fun n=>by rw[<-h2];exact mw
   have KM:∀ n,am (iO l) n=am mX n:=fun n=>by
    rw[vL]
    cases hc:am mX n with
    |true=>simpa using(Cw n).2 hc
    |false=>
     have:n∉l:=fun hn=>by rw[(Cw n).1 hn]at hc;cases hc
     simpa using this
   rcases hq with⟨hb,e⟩|⟨hb,u,hu,e⟩
   ·injection e with e1 e2;have bO:an v b h=[]:=auI hb;refine⟨y,da hy,ht,fun hn=>absurd hb hn,⟨by rw[bO];simp,Fz⟩,fun n _=>by rw[bO];rfl,fun s hs I1=>?_,yh⟩;rw[bO];refine T3 (iW _ _ _) hs fun n=>?_;rw[jL,gJ,Bool.false_or,KM,e1];exact avh.2 (I1 n).symm
   ·injection e with e1 e2;have eW:cX v [] b=.ok (co v u,[]):=by
     have Cd:aG b=true:=by
      unfold cX at hd;split at hd
      ·cases hd
      ·rename_i c
       cases hn:aG b with
       |true=>rfl
       |false=>exact absurd (.inr ⟨hb,hn⟩) c
     unfold cX;rw[auK (by rw[Cd];simp),hu];simp
    have bO:an v b h=bQ (co v u) (bQ (co v u) (co v y)):=by
     unfold an;rw[auK hb,eW,Sl,e2];rfl
    have fd:∀ n,am (an v b h) n=(am (co v u) n&&am (co v y) n):=fun n=>by
     rw[bO,ku,ku]
     cases am (co v u) n<;>cases am (co v y) n<;>rfl
    refine⟨y,da hy,ht,fun _=>by rw[eW];rfl,⟨?_,Fz⟩,fun n hn=>?_,fun s hs I1=>?_,yh⟩
    ·rw[bO];have h3:=ji (co v u) (bQ (co v u) (co v y));have h4:=ji (co v u) (co v y);have h5:=fN hg (da hy);have h6:=fN hg (da hu);omega
    ·have:=(Cw n).1 hn;rw[e1,ku,auT]at this;rw[fd]
     cases hy1:am (co v u) n with
     |true=>rw[hy1]at this;cases this.2
     |false=>rfl
    ·refine T3 (iW _ _ _) hs fun n=>?_;rw[jL,fd,KM,e1,ku];have h7:am s n=am (co v y) n:=avh.2 (I1 n);rw[h7]
     cases am (co v u) n<;>cases am (co v y) n<;>rfl
def ao (l:List Nat)(k:Nat):Nat:=(l.take k).getLastD 0
theorem a0 {l:List Nat}{k n:Nat}(h:l[k]?=some n):ao l (k+1)=n:=by
 unfold ao;rw[auD,h];simp
theorem cb {l:List Nat}(h:l.Pairwise (·<·)){k n:Nat}(hk:l[k]?=some n)(h1:1<=n):ao l k<n:=by
 cases k with
 |zero=>show 0<n;omega
 |succ j=>
  have CB:=(auP.1 hk).1;have e:ao l (j+1)=l[j]:=a0 (auB (by omega));rw[e];have:=(List.pairwise_iff_getElem.1 h) j (j+1) (by omega) CB (by omega);rw[auB CB]at hk;injection hk with hk;omega
theorem b0 {v:Vs}(h:io v){y:Sn}(hy:y∈v.b.list):∃ ac a6,qQ ac=true/\j0 v.rd ac a6 y.table (fun n=>am (co v y) n=true):=by
 obtain⟨ac,a6,hn,hT⟩:=h.snaps y hy;obtain⟨A,B,hA,hB,hS⟩:=hT;exact⟨ac,a6,U2 hA hn.toNodesOk,A,B,hA,hB,hS⟩
end Go.Proofs.YtkghpdcloaiflaaGreatDoor
