import Derived.Test.YtkghpdcloaiflaaGreatDoorH21
import Derived.Test.YtkghpdcloaiflaaGreatDoorH28
set_option maxHeartbeats 8000000
set_option maxRecDepth 100000
namespace Go.Proofs.YtkghpdcloaiflaaGreatDoor
open _root_.Go.Proofs.Tryz
variable {F:Nat->Prop}{p sz:Nat}{w w':World}{was:Int}
section
open Go.RowKit Go.Shelf
def tq (pv pl:Nat)(b:iX)(iv sv nv:Value)(pm pt:Nat):Array Value:=
 #[au pv,au pl,.int .i64 b.table.root,.int .i64 b.table.size,.int .i64 b.snaps.root,.int .i64 b.snaps.size,.int .i64 b.mapped.root,.int .i64 b.mapped.size,.int .i64 (b.next:Int),.int .i64 (b.id:Int),iv,sv,au pm,nv,au pt,.bool false]
structure eX where
 pv:Nat
 pl:Nat
 pm:Nat
 pt:Nat
 iv:Value
 sv:Value
 nv:Value
 d:Dk
 dl:Dk
 text:ay
 role:Nat->dE
 Fv:Nat->Prop
 Fl:Nat->Prop
def eX.still (a:eX)(b:Nat):Prop:=b=a.pm\/a.role b≠.none\/a.iv.ownBlock=some b\/a.sv.ownBlock=some b\/a.nv.ownBlock=some b
def eX.foot (a:eX)(p b:Nat):Prop:=b=p\/a.Fv b\/a.Fl b\/a.still b
structure lc (w:World)(p:Nat)(v:Vs)(a:eX):Prop where
 own:World.blk w p (tq a.pv a.pl v.b a.iv a.sv a.nv a.pm a.pt) 102
 vol:gS w a.pv a.d a.text v.num a.Fv
 rd:il a.d=v.rd
 size:a.d.size/4=v.blocks
 log:kK w a.pl a.dl v.num v.recs a.Fl
 half:bH a.dl*64=v.half
 inos:dX jA 5 128 w 0 a.iv v.b.inodes
 list:dX uj 5 85 w 0 a.sv v.b.list
 nodes:dX gt 4 221 w 0 a.nv v.b.nodes
 map:dp w a.pm v.blocks v.b.planes
 tree:∃ tb A M,aS w a.pt v.T tb A M a.role
 wf:∃ d,WF v.T d
 apart:∀ b,a.Fv b->¬ a.Fl b
 nv:¬ a.Fv p
 nl:¬ a.Fl p
 stays:∀ b,a.still b->¬ a.Fv b/\¬ a.Fl b/\b≠p
theorem dY {α:Type}{f:α->List Value}{t:TypeId}{v:Value}{l:List α}(h:dX f sz t w 0 v l){g:Nat}(hg:v.ownBlock=some g):g<w.heap.size:=aX h hg
theorem gS.lt {v:Nat}{d:Dk}{text:ay}{num:Nat}(h:gS w v d text num F)(b:Nat)(hb:F b):b<w.heap.size:=by
 obtain⟨pd,pc,M,Fd,Fc,h⟩:=h;exact h.lt b hb
theorem kK.lt {l gen:Nat}{d:Dk}{recs:List ay}(h:kK w l d gen recs F)(b:Nat)(hb:F b):b<w.heap.size:=by
 obtain⟨pd,lv,Fd,h⟩:=h;exact h.lt b hb
theorem aS.same {T:Tr}{tb:Nat}{A M:Int->Nat}{role:Nat->dE}(h:aS w p T tb A M role)(m:fy (λb=>role b≠.none) w w')(hs:w.heap.size<=w'.heap.size):aS w' p T tb A M role:=by
 have hm:ai (λb=>role b=.none) { w with os:=w'.os,tape:=w'.tape,output:=w'.output } w':=⟨rfl,rfl,rfl,hs,λk hk hn=>m k hn hk⟩
 have h0:aS { w with os:=w'.os,tape:=w'.tape,output:=w'.output } p T tb A M role:=⟨h.tree,h.rtree,h.of,h.rof,h.node,h.rnode,h.names,h.rnames,h.lt⟩
 exact h0.mod hm λb hb=>hb
theorem lc.lt {v:Vs}{a:eX}(h:lc w p v a){b:Nat}(hb:a.foot p b):b<w.heap.size:=by
 rcases hb with rfl|hb|hb|rfl|hb|hb|hb|hb
 ·exact ak h.own
 ·exact h.vol.lt b hb
 ·exact h.log.lt b hb
 ·exact h.map.lt
 ·obtain⟨tb,A,M,t⟩:=h.tree;exact t.lt b hb
 ·exact dY h.inos hb
 ·exact dY h.list hb
 ·exact dY h.nodes hb
theorem lc.same {v:Vs}{a:eX}(h:lc w p v a)(m:fy (a.foot p) w w')(hs:w.heap.size<=w'.heap.size):lc w' p v a where
 own:=(m p (.inl rfl) (ak h.own)).trans h.own
 vol:=h.vol.same (λb hb hl=>m b (.inr (.inl hb)) hl) hs
 rd:=h.rd
 size:=h.size
 log:=h.log.same (λb hb hl=>m b (.inr (.inr (.inl hb))) hl) hs
 half:=h.half
 inos:=aA h.inos λb hb=>m b (.inr (.inr (.inr (.inr (.inr (.inl hb)))))) (dY h.inos hb)
 list:=aA h.list λb hb=>m b (.inr (.inr (.inr (.inr (.inr (.inr (.inl hb))))))) (dY h.list hb)
 nodes:=aA h.nodes λb hb=>m b (.inr (.inr (.inr (.inr (.inr (.inr (.inr hb))))))) (dY h.nodes hb)
 map:=⟨(m a.pm (.inr (.inr (.inr (.inl rfl)))) h.map.lt).trans h.map.own,h.map.many,h.map.eight,h.map.short⟩
 tree:=by
  obtain⟨tb,A,M,t⟩:=h.tree;exact⟨tb,A,M,t.same (λb hb hl=>m b (.inr (.inr (.inr (.inr (.inl hb))))) hl) hs⟩
 wf:=h.wf
 apart:=h.apart
 nv:=h.nv
 nl:=h.nl
 stays:=h.stays
def ld (pv size:Nat)(text:ay)(num:Nat)(rd:Rd)(w:World)(F:Nat->Prop):Prop:=∃ d,gS w pv d text num F/\il d=rd/\d.size=size
theorem IG {d:Dk}{n:Int}{p:ay}(h:il d n=.ok p):1<=n/\n<(d.size/4:Nat):=by
 unfold il at h;split at h
 ·assumption
 ·cases h
theorem nr (pv size:Nat)(text:ay)(num:Nat)(rd:Rd):qg 94 (au pv) 57 (ld pv size text num rd) rd where
 meth _:=kr7
 call _ _:=kr7
 read:=by
  rintro w F n p ⟨d,h,rfl,rfl⟩ hn;obtain⟨h1,h2⟩:=IG hn;obtain⟨k,rfl⟩:∃ k:Nat,n=k:=⟨n.toNat,J⟩
  refine(zC h k J J p hn).mono ?_;rintro e w' ⟨rfl,F',h',k'⟩;exact⟨rfl,F',⟨d,h',rfl,rfl⟩,k'⟩
 same:=by
  rintro w w' F ⟨d,h,h1,h2⟩ m hs;exact⟨d,h.same m hs,h1,h2⟩
 lt:=by
  rintro w F ⟨d,h,h1,h2⟩ b hb;exact h.lt b hb
theorem II (pv size:Nat)(text:ay)(num:Nat):zY 94 (au pv) 57 393 (ld pv size text num) (size/4) where
 src rd:=nr pv size text num rd
 methW _:=kr7
 callW _ _ _:=kr7
 write:=by
  rintro rd w F n p ⟨d,h,rfl,rfl⟩ h1 h2 hp;refine(GJ h n h1 h2 p hp).mono ?_;rintro e w' ⟨rfl,F',h',k'⟩;exact⟨rfl,F',⟨_,h',CX h1 h2 hp,jr d n _ 4⟩,k'⟩
theorem mF (w:World):Calls prog 129 #[.int .i64 0] w λe w'=>e=.returned (.tuple #[])/\w'=w:=by
 go_enter func129,ntmps129;go_wp2_with fail;go_end0;exact⟨rfl,rfl⟩
end
section
open Go.RowKit
theorem xy:∀ {l:List fD} {was:Int},0<=was->yN was l=true->∀ x∈l,0<x.num
 |[],_,_,_,x,hx=>by simp at hx
 |y::r,was,h0,h,x,hx=>by
  simp only[yN,awo,awt]at h;rcases aws.1 hx with rfl|hx
  ·omega
  ·exact xy (l:=r) (was:=y.num) J h.2 x hx
theorem Km {x:fD}(h:xp was x)(h0:0<x.num):0<=x.num/\x.num<=1099511627776/\0<=x.links/\x.links<=1099511627776/\0<=x.blob.root/\x.blob.root<=1099511627776/\0<=x.blob.size/\x.blob.size<=1099511627776:=by
 obtain⟨h1,h2,h3,h4,h5⟩:=h;simp only[fI.ok,fI.may,awo,awt]at h5;omega
theorem rV {x:fD}(h:xp was x)(h0:0<x.num)(j:Nat):((cA x).take j).flatten.length<=100:=by
 have hn:=Km h h0;have q0:=aK (n:=x.num.toNat) J;have q1:(aD (if x.dir=true then 1 else 0)).length<=9:=aK (by split<;>omega);have q2:=aK (n:=x.links.toNat) J;have q3:=aK (n:=x.blob.root.toNat) J;have q4:=aK (n:=x.blob.size.toNat) J;have hf:(cA x).flatten.length<=100:=by simp[cA];omega
 have:(cA x).flatten=((cA x).take j).flatten++((cA x).drop j).flatten:=by rw[<-List.flatten_append,List.take_append_drop]
 rw[this,awn]at hf;omega
theorem IJ {l:List fD}(h:yN 0 l=true)(hl:l.length<=4096)(k:Nat):(aD l.length++(l.take k).flatMap nQ).length<=1000000:=by
 have key:∀(m:List fD),(∀ x∈m,(nQ x).length<=100)->(m.flatMap nQ).length<=m.length*100:=by
  intro m
  induction m with
  |nil=>intro _;simp
  |cons y r ih=>
   intro hm;have:=ih (λx hx=>hm x (by simp[hx]));have:=hm y sp7;rw[awL,awn,av5];omega
 have h1:=key (l.take k) (λx hx=>by
  obtain⟨i,hi,rfl⟩:=List.getElem_of_mem (awb hx);have:=rV (ul h (av6 hi)) (xy (Int.le_refl 0) h _ (awF hi)) 5
  rwa [awQ (by simp[cA]),rT]at this)
 have h2:=aK (n:=l.length) J;have h3:(l.take k).length<=4096:=by rw[awc];omega
 rw[awn];omega
theorem Q7 (x:fD)(h:0<=x.num/\x.num<=1099511627776/\0<=x.links/\x.links<=1099511627776/\0<=x.blob.root/\x.blob.root<=1099511627776/\0<=x.blob.size/\x.blob.size<=1099511627776)(j:Nat)(hj:j<5):
  ∃ m:Nat,(m:Int)<=1099511627776/\(#[.iface 3 (.int .i64 x.num),.iface 3 (.int .i64 (if x.dir=true then 1 else 0)),.iface 3 (.int .i64 x.links),.iface 3 (.int .i64 x.blob.root),.iface 3 (.int .i64 x.blob.size)]:Array Value)[j]?=some (.iface 3 (.int .i64 (m:Int)))/\((cA x).take j).flatten++aD m=((cA x).take (j+1)).flatten:=by
 have ii:∀ {a:Int},0<=a->((a.toNat:Nat):Int)=a:=λh=>J
 rcases(by omega:j=0\/j=1\/j=2\/j=3\/j=4)with rfl|rfl|rfl|rfl|rfl
 ·exact⟨x.num.toNat,J,by rw[ii h.1];rfl,by simp[cA]⟩
 ·exact⟨if x.dir=true then 1 else 0,by split<;>decide,by cases x.dir<;>rfl,by simp[cA]⟩
 ·exact⟨x.links.toNat,J,by rw[ii h.2.2.1];rfl,by simp[cA]⟩
 ·exact⟨x.blob.root.toNat,J,by rw[ii h.2.2.2.2.1];rfl,by simp[cA]⟩
 ·exact⟨x.blob.size.toNat,J,by rw[ii h.2.2.2.2.2.2.1];rfl,by simp[cA]⟩
theorem ED (l:List fD)(v:Value)(w:World)(cq:ms jA 5 w v l)(bZ:qJ l=true):
  Calls prog 259 #[uY,v] w λe w'=>e=.returned (.tuple #[.string ⟨(jV l).toArray⟩,.int .i64 0])/\af w w':=by
 obtain⟨a,cap,rfl,hx⟩:=cq;have HX:=Z hx;clear hx;simp only[qJ,awo,awt]at bZ;obtain⟨bt,hB⟩:=bZ;have Ga:=Z hB;clear hB;have h1:¬(4096:Int)<l.length:=J
 have Hl:=Z bt;clear bt;go_enter func259,ntmps259;go_wp2_with fail;refine(lB l.length _ (by have:=Hl.o;omega)).mono ?_;rintro e w2 ⟨rfl,dK⟩;have SC:Hid (World.blk w2 w.heap.size #[.func (.func 277) #[] #[],.func (.func 278) #[] #[],.func (.func 280) #[] #[]] 308):=Z (ab dK (aE (av _ _ _) _) id);have Zi:Hid (cX (w.heap.size+1) (w.heap.size+1) [] w2):=Z (by
  have h:=mS (w.alloc (.cells #[.func (.func 277) #[] #[],.func (.func 278) #[] #[],.func (.func 280) #[] #[]] 308));rw[show(w.alloc (.cells #[.func (.func 277) #[] #[],.func (.func 278) #[] #[],.func (.func 280) #[] #[]] 308)).heap.size=w.heap.size+1 by simp]at h;exact cr h dK)
 have bJ:=Z (cZ (cZ dK));have le:=dK.size;simp at le;clear dK;go_wp2_with fail;refine(jj (w.heap.size+1) (w.heap.size+1) [] (aD l.length) w2 Zi.o (by have:=aK (n:=l.length) (by have:=Hl.o;omega);simp;omega) J).mono ?_;rintro e w3 ⟨rfl,sK,ye,nS⟩;obtain⟨Gc,qv,ez⟩:=K3 (ab nS SC.o (cO J SC.o dc7)) sK (cW bJ.o ye J);have Cr:=ye.size;rw[awE]at qv;clear sK ye nS SC Zi bJ;go_wp2_with fail;obtain⟨wb,Jp⟩:∃ wb,wb=w3.heap.size:=⟨_,rfl⟩
 have Zq:Hid (World.blk (w3.alloc (.cells #[.int .i64 0,.bool false,.int .i64 0,.int .i64 0,.int .i64 0] 128)) wb #[.int .i64 0,.bool false,.int .i64 0,.int .i64 0,.int .i64 0] 128):=Z (aV Jp _ _);obtain⟨Zr,nE,eR⟩:=K3 (aE Gc.o (.cells #[.int .i64 0,.bool false,.int .i64 0,.int .i64 0,.int .i64 0] 128)) (cr qv.o ((ai.refl (λ_=>False) w3).alloc (.cells #[.int .i64 0,.bool false,.int .i64 0,.int .i64 0,.int .i64 0] 128))) (ez.alloc (.cells #[.int .i64 0,.bool false,.int .i64 0,.int .i64 0,.int .i64 0] 128));have afd:w.heap.size+2<=wb:=J
 clear Gc qv ez;rw[<-Jp];generalize w3.alloc (.cells #[.int .i64 0,.bool false,.int .i64 0,.int .i64 0,.int .i64 0] 128)=w4 at*;clear Jp Cr le
 go_loopw [30] (λi wr=>∃ k:Nat,k<=l.length/\i=.int .i64 (k:Int)/\af w wr/\World.blk wr w.heap.size #[.func (.func 277) #[] #[],.func (.func 278) #[] #[],.func (.func 280) #[] #[]] 308/\World.blk wr wb #[.int .i64 (cy l k).num,.bool (cy l k).dir,.int .i64 (cy l k).links,.int .i64 (cy l k).blob.root,.int .i64 (cy l k).blob.size] 128/\cX (w.heap.size+1) (w.heap.size+1) (aD l.length++(l.take k).flatMap nQ) wr) (λi _=>l.length-(intOf i).toNat)
 case atStart=>exact⟨0,J,rfl,eR.o,Zr.o,Zq.o,by simpa using nE.o⟩
 case round=>
  clear Zr Zq nE eR;obtain⟨wo,rfl⟩:∃ wo,wo=wr:=⟨_,rfl⟩
  obtain⟨k,hk,rfl,hK,hF,hW,hB⟩:=hrel;obtain⟨HK,HF,HW,HB⟩:=K4 hK hF hW hB;clear hK hF hW hB;by_cases aP:k<l.length
  ·obtain⟨x,hx⟩:∃ x,l[k]?=some x:=⟨_,av6 aP⟩
   obtain⟨Hx,FH,Oo⟩:=K3 hx (ul Ga.o hx) (xy (Int.le_refl 0) Ga.o x (av7 hx));clear hx;obtain⟨b,o,rfl,hc⟩:=HX.o k x Hx.o;have c0:wo.cell? ⟨b,o+k*5,none⟩=some (.int .i64 x.num):=by have h:=hc 0 _ rfl;rw[HK.cell (p:=⟨b,o+k*5,none⟩) (am h) id];exact h
   have c1:wo.cell? ⟨b,o+k*5+1,none⟩=some (.bool x.dir):=by have h:=hc 1 _ rfl;rw[HK.cell (p:=⟨b,o+k*5+1,none⟩) (am h) id];exact h
   have c2:wo.cell? ⟨b,o+k*5+2,none⟩=some (.int .i64 x.links):=by have h:=hc 2 _ rfl;rw[HK.cell (p:=⟨b,o+k*5+2,none⟩) (am h) id];exact h
   have c3:wo.cell? ⟨b,o+k*5+3,none⟩=some (.int .i64 x.blob.root):=by have h:=hc 3 _ rfl;rw[HK.cell (p:=⟨b,o+k*5+3,none⟩) (am h) id];exact h
   have c4:wo.cell? ⟨b,o+k*5+4,none⟩=some (.int .i64 x.blob.size):=by have h:=hc 4 _ rfl;rw[HK.cell (p:=⟨b,o+k*5+4,none⟩) (am h) id];exact h
   have f0:wo.cell? ⟨w.heap.size,0,none⟩=some (.func (.func 277) #[] #[]):=aa HF.o 0;have f1:wo.cell? ⟨w.heap.size,1,none⟩=some (.func (.func 278) #[] #[]):=aa HF.o 1;have g0:wo.cell? ⟨wb,0,none⟩=some (.int .i64 (cy l k).num):=aa HW.o 0;have g1:wo.cell? ⟨wb,1,none⟩=some (.bool (cy l k).dir):=aa HW.o 1;have g2:wo.cell? ⟨wb,2,none⟩=some (.int .i64 (cy l k).links):=aa HW.o 2;have g3:wo.cell? ⟨wb,3,none⟩=some (.int .i64 (cy l k).blob.root):=aa HW.o 3;have g4:wo.cell? ⟨wb,4,none⟩=some (.int .i64 (cy l k).blob.size):=aa HW.o 4;obtain⟨fb,hq⟩:∃ fb,((k:Int)==0)=fb:=⟨_,rfl⟩
   have z0:w.heap.size<wo.heap.size:=ak HF.o;have z1:wb<wo.heap.size:=ak HW.o;clear hc;go_wp2_with fail;refine(IB (cy l k) x fb FH.o _).mono ?_;rintro e w5 ⟨rfl,kV⟩;obtain⟨FY,mM,tK,F0,nD⟩:=K5 (ab kV (aE HF.o _) id) (ab kV (aE HW.o _) id) (ab kV (av wo _ _) id) (cr HB.o (cZ kV)) (HK.keep (cZ kV));have Gb:=kV.size;simp at Gb;clear kV c0 c1 c2 c3 c4 f0 f1 g0 g1 g2 g3 g4 z0 HF HW HB HK hq;generalize wo.heap.size=xb at*;have f1:w5.cell? ⟨w.heap.size,1,none⟩=some (.func (.func 278) #[] #[]):=aa FY.o 1;have g0:w5.frozen? ⟨wb,0,none⟩=false:=ae mM.o _ rfl;have d0:w5.cell? ⟨wb,0,none⟩=some (.int .i64 (cy l k).num):=aa mM.o 0;have e0:w5.cell? ⟨xb,0,none⟩=some (.int .i64 x.num):=aa tK.o 0;have g1:w5.frozen? ⟨wb,1,none⟩=false:=ae mM.o _ rfl;have d1:w5.cell? ⟨wb,1,none⟩=some (.bool (cy l k).dir):=aa mM.o 1;have e1:w5.cell? ⟨xb,1,none⟩=some (.bool x.dir):=aa tK.o 1;have g2:w5.frozen? ⟨wb,2,none⟩=false:=ae mM.o _ rfl;have d2:w5.cell? ⟨wb,2,none⟩=some (.int .i64 (cy l k).links):=aa mM.o 2;have e2:w5.cell? ⟨xb,2,none⟩=some (.int .i64 x.links):=aa tK.o 2;have g3:w5.frozen? ⟨wb,3,none⟩=false:=ae mM.o _ rfl;have d3:w5.cell? ⟨wb,3,none⟩=some (.int .i64 (cy l k).blob.root):=aa mM.o 3;have e3:w5.cell? ⟨xb,3,none⟩=some (.int .i64 x.blob.root):=aa tK.o 3;have g4:w5.frozen? ⟨wb,4,none⟩=false:=ae mM.o _ rfl;have d4:w5.cell? ⟨wb,4,none⟩=some (.int .i64 (cy l k).blob.size):=aa mM.o 4;have e4:w5.cell? ⟨xb,4,none⟩=some (.int .i64 x.blob.size):=aa tK.o 4;have n1:¬ w.heap.size=wb:=J
   have n2:¬ xb=wb:=J
   go_wp2_with fail;refine(IC x _).mono ?_;rintro e w7 ⟨pb,rfl,nX,pV,qs⟩;have tM:ai (·=wb) w5 (((((w5.setCell ⟨wb,0,none⟩ (.int .i64 x.num)).setCell ⟨wb,1,none⟩ (.bool x.dir)).setCell ⟨wb,2,none⟩ (.int .i64 x.links)).setCell ⟨wb,3,none⟩ (.int .i64 x.blob.root)).setCell ⟨wb,4,none⟩ (.int .i64 x.blob.size)):=((((((ai.refl (λy=>y=wb) w5).setCell (p:=⟨wb,0,none⟩) (.inl rfl) _).setCell (p:=⟨wb,1,none⟩) (.inl rfl) _).setCell (p:=⟨wb,2,none⟩) (.inl rfl) _).setCell (p:=⟨wb,3,none⟩) (.inl rfl) _).setCell (p:=⟨wb,4,none⟩) (.inl rfl) _)
   have Yr:=Z (ab pV (ab tM FY.o n1) id);have Kx:=Z (cr (uP F0.o tM J (λq c fr hq e=>by
    subst e;have:=mM.o;unfold World.blk at this;rw[this]at hq
    cases hq)) pV)
   have Yo:Hid (World.blk w7 wb #[.int .i64 x.num,.bool x.dir,.int .i64 x.links,.int .i64 x.blob.root,.int .i64 x.blob.size] 128):=Z (ab pV (ah (ah (ah (ah (ah mM.o 0 _) 1 _) 2 _) 3 _) 4 _) id);obtain⟨yY,CI⟩:=K2 ((nD.new tM J).keep pV) qs;have hpw:wb<pb:=by
    have h:=ak mM.o;have e:=tM.size;omega
   have Cv:=Z (Km FH.o Oo.o);clear pV qs tM f1 g0 d0 e0 g1 d1 e1 g2 d2 e2 g3 d3 e3 g4 d4 e4 n1 n2 FY mM tK F0 nD Gb nX;have N0:Hid ((aD l.length++(l.take k).flatMap nQ).length<=1000000):=Z (IJ Ga.o Hl.o k);generalize tN:aD l.length++(l.take k).flatMap nQ=pre at*;have Jk:=Z tN;clear tN;go_wp2_with fail
   go_loopw [49] (λi wr=>∃ j:Nat,j<=5/\i=.int .i64 (j:Int)/\af w wr/\World.blk wr w.heap.size #[.func (.func 277) #[] #[],.func (.func 278) #[] #[],.func (.func 280) #[] #[]] 308/\World.blk wr wb #[.int .i64 x.num,.bool x.dir,.int .i64 x.links,.int .i64 x.blob.root,.int .i64 x.blob.size] 128/\World.blk wr pb #[.iface 3 (.int .i64 x.num),.iface 3 (.int .i64 (if x.dir=true then 1 else 0)),.iface 3 (.int .i64 x.links),.iface 3 (.int .i64 x.blob.root),.iface 3 (.int .i64 x.blob.size)] 20/\cX (w.heap.size+1) (w.heap.size+1) (pre++((cA x).take j).flatten) wr) (λi _=>5-(intOf i).toNat)
   case atStart=>exact⟨0,J,rfl,yY.o,Yr.o,Yo.o,CI.o,by simpa using Kx.o⟩
   case round=>
    clear Yr Kx Yo yY CI;obtain⟨j,hj,rfl,hK,hF,hW,hP,hB⟩:=hrel;obtain⟨HK,HF,HW,HP,HB⟩:=K5 hK hF hW hP hB;clear hK hF hW hP hB;by_cases hj5:j<5
    ·obtain⟨m,zn,Oy,JD⟩:=Q7 x Cv.o j hj5;have HS:=Z JD;have HLP:Hid (((cA x).take j).flatten.length<=100):=Z (rV FH.o Oo.o j);have pi:wr.cell? ⟨pb,j,none⟩=some (.iface 3 (.int .i64 (m:Int))):=by rw[aa HP.o j];exact Oy
     have a0:=qP m;have sy:(j:Int)<5:=J
     clear Oy JD;go_wp2_with fail;refine(lB m _ J).mono ?_;rintro e w8 ⟨rfl,kn⟩;obtain⟨Co,vi,sA,BX,sr⟩:=K5 (ab kn HF.o id) (ab kn HW.o id) (ab kn HP.o id) (cr HB.o kn) (HK.keep kn);clear kn HF HW HP HB HK pi a0;go_wp2_with fail;refine(jj (w.heap.size+1) (w.heap.size+1) _ (aD m) w8 BX.o (by have:=aK (n:=m) J;have:=N0.o;have:=HLP.o;simp only[awn];omega) (by have:=ak vi.o;omega)).mono ?_;rintro e w9 ⟨rfl,KM,su,tI⟩;obtain⟨Wz,Xb,pk⟩:=K3 (ab tI Co.o (cO J Co.o dc7)) (ab tI vi.o (cO J vi.o dc7)) (ab tI sA.o (cO J sA.o dc7));have OT:Hid (cX (w.heap.size+1) (w.heap.size+1) (pre++((cA x).take (j+1)).flatten) w9):=Z (by
      have h:=KM;rw[awN]at h;rw[HS.o]at h;exact h)
     have Cg:=Z (cW sr.o su J);clear KM su tI Co vi sA BX sr;go_wp2_with fail;exact⟨⟨j+1,J,by go_num,Cg.o,Wz.o,Xb.o,pk.o,OT.o⟩,by simp[intOf];omega⟩
    ·obtain rfl:j=5:=J
     go_wp2_with fail;refine⟨⟨k+1,J,by go_num,HK.o,HF.o,by rw[qi Hx.o];exact HW.o,?_⟩,by simp[intOf];omega⟩;have h:=HB.o;rw[awQ (by simp[cA]),rT]at h;have e:l.take (k+1)=l.take k++[x]:=by rw[av8,Hx.o];rfl
     rw[e];simp only[awm,awL,List.flatMap_nil,List.append_nil];rw[<-awN,Jk.o];exact h
  ·obtain rfl:k=l.length:=J
   have jg:Hid (cX (w.heap.size+1) (w.heap.size+1) (jV l) wo):=Z (by have h:=HB.o;rwa [awa]at h);go_wp2_with fail;refine(gF (w.heap.size+1) (w.heap.size+1) (jV l) wo jg.o (by have:=ak HW.o;omega)).mono ?_;rintro e w6 ⟨rfl,pX⟩;have vf:=Z (cW HK.o pX J);clear pX;go_wp2;go_ret2;exact⟨rfl,vf.o⟩
theorem By:∀ {l:List Sn} {was:Int},0<=was->Uk was l=true->∀ x∈l,0<x.id
 |[],_,_,_,x,hx=>by simp at hx
 |y::r,was,h0,h,x,hx=>by
  simp only[Uk,awo,awt]at h;rcases aws.1 hx with rfl|hx
  ·omega
  ·exact By (l:=r) (was:=y.id) J h.2 x hx
theorem Q8 {x:Sn}(h:Iz was x)(h0:0<x.id):0<=x.id/\x.id<=1099511627776/\0<=x.plane/\x.plane<=1099511627776/\0<=x.table.root/\x.table.root<=1099511627776/\0<=x.table.size/\x.table.size<=1099511627776/\x.name.length<=16:=by
 obtain⟨h1,h2,h3,h4,h5,h6⟩:=h;simp only[fI.ok,fI.may,awo,awt]at h6;have h7:=h2;simp only[aJ,awo,awt]at h7;omega
theorem oV {x:Sn}(h:Iz was x)(h0:0<x.id)(j:Nat):((cd x).take j).flatten.length<=100:=by
 have hn:=Q8 h h0;have q0:=aK (n:=x.name.length) J;have q1:=aK (n:=x.id.toNat) J;have q2:=aK (n:=x.plane.toNat) J;have q3:=aK (n:=x.table.root.toNat) J;have q4:=aK (n:=x.table.size.toNat) J;have hf:(cd x).flatten.length<=100:=by simp[cd];omega
 have:(cd x).flatten=((cd x).take j).flatten++((cd x).drop j).flatten:=by rw[<-List.flatten_append,List.take_append_drop]
 rw[this,awn]at hf;omega
theorem MB {l:List Sn}(h:Uk 0 l=true)(hl:l.length<=4096)(k:Nat):(aD l.length++(l.take k).flatMap oI).length<=1000000:=by
 have key:∀(m:List Sn),(∀ x∈m,(oI x).length<=100)->(m.flatMap oI).length<=m.length*100:=by
  intro m
  induction m with
  |nil=>intro _;simp
  |cons y r ih=>
   intro hm;have:=ih (λx hx=>hm x (by simp[hx]));have:=hm y sp7;rw[awL,awn,av5];omega
 have h1:=key (l.take k) (λx hx=>by
  obtain⟨i,hi,rfl⟩:=List.getElem_of_mem (awb hx);have:=oV (xn h (av6 hi)) (By (Int.le_refl 0) h _ (awF hi)) 5
  rwa [awQ (by simp[cd]),uk]at this)
 have h2:=aK (n:=l.length) J;have h3:(l.take k).length<=4096:=by rw[awc];omega
 rw[awn];omega
theorem VZ (x:Sn)(h:0<=x.id/\x.id<=1099511627776/\0<=x.plane/\x.plane<=1099511627776/\0<=x.table.root/\x.table.root<=1099511627776/\0<=x.table.size/\x.table.size<=1099511627776/\x.name.length<=16)(j:Nat)(h0:0<j)(hj:j<5):
  ∃ m:Nat,(m:Int)<=1099511627776/\(#[.iface 9 (.string ⟨x.name.toArray⟩),.iface 3 (.int .i64 x.id),.iface 3 (.int .i64 x.plane),.iface 3 (.int .i64 x.table.root),.iface 3 (.int .i64 x.table.size)]:Array Value)[j]?=some (.iface 3 (.int .i64 (m:Int)))/\((cd x).take j).flatten++aD m=((cd x).take (j+1)).flatten:=by
 have ii:∀ {a:Int},0<=a->((a.toNat:Nat):Int)=a:=λh=>J
 rcases(by omega:j=1\/j=2\/j=3\/j=4)with rfl|rfl|rfl|rfl
 ·exact⟨x.id.toNat,J,by rw[ii h.1];rfl,by simp[cd]⟩
 ·exact⟨x.plane.toNat,J,by rw[ii h.2.2.1];rfl,by simp[cd]⟩
 ·exact⟨x.table.root.toNat,J,by rw[ii h.2.2.2.2.1];rfl,by simp[cd]⟩
 ·exact⟨x.table.size.toNat,J,by rw[ii h.2.2.2.2.2.2.1];rfl,by simp[cd]⟩
theorem IK (l:List Sn)(v:Value)(w:World)(cq:ms uj 5 w v l)(bZ:zG l=true):
  Calls prog 210 #[Bw,v] w λe w'=>e=.returned (.tuple #[.string ⟨(jW l).toArray⟩,.int .i64 0])/\af w w':=by
 obtain⟨a,cap,rfl,hx⟩:=cq;have HX:=Z hx;clear hx;simp only[zG,awo,awt]at bZ;obtain⟨bt,hB⟩:=bZ;have Ga:=Z hB;clear hB;have h1:¬(4096:Int)<l.length:=J
 have Hl:=Z bt;clear bt;go_enter func210,ntmps210;go_wp2_with fail;refine(lB l.length _ (by have:=Hl.o;omega)).mono ?_;rintro e w2 ⟨rfl,dK⟩;have SC:Hid (World.blk w2 w.heap.size #[.func (.func 260) #[] #[],.func (.func 262) #[] #[],.func (.func 263) #[] #[]] 289):=Z (ab dK (aE (av _ _ _) _) id);have Zi:Hid (cX (w.heap.size+1) (w.heap.size+1) [] w2):=Z (by
  have h:=mS (w.alloc (.cells #[.func (.func 260) #[] #[],.func (.func 262) #[] #[],.func (.func 263) #[] #[]] 289));rw[show(w.alloc (.cells #[.func (.func 260) #[] #[],.func (.func 262) #[] #[],.func (.func 263) #[] #[]] 289)).heap.size=w.heap.size+1 by simp]at h;exact cr h dK)
 have bJ:=Z (cZ (cZ dK));have le:=dK.size;simp at le;clear dK;go_wp2_with fail;refine(jj (w.heap.size+1) (w.heap.size+1) [] (aD l.length) w2 Zi.o (by have:=aK (n:=l.length) (by have:=Hl.o;omega);simp;omega) J).mono ?_;rintro e w3 ⟨rfl,sK,ye,nS⟩;obtain⟨Gc,qv,ez⟩:=K3 (ab nS SC.o (cO J SC.o dc7)) sK (cW bJ.o ye J);have Cr:=ye.size;rw[awE]at qv;clear sK ye nS SC Zi bJ;go_wp2_with fail;obtain⟨wb,Jp⟩:∃ wb,wb=w3.heap.size:=⟨_,rfl⟩
 have Zq:Hid (World.blk (w3.alloc (.cells #[.string ⟨#[]⟩,.int .i64 0,.int .i64 0,.int .i64 0,.int .i64 0] 85)) wb #[.string ⟨#[]⟩,.int .i64 0,.int .i64 0,.int .i64 0,.int .i64 0] 85):=Z (aV Jp _ _);obtain⟨Zr,nE,eR⟩:=K3 (aE Gc.o (.cells #[.string ⟨#[]⟩,.int .i64 0,.int .i64 0,.int .i64 0,.int .i64 0] 85)) (cr qv.o ((ai.refl (λ_=>False) w3).alloc (.cells #[.string ⟨#[]⟩,.int .i64 0,.int .i64 0,.int .i64 0,.int .i64 0] 85))) (ez.alloc (.cells #[.string ⟨#[]⟩,.int .i64 0,.int .i64 0,.int .i64 0,.int .i64 0] 85));have afd:w.heap.size+2<=wb:=J
 clear Gc qv ez;rw[<-Jp];generalize w3.alloc (.cells #[.string ⟨#[]⟩,.int .i64 0,.int .i64 0,.int .i64 0,.int .i64 0] 85)=w4 at*;clear Jp Cr le
 go_loopw [30] (λi wr=>∃ k:Nat,k<=l.length/\i=.int .i64 (k:Int)/\af w wr/\World.blk wr w.heap.size #[.func (.func 260) #[] #[],.func (.func 262) #[] #[],.func (.func 263) #[] #[]] 289/\World.blk wr wb #[.string ⟨(dg l k).name.toArray⟩,.int .i64 (dg l k).id,.int .i64 (dg l k).plane,.int .i64 (dg l k).table.root,.int .i64 (dg l k).table.size] 85/\cX (w.heap.size+1) (w.heap.size+1) (aD l.length++(l.take k).flatMap oI) wr) (λi _=>l.length-(intOf i).toNat)
 case atStart=>exact⟨0,J,rfl,eR.o,Zr.o,Zq.o,by simpa using nE.o⟩
 case round=>
  clear Zr Zq nE eR;obtain⟨wo,rfl⟩:∃ wo,wo=wr:=⟨_,rfl⟩
  obtain⟨k,hk,rfl,hK,hF,hW,hB⟩:=hrel;obtain⟨HK,HF,HW,HB⟩:=K4 hK hF hW hB;clear hK hF hW hB;by_cases aP:k<l.length
  ·obtain⟨x,hx⟩:∃ x,l[k]?=some x:=⟨_,av6 aP⟩
   obtain⟨Hx,FH,Oo⟩:=K3 hx (xn Ga.o hx) (By (Int.le_refl 0) Ga.o x (av7 hx));clear hx;obtain⟨b,o,rfl,hc⟩:=HX.o k x Hx.o;have c0:wo.cell? ⟨b,o+k*5,none⟩=some (.string ⟨x.name.toArray⟩):=by have h:=hc 0 _ rfl;rw[HK.cell (p:=⟨b,o+k*5,none⟩) (am h) id];exact h
   have c1:wo.cell? ⟨b,o+k*5+1,none⟩=some (.int .i64 x.id):=by have h:=hc 1 _ rfl;rw[HK.cell (p:=⟨b,o+k*5+1,none⟩) (am h) id];exact h
   have c2:wo.cell? ⟨b,o+k*5+2,none⟩=some (.int .i64 x.plane):=by have h:=hc 2 _ rfl;rw[HK.cell (p:=⟨b,o+k*5+2,none⟩) (am h) id];exact h
   have c3:wo.cell? ⟨b,o+k*5+3,none⟩=some (.int .i64 x.table.root):=by have h:=hc 3 _ rfl;rw[HK.cell (p:=⟨b,o+k*5+3,none⟩) (am h) id];exact h
   have c4:wo.cell? ⟨b,o+k*5+4,none⟩=some (.int .i64 x.table.size):=by have h:=hc 4 _ rfl;rw[HK.cell (p:=⟨b,o+k*5+4,none⟩) (am h) id];exact h
   have f0:wo.cell? ⟨w.heap.size,0,none⟩=some (.func (.func 260) #[] #[]):=aa HF.o 0;have f1:wo.cell? ⟨w.heap.size,1,none⟩=some (.func (.func 262) #[] #[]):=aa HF.o 1;have g0:wo.cell? ⟨wb,0,none⟩=some (.string ⟨(dg l k).name.toArray⟩):=aa HW.o 0;have g1:wo.cell? ⟨wb,1,none⟩=some (.int .i64 (dg l k).id):=aa HW.o 1;have g2:wo.cell? ⟨wb,2,none⟩=some (.int .i64 (dg l k).plane):=aa HW.o 2;have g3:wo.cell? ⟨wb,3,none⟩=some (.int .i64 (dg l k).table.root):=aa HW.o 3;have g4:wo.cell? ⟨wb,4,none⟩=some (.int .i64 (dg l k).table.size):=aa HW.o 4;obtain⟨fb,hq⟩:∃ fb,((k:Int)==0)=fb:=⟨_,rfl⟩
   have z0:w.heap.size<wo.heap.size:=ak HF.o;have z1:wb<wo.heap.size:=ak HW.o;clear hc;go_wp2_with fail;refine(Mx (dg l k) x fb FH.o _).mono ?_;rintro e w5 ⟨rfl,kV⟩;obtain⟨FY,mM,tK,F0,nD⟩:=K5 (ab kV (aE HF.o _) id) (ab kV (aE HW.o _) id) (ab kV (av wo _ _) id) (cr HB.o (cZ kV)) (HK.keep (cZ kV));have Gb:=kV.size;simp at Gb;clear kV c0 c1 c2 c3 c4 f0 f1 g0 g1 g2 g3 g4 z0 HF HW HB HK hq;generalize wo.heap.size=xb at*;have f1:w5.cell? ⟨w.heap.size,1,none⟩=some (.func (.func 262) #[] #[]):=aa FY.o 1;have g0:w5.frozen? ⟨wb,0,none⟩=false:=ae mM.o _ rfl;have d0:w5.cell? ⟨wb,0,none⟩=some (.string ⟨(dg l k).name.toArray⟩):=aa mM.o 0;have e0:w5.cell? ⟨xb,0,none⟩=some (.string ⟨x.name.toArray⟩):=aa tK.o 0;have g1:w5.frozen? ⟨wb,1,none⟩=false:=ae mM.o _ rfl;have d1:w5.cell? ⟨wb,1,none⟩=some (.int .i64 (dg l k).id):=aa mM.o 1;have e1:w5.cell? ⟨xb,1,none⟩=some (.int .i64 x.id):=aa tK.o 1;have g2:w5.frozen? ⟨wb,2,none⟩=false:=ae mM.o _ rfl;have d2:w5.cell? ⟨wb,2,none⟩=some (.int .i64 (dg l k).plane):=aa mM.o 2;have e2:w5.cell? ⟨xb,2,none⟩=some (.int .i64 x.plane):=aa tK.o 2;have g3:w5.frozen? ⟨wb,3,none⟩=false:=ae mM.o _ rfl;have d3:w5.cell? ⟨wb,3,none⟩=some (.int .i64 (dg l k).table.root):=aa mM.o 3;have e3:w5.cell? ⟨xb,3,none⟩=some (.int .i64 x.table.root):=aa tK.o 3;have g4:w5.frozen? ⟨wb,4,none⟩=false:=ae mM.o _ rfl;have d4:w5.cell? ⟨wb,4,none⟩=some (.int .i64 (dg l k).table.size):=aa mM.o 4;have e4:w5.cell? ⟨xb,4,none⟩=some (.int .i64 x.table.size):=aa tK.o 4;have n1:¬ w.heap.size=wb:=J
   have n2:¬ xb=wb:=J
   go_wp2_with fail;refine(My x _).mono ?_;rintro e w7 ⟨pb,rfl,nX,pV,qs⟩;have tM:ai (·=wb) w5 (((((w5.setCell ⟨wb,0,none⟩ (.string ⟨x.name.toArray⟩)).setCell ⟨wb,1,none⟩ (.int .i64 x.id)).setCell ⟨wb,2,none⟩ (.int .i64 x.plane)).setCell ⟨wb,3,none⟩ (.int .i64 x.table.root)).setCell ⟨wb,4,none⟩ (.int .i64 x.table.size)):=((((((ai.refl (λy=>y=wb) w5).setCell (p:=⟨wb,0,none⟩) (.inl rfl) _).setCell (p:=⟨wb,1,none⟩) (.inl rfl) _).setCell (p:=⟨wb,2,none⟩) (.inl rfl) _).setCell (p:=⟨wb,3,none⟩) (.inl rfl) _).setCell (p:=⟨wb,4,none⟩) (.inl rfl) _)
   have Yr:=Z (ab pV (ab tM FY.o n1) id);have Kx:=Z (cr (uP F0.o tM J (λq c fr hq e=>by
    subst e;have:=mM.o;unfold World.blk at this;rw[this]at hq
    cases hq)) pV)
   have Yo:Hid (World.blk w7 wb #[.string ⟨x.name.toArray⟩,.int .i64 x.id,.int .i64 x.plane,.int .i64 x.table.root,.int .i64 x.table.size] 85):=Z (ab pV (ah (ah (ah (ah (ah mM.o 0 _) 1 _) 2 _) 3 _) 4 _) id);obtain⟨yY,CI⟩:=K2 ((nD.new tM J).keep pV) qs;have hpw:wb<pb:=by
    have h:=ak mM.o;have e:=tM.size;omega
   have Cv:=Z (Q8 FH.o Oo.o);clear pV qs tM f1 g0 d0 e0 g1 d1 e1 g2 d2 e2 g3 d3 e3 g4 d4 e4 n1 n2 FY mM tK F0 nD Gb nX;have N0:Hid ((aD l.length++(l.take k).flatMap oI).length<=1000000):=Z (MB Ga.o Hl.o k);generalize tN:aD l.length++(l.take k).flatMap oI=pre at*;have Jk:=Z tN;clear tN;go_wp2_with fail
   go_loopw [49] (λi wr=>∃ j:Nat,j<=5/\i=.int .i64 (j:Int)/\af w wr/\World.blk wr w.heap.size #[.func (.func 260) #[] #[],.func (.func 262) #[] #[],.func (.func 263) #[] #[]] 289/\World.blk wr wb #[.string ⟨x.name.toArray⟩,.int .i64 x.id,.int .i64 x.plane,.int .i64 x.table.root,.int .i64 x.table.size] 85/\World.blk wr pb #[.iface 9 (.string ⟨x.name.toArray⟩),.iface 3 (.int .i64 x.id),.iface 3 (.int .i64 x.plane),.iface 3 (.int .i64 x.table.root),.iface 3 (.int .i64 x.table.size)] 20/\cX (w.heap.size+1) (w.heap.size+1) (pre++((cd x).take j).flatten) wr) (λi _=>5-(intOf i).toNat)
   case atStart=>exact⟨0,J,rfl,yY.o,Yr.o,Yo.o,CI.o,by simpa using Kx.o⟩
   case round=>
    clear Yr Kx Yo yY CI;obtain⟨j,hj,rfl,hK,hF,hW,hP,hB⟩:=hrel;obtain⟨HK,HF,HW,HP,HB⟩:=K5 hK hF hW hP hB;clear hK hF hW hP hB;by_cases hj0:j=0
    ·subst hj0;have HS:Hid (((cd x).take 0).flatten++(aD x.name.length++x.name)=((cd x).take (0+1)).flatten):=Z (by simp[cd]);have HLP:Hid (((cd x).take 0).flatten.length<=100):=Z (oV FH.o Oo.o 0);have pi:wr.cell? ⟨pb,0,none⟩=some (.iface 9 (.string ⟨x.name.toArray⟩)):=aa HP.o 0;have a0:=Ab ⟨x.name.toArray⟩;have a1:=xl ⟨x.name.toArray⟩;go_wp2_with fail;refine(th x.name _ (by have:=Cv.o;omega)).mono ?_;rintro e w8 ⟨rfl,kn⟩;obtain⟨Co,vi,sA,BX,sr⟩:=K5 (ab kn HF.o id) (ab kn HW.o id) (ab kn HP.o id) (cr HB.o kn) (HK.keep kn);clear kn HF HW HP HB HK pi a0 a1;go_wp2_with fail;refine(jj (w.heap.size+1) (w.heap.size+1) _ (aD x.name.length++x.name) w8 BX.o (by have:=aK (n:=x.name.length) (by have:=Cv.o;omega);have:=Cv.o;have:=N0.o;have:=HLP.o;simp only[awn];omega) (by have:=ak vi.o;omega)).mono ?_;rintro e w9 ⟨rfl,KM,su,tI⟩;obtain⟨Wz,Xb,pk⟩:=K3 (ab tI Co.o (cO J Co.o dc7)) (ab tI vi.o (cO J vi.o dc7)) (ab tI sA.o (cO J sA.o dc7));have OT:Hid (cX (w.heap.size+1) (w.heap.size+1) (pre++((cd x).take (0+1)).flatten) w9):=Z (by
      have h:=KM;rw[awN]at h;have e:((cd x).take 0).flatten++(aD x.name.length++x.name)=((cd x).take (0+1)).flatten:=by
       rw[<-HS.o]
      rw[e]at h;exact h)
     have Cg:=Z (cW sr.o su J);clear KM su tI Co vi sA BX sr;go_wp2_with fail;refine⟨⟨0+1,J,rfl,Cg.o,Wz.o,Xb.o,pk.o,OT.o⟩,by decide⟩
    ·by_cases hj5:j<5
     ·obtain⟨m,zn,Oy,JD⟩:=VZ x Cv.o j J hj5;have HS:=Z JD;have HLP:Hid (((cd x).take j).flatten.length<=100):=Z (oV FH.o Oo.o j);have pi:wr.cell? ⟨pb,j,none⟩=some (.iface 3 (.int .i64 (m:Int))):=by rw[aa HP.o j];exact Oy
      have sy:(j:Int)<5:=J
      clear Oy JD;have a0:=qP m;go_wp2_with fail;refine(lB m _ J).mono ?_;rintro e w8 ⟨rfl,kn⟩;obtain⟨Co,vi,sA,BX,sr⟩:=K5 (ab kn HF.o id) (ab kn HW.o id) (ab kn HP.o id) (cr HB.o kn) (HK.keep kn);clear kn HF HW HP HB HK pi a0;go_wp2_with fail;refine(jj (w.heap.size+1) (w.heap.size+1) _ (aD m) w8 BX.o (by have:=aK (n:=m) J;have:=N0.o;have:=HLP.o;simp only[awn];omega) (by have:=ak vi.o;omega)).mono ?_;rintro e w9 ⟨rfl,KM,su,tI⟩;obtain⟨Wz,Xb,pk⟩:=K3 (ab tI Co.o (cO J Co.o dc7)) (ab tI vi.o (cO J vi.o dc7)) (ab tI sA.o (cO J sA.o dc7));have OT:Hid (cX (w.heap.size+1) (w.heap.size+1) (pre++((cd x).take (j+1)).flatten) w9):=Z (by
       have h:=KM;rw[awN]at h;rw[HS.o]at h;exact h)
      have Cg:=Z (cW sr.o su J);clear KM su tI Co vi sA BX sr;go_wp2_with fail;exact⟨⟨j+1,J,by go_num,Cg.o,Wz.o,Xb.o,pk.o,OT.o⟩,by simp[intOf];omega⟩
     ·obtain rfl:j=5:=J
      go_wp2_with fail;refine⟨⟨k+1,J,by go_num,HK.o,HF.o,by rw[rS Hx.o];exact HW.o,?_⟩,by simp[intOf];omega⟩;have h:=HB.o;rw[awQ (by simp[cd]),uk]at h;have e:l.take (k+1)=l.take k++[x]:=by rw[av8,Hx.o];rfl
      rw[e];simp only[awm,awL,List.flatMap_nil,List.append_nil];rw[<-awN,Jk.o];exact h
  ·obtain rfl:k=l.length:=J
   have jg:Hid (cX (w.heap.size+1) (w.heap.size+1) (jW l) wo):=Z (by have h:=HB.o;rwa [awa]at h);go_wp2_with fail;refine(gF (w.heap.size+1) (w.heap.size+1) (jW l) wo jg.o (by have:=ak HW.o;omega)).mono ?_;rintro e w6 ⟨rfl,pX⟩;have vf:=Z (cW HK.o pX J);clear pX;go_wp2;go_ret2;exact⟨rfl,vf.o⟩
theorem EE {α:Type}{f:α->List Value}{P:Program}{ts te:TypeId}{z:Value}{bytes:Nat}(hs:P.underlying ts=some (.slice te))(hi:(P.info? te).map (λi=>(i.zero,i.size,i.bytes))=some (some z,sz,bytes))(hz:z.cells.size=sz)(cJ:0<sz)
  (hf:∀ a,(f a).length=sz) (base:Nat) (v:Value) (l:List α) (w w0:World) (bC:dX f sz te w base v l) (va:Value) (ys:List α) (ha:ms f sz w va ys) (h1:∀ y∈ys,∀ u∈f y,u.oneCell'=true) (hn:l.length+ys.length<=maxLen) (Oj:(l.length+ys.length)*bytes<=140737488355328)
  (FB:base<=w.heap.size) (h0:af w0 w) (ic:w0.heap.size<=base):
  ∃ v' w',(Builtin.append_ #[ts,ts] ts #[v,va]).run P w=.ok v' w'/\dX f sz te w' base v' (l++ys)/\af w0 w'/\ai (λb=>base<=b) w w':=by
 obtain⟨i0,hi,iK,lX,mJ⟩:=awj hi;obtain⟨a,cap,rfl,hx⟩:=ha;rcases a with _|a
 ·have hy:ys=[]:=by
   cases ys with
   |nil=>rfl
   |cons y ys=>obtain⟨b,o,hb,_⟩:=hx 0 y rfl;cases hb
  subst hy;obtain⟨a0,sl,sc,rfl,KL⟩:∃ a0 sl sc,v=.slice a0 sl sc/\sl<=sc:=by
   rcases bC.2 with⟨rfl,h⟩|⟨g,cp,dW,rfl,_,_,hc,_⟩
   ·exact⟨none,0,0,rfl,av9 _⟩
   ·exact⟨_,_,_,rfl,hc⟩
  refine⟨_,w,run_append_nothing w ts ts ts te i0 hs hi a0 sl sc KL (.slice none 0 cap) (Src.ofNil w hs cap),by simpa[dX]using bC,h0,ai.refl _ _⟩
 ·have bt:=Qs hf ys;have agI:∀ j u,(ys.flatMap f)[j]?=some u->w.cell? (a.add j)=some u:=λj u hj=>by
   have Up:=(awk.1 hj).1;rw[bt]at Up;have hq:j/sz*sz+j%sz=j:=by rw[Nat.mul_comm];exact Nat.div_add_mod j sz
   have h5:=Ed hf ys (j/sz) (j%sz) (Nat.mod_lt _ cJ);rw[hq,hj]at h5
   cases hy:ys[j/sz]? with
   |none=>rw[hy]at h5;cases h5
   |some y=>
    rw[hy]at h5;obtain⟨b,o,hb,hc⟩:=hx (j/sz) y hy
    cases hb
    rw[ij];have:=hc (j%sz) u h5.symm
    rwa [awl,hq]at this
  obtain⟨v',w',r1,r2,r3,_⟩:=run_append_own (P:=P) w base ts ts te i0 z sz bytes hs hi iK lX mJ hz cJ v l.length (l.flatMap f) bC a ys.length cap (ys.flatMap f) bt agI (λu hu=>by
   obtain⟨y,hy,hu⟩:=List.mem_flatMap.1 hu;exact h1 y hy u hu) hn Oj FB
  refine⟨v',w',r1,?_,ai.grown h0 r3 (λk hk=>.inr (av2 ic (bC.lt k hk).1)),ai.grown (ai.refl _ w) r3 (λk hk=>.inl (bC.lt k hk).1)⟩;unfold dX;rw[awm,awn];exact r2
theorem MC {α:Type}{f:α->List Value}(w:World)(t:TypeId):dX f sz t (w.alloc (.cells #[] t)) w.heap.size (.slice (some ⟨w.heap.size,0,none⟩) 0 0) ([]:List α):=by
 refine⟨by simp,.inr ⟨w.heap.size,0,#[],rfl,av9 _,av w _ _,av9 _,by simp[maxLen],by simp,by simp⟩⟩
end
end Go.Proofs.YtkghpdcloaiflaaGreatDoor
