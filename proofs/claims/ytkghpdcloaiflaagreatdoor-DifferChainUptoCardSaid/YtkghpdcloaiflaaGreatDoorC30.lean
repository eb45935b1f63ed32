import Derived.Test.YtkghpdcloaiflaaGreatDoorC21
import Derived.Test.YtkghpdcloaiflaaGreatDoorC29
set_option maxHeartbeats 8000000
set_option maxRecDepth 100000
namespace Go.Proofs.YtkghpdcloaiflaaGreatDoor
open _root_.Go.Proofs.Tryz
section
open Go.RowKit Go.Shelf
def sW (pv pl:Nat)(b:iX)(iv sv nv:Value)(pm pt:Nat):Array Value:=
 #[aq pv,aq pl,.int .i64 b.table.root,.int .i64 b.table.size,.int .i64 b.snaps.root,.int .i64 b.snaps.size,.int .i64 b.mapped.root,.int .i64 b.mapped.size,.int .i64 (b.next:Int),.int .i64 (b.id:Int),iv,sv,aq pm,nv,aq pt,.bool false]
structure eX where
 pv:Nat
 pl:Nat
 pm:Nat
 pt:Nat
 iv:Value
 sv:Value
 nv:Value
 d:Dk
 dl:Dk
 text:ay
 role:Nat->cU
 Fv:Nat->Prop
 Fl:Nat->Prop
def eX.still (a:eX)(b:Nat):Prop:=b=a.pm\/a.role b≠.none\/a.iv.ownBlock=some b\/a.sv.ownBlock=some b\/a.nv.ownBlock=some b
def eX.foot (a:eX)(p b:Nat):Prop:=b=p\/a.Fv b\/a.Fl b\/a.still b
structure ls (w:World)(p:Nat)(v:Vs)(a:eX):Prop where
 own:World.blk w p (sW a.pv a.pl v.b a.iv a.sv a.nv a.pm a.pt) 102
 vol:gU w a.pv a.d a.text v.num a.Fv
 rd:ik a.d=v.rd
 size:a.d.size/4=v.blocks
 log:kT w a.pl a.dl v.num v.recs a.Fl
 half:bE a.dl*64=v.half
 inos:dQ jv 5 128 w 0 a.iv v.b.inodes
 list:dQ oe 5 85 w 0 a.sv v.b.list
 nodes:dQ gx 4 221 w 0 a.nv v.b.nodes
 map:dt w a.pm v.blocks v.b.planes
 tree:∃ tb A M,aI w a.pt v.T tb A M a.role
 wf:∃ d,WF v.T d
 apart:∀ b,a.Fv b->¬ a.Fl b
 nv:¬ a.Fv p
 nl:¬ a.Fl p
 stays:∀ b,a.still b->¬ a.Fv b/\¬ a.Fl b/\b≠p
theorem d5 {α:Type}{f:α->List Value}{sz:Nat}{t:TypeId}{w:World}{v:Value}{l:List α}(h:dQ f sz t w 0 v l){g:Nat}(hg:v.ownBlock=some g):g<w.heap.size:=aS h hg
theorem gU.lt {w:World}{v:Nat}{d:Dk}{text:ay}{num:Nat}{F:Nat->Prop}(h:gU w v d text num F)(b:Nat)(hb:F b):b<w.heap.size:=by
 obtain⟨pd,pc,M,Fd,Fc,h⟩:=h;exact h.lt b hb
theorem kT.lt {w:World}{l gen:Nat}{d:Dk}{recs:List ay}{F:Nat->Prop}(h:kT w l d gen recs F)(b:Nat)(hb:F b):b<w.heap.size:=by
 obtain⟨pd,lv,Fd,h⟩:=h;exact h.lt b hb
theorem aI.same {w w':World}{p:Nat}{T:Tr}{tb:Nat}{A M:Int->Nat}{role:Nat->cU}(h:aI w p T tb A M role)(m:fy (fun b=>role b≠.none) w w')(hs:w.heap.size<=w'.heap.size):aI w' p T tb A M role:=by
 have hm:ah (fun b=>role b=.none) { w with os:=w'.os,tape:=w'.tape,output:=w'.output } w':=⟨rfl,rfl,rfl,hs,fun k hk hn=>m k hn hk⟩
 have h0:aI { w with os:=w'.os,tape:=w'.tape,output:=w'.output } p T tb A M role:=⟨h.tree,h.rtree,h.of,h.rof,h.node,h.rnode,h.names,h.rnames,h.lt⟩
 exact h0.mod hm fun b hb=>hb
theorem ls.lt {w:World}{p:Nat}{v:Vs}{a:eX}(h:ls w p v a){b:Nat}(hb:a.foot p b):b<w.heap.size:=by
 rcases hb with rfl|hb|hb|rfl|hb|hb|hb|hb
 ·exact ai h.own
 ·exact h.vol.lt b hb
 ·exact h.log.lt b hb
 ·exact h.map.lt
 ·obtain⟨tb,A,M,t⟩:=h.tree;exact t.lt b hb
 ·exact d5 h.inos hb
 ·exact d5 h.list hb
 ·exact d5 h.nodes hb
theorem ls.same {w w':World}{p:Nat}{v:Vs}{a:eX}(h:ls w p v a)(m:fy (a.foot p) w w')(hs:w.heap.size<=w'.heap.size):ls w' p v a where
 own:=(m p (.inl rfl) (ai h.own)).trans h.own
 vol:=h.vol.same (fun b hb hl=>m b (.inr (.inl hb)) hl) hs
 rd:=h.rd
 size:=h.size
 log:=h.log.same (fun b hb hl=>m b (.inr (.inr (.inl hb))) hl) hs
 half:=h.half
 inos:=az h.inos fun b hb=>m b (.inr (.inr (.inr (.inr (.inr (.inl hb)))))) (d5 h.inos hb)
 list:=az h.list fun b hb=>m b (.inr (.inr (.inr (.inr (.inr (.inr (.inl hb))))))) (d5 h.list hb)
 nodes:=az h.nodes fun b hb=>m b (.inr (.inr (.inr (.inr (.inr (.inr (.inr hb))))))) (d5 h.nodes hb)
 map:=⟨(m a.pm (.inr (.inr (.inr (.inl rfl)))) h.map.lt).trans h.map.own,h.map.many,h.map.eight,h.map.short⟩
 tree:=by
  obtain⟨tb,A,M,t⟩:=h.tree;exact⟨tb,A,M,t.same (fun b hb hl=>m b (.inr (.inr (.inr (.inr (.inl hb))))) hl) hs⟩
 wf:=h.wf
 apart:=h.apart
 nv:=h.nv
 nl:=h.nl
 stays:=h.stays
def lu (pv size:Nat)(text:ay)(num:Nat)(rd:Rd)(w:World)(F:Nat->Prop):Prop:=∃ d,gU w pv d text num F/\ik d=rd/\d.size=size
end
section
open Go.RowKit Go.Shelf
theorem GZ {d:Dk}{n:Int}{p:ay}(h:ik d n=.ok p):1<=n/\n<(d.size/4:Nat):=by
 unfold ik at h;split at h
 ·assumption
 ·cases h
theorem nw (pv size:Nat)(text:ay)(num:Nat)(rd:Rd):pZ 94 (aq pv) 57 (lu pv size text num rd) rd where
 meth _:=by kernel_rfl
 call _ _:=by kernel_rfl
 read:=by
  rintro w F n p ⟨d,h,rfl,rfl⟩ hn;obtain⟨h1,h2⟩:=GZ hn;obtain⟨k,rfl⟩:∃ k:Nat,n=k:=⟨n.toNat,by omega⟩
  refine(zi h k (by omega) (by omega) p hn).mono ?_;rintro e w' ⟨rfl,F',h',k'⟩;exact⟨rfl,F',⟨d,h',rfl,rfl⟩,k'⟩
 same:=by
  rintro w w' F ⟨d,h,h1,h2⟩ m hs;exact⟨d,h.same m hs,h1,h2⟩
 lt:=by
  rintro w F ⟨d,h,h1,h2⟩ b hb;exact h.lt b hb
theorem G0 (pv size:Nat)(text:ay)(num:Nat):zJ 94 (aq pv) 57 393 (lu pv size text num) (size/4) where
 src rd:=nw pv size text num rd
 methW _:=by kernel_rfl
 callW _ _ _:=by kernel_rfl
 write:=by
  rintro rd w F n p ⟨d,h,rfl,rfl⟩ h1 h2 hp;refine(F0 h n h1 h2 p hp).mono ?_;rintro e w' ⟨rfl,F',h',k'⟩;exact⟨rfl,F',⟨_,h',Cn h1 h2 hp,jn d n _ 4⟩,k'⟩
theorem mJ (w:World):Calls prog 129 #[.int .i64 0] w fun e w'=>e=.returned (.tuple #[])/\w'=w:=by
 go_enter func129,ntmps129;go_wp2_with fail;go_end0;exact⟨rfl,rfl⟩
end
section
open Go.RowKit
theorem xl:∀ {l:List fF} {was:Int},0<=was->yu was l=true->∀ x∈l,0<x.num
 |[],_,_,_,x,hx=>by simp at hx
 |y::r,was,h0,h,x,hx=>by
  simp only[yu,at2,aua]at h;rcases at9.1 hx with rfl|hx
  ·omega
  ·exact xl (l:=r) (was:=y.num) (by omega) h.2 x hx
theorem JL {was:Int}{x:fF}(h:xf was x)(h0:0<x.num):0<=x.num/\x.num<=1099511627776/\0<=x.links/\x.links<=1099511627776/\0<=x.blob.root/\x.blob.root<=1099511627776/\0<=x.blob.size/\x.blob.size<=1099511627776:=by
 obtain⟨h1,h2,h3,h4,h5⟩:=h;simp only[fR.ok,fR.may,at2,aua]at h5;omega
theorem rM {was:Int}{x:fF}(h:xf was x)(h0:0<x.num)(j:Nat):((cy x).take j).flatten.length<=100:=by
 have hn:=JL h h0;have q0:=bG (n:=x.num.toNat) (by omega);have q1:(aO (if x.dir=true then 1 else 0)).length<=9:=bG (by split<;>omega);have q2:=bG (n:=x.links.toNat) (by omega);have q3:=bG (n:=x.blob.root.toNat) (by omega);have q4:=bG (n:=x.blob.size.toNat) (by omega);have hf:(cy x).flatten.length<=100:=by simp[cy];omega
 have:(cy x).flatten=((cy x).take j).flatten++((cy x).drop j).flatten:=by rw[<-List.flatten_append,List.take_append_drop]
 rw[this,at0]at hf;omega
theorem G6 {l:List fF}(h:yu 0 l=true)(hl:l.length<=4096)(k:Nat):(aO l.length++(l.take k).flatMap nU).length<=1000000:=by
 have key:∀(m:List fF),(∀ x∈m,(nU x).length<=100)->(m.flatMap nU).length<=m.length*100:=by
  intro m
  induction m with
  |nil=>intro _;simp
  |cons y r ih=>
   intro hm;have:=ih (fun x hx=>hm x (by simp[hx]));have:=hm y (by simp);rw[aus,at0,atH];omega
 have h1:=key (l.take k) (fun x hx=>by
  obtain⟨i,hi,rfl⟩:=List.getElem_of_mem (atN hx);have:=rM (tZ h (atI hi)) (xl (Int.le_refl 0) h _ (aum hi)) 5
  rwa [aux (by simp[cy]),rK]at this)
 have h2:=bG (n:=l.length) (by omega);have h3:(l.take k).length<=4096:=by rw[atO];omega
 rw[at0];omega
theorem Qn (x:fF)(h:0<=x.num/\x.num<=1099511627776/\0<=x.links/\x.links<=1099511627776/\0<=x.blob.root/\x.blob.root<=1099511627776/\0<=x.blob.size/\x.blob.size<=1099511627776)(j:Nat)(hj:j<5):
  ∃ m:Nat,(m:Int)<=1099511627776/\(#[.iface 3 (.int .i64 x.num),.iface 3 (.int .i64 (if x.dir=true then 1 else 0)),.iface 3 (.int .i64 x.links),.iface 3 (.int .i64 x.blob.root),.iface 3 (.int .i64 x.blob.size)]:Array Value)[j]?=some (.iface 3 (.int .i64 (m:Int)))/\((cy x).take j).flatten++aO m=((cy x).take (j+1)).flatten:=by
 have ii:∀ {a:Int},0<=a->((a.toNat:Nat):Int)=a:=fun h=>by omega
 rcases(by omega:j=0\/j=1\/j=2\/j=3\/j=4)with rfl|rfl|rfl|rfl|rfl
 ·exact⟨x.num.toNat,by omega,by rw[ii h.1];rfl,by simp[cy]⟩
 ·exact⟨if x.dir=true then 1 else 0,by split<;>decide,by cases x.dir<;>rfl,by simp[cy]⟩
 ·exact⟨x.links.toNat,by omega,by rw[ii h.2.2.1];rfl,by simp[cy]⟩
 ·exact⟨x.blob.root.toNat,by omega,by rw[ii h.2.2.2.2.1];rfl,by simp[cy]⟩
 ·exact⟨x.blob.size.toNat,by omega,by rw[ii h.2.2.2.2.2.2.1];rfl,by simp[cy]⟩
theorem DX (l:List fF)(v:Value)(w:World)(cH:jY jv 5 w v l)(cC:qB l=true):
  Calls prog 259 #[uP,v] w fun e w'=>e=.returned (.tuple #[.string ⟨(jT l).toArray⟩,.int .i64 0])/\af w w':=by
 obtain⟨a,cap,rfl,hx⟩:=cH;have HX:=hd0 hx;clear hx;simp only[qB,at2,aua]at cC;obtain⟨aU,hB⟩:=cC;have Fp:=hd0 hB;clear hB;have h1:¬(4096:Int)<l.length:=by omega
 have Hl:=hd0 aU;clear aU;go_enter func259,ntmps259;go_wp2_with fail;refine(lN l.length _ (by have:=Hl.out;omega)).mono ?_;rintro e w2 ⟨rfl,dc⟩;have Sj:Hid (World.blk w2 w.heap.size #[.func (.func 277) #[] #[],.func (.func 278) #[] #[],.func (.func 280) #[] #[]] 308):=hd0 (ab dc (aG (aw _ _ _) _) id);have WL:Hid (cZ (w.heap.size+1) (w.heap.size+1) [] w2):=hd0 (by
  have h:=mX (w.alloc (.cells #[.func (.func 277) #[] #[],.func (.func 278) #[] #[],.func (.func 280) #[] #[]] 308));rw[show(w.alloc (.cells #[.func (.func 277) #[] #[],.func (.func 278) #[] #[],.func (.func 280) #[] #[]] 308)).heap.size=w.heap.size+1 by simp]at h;exact co h dc)
 have bu:=hd0 (dM (dM dc));have lD:=dc.size;simp at lD;clear dc;go_wp2_with fail;refine(jh (w.heap.size+1) (w.heap.size+1) [] (aO l.length) w2 WL.out (by have:=bG (n:=l.length) (by have:=Hl.out;omega);simp;omega) (by omega)).mono ?_;rintro e w3 ⟨rfl,us,xS,ln⟩;have Fm:=hd0 (ab ln Sj.out (cO (by omega) Sj.out (by decide)));have nW:=hd0 us;have dT:=hd0 (cY bu.out xS (by omega));have BH:=xS.size;rw[aul]at nW;clear us xS ln Sj WL bu;go_wp2_with fail;obtain⟨wb,IR⟩:∃ wb,wb=w3.heap.size:=⟨_,rfl⟩
 have Wo:Hid (World.blk (w3.alloc (.cells #[.int .i64 0,.bool false,.int .i64 0,.int .i64 0,.int .i64 0] 128)) wb #[.int .i64 0,.bool false,.int .i64 0,.int .i64 0,.int .i64 0] 128):=hd0 (aY IR _ _);have Wx:=hd0 (aG Fm.out (.cells #[.int .i64 0,.bool false,.int .i64 0,.int .i64 0,.int .i64 0] 128));have nG:=hd0 (co nW.out ((ah.refl (fun _=>False) w3).alloc (.cells #[.int .i64 0,.bool false,.int .i64 0,.int .i64 0,.int .i64 0] 128)));have dN:=hd0 (dT.out.alloc (.cells #[.int .i64 0,.bool false,.int .i64 0,.int .i64 0,.int .i64 0] 128));have ac3:w.heap.size+2<=wb:=by omega
 clear Fm nW dT;rw[<-IR];generalize w3.alloc (.cells #[.int .i64 0,.bool false,.int .i64 0,.int .i64 0,.int .i64 0] 128)=w4 at*;clear IR BH lD
 go_loopw [30] (fun i wr=>∃ k:Nat,k<=l.length/\i=.int .i64 (k:Int)/\af w wr/\World.blk wr w.heap.size #[.func (.func 277) #[] #[],.func (.func 278) #[] #[],.func (.func 280) #[] #[]] 308/\World.blk wr wb #[.int .i64 (cw l k).num,.bool (cw l k).dir,.int .i64 (cw l k).links,.int .i64 (cw l k).blob.root,.int .i64 (cw l k).blob.size] 128/\cZ (w.heap.size+1) (w.heap.size+1) (aO l.length++(l.take k).flatMap nU) wr) (fun i _=>l.length-(intOf i).toNat)
 case atStart=>exact⟨0,by omega,rfl,dN.out,Wx.out,Wo.out,by simpa using nG.out⟩
 case round=>
  clear Wx Wo nG dN;obtain⟨wo,rfl⟩:∃ wo,wo=wr:=⟨_,rfl⟩
  obtain⟨k,hk,rfl,hK,hF,hW,hB⟩:=hrel;have HK:=hd0 hK;have HF:=hd0 hF;have HW:=hd0 hW;have HB:=hd0 hB;clear hK hF hW hB;by_cases aM:k<l.length
  ·obtain⟨x,hx⟩:∃ x,l[k]?=some x:=⟨_,atI aM⟩
   have Hx:=hd0 hx;have EG:=hd0 (tZ Fp.out hx);have NC:=hd0 (xl (Int.le_refl 0) Fp.out x (atJ hx));clear hx;obtain⟨b,o,rfl,hc⟩:=HX.out k x Hx.out;have c0:wo.cell? ⟨b,o+k*5,none⟩=some (.int .i64 x.num):=by have h:=hc 0 _ rfl;rw[HK.out.cell (p:=⟨b,o+k*5,none⟩) (am h) id];exact h
   have c1:wo.cell? ⟨b,o+k*5+1,none⟩=some (.bool x.dir):=by have h:=hc 1 _ rfl;rw[HK.out.cell (p:=⟨b,o+k*5+1,none⟩) (am h) id];exact h
   have c2:wo.cell? ⟨b,o+k*5+2,none⟩=some (.int .i64 x.links):=by have h:=hc 2 _ rfl;rw[HK.out.cell (p:=⟨b,o+k*5+2,none⟩) (am h) id];exact h
   have c3:wo.cell? ⟨b,o+k*5+3,none⟩=some (.int .i64 x.blob.root):=by have h:=hc 3 _ rfl;rw[HK.out.cell (p:=⟨b,o+k*5+3,none⟩) (am h) id];exact h
   have c4:wo.cell? ⟨b,o+k*5+4,none⟩=some (.int .i64 x.blob.size):=by have h:=hc 4 _ rfl;rw[HK.out.cell (p:=⟨b,o+k*5+4,none⟩) (am h) id];exact h
   have f0:wo.cell? ⟨w.heap.size,0,none⟩=some (.func (.func 277) #[] #[]):=aa HF.out 0;have f1:wo.cell? ⟨w.heap.size,1,none⟩=some (.func (.func 278) #[] #[]):=aa HF.out 1;have g0:wo.cell? ⟨wb,0,none⟩=some (.int .i64 (cw l k).num):=aa HW.out 0;have g1:wo.cell? ⟨wb,1,none⟩=some (.bool (cw l k).dir):=aa HW.out 1;have g2:wo.cell? ⟨wb,2,none⟩=some (.int .i64 (cw l k).links):=aa HW.out 2;have g3:wo.cell? ⟨wb,3,none⟩=some (.int .i64 (cw l k).blob.root):=aa HW.out 3;have g4:wo.cell? ⟨wb,4,none⟩=some (.int .i64 (cw l k).blob.size):=aa HW.out 4;obtain⟨fb,hq⟩:∃ fb,((k:Int)==0)=fb:=⟨_,rfl⟩
   have z0:w.heap.size<wo.heap.size:=ai HF.out;have z1:wb<wo.heap.size:=ai HW.out;clear hc;go_wp2_with fail;refine(GW (cw l k) x fb EG.out _).mono ?_;rintro e w5 ⟨rfl,mi⟩;have Fo:=hd0 (ab mi (aG HF.out _) id);have mS:=hd0 (ab mi (aG HW.out _) id);have uy:=hd0 (ab mi (aw wo _ _) id);have Fa:=hd0 (co HB.out (dM mi));have j7:=hd0 (HK.out.keep (dM mi));have Fb:=mi.size;simp at Fb;clear mi c0 c1 c2 c3 c4 f0 f1 g0 g1 g2 g3 g4 z0 HF HW HB HK hq;generalize wo.heap.size=xb at*;have f1:w5.cell? ⟨w.heap.size,1,none⟩=some (.func (.func 278) #[] #[]):=aa Fo.out 1;have g0:w5.frozen? ⟨wb,0,none⟩=false:=ae mS.out _ rfl;have d0:w5.cell? ⟨wb,0,none⟩=some (.int .i64 (cw l k).num):=aa mS.out 0;have e0:w5.cell? ⟨xb,0,none⟩=some (.int .i64 x.num):=aa uy.out 0;have g1:w5.frozen? ⟨wb,1,none⟩=false:=ae mS.out _ rfl;have d1:w5.cell? ⟨wb,1,none⟩=some (.bool (cw l k).dir):=aa mS.out 1;have e1:w5.cell? ⟨xb,1,none⟩=some (.bool x.dir):=aa uy.out 1;have g2:w5.frozen? ⟨wb,2,none⟩=false:=ae mS.out _ rfl;have d2:w5.cell? ⟨wb,2,none⟩=some (.int .i64 (cw l k).links):=aa mS.out 2;have e2:w5.cell? ⟨xb,2,none⟩=some (.int .i64 x.links):=aa uy.out 2;have g3:w5.frozen? ⟨wb,3,none⟩=false:=ae mS.out _ rfl;have d3:w5.cell? ⟨wb,3,none⟩=some (.int .i64 (cw l k).blob.root):=aa mS.out 3;have e3:w5.cell? ⟨xb,3,none⟩=some (.int .i64 x.blob.root):=aa uy.out 3;have g4:w5.frozen? ⟨wb,4,none⟩=false:=ae mS.out _ rfl;have d4:w5.cell? ⟨wb,4,none⟩=some (.int .i64 (cw l k).blob.size):=aa mS.out 4;have e4:w5.cell? ⟨xb,4,none⟩=some (.int .i64 x.blob.size):=aa uy.out 4;have n1:¬ w.heap.size=wb:=by omega
   have n2:¬ xb=wb:=by omega
   go_wp2_with fail;refine(GX x _).mono ?_;rintro e w7 ⟨pb,rfl,mL,rg,pk⟩;have rc:ah (·=wb) w5 (((((w5.setCell ⟨wb,0,none⟩ (.int .i64 x.num)).setCell ⟨wb,1,none⟩ (.bool x.dir)).setCell ⟨wb,2,none⟩ (.int .i64 x.links)).setCell ⟨wb,3,none⟩ (.int .i64 x.blob.root)).setCell ⟨wb,4,none⟩ (.int .i64 x.blob.size)):=((((((ah.refl (fun y=>y=wb) w5).setCell (p:=⟨wb,0,none⟩) (.inl rfl) _).setCell (p:=⟨wb,1,none⟩) (.inl rfl) _).setCell (p:=⟨wb,2,none⟩) (.inl rfl) _).setCell (p:=⟨wb,3,none⟩) (.inl rfl) _).setCell (p:=⟨wb,4,none⟩) (.inl rfl) _)
   have WS:=hd0 (ab rg (ab rc Fo.out n1) id);have Kg:=hd0 (co (uF Fa.out rc (by omega) (fun q c fr hq e=>by
    subst e;have:=mS.out;unfold World.blk at this;rw[this]at hq
    cases hq)) rg)
   have Ws:Hid (World.blk w7 wb #[.int .i64 x.num,.bool x.dir,.int .i64 x.links,.int .i64 x.blob.root,.int .i64 x.blob.size] 128):=hd0 (ab rg (ag (ag (ag (ag (ag mS.out 0 _) 1 _) 2 _) 3 _) 4 _) id);have yi:=hd0 ((j7.out.new rc (by omega)).keep rg);have BW:=hd0 pk;have hpw:wb<pb:=by
    have h:=ai mS.out;have e:=rc.size;omega
   have BF:=hd0 (JL EG.out NC.out);clear rg pk rc f1 g0 d0 e0 g1 d1 e1 g2 d2 e2 g3 d3 e3 g4 d4 e4 n1 n2 Fo mS uy Fa j7 Fb mL;have Nv:Hid ((aO l.length++(l.take k).flatMap nU).length<=1000000):=hd0 (G6 Fp.out Hl.out k);generalize ut:aO l.length++(l.take k).flatMap nU=pre at*;have I3:=hd0 ut;clear ut;go_wp2_with fail
   go_loopw [49] (fun i wr=>∃ j:Nat,j<=5/\i=.int .i64 (j:Int)/\af w wr/\World.blk wr w.heap.size #[.func (.func 277) #[] #[],.func (.func 278) #[] #[],.func (.func 280) #[] #[]] 308/\World.blk wr wb #[.int .i64 x.num,.bool x.dir,.int .i64 x.links,.int .i64 x.blob.root,.int .i64 x.blob.size] 128/\World.blk wr pb #[.iface 3 (.int .i64 x.num),.iface 3 (.int .i64 (if x.dir=true then 1 else 0)),.iface 3 (.int .i64 x.links),.iface 3 (.int .i64 x.blob.root),.iface 3 (.int .i64 x.blob.size)] 20/\cZ (w.heap.size+1) (w.heap.size+1) (pre++((cy x).take j).flatten) wr) (fun i _=>5-(intOf i).toNat)
   case atStart=>exact⟨0,by omega,rfl,yi.out,WS.out,Ws.out,BW.out,by simpa using Kg.out⟩
   case round=>
    clear WS Kg Ws yi BW;obtain⟨j,hj,rfl,hK,hF,hW,hP,hB⟩:=hrel;have HK:=hd0 hK;have HF:=hd0 hF;have HW:=hd0 hW;have HP:=hd0 hP;have HB:=hd0 hB;clear hK hF hW hP hB;by_cases hj5:j<5
    ·obtain⟨m,yU,Zw,uu⟩:=Qn x BF.out j hj5;have HS:=hd0 uu;have HLP:Hid (((cy x).take j).flatten.length<=100):=hd0 (rM EG.out NC.out j);have pi:wr.cell? ⟨pb,j,none⟩=some (.iface 3 (.int .i64 (m:Int))):=by rw[aa HP.out j];exact Zw
     have a0:=qG m;have rS:(j:Int)<5:=by omega
     clear Zw uu;go_wp2_with fail;refine(lN m _ (by omega)).mono ?_;rintro e w8 ⟨rfl,lA⟩;have BK:=hd0 (ab lA HF.out id);have uQ:=hd0 (ab lA HW.out id);have rT:=hd0 (ab lA HP.out id);have Bn:=hd0 (co HB.out lA);have rR:=hd0 (HK.out.keep lA);clear lA HF HW HP HB HK pi a0;go_wp2_with fail;refine(jh (w.heap.size+1) (w.heap.size+1) _ (aO m) w8 Bn.out (by have:=bG (n:=m) (by omega);have:=Nv.out;have:=HLP.out;simp only[at0];omega) (by have:=ai uQ.out;omega)).mono ?_;rintro e w9 ⟨rfl,Kb,so,tx⟩;have V2:=hd0 (ab tx BK.out (cO (by omega) BK.out (by decide)));have Vx:=hd0 (ab tx uQ.out (cO (by omega) uQ.out (by decide)));have po:=hd0 (ab tx rT.out (cO (by omega) rT.out (by decide)));have N9:Hid (cZ (w.heap.size+1) (w.heap.size+1) (pre++((cy x).take (j+1)).flatten) w9):=hd0 (by
      have h:=Kb;rw[auu]at h;rw[HS.out]at h;exact h)
     have Bu:=hd0 (cY rR.out so (by omega));clear Kb so tx BK uQ rT Bn rR;go_wp2_with fail;exact⟨⟨j+1,by omega,by go_num,Bu.out,V2.out,Vx.out,po.out,N9.out⟩,by simp[intOf];omega⟩
    ·obtain rfl:j=5:=by omega
     go_wp2_with fail;refine⟨⟨k+1,by omega,by go_num,HK.out,HF.out,by rw[qc Hx.out];exact HW.out,?_⟩,by simp[intOf];omega⟩;have h:=HB.out;rw[aux (by simp[cy]),rK]at h;have e:l.take (k+1)=l.take k++[x]:=by rw[atK,Hx.out];rfl
     rw[e];simp only[atZ,aus,List.flatMap_nil,List.append_nil];rw[<-auu,I3.out];exact h
  ·obtain rfl:k=l.length:=by omega
   have jd:Hid (cZ (w.heap.size+1) (w.heap.size+1) (jT l) wo):=hd0 (by have h:=HB.out;rwa [atM]at h);go_wp2_with fail;refine(gG (w.heap.size+1) (w.heap.size+1) (jT l) wo jd.out (by have:=ai HW.out;omega)).mono ?_;rintro e w6 ⟨rfl,re⟩;have tD:=hd0 (cY HK.out re (by omega));clear re;go_wp2;go_ret2;exact⟨rfl,tD.out⟩
end
section
open Go.RowKit
theorem A7:∀ {l:List Sn} {was:Int},0<=was->SI was l=true->∀ x∈l,0<x.id
 |[],_,_,_,x,hx=>by simp at hx
 |y::r,was,h0,h,x,hx=>by
  simp only[SI,at2,aua]at h;rcases at9.1 hx with rfl|hx
  ·omega
  ·exact A7 (l:=r) (was:=y.id) (by omega) h.2 x hx
theorem Qo {was:Int}{x:Sn}(h:GU was x)(h0:0<x.id):0<=x.id/\x.id<=1099511627776/\0<=x.plane/\x.plane<=1099511627776/\0<=x.table.root/\x.table.root<=1099511627776/\0<=x.table.size/\x.table.size<=1099511627776/\x.name.length<=16:=by
 obtain⟨h1,h2,h3,h4,h5,h6⟩:=h;simp only[fR.ok,fR.may,at2,aua]at h6;have h7:=h2;simp only[aH,at2,aua]at h7;omega
theorem o4 {was:Int}{x:Sn}(h:GU was x)(h0:0<x.id)(j:Nat):((bY x).take j).flatten.length<=100:=by
 have hn:=Qo h h0;have q0:=bG (n:=x.name.length) (by omega);have q1:=bG (n:=x.id.toNat) (by omega);have q2:=bG (n:=x.plane.toNat) (by omega);have q3:=bG (n:=x.table.root.toNat) (by omega);have q4:=bG (n:=x.table.size.toNat) (by omega);have hf:(bY x).flatten.length<=100:=by simp[bY];omega
 have:(bY x).flatten=((bY x).take j).flatten++((bY x).drop j).flatten:=by rw[<-List.flatten_append,List.take_append_drop]
 rw[this,at0]at hf;omega
theorem L4 {l:List Sn}(h:SI 0 l=true)(hl:l.length<=4096)(k:Nat):(aO l.length++(l.take k).flatMap oO).length<=1000000:=by
 have key:∀(m:List Sn),(∀ x∈m,(oO x).length<=100)->(m.flatMap oO).length<=m.length*100:=by
  intro m
  induction m with
  |nil=>intro _;simp
  |cons y r ih=>
   intro hm;have:=ih (fun x hx=>hm x (by simp[hx]));have:=hm y (by simp);rw[aus,at0,atH];omega
 have h1:=key (l.take k) (fun x hx=>by
  obtain⟨i,hi,rfl⟩:=List.getElem_of_mem (atN hx);have:=o4 (xd h (atI hi)) (A7 (Int.le_refl 0) h _ (aum hi)) 5
  rwa [aux (by simp[bY]),tY]at this)
 have h2:=bG (n:=l.length) (by omega);have h3:(l.take k).length<=4096:=by rw[atO];omega
 rw[at0];omega
theorem Uu (x:Sn)(h:0<=x.id/\x.id<=1099511627776/\0<=x.plane/\x.plane<=1099511627776/\0<=x.table.root/\x.table.root<=1099511627776/\0<=x.table.size/\x.table.size<=1099511627776/\x.name.length<=16)(j:Nat)(h0:0<j)(hj:j<5):
  ∃ m:Nat,(m:Int)<=1099511627776/\(#[.iface 9 (.string ⟨x.name.toArray⟩),.iface 3 (.int .i64 x.id),.iface 3 (.int .i64 x.plane),.iface 3 (.int .i64 x.table.root),.iface 3 (.int .i64 x.table.size)]:Array Value)[j]?=some (.iface 3 (.int .i64 (m:Int)))/\((bY x).take j).flatten++aO m=((bY x).take (j+1)).flatten:=by
 have ii:∀ {a:Int},0<=a->((a.toNat:Nat):Int)=a:=fun h=>by omega
 rcases(by omega:j=1\/j=2\/j=3\/j=4)with rfl|rfl|rfl|rfl
 ·exact⟨x.id.toNat,by omega,by rw[ii h.1];rfl,by simp[bY]⟩
 ·exact⟨x.plane.toNat,by omega,by rw[ii h.2.2.1];rfl,by simp[bY]⟩
 ·exact⟨x.table.root.toNat,by omega,by rw[ii h.2.2.2.2.1];rfl,by simp[bY]⟩
 ·exact⟨x.table.size.toNat,by omega,by rw[ii h.2.2.2.2.2.2.1];rfl,by simp[bY]⟩
theorem G7 (l:List Sn)(v:Value)(w:World)(cH:jY oe 5 w v l)(cC:zo l=true):
  Calls prog 210 #[A6,v] w fun e w'=>e=.returned (.tuple #[.string ⟨(jU l).toArray⟩,.int .i64 0])/\af w w':=by
 obtain⟨a,cap,rfl,hx⟩:=cH;have HX:=hd0 hx;clear hx;simp only[zo,at2,aua]at cC;obtain⟨aU,hB⟩:=cC;have Fp:=hd0 hB;clear hB;have h1:¬(4096:Int)<l.length:=by omega
 have Hl:=hd0 aU;clear aU;go_enter func210,ntmps210;go_wp2_with fail;refine(lN l.length _ (by have:=Hl.out;omega)).mono ?_;rintro e w2 ⟨rfl,dc⟩;have Sj:Hid (World.blk w2 w.heap.size #[.func (.func 260) #[] #[],.func (.func 262) #[] #[],.func (.func 263) #[] #[]] 289):=hd0 (ab dc (aG (aw _ _ _) _) id);have WL:Hid (cZ (w.heap.size+1) (w.heap.size+1) [] w2):=hd0 (by
  have h:=mX (w.alloc (.cells #[.func (.func 260) #[] #[],.func (.func 262) #[] #[],.func (.func 263) #[] #[]] 289));rw[show(w.alloc (.cells #[.func (.func 260) #[] #[],.func (.func 262) #[] #[],.func (.func 263) #[] #[]] 289)).heap.size=w.heap.size+1 by simp]at h;exact co h dc)
 have bu:=hd0 (dM (dM dc));have lD:=dc.size;simp at lD;clear dc;go_wp2_with fail;refine(jh (w.heap.size+1) (w.heap.size+1) [] (aO l.length) w2 WL.out (by have:=bG (n:=l.length) (by have:=Hl.out;omega);simp;omega) (by omega)).mono ?_;rintro e w3 ⟨rfl,us,xS,ln⟩;have Fm:=hd0 (ab ln Sj.out (cO (by omega) Sj.out (by decide)));have nW:=hd0 us;have dT:=hd0 (cY bu.out xS (by omega));have BH:=xS.size;rw[aul]at nW;clear us xS ln Sj WL bu;go_wp2_with fail;obtain⟨wb,IR⟩:∃ wb,wb=w3.heap.size:=⟨_,rfl⟩
 have Wo:Hid (World.blk (w3.alloc (.cells #[.string ⟨#[]⟩,.int .i64 0,.int .i64 0,.int .i64 0,.int .i64 0] 85)) wb #[.string ⟨#[]⟩,.int .i64 0,.int .i64 0,.int .i64 0,.int .i64 0] 85):=hd0 (aY IR _ _);have Wx:=hd0 (aG Fm.out (.cells #[.string ⟨#[]⟩,.int .i64 0,.int .i64 0,.int .i64 0,.int .i64 0] 85));have nG:=hd0 (co nW.out ((ah.refl (fun _=>False) w3).alloc (.cells #[.string ⟨#[]⟩,.int .i64 0,.int .i64 0,.int .i64 0,.int .i64 0] 85)));have dN:=hd0 (dT.out.alloc (.cells #[.string ⟨#[]⟩,.int .i64 0,.int .i64 0,.int .i64 0,.int .i64 0] 85));have ac3:w.heap.size+2<=wb:=by omega
 clear Fm nW dT;rw[<-IR];generalize w3.alloc (.cells #[.string ⟨#[]⟩,.int .i64 0,.int .i64 0,.int .i64 0,.int .i64 0] 85)=w4 at*;clear IR BH lD
 go_loopw [30] (fun i wr=>∃ k:Nat,k<=l.length/\i=.int .i64 (k:Int)/\af w wr/\World.blk wr w.heap.size #[.func (.func 260) #[] #[],.func (.func 262) #[] #[],.func (.func 263) #[] #[]] 289/\World.blk wr wb #[.string ⟨(dm l k).name.toArray⟩,.int .i64 (dm l k).id,.int .i64 (dm l k).plane,.int .i64 (dm l k).table.root,.int .i64 (dm l k).table.size] 85/\cZ (w.heap.size+1) (w.heap.size+1) (aO l.length++(l.take k).flatMap oO) wr) (fun i _=>l.length-(intOf i).toNat)
 case atStart=>exact⟨0,by omega,rfl,dN.out,Wx.out,Wo.out,by simpa using nG.out⟩
 case round=>
  clear Wx Wo nG dN;obtain⟨wo,rfl⟩:∃ wo,wo=wr:=⟨_,rfl⟩
  obtain⟨k,hk,rfl,hK,hF,hW,hB⟩:=hrel;have HK:=hd0 hK;have HF:=hd0 hF;have HW:=hd0 hW;have HB:=hd0 hB;clear hK hF hW hB;by_cases aM:k<l.length
  ·obtain⟨x,hx⟩:∃ x,l[k]?=some x:=⟨_,atI aM⟩
   have Hx:=hd0 hx;have EG:=hd0 (xd Fp.out hx);have NC:=hd0 (A7 (Int.le_refl 0) Fp.out x (atJ hx));clear hx;obtain⟨b,o,rfl,hc⟩:=HX.out k x Hx.out;have c0:wo.cell? ⟨b,o+k*5,none⟩=some (.string ⟨x.name.toArray⟩):=by have h:=hc 0 _ rfl;rw[HK.out.cell (p:=⟨b,o+k*5,none⟩) (am h) id];exact h
   have c1:wo.cell? ⟨b,o+k*5+1,none⟩=some (.int .i64 x.id):=by have h:=hc 1 _ rfl;rw[HK.out.cell (p:=⟨b,o+k*5+1,none⟩) (am h) id];exact h
   have c2:wo.cell? ⟨b,o+k*5+2,none⟩=some (.int .i64 x.plane):=by have h:=hc 2 _ rfl;rw[HK.out.cell (p:=⟨b,o+k*5+2,none⟩) (am h) id];exact h
   have c3:wo.cell? ⟨b,o+k*5+3,none⟩=some (.int .i64 x.table.root):=by have h:=hc 3 _ rfl;rw[HK.out.cell (p:=⟨b,o+k*5+3,none⟩) (am h) id];exact h
   have c4:wo.cell? ⟨b,o+k*5+4,none⟩=some (.int .i64 x.table.size):=by have h:=hc 4 _ rfl;rw[HK.out.cell (p:=⟨b,o+k*5+4,none⟩) (am h) id];exact h
   have f0:wo.cell? ⟨w.heap.size,0,none⟩=some (.func (.func 260) #[] #[]):=aa HF.out 0;have f1:wo.cell? ⟨w.heap.size,1,none⟩=some (.func (.func 262) #[] #[]):=aa HF.out 1;have g0:wo.cell? ⟨wb,0,none⟩=some (.string ⟨(dm l k).name.toArray⟩):=aa HW.out 0;have g1:wo.cell? ⟨wb,1,none⟩=some (.int .i64 (dm l k).id):=aa HW.out 1;have g2:wo.cell? ⟨wb,2,none⟩=some (.int .i64 (dm l k).plane):=aa HW.out 2;have g3:wo.cell? ⟨wb,3,none⟩=some (.int .i64 (dm l k).table.root):=aa HW.out 3;have g4:wo.cell? ⟨wb,4,none⟩=some (.int .i64 (dm l k).table.size):=aa HW.out 4;obtain⟨fb,hq⟩:∃ fb,((k:Int)==0)=fb:=⟨_,rfl⟩
   have z0:w.heap.size<wo.heap.size:=ai HF.out;have z1:wb<wo.heap.size:=ai HW.out;clear hc;go_wp2_with fail;refine(LW (dm l k) x fb EG.out _).mono ?_;rintro e w5 ⟨rfl,mi⟩;have Fo:=hd0 (ab mi (aG HF.out _) id);have mS:=hd0 (ab mi (aG HW.out _) id);have uy:=hd0 (ab mi (aw wo _ _) id);have Fa:=hd0 (co HB.out (dM mi));have j7:=hd0 (HK.out.keep (dM mi));have Fb:=mi.size;simp at Fb;clear mi c0 c1 c2 c3 c4 f0 f1 g0 g1 g2 g3 g4 z0 HF HW HB HK hq;generalize wo.heap.size=xb at*;have f1:w5.cell? ⟨w.heap.size,1,none⟩=some (.func (.func 262) #[] #[]):=aa Fo.out 1;have g0:w5.frozen? ⟨wb,0,none⟩=false:=ae mS.out _ rfl;have d0:w5.cell? ⟨wb,0,none⟩=some (.string ⟨(dm l k).name.toArray⟩):=aa mS.out 0;have e0:w5.cell? ⟨xb,0,none⟩=some (.string ⟨x.name.toArray⟩):=aa uy.out 0;have g1:w5.frozen? ⟨wb,1,none⟩=false:=ae mS.out _ rfl;have d1:w5.cell? ⟨wb,1,none⟩=some (.int .i64 (dm l k).id):=aa mS.out 1;have e1:w5.cell? ⟨xb,1,none⟩=some (.int .i64 x.id):=aa uy.out 1;have g2:w5.frozen? ⟨wb,2,none⟩=false:=ae mS.out _ rfl;have d2:w5.cell? ⟨wb,2,none⟩=some (.int .i64 (dm l k).plane):=aa mS.out 2;have e2:w5.cell? ⟨xb,2,none⟩=some (.int .i64 x.plane):=aa uy.out 2;have g3:w5.frozen? ⟨wb,3,none⟩=false:=ae mS.out _ rfl;have d3:w5.cell? ⟨wb,3,none⟩=some (.int .i64 (dm l k).table.root):=aa mS.out 3;have e3:w5.cell? ⟨xb,3,none⟩=some (.int .i64 x.table.root):=aa uy.out 3;have g4:w5.frozen? ⟨wb,4,none⟩=false:=ae mS.out _ rfl;have d4:w5.cell? ⟨wb,4,none⟩=some (.int .i64 (dm l k).table.size):=aa mS.out 4;have e4:w5.cell? ⟨xb,4,none⟩=some (.int .i64 x.table.size):=aa uy.out 4;have n1:¬ w.heap.size=wb:=by omega
   have n2:¬ xb=wb:=by omega
   go_wp2_with fail;refine(LX x _).mono ?_;rintro e w7 ⟨pb,rfl,mL,rg,pk⟩;have rc:ah (·=wb) w5 (((((w5.setCell ⟨wb,0,none⟩ (.string ⟨x.name.toArray⟩)).setCell ⟨wb,1,none⟩ (.int .i64 x.id)).setCell ⟨wb,2,none⟩ (.int .i64 x.plane)).setCell ⟨wb,3,none⟩ (.int .i64 x.table.root)).setCell ⟨wb,4,none⟩ (.int .i64 x.table.size)):=((((((ah.refl (fun y=>y=wb) w5).setCell (p:=⟨wb,0,none⟩) (.inl rfl) _).setCell (p:=⟨wb,1,none⟩) (.inl rfl) _).setCell (p:=⟨wb,2,none⟩) (.inl rfl) _).setCell (p:=⟨wb,3,none⟩) (.inl rfl) _).setCell (p:=⟨wb,4,none⟩) (.inl rfl) _)
   have WS:=hd0 (ab rg (ab rc Fo.out n1) id);have Kg:=hd0 (co (uF Fa.out rc (by omega) (fun q c fr hq e=>by
    subst e;have:=mS.out;unfold World.blk at this;rw[this]at hq
    cases hq)) rg)
   have Ws:Hid (World.blk w7 wb #[.string ⟨x.name.toArray⟩,.int .i64 x.id,.int .i64 x.plane,.int .i64 x.table.root,.int .i64 x.table.size] 85):=hd0 (ab rg (ag (ag (ag (ag (ag mS.out 0 _) 1 _) 2 _) 3 _) 4 _) id);have yi:=hd0 ((j7.out.new rc (by omega)).keep rg);have BW:=hd0 pk;have hpw:wb<pb:=by
    have h:=ai mS.out;have e:=rc.size;omega
   have BF:=hd0 (Qo EG.out NC.out);clear rg pk rc f1 g0 d0 e0 g1 d1 e1 g2 d2 e2 g3 d3 e3 g4 d4 e4 n1 n2 Fo mS uy Fa j7 Fb mL;have Nv:Hid ((aO l.length++(l.take k).flatMap oO).length<=1000000):=hd0 (L4 Fp.out Hl.out k);generalize ut:aO l.length++(l.take k).flatMap oO=pre at*;have I3:=hd0 ut;clear ut;go_wp2_with fail
   go_loopw [49] (fun i wr=>∃ j:Nat,j<=5/\i=.int .i64 (j:Int)/\af w wr/\World.blk wr w.heap.size #[.func (.func 260) #[] #[],.func (.func 262) #[] #[],.func (.func 263) #[] #[]] 289/\World.blk wr wb #[.string ⟨x.name.toArray⟩,.int .i64 x.id,.int .i64 x.plane,.int .i64 x.table.root,.int .i64 x.table.size] 85/\World.blk wr pb #[.iface 9 (.string ⟨x.name.toArray⟩),.iface 3 (.int .i64 x.id),.iface 3 (.int .i64 x.plane),.iface 3 (.int .i64 x.table.root),.iface 3 (.int .i64 x.table.size)] 20/\cZ (w.heap.size+1) (w.heap.size+1) (pre++((bY x).take j).flatten) wr) (fun i _=>5-(intOf i).toNat)
   case atStart=>exact⟨0,by omega,rfl,yi.out,WS.out,Ws.out,BW.out,by simpa using Kg.out⟩
   case round=>
    clear WS Kg Ws yi BW;obtain⟨j,hj,rfl,hK,hF,hW,hP,hB⟩:=hrel;have HK:=hd0 hK;have HF:=hd0 hF;have HW:=hd0 hW;have HP:=hd0 hP;have HB:=hd0 hB;clear hK hF hW hP hB;by_cases hj0:j=0
    ·subst hj0;have HS:Hid (((bY x).take 0).flatten++(aO x.name.length++x.name)=((bY x).take (0+1)).flatten):=hd0 (by simp[bY]);have HLP:Hid (((bY x).take 0).flatten.length<=100):=hd0 (o4 EG.out NC.out 0);have pi:wr.cell? ⟨pb,0,none⟩=some (.iface 9 (.string ⟨x.name.toArray⟩)):=aa HP.out 0;have a0:=zO ⟨x.name.toArray⟩;have a1:=wY ⟨x.name.toArray⟩;go_wp2_with fail;refine(sT x.name _ (by have:=BF.out;omega)).mono ?_;rintro e w8 ⟨rfl,lA⟩;have BK:=hd0 (ab lA HF.out id);have uQ:=hd0 (ab lA HW.out id);have rT:=hd0 (ab lA HP.out id);have Bn:=hd0 (co HB.out lA);have rR:=hd0 (HK.out.keep lA);clear lA HF HW HP HB HK pi a0 a1;go_wp2_with fail;refine(jh (w.heap.size+1) (w.heap.size+1) _ (aO x.name.length++x.name) w8 Bn.out (by have:=bG (n:=x.name.length) (by have:=BF.out;omega);have:=BF.out;have:=Nv.out;have:=HLP.out;simp only[at0];omega) (by have:=ai uQ.out;omega)).mono ?_;rintro e w9 ⟨rfl,Kb,so,tx⟩;have V2:=hd0 (ab tx BK.out (cO (by omega) BK.out (by decide)));have Vx:=hd0 (ab tx uQ.out (cO (by omega) uQ.out (by decide)));have po:=hd0 (ab tx rT.out (cO (by omega) rT.out (by decide)));have N9:Hid (cZ (w.heap.size+1) (w.heap.size+1) (pre++((bY x).take (0+1)).flatten) w9):=hd0 (by
      have h:=Kb;rw[auu]at h;have e:((bY x).take 0).flatten++(aO x.name.length++x.name)=((bY x).take (0+1)).flatten:=by
       rw[<-HS.out]
      rw[e]at h;exact h)
     have Bu:=hd0 (cY rR.out so (by omega));clear Kb so tx BK uQ rT Bn rR;go_wp2_with fail;refine⟨⟨0+1,by omega,rfl,Bu.out,V2.out,Vx.out,po.out,N9.out⟩,by decide⟩
    ·by_cases hj5:j<5
     ·obtain⟨m,yU,Zw,uu⟩:=Uu x BF.out j (by omega) hj5;have HS:=hd0 uu;have HLP:Hid (((bY x).take j).flatten.length<=100):=hd0 (o4 EG.out NC.out j);have pi:wr.cell? ⟨pb,j,none⟩=some (.iface 3 (.int .i64 (m:Int))):=by rw[aa HP.out j];exact Zw
      have rS:(j:Int)<5:=by omega
      clear Zw uu;have a0:=qG m;go_wp2_with fail;refine(lN m _ (by omega)).mono ?_;rintro e w8 ⟨rfl,lA⟩;have BK:=hd0 (ab lA HF.out id);have uQ:=hd0 (ab lA HW.out id);have rT:=hd0 (ab lA HP.out id);have Bn:=hd0 (co HB.out lA);have rR:=hd0 (HK.out.keep lA);clear lA HF HW HP HB HK pi a0;go_wp2_with fail;refine(jh (w.heap.size+1) (w.heap.size+1) _ (aO m) w8 Bn.out (by have:=bG (n:=m) (by omega);have:=Nv.out;have:=HLP.out;simp only[at0];omega) (by have:=ai uQ.out;omega)).mono ?_;rintro e w9 ⟨rfl,Kb,so,tx⟩;have V2:=hd0 (ab tx BK.out (cO (by omega) BK.out (by decide)));have Vx:=hd0 (ab tx uQ.out (cO (by omega) uQ.out (by decide)));have po:=hd0 (ab tx rT.out (cO (by omega) rT.out (by decide)));have N9:Hid (cZ (w.heap.size+1) (w.heap.size+1) (pre++((bY x).take (j+1)).flatten) w9):=hd0 (by
       have h:=Kb;rw[auu]at h;rw[HS.out]at h;exact h)
      have Bu:=hd0 (cY rR.out so (by omega));clear Kb so tx BK uQ rT Bn rR;go_wp2_with fail;exact⟨⟨j+1,by omega,by go_num,Bu.out,V2.out,Vx.out,po.out,N9.out⟩,by simp[intOf];omega⟩
     ·obtain rfl:j=5:=by omega
      go_wp2_with fail;refine⟨⟨k+1,by omega,by go_num,HK.out,HF.out,by rw[rJ Hx.out];exact HW.out,?_⟩,by simp[intOf];omega⟩;have h:=HB.out;rw[aux (by simp[bY]),tY]at h;have e:l.take (k+1)=l.take k++[x]:=by rw[atK,Hx.out];rfl
      rw[e];simp only[atZ,aus,List.flatMap_nil,List.append_nil];rw[<-auu,I3.out];exact h
  ·obtain rfl:k=l.length:=by omega
   have jd:Hid (cZ (w.heap.size+1) (w.heap.size+1) (jU l) wo):=hd0 (by have h:=HB.out;rwa [atM]at h);go_wp2_with fail;refine(gG (w.heap.size+1) (w.heap.size+1) (jU l) wo jd.out (by have:=ai HW.out;omega)).mono ?_;rintro e w6 ⟨rfl,re⟩;have tD:=hd0 (cY HK.out re (by omega));clear re;go_wp2;go_ret2;exact⟨rfl,tD.out⟩
end
section
open Go.RowKit
theorem DY {α:Type}{f:α->List Value}{sz:Nat}{P:Program}{ts te:TypeId}{z:Value}{bytes:Nat}(hs:P.underlying ts=some (.slice te))(hi:(P.info? te).map (fun i=>(i.zero,i.size,i.bytes))=some (some z,sz,bytes))(hz:z.cells.size=sz)(cA:0<sz)
  (hf:∀ a,(f a).length=sz) (base:Nat) (v:Value) (l:List α) (w w0:World) (bt:dQ f sz te w base v l) (va:Value) (ys:List α) (ha:jY f sz w va ys) (h1:∀ y∈ys,∀ u∈f y,u.oneCell'=true) (hn:l.length+ys.length<=maxLen) (Bk:(l.length+ys.length)*bytes<=140737488355328)
  (E5:base<=w.heap.size) (h0:af w0 w) (iC:w0.heap.size<=base):
  ∃ v' w',(Builtin.append_ #[ts,ts] ts #[v,va]).run P w=.ok v' w'/\dQ f sz te w' base v' (l++ys)/\af w0 w'/\ah (fun b=>base<=b) w w':=by
 obtain⟨i0,hi,nD,mK,ol⟩:=atW hi;obtain⟨a,cap,rfl,hx⟩:=ha;rcases a with _|a
 ·have hy:ys=[]:=by
   cases ys with
   |nil=>rfl
   |cons y ys=>obtain⟨b,o,hb,_⟩:=hx 0 y rfl;cases hb
  subst hy;obtain⟨a0,sl,sc,rfl,I2⟩:∃ a0 sl sc,v=.slice a0 sl sc/\sl<=sc:=by
   rcases bt.2 with⟨rfl,h⟩|⟨g,cp,du,rfl,_,_,hc,_⟩
   ·exact⟨none,0,0,rfl,atL _⟩
   ·exact⟨_,_,_,rfl,hc⟩
  refine⟨_,w,run_append_nothing w ts ts ts te i0 hs hi a0 sl sc I2 (.slice none 0 cap) (Src.ofNil w hs cap),by simpa[dQ]using bt,h0,ah.refl _ _⟩
 ·have aU:=rF hf ys;have yb:∀ j u,(ys.flatMap f)[j]?=some u->w.cell? (a.add j)=some u:=fun j u hj=>by
   have SP:=(atX.1 hj).1;rw[aU]at SP;have hq:j/sz*sz+j%sz=j:=by rw[Nat.mul_comm];exact Nat.div_add_mod j sz
   have h5:=Ds hf ys (j/sz) (j%sz) (Nat.mod_lt _ cA);rw[hq,hj]at h5
   cases hy:ys[j/sz]? with
   |none=>rw[hy]at h5;cases h5
   |some y=>
    rw[hy]at h5;obtain⟨b,o,hb,hc⟩:=hx (j/sz) y hy
    cases hb
    rw[gl];have:=hc (j%sz) u h5.symm
    rwa [atY,hq]at this
  obtain⟨v',w',r1,r2,r3,_⟩:=run_append_own (P:=P) w base ts ts te i0 z sz bytes hs hi nD mK ol hz cA v l.length (l.flatMap f) bt a ys.length cap (ys.flatMap f) aU yb (fun u hu=>by
   obtain⟨y,hy,hu⟩:=List.mem_flatMap.1 hu;exact h1 y hy u hu) hn Bk E5
  refine⟨v',w',r1,?_,ah.grown h0 r3 (fun k hk=>.inr (atE iC (bt.lt k hk).1)),ah.grown (ah.refl _ w) r3 (fun k hk=>.inl (bt.lt k hk).1)⟩;unfold dQ;rw[atZ,at0];exact r2
theorem L6 {α:Type}{f:α->List Value}{sz:Nat}(w:World)(t:TypeId):dQ f sz t (w.alloc (.cells #[] t)) w.heap.size (.slice (some ⟨w.heap.size,0,none⟩) 0 0) ([]:List α):=by
 refine⟨by simp,.inr ⟨w.heap.size,0,#[],rfl,atL _,aw w _ _,atL _,by simp[maxLen],by simp,by simp⟩⟩
end
end Go.Proofs.YtkghpdcloaiflaaGreatDoor
