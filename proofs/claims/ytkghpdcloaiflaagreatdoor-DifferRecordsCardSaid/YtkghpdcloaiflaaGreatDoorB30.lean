import Derived.Test.YtkghpdcloaiflaaGreatDoorB21
import Derived.Test.YtkghpdcloaiflaaGreatDoorB29
set_option maxHeartbeats 8000000
set_option maxRecDepth 100000
namespace Go.Proofs.YtkghpdcloaiflaaGreatDoor
open _root_.Go.Proofs.Tryz
section
open Go.RowKit Go.Shelf
def tl (pv pl:Nat)(b:i7)(iv sv nv:Value)(pm pt:Nat):Array Value:=
 #[aq pv,aq pl,.int .i64 b.table.root,.int .i64 b.table.size,.int .i64 b.snaps.root,.int .i64 b.snaps.size,.int .i64 b.mapped.root,.int .i64 b.mapped.size,.int .i64 (b.next:Int),.int .i64 (b.id:Int),iv,sv,aq pm,nv,aq pt,.bool false]
structure eY where
 pv:Nat
 pl:Nat
 pm:Nat
 pt:Nat
 iv:Value
 sv:Value
 nv:Value
 d:Dk
 dl:Dk
 text:ay
 role:Nat->cW
 Fv:Nat->Prop
 Fl:Nat->Prop
def eY.still (a:eY)(b:Nat):Prop:=b=a.pm\/a.role b≠.none\/a.iv.ownBlock=some b\/a.sv.ownBlock=some b\/a.nv.ownBlock=some b
def eY.foot (a:eY)(p b:Nat):Prop:=b=p\/a.Fv b\/a.Fl b\/a.still b
structure lz (w:World)(p:Nat)(v:Vs)(a:eY):Prop where
 own:World.blk w p (tl a.pv a.pl v.b a.iv a.sv a.nv a.pm a.pt) 102
 vol:gW w a.pv a.d a.text v.num a.Fv
 rd:iq a.d=v.rd
 size:a.d.size/4=v.blocks
 log:kZ w a.pl a.dl v.num v.recs a.Fl
 half:bG a.dl*64=v.half
 inos:ec jD 5 128 w 0 a.iv v.b.inodes
 list:ec ue 5 85 w 0 a.sv v.b.list
 nodes:ec gx 4 221 w 0 a.nv v.b.nodes
 map:dx w a.pm v.blocks v.b.planes
 tree:∃ tb A M,aH w a.pt v.T tb A M a.role
 wf:∃ d,WF v.T d
 apart:∀ b,a.Fv b->¬ a.Fl b
 nv:¬ a.Fv p
 nl:¬ a.Fl p
 stays:∀ b,a.still b->¬ a.Fv b/\¬ a.Fl b/\b≠p
theorem ee {α:Type}{f:α->List Value}{sz:Nat}{t:TypeId}{w:World}{v:Value}{l:List α}(h:ec f sz t w 0 v l){g:Nat}(hg:v.ownBlock=some g):g<w.heap.size:=aT h hg
theorem gW.lt {w:World}{v:Nat}{d:Dk}{text:ay}{num:Nat}{F:Nat->Prop}(h:gW w v d text num F)(b:Nat)(hb:F b):b<w.heap.size:=by
 obtain⟨pd,pc,M,Fd,Fc,h⟩:=h;exact h.lt b hb
theorem kZ.lt {w:World}{l gen:Nat}{d:Dk}{recs:List ay}{F:Nat->Prop}(h:kZ w l d gen recs F)(b:Nat)(hb:F b):b<w.heap.size:=by
 obtain⟨pd,lv,Fd,h⟩:=h;exact h.lt b hb
theorem aH.same {w w':World}{p:Nat}{T:Tr}{tb:Nat}{A M:Int->Nat}{role:Nat->cW}(h:aH w p T tb A M role)(m:fC (fun b=>role b≠.none) w w')(hs:w.heap.size<=w'.heap.size):aH w' p T tb A M role:=by
 have hm:ah (fun b=>role b=.none) { w with os:=w'.os,tape:=w'.tape,output:=w'.output } w':=⟨rfl,rfl,rfl,hs,fun k hk hn=>m k hn hk⟩
 have h0:aH { w with os:=w'.os,tape:=w'.tape,output:=w'.output } p T tb A M role:=⟨h.tree,h.rtree,h.of,h.rof,h.node,h.rnode,h.names,h.rnames,h.lt⟩
 exact h0.mod hm fun b hb=>hb
theorem lz.lt {w:World}{p:Nat}{v:Vs}{a:eY}(h:lz w p v a){b:Nat}(hb:a.foot p b):b<w.heap.size:=by
 rcases hb with rfl|hb|hb|rfl|hb|hb|hb|hb
 ·exact ak h.own
 ·exact h.vol.lt b hb
 ·exact h.log.lt b hb
 ·exact h.map.lt
 ·obtain⟨tb,A,M,t⟩:=h.tree;exact t.lt b hb
 ·exact ee h.inos hb
 ·exact ee h.list hb
 ·exact ee h.nodes hb
theorem lz.same {w w':World}{p:Nat}{v:Vs}{a:eY}(h:lz w p v a)(m:fC (a.foot p) w w')(hs:w.heap.size<=w'.heap.size):lz w' p v a where
 own:=(m p (.inl rfl) (ak h.own)).trans h.own
 vol:=h.vol.same (fun b hb hl=>m b (.inr (.inl hb)) hl) hs
 rd:=h.rd
 size:=h.size
 log:=h.log.same (fun b hb hl=>m b (.inr (.inr (.inl hb))) hl) hs
 half:=h.half
 inos:=az h.inos fun b hb=>m b (.inr (.inr (.inr (.inr (.inr (.inl hb)))))) (ee h.inos hb)
 list:=az h.list fun b hb=>m b (.inr (.inr (.inr (.inr (.inr (.inr (.inl hb))))))) (ee h.list hb)
 nodes:=az h.nodes fun b hb=>m b (.inr (.inr (.inr (.inr (.inr (.inr (.inr hb))))))) (ee h.nodes hb)
 map:=⟨(m a.pm (.inr (.inr (.inr (.inl rfl)))) h.map.lt).trans h.map.own,h.map.many,h.map.eight,h.map.short⟩
 tree:=by
  obtain⟨tb,A,M,t⟩:=h.tree;exact⟨tb,A,M,t.same (fun b hb hl=>m b (.inr (.inr (.inr (.inr (.inl hb))))) hl) hs⟩
 wf:=h.wf
 apart:=h.apart
 nv:=h.nv
 nl:=h.nl
 stays:=h.stays
def lA (pv size:Nat)(text:ay)(num:Nat)(rd:Rd)(w:World)(F:Nat->Prop):Prop:=∃ d,gW w pv d text num F/\iq d=rd/\d.size=size
end
section
open Go.RowKit Go.Shelf
theorem Iq {d:Dk}{n:Int}{p:ay}(h:iq d n=.ok p):1<=n/\n<(d.size/4:Nat):=by
 unfold iq at h;split at h
 ·assumption
 ·cases h
theorem nK (pv size:Nat)(text:ay)(num:Nat)(rd:Rd):qk 94 (aq pv) 57 (lA pv size text num rd) rd where
 meth _:=by kernel_rfl
 call _ _:=by kernel_rfl
 read:=by
  rintro w F n p ⟨d,h,rfl,rfl⟩ hn;obtain⟨h1,h2⟩:=Iq hn;obtain⟨k,rfl⟩:∃ k:Nat,n=k:=⟨n.toNat,by omega⟩
  refine(zC h k (by omega) (by omega) p hn).mono ?_;rintro e w' ⟨rfl,F',h',k'⟩;exact⟨rfl,F',⟨d,h',rfl,rfl⟩,k'⟩
 same:=by
  rintro w w' F ⟨d,h,h1,h2⟩ m hs;exact⟨d,h.same m hs,h1,h2⟩
 lt:=by
  rintro w F ⟨d,h,h1,h2⟩ b hb;exact h.lt b hb
theorem Ir (pv size:Nat)(text:ay)(num:Nat):z7 94 (aq pv) 57 393 (lA pv size text num) (size/4) where
 src rd:=nK pv size text num rd
 methW _:=by kernel_rfl
 callW _ _ _:=by kernel_rfl
 write:=by
  rintro rd w F n p ⟨d,h,rfl,rfl⟩ h1 h2 hp;refine(Gx h n h1 h2 p hp).mono ?_;rintro e w' ⟨rfl,F',h',k'⟩;exact⟨rfl,F',⟨_,h',CK h1 h2 hp,jv d n _ 4⟩,k'⟩
theorem mQ (w:World):Calls prog 129 #[.int .i64 0] w fun e w'=>e=.returned (.tuple #[])/\w'=w:=by
 go_enter func129,ntmps129;go_wp2_with fail;go_end0;exact⟨rfl,rfl⟩
end
section
open Go.RowKit
theorem xx:∀ {l:List fH} {was:Int},0<=was->yJ was l=true->∀ x∈l,0<x.num
 |[],_,_,_,x,hx=>by simp at hx
 |y::r,was,h0,h,x,hx=>by
  simp only[yJ,avj,avo]at h;rcases avn.1 hx with rfl|hx
  ·omega
  ·exact xx (l:=r) (was:=y.num) (by omega) h.2 x hx
theorem Ka {was:Int}{x:fH}(h:xo was x)(h0:0<x.num):0<=x.num/\x.num<=1099511627776/\0<=x.links/\x.links<=1099511627776/\0<=x.blob.root/\x.blob.root<=1099511627776/\0<=x.blob.size/\x.blob.size<=1099511627776:=by
 obtain⟨h1,h2,h3,h4,h5⟩:=h;simp only[fU.ok,fU.may,avj,avo]at h5;omega
theorem rW {was:Int}{x:fH}(h:xo was x)(h0:0<x.num)(j:Nat):((cE x).take j).flatten.length<=100:=by
 have hn:=Ka h h0;have q0:=aV (n:=x.num.toNat) (by omega);have q1:(aG (if x.dir=true then 1 else 0)).length<=9:=aV (by split<;>omega);have q2:=aV (n:=x.links.toNat) (by omega);have q3:=aV (n:=x.blob.root.toNat) (by omega);have q4:=aV (n:=x.blob.size.toNat) (by omega);have hf:(cE x).flatten.length<=100:=by simp[cE];omega
 have:(cE x).flatten=((cE x).take j).flatten++((cE x).drop j).flatten:=by rw[<-List.flatten_append,List.take_append_drop]
 rw[this,avi]at hf;omega
theorem Is {l:List fH}(h:yJ 0 l=true)(hl:l.length<=4096)(k:Nat):(aG l.length++(l.take k).flatMap oc).length<=1000000:=by
 have key:∀(m:List fH),(∀ x∈m,(oc x).length<=100)->(m.flatMap oc).length<=m.length*100:=by
  intro m
  induction m with
  |nil=>intro _;simp
  |cons y r ih=>
   intro hm;have:=ih (fun x hx=>hm x (by simp[hx]));have:=hm y (by simp);rw[avH,avi,au0];omega
 have h1:=key (l.take k) (fun x hx=>by
  obtain⟨i,hi,rfl⟩:=List.getElem_of_mem (au6 hx);have:=rW (ug h (au1 hi)) (xx (Int.le_refl 0) h _ (avB hi)) 5
  rwa [avM (by simp[cE]),rU]at this)
 have h2:=aV (n:=l.length) (by omega);have h3:(l.take k).length<=4096:=by rw[au7];omega
 rw[avi];omega
theorem QH (x:fH)(h:0<=x.num/\x.num<=1099511627776/\0<=x.links/\x.links<=1099511627776/\0<=x.blob.root/\x.blob.root<=1099511627776/\0<=x.blob.size/\x.blob.size<=1099511627776)(j:Nat)(hj:j<5):
  ∃ m:Nat,(m:Int)<=1099511627776/\(#[.iface 3 (.int .i64 x.num),.iface 3 (.int .i64 (if x.dir=true then 1 else 0)),.iface 3 (.int .i64 x.links),.iface 3 (.int .i64 x.blob.root),.iface 3 (.int .i64 x.blob.size)]:Array Value)[j]?=some (.iface 3 (.int .i64 (m:Int)))/\((cE x).take j).flatten++aG m=((cE x).take (j+1)).flatten:=by
 have ii:∀ {a:Int},0<=a->((a.toNat:Nat):Int)=a:=fun h=>by omega
 rcases(by omega:j=0\/j=1\/j=2\/j=3\/j=4)with rfl|rfl|rfl|rfl|rfl
 ·exact⟨x.num.toNat,by omega,by rw[ii h.1];rfl,by simp[cE]⟩
 ·exact⟨if x.dir=true then 1 else 0,by split<;>decide,by cases x.dir<;>rfl,by simp[cE]⟩
 ·exact⟨x.links.toNat,by omega,by rw[ii h.2.2.1];rfl,by simp[cE]⟩
 ·exact⟨x.blob.root.toNat,by omega,by rw[ii h.2.2.2.2.1];rfl,by simp[cE]⟩
 ·exact⟨x.blob.size.toNat,by omega,by rw[ii h.2.2.2.2.2.2.1];rfl,by simp[cE]⟩
theorem Em (l:List fH)(v:Value)(w:World)(cI:mC jD 5 w v l)(bQ:qN l=true):
  Calls prog 259 #[uX,v] w fun e w'=>e=.returned (.tuple #[.string ⟨(j7 l).toArray⟩,.int .i64 0])/\af w w':=by
 obtain⟨a,cap,rfl,hx⟩:=cI;have HX:=hd0 hx;clear hx;simp only[qN,avj,avo]at bQ;obtain⟨bA,hB⟩:=bQ;have Cw:=hd0 hB;clear hB;have h1:¬(4096:Int)<l.length:=by omega
 have Hl:=hd0 bA;clear bA;go_enter func259,ntmps259;go_wp2_with fail;refine(lP l.length _ (by have:=Hl.out;omega)).mono ?_;rintro e w2 ⟨rfl,dd⟩;have Sj:Hid (World.blk w2 w.heap.size #[.func (.func 277) #[] #[],.func (.func 278) #[] #[],.func (.func 280) #[] #[]] 308):=hd0 (ab dd (aF (av _ _ _) _) id);have Yn:Hid (da (w.heap.size+1) (w.heap.size+1) [] w2):=hd0 (by
  have h:=nw (w.alloc (.cells #[.func (.func 277) #[] #[],.func (.func 278) #[] #[],.func (.func 280) #[] #[]] 308));rw[show(w.alloc (.cells #[.func (.func 277) #[] #[],.func (.func 278) #[] #[],.func (.func 280) #[] #[]] 308)).heap.size=w.heap.size+1 by simp]at h;exact cw h dd)
 have bw:=hd0 (dO (dO dd));have lB:=dd.size;simp at lB;clear dd;go_wp2_with fail;refine(jn (w.heap.size+1) (w.heap.size+1) [] (aG l.length) w2 Yn.out (by have:=aV (n:=l.length) (by have:=Hl.out;omega);simp;omega) (by omega)).mono ?_;rintro e w3 ⟨rfl,uJ,ya,lu⟩;have FQ:=hd0 (ab lu Sj.out (cP (by omega) Sj.out (by decide)));have oq:=hd0 uJ;have dR:=hd0 (cZ bw.out ya (by omega));have Cc:=ya.size;rw[avA]at oq;clear uJ ya lu Sj Yn bw;go_wp2_with fail;obtain⟨wb,Jp⟩:∃ wb,wb=w3.heap.size:=⟨_,rfl⟩
 have XB:Hid (World.blk (w3.alloc (.cells #[.int .i64 0,.bool false,.int .i64 0,.int .i64 0,.int .i64 0] 128)) wb #[.int .i64 0,.bool false,.int .i64 0,.int .i64 0,.int .i64 0] 128):=hd0 (aZ Jp _ _);have YH:=hd0 (aF FQ.out (.cells #[.int .i64 0,.bool false,.int .i64 0,.int .i64 0,.int .i64 0] 128));have nT:=hd0 (cw oq.out ((ah.refl (fun _=>False) w3).alloc (.cells #[.int .i64 0,.bool false,.int .i64 0,.int .i64 0,.int .i64 0] 128)));have dT:=hd0 (dR.out.alloc (.cells #[.int .i64 0,.bool false,.int .i64 0,.int .i64 0,.int .i64 0] 128));have aeG:w.heap.size+2<=wb:=by omega
 clear FQ oq dR;rw[<-Jp];generalize w3.alloc (.cells #[.int .i64 0,.bool false,.int .i64 0,.int .i64 0,.int .i64 0] 128)=w4 at*;clear Jp Cc lB
 go_loopw [30] (fun i wr=>∃ k:Nat,k<=l.length/\i=.int .i64 (k:Int)/\af w wr/\World.blk wr w.heap.size #[.func (.func 277) #[] #[],.func (.func 278) #[] #[],.func (.func 280) #[] #[]] 308/\World.blk wr wb #[.int .i64 (cC l k).num,.bool (cC l k).dir,.int .i64 (cC l k).links,.int .i64 (cC l k).blob.root,.int .i64 (cC l k).blob.size] 128/\da (w.heap.size+1) (w.heap.size+1) (aG l.length++(l.take k).flatMap oc) wr) (fun i _=>l.length-(intOf i).toNat)
 case atStart=>exact⟨0,by omega,rfl,dT.out,YH.out,XB.out,by simpa using nT.out⟩
 case round=>
  clear YH XB nT dT;obtain⟨wo,rfl⟩:∃ wo,wo=wr:=⟨_,rfl⟩
  obtain⟨k,hk,rfl,hK,hF,hW,hB⟩:=hrel;have HK:=hd0 hK;have HF:=hd0 hF;have HW:=hd0 hW;have HB:=hd0 hB;clear hK hF hW hB;by_cases aL:k<l.length
  ·obtain⟨x,hx⟩:∃ x,l[k]?=some x:=⟨_,au1 aL⟩
   have Hx:=hd0 hx;have Fi:=hd0 (ug Cw.out hx);have N9:=hd0 (xx (Int.le_refl 0) Cw.out x (au2 hx));clear hx;obtain⟨b,o,rfl,hc⟩:=HX.out k x Hx.out;have c0:wo.cell? ⟨b,o+k*5,none⟩=some (.int .i64 x.num):=by have h:=hc 0 _ rfl;rw[HK.out.cell (p:=⟨b,o+k*5,none⟩) (ai h) id];exact h
   have c1:wo.cell? ⟨b,o+k*5+1,none⟩=some (.bool x.dir):=by have h:=hc 1 _ rfl;rw[HK.out.cell (p:=⟨b,o+k*5+1,none⟩) (ai h) id];exact h
   have c2:wo.cell? ⟨b,o+k*5+2,none⟩=some (.int .i64 x.links):=by have h:=hc 2 _ rfl;rw[HK.out.cell (p:=⟨b,o+k*5+2,none⟩) (ai h) id];exact h
   have c3:wo.cell? ⟨b,o+k*5+3,none⟩=some (.int .i64 x.blob.root):=by have h:=hc 3 _ rfl;rw[HK.out.cell (p:=⟨b,o+k*5+3,none⟩) (ai h) id];exact h
   have c4:wo.cell? ⟨b,o+k*5+4,none⟩=some (.int .i64 x.blob.size):=by have h:=hc 4 _ rfl;rw[HK.out.cell (p:=⟨b,o+k*5+4,none⟩) (ai h) id];exact h
   have f0:wo.cell? ⟨w.heap.size,0,none⟩=some (.func (.func 277) #[] #[]):=aa HF.out 0;have f1:wo.cell? ⟨w.heap.size,1,none⟩=some (.func (.func 278) #[] #[]):=aa HF.out 1;have g0:wo.cell? ⟨wb,0,none⟩=some (.int .i64 (cC l k).num):=aa HW.out 0;have g1:wo.cell? ⟨wb,1,none⟩=some (.bool (cC l k).dir):=aa HW.out 1;have g2:wo.cell? ⟨wb,2,none⟩=some (.int .i64 (cC l k).links):=aa HW.out 2;have g3:wo.cell? ⟨wb,3,none⟩=some (.int .i64 (cC l k).blob.root):=aa HW.out 3;have g4:wo.cell? ⟨wb,4,none⟩=some (.int .i64 (cC l k).blob.size):=aa HW.out 4;obtain⟨fb,hq⟩:∃ fb,((k:Int)==0)=fb:=⟨_,rfl⟩
   have z0:w.heap.size<wo.heap.size:=ak HF.out;have z1:wb<wo.heap.size:=ak HW.out;clear hc;go_wp2_with fail;refine(In (cC l k) x fb Fi.out _).mono ?_;rintro e w5 ⟨rfl,mj⟩;have FL:=hd0 (ab mj (aF HF.out _) id);have ng:=hd0 (ab mj (aF HW.out _) id);have uE:=hd0 (ab mj (av wo _ _) id);have F0:=hd0 (cw HB.out (dO mj));have mT:=hd0 (HK.out.keep (dO mj));have FT:=mj.size;simp at FT;clear mj c0 c1 c2 c3 c4 f0 f1 g0 g1 g2 g3 g4 z0 HF HW HB HK hq;generalize wo.heap.size=xb at*;have f1:w5.cell? ⟨w.heap.size,1,none⟩=some (.func (.func 278) #[] #[]):=aa FL.out 1;have g0:w5.frozen? ⟨wb,0,none⟩=false:=ae ng.out _ rfl;have d0:w5.cell? ⟨wb,0,none⟩=some (.int .i64 (cC l k).num):=aa ng.out 0;have e0:w5.cell? ⟨xb,0,none⟩=some (.int .i64 x.num):=aa uE.out 0;have g1:w5.frozen? ⟨wb,1,none⟩=false:=ae ng.out _ rfl;have d1:w5.cell? ⟨wb,1,none⟩=some (.bool (cC l k).dir):=aa ng.out 1;have e1:w5.cell? ⟨xb,1,none⟩=some (.bool x.dir):=aa uE.out 1;have g2:w5.frozen? ⟨wb,2,none⟩=false:=ae ng.out _ rfl;have d2:w5.cell? ⟨wb,2,none⟩=some (.int .i64 (cC l k).links):=aa ng.out 2;have e2:w5.cell? ⟨xb,2,none⟩=some (.int .i64 x.links):=aa uE.out 2;have g3:w5.frozen? ⟨wb,3,none⟩=false:=ae ng.out _ rfl;have d3:w5.cell? ⟨wb,3,none⟩=some (.int .i64 (cC l k).blob.root):=aa ng.out 3;have e3:w5.cell? ⟨xb,3,none⟩=some (.int .i64 x.blob.root):=aa uE.out 3;have g4:w5.frozen? ⟨wb,4,none⟩=false:=ae ng.out _ rfl;have d4:w5.cell? ⟨wb,4,none⟩=some (.int .i64 (cC l k).blob.size):=aa ng.out 4;have e4:w5.cell? ⟨xb,4,none⟩=some (.int .i64 x.blob.size):=aa uE.out 4;have n1:¬ w.heap.size=wb:=by omega
   have n2:¬ xb=wb:=by omega
   go_wp2_with fail;refine(Io x _).mono ?_;rintro e w7 ⟨pb,rfl,mV,rx,pB⟩;have ry:ah (·=wb) w5 (((((w5.setCell ⟨wb,0,none⟩ (.int .i64 x.num)).setCell ⟨wb,1,none⟩ (.bool x.dir)).setCell ⟨wb,2,none⟩ (.int .i64 x.links)).setCell ⟨wb,3,none⟩ (.int .i64 x.blob.root)).setCell ⟨wb,4,none⟩ (.int .i64 x.blob.size)):=((((((ah.refl (fun y=>y=wb) w5).setCell (p:=⟨wb,0,none⟩) (.inl rfl) _).setCell (p:=⟨wb,1,none⟩) (.inl rfl) _).setCell (p:=⟨wb,2,none⟩) (.inl rfl) _).setCell (p:=⟨wb,3,none⟩) (.inl rfl) _).setCell (p:=⟨wb,4,none⟩) (.inl rfl) _)
   have Ym:=hd0 (ab rx (ab ry FL.out n1) id);have KL:=hd0 (cw (uN F0.out ry (by omega) (fun q c fr hq e=>by
    subst e;have:=ng.out;unfold World.blk at this;rw[this]at hq
    cases hq)) rx)
   have Xv:Hid (World.blk w7 wb #[.int .i64 x.num,.bool x.dir,.int .i64 x.links,.int .i64 x.blob.root,.int .i64 x.blob.size] 128):=hd0 (ab rx (ag (ag (ag (ag (ag ng.out 0 _) 1 _) 2 _) 3 _) 4 _) id);have zi:=hd0 ((mT.out.new ry (by omega)).keep rx);have Cu:=hd0 pB;have hpw:wb<pb:=by
    have h:=ak ng.out;have e:=ry.size;omega
   have B3:=hd0 (Ka Fi.out N9.out);clear rx pB ry f1 g0 d0 e0 g1 d1 e1 g2 d2 e2 g3 d3 e3 g4 d4 e4 n1 n2 FL ng uE F0 mT FT mV;have NZ:Hid ((aG l.length++(l.take k).flatMap oc).length<=1000000):=hd0 (Is Cw.out Hl.out k);generalize tF:aG l.length++(l.take k).flatMap oc=pre at*;have I4:=hd0 tF;clear tF;go_wp2_with fail
   go_loopw [49] (fun i wr=>∃ j:Nat,j<=5/\i=.int .i64 (j:Int)/\af w wr/\World.blk wr w.heap.size #[.func (.func 277) #[] #[],.func (.func 278) #[] #[],.func (.func 280) #[] #[]] 308/\World.blk wr wb #[.int .i64 x.num,.bool x.dir,.int .i64 x.links,.int .i64 x.blob.root,.int .i64 x.blob.size] 128/\World.blk wr pb #[.iface 3 (.int .i64 x.num),.iface 3 (.int .i64 (if x.dir=true then 1 else 0)),.iface 3 (.int .i64 x.links),.iface 3 (.int .i64 x.blob.root),.iface 3 (.int .i64 x.blob.size)] 20/\da (w.heap.size+1) (w.heap.size+1) (pre++((cE x).take j).flatten) wr) (fun i _=>5-(intOf i).toNat)
   case atStart=>exact⟨0,by omega,rfl,zi.out,Ym.out,Xv.out,Cu.out,by simpa using KL.out⟩
   case round=>
    clear Ym KL Xv zi Cu;obtain⟨j,hj,rfl,hK,hF,hW,hP,hB⟩:=hrel;have HK:=hd0 hK;have HF:=hd0 hF;have HW:=hd0 hW;have HP:=hd0 hP;have HB:=hd0 hB;clear hK hF hW hP hB;by_cases hj5:j<5
    ·obtain⟨m,yR,hpc,tJ⟩:=QH x B3.out j hj5;have HS:=hd0 tJ;have HLP:Hid (((cE x).take j).flatten.length<=100):=hd0 (rW Fi.out N9.out j);have pi:wr.cell? ⟨pb,j,none⟩=some (.iface 3 (.int .i64 (m:Int))):=by rw[aa HP.out j];exact hpc
     have a0:=qU m;have sq:(j:Int)<5:=by omega
     clear hpc tJ;go_wp2_with fail;refine(lP m _ (by omega)).mono ?_;rintro e w8 ⟨rfl,kB⟩;have B9:=hd0 (ab kB HF.out id);have vf:=hd0 (ab kB HW.out id);have sH:=hd0 (ab kB HP.out id);have BN:=hd0 (cw HB.out kB);have sF:=hd0 (HK.out.keep kB);clear kB HF HW HP HB HK pi a0;go_wp2_with fail;refine(jn (w.heap.size+1) (w.heap.size+1) _ (aG m) w8 BN.out (by have:=aV (n:=m) (by omega);have:=NZ.out;have:=HLP.out;simp only[avi];omega) (by have:=ak vf.out;omega)).mono ?_;rintro e w9 ⟨rfl,Kx,sI,tK⟩;have VN:=hd0 (ab tK B9.out (cP (by omega) B9.out (by decide)));have Wh:=hd0 (ab tK vf.out (cP (by omega) vf.out (by decide)));have py:=hd0 (ab tK sH.out (cP (by omega) sH.out (by decide)));have OP:Hid (da (w.heap.size+1) (w.heap.size+1) (pre++((cE x).take (j+1)).flatten) w9):=hd0 (by
      have h:=Kx;rw[avJ]at h;rw[HS.out]at h;exact h)
     have Cg:=hd0 (cZ sF.out sI (by omega));clear Kx sI tK B9 vf sH BN sF;go_wp2_with fail;exact⟨⟨j+1,by omega,by go_num,Cg.out,VN.out,Wh.out,py.out,OP.out⟩,by simp[intOf];omega⟩
    ·obtain rfl:j=5:=by omega
     go_wp2_with fail;refine⟨⟨k+1,by omega,by go_num,HK.out,HF.out,by rw[qm Hx.out];exact HW.out,?_⟩,by simp[intOf];omega⟩;have h:=HB.out;rw[avM (by simp[cE]),rU]at h;have e:l.take (k+1)=l.take k++[x]:=by rw[au3,Hx.out];rfl
     rw[e];simp only[avh,avH,List.flatMap_nil,List.append_nil];rw[<-avJ,I4.out];exact h
  ·obtain rfl:k=l.length:=by omega
   have jk:Hid (da (w.heap.size+1) (w.heap.size+1) (j7 l) wo):=hd0 (by have h:=HB.out;rwa [au5]at h);go_wp2_with fail;refine(gH (w.heap.size+1) (w.heap.size+1) (j7 l) wo jk.out (by have:=ak HW.out;omega)).mono ?_;rintro e w6 ⟨rfl,rz⟩;have u9:=hd0 (cZ HK.out rz (by omega));clear rz;go_wp2;go_ret2;exact⟨rfl,u9.out⟩
end
section
open Go.RowKit
theorem Bo:∀ {l:List Sn} {was:Int},0<=was->TB was l=true->∀ x∈l,0<x.id
 |[],_,_,_,x,hx=>by simp at hx
 |y::r,was,h0,h,x,hx=>by
  simp only[TB,avj,avo]at h;rcases avn.1 hx with rfl|hx
  ·omega
  ·exact Bo (l:=r) (was:=y.id) (by omega) h.2 x hx
theorem QI {was:Int}{x:Sn}(h:Il was x)(h0:0<x.id):0<=x.id/\x.id<=1099511627776/\0<=x.plane/\x.plane<=1099511627776/\0<=x.table.root/\x.table.root<=1099511627776/\0<=x.table.size/\x.table.size<=1099511627776/\x.name.length<=16:=by
 obtain⟨h1,h2,h3,h4,h5,h6⟩:=h;simp only[fU.ok,fU.may,avj,avo]at h6;have h7:=h2;simp only[aK,avj,avo]at h7;omega
theorem pj {was:Int}{x:Sn}(h:Il was x)(h0:0<x.id)(j:Nat):((cd x).take j).flatten.length<=100:=by
 have hn:=QI h h0;have q0:=aV (n:=x.name.length) (by omega);have q1:=aV (n:=x.id.toNat) (by omega);have q2:=aV (n:=x.plane.toNat) (by omega);have q3:=aV (n:=x.table.root.toNat) (by omega);have q4:=aV (n:=x.table.size.toNat) (by omega);have hf:(cd x).flatten.length<=100:=by simp[cd];omega
 have:(cd x).flatten=((cd x).take j).flatten++((cd x).drop j).flatten:=by rw[<-List.flatten_append,List.take_append_drop]
 rw[this,avi]at hf;omega
theorem Mr {l:List Sn}(h:TB 0 l=true)(hl:l.length<=4096)(k:Nat):(aG l.length++(l.take k).flatMap oW).length<=1000000:=by
 have key:∀(m:List Sn),(∀ x∈m,(oW x).length<=100)->(m.flatMap oW).length<=m.length*100:=by
  intro m
  induction m with
  |nil=>intro _;simp
  |cons y r ih=>
   intro hm;have:=ih (fun x hx=>hm x (by simp[hx]));have:=hm y (by simp);rw[avH,avi,au0];omega
 have h1:=key (l.take k) (fun x hx=>by
  obtain⟨i,hi,rfl⟩:=List.getElem_of_mem (au6 hx);have:=pj (xm h (au1 hi)) (Bo (Int.le_refl 0) h _ (avB hi)) 5
  rwa [avM (by simp[cd]),uf]at this)
 have h2:=aV (n:=l.length) (by omega);have h3:(l.take k).length<=4096:=by rw[au7];omega
 rw[avi];omega
theorem U8 (x:Sn)(h:0<=x.id/\x.id<=1099511627776/\0<=x.plane/\x.plane<=1099511627776/\0<=x.table.root/\x.table.root<=1099511627776/\0<=x.table.size/\x.table.size<=1099511627776/\x.name.length<=16)(j:Nat)(h0:0<j)(hj:j<5):
  ∃ m:Nat,(m:Int)<=1099511627776/\(#[.iface 9 (.string ⟨x.name.toArray⟩),.iface 3 (.int .i64 x.id),.iface 3 (.int .i64 x.plane),.iface 3 (.int .i64 x.table.root),.iface 3 (.int .i64 x.table.size)]:Array Value)[j]?=some (.iface 3 (.int .i64 (m:Int)))/\((cd x).take j).flatten++aG m=((cd x).take (j+1)).flatten:=by
 have ii:∀ {a:Int},0<=a->((a.toNat:Nat):Int)=a:=fun h=>by omega
 rcases(by omega:j=1\/j=2\/j=3\/j=4)with rfl|rfl|rfl|rfl
 ·exact⟨x.id.toNat,by omega,by rw[ii h.1];rfl,by simp[cd]⟩
 ·exact⟨x.plane.toNat,by omega,by rw[ii h.2.2.1];rfl,by simp[cd]⟩
 ·exact⟨x.table.root.toNat,by omega,by rw[ii h.2.2.2.2.1];rfl,by simp[cd]⟩
 ·exact⟨x.table.size.toNat,by omega,by rw[ii h.2.2.2.2.2.2.1];rfl,by simp[cd]⟩
theorem It (l:List Sn)(v:Value)(w:World)(cI:mC ue 5 w v l)(bQ:zI l=true):
  Calls prog 210 #[Bn,v] w fun e w'=>e=.returned (.tuple #[.string ⟨(j8 l).toArray⟩,.int .i64 0])/\af w w':=by
 obtain⟨a,cap,rfl,hx⟩:=cI;have HX:=hd0 hx;clear hx;simp only[zI,avj,avo]at bQ;obtain⟨bA,hB⟩:=bQ;have Cw:=hd0 hB;clear hB;have h1:¬(4096:Int)<l.length:=by omega
 have Hl:=hd0 bA;clear bA;go_enter func210,ntmps210;go_wp2_with fail;refine(lP l.length _ (by have:=Hl.out;omega)).mono ?_;rintro e w2 ⟨rfl,dd⟩;have Sj:Hid (World.blk w2 w.heap.size #[.func (.func 260) #[] #[],.func (.func 262) #[] #[],.func (.func 263) #[] #[]] 289):=hd0 (ab dd (aF (av _ _ _) _) id);have Yn:Hid (da (w.heap.size+1) (w.heap.size+1) [] w2):=hd0 (by
  have h:=nw (w.alloc (.cells #[.func (.func 260) #[] #[],.func (.func 262) #[] #[],.func (.func 263) #[] #[]] 289));rw[show(w.alloc (.cells #[.func (.func 260) #[] #[],.func (.func 262) #[] #[],.func (.func 263) #[] #[]] 289)).heap.size=w.heap.size+1 by simp]at h;exact cw h dd)
 have bw:=hd0 (dO (dO dd));have lB:=dd.size;simp at lB;clear dd;go_wp2_with fail;refine(jn (w.heap.size+1) (w.heap.size+1) [] (aG l.length) w2 Yn.out (by have:=aV (n:=l.length) (by have:=Hl.out;omega);simp;omega) (by omega)).mono ?_;rintro e w3 ⟨rfl,uJ,ya,lu⟩;have FQ:=hd0 (ab lu Sj.out (cP (by omega) Sj.out (by decide)));have oq:=hd0 uJ;have dR:=hd0 (cZ bw.out ya (by omega));have Cc:=ya.size;rw[avA]at oq;clear uJ ya lu Sj Yn bw;go_wp2_with fail;obtain⟨wb,Jp⟩:∃ wb,wb=w3.heap.size:=⟨_,rfl⟩
 have XB:Hid (World.blk (w3.alloc (.cells #[.string ⟨#[]⟩,.int .i64 0,.int .i64 0,.int .i64 0,.int .i64 0] 85)) wb #[.string ⟨#[]⟩,.int .i64 0,.int .i64 0,.int .i64 0,.int .i64 0] 85):=hd0 (aZ Jp _ _);have YH:=hd0 (aF FQ.out (.cells #[.string ⟨#[]⟩,.int .i64 0,.int .i64 0,.int .i64 0,.int .i64 0] 85));have nT:=hd0 (cw oq.out ((ah.refl (fun _=>False) w3).alloc (.cells #[.string ⟨#[]⟩,.int .i64 0,.int .i64 0,.int .i64 0,.int .i64 0] 85)));have dT:=hd0 (dR.out.alloc (.cells #[.string ⟨#[]⟩,.int .i64 0,.int .i64 0,.int .i64 0,.int .i64 0] 85));have aeG:w.heap.size+2<=wb:=by omega
 clear FQ oq dR;rw[<-Jp];generalize w3.alloc (.cells #[.string ⟨#[]⟩,.int .i64 0,.int .i64 0,.int .i64 0,.int .i64 0] 85)=w4 at*;clear Jp Cc lB
 go_loopw [30] (fun i wr=>∃ k:Nat,k<=l.length/\i=.int .i64 (k:Int)/\af w wr/\World.blk wr w.heap.size #[.func (.func 260) #[] #[],.func (.func 262) #[] #[],.func (.func 263) #[] #[]] 289/\World.blk wr wb #[.string ⟨(dq l k).name.toArray⟩,.int .i64 (dq l k).id,.int .i64 (dq l k).plane,.int .i64 (dq l k).table.root,.int .i64 (dq l k).table.size] 85/\da (w.heap.size+1) (w.heap.size+1) (aG l.length++(l.take k).flatMap oW) wr) (fun i _=>l.length-(intOf i).toNat)
 case atStart=>exact⟨0,by omega,rfl,dT.out,YH.out,XB.out,by simpa using nT.out⟩
 case round=>
  clear YH XB nT dT;obtain⟨wo,rfl⟩:∃ wo,wo=wr:=⟨_,rfl⟩
  obtain⟨k,hk,rfl,hK,hF,hW,hB⟩:=hrel;have HK:=hd0 hK;have HF:=hd0 hF;have HW:=hd0 hW;have HB:=hd0 hB;clear hK hF hW hB;by_cases aL:k<l.length
  ·obtain⟨x,hx⟩:∃ x,l[k]?=some x:=⟨_,au1 aL⟩
   have Hx:=hd0 hx;have Fi:=hd0 (xm Cw.out hx);have N9:=hd0 (Bo (Int.le_refl 0) Cw.out x (au2 hx));clear hx;obtain⟨b,o,rfl,hc⟩:=HX.out k x Hx.out;have c0:wo.cell? ⟨b,o+k*5,none⟩=some (.string ⟨x.name.toArray⟩):=by have h:=hc 0 _ rfl;rw[HK.out.cell (p:=⟨b,o+k*5,none⟩) (ai h) id];exact h
   have c1:wo.cell? ⟨b,o+k*5+1,none⟩=some (.int .i64 x.id):=by have h:=hc 1 _ rfl;rw[HK.out.cell (p:=⟨b,o+k*5+1,none⟩) (ai h) id];exact h
   have c2:wo.cell? ⟨b,o+k*5+2,none⟩=some (.int .i64 x.plane):=by have h:=hc 2 _ rfl;rw[HK.out.cell (p:=⟨b,o+k*5+2,none⟩) (ai h) id];exact h
   have c3:wo.cell? ⟨b,o+k*5+3,none⟩=some (.int .i64 x.table.root):=by have h:=hc 3 _ rfl;rw[HK.out.cell (p:=⟨b,o+k*5+3,none⟩) (ai h) id];exact h
   have c4:wo.cell? ⟨b,o+k*5+4,none⟩=some (.int .i64 x.table.size):=by have h:=hc 4 _ rfl;rw[HK.out.cell (p:=⟨b,o+k*5+4,none⟩) (ai h) id];exact h
   have f0:wo.cell? ⟨w.heap.size,0,none⟩=some (.func (.func 260) #[] #[]):=aa HF.out 0;have f1:wo.cell? ⟨w.heap.size,1,none⟩=some (.func (.func 262) #[] #[]):=aa HF.out 1;have g0:wo.cell? ⟨wb,0,none⟩=some (.string ⟨(dq l k).name.toArray⟩):=aa HW.out 0;have g1:wo.cell? ⟨wb,1,none⟩=some (.int .i64 (dq l k).id):=aa HW.out 1;have g2:wo.cell? ⟨wb,2,none⟩=some (.int .i64 (dq l k).plane):=aa HW.out 2;have g3:wo.cell? ⟨wb,3,none⟩=some (.int .i64 (dq l k).table.root):=aa HW.out 3;have g4:wo.cell? ⟨wb,4,none⟩=some (.int .i64 (dq l k).table.size):=aa HW.out 4;obtain⟨fb,hq⟩:∃ fb,((k:Int)==0)=fb:=⟨_,rfl⟩
   have z0:w.heap.size<wo.heap.size:=ak HF.out;have z1:wb<wo.heap.size:=ak HW.out;clear hc;go_wp2_with fail;refine(Mo (dq l k) x fb Fi.out _).mono ?_;rintro e w5 ⟨rfl,mj⟩;have FL:=hd0 (ab mj (aF HF.out _) id);have ng:=hd0 (ab mj (aF HW.out _) id);have uE:=hd0 (ab mj (av wo _ _) id);have F0:=hd0 (cw HB.out (dO mj));have mT:=hd0 (HK.out.keep (dO mj));have FT:=mj.size;simp at FT;clear mj c0 c1 c2 c3 c4 f0 f1 g0 g1 g2 g3 g4 z0 HF HW HB HK hq;generalize wo.heap.size=xb at*;have f1:w5.cell? ⟨w.heap.size,1,none⟩=some (.func (.func 262) #[] #[]):=aa FL.out 1;have g0:w5.frozen? ⟨wb,0,none⟩=false:=ae ng.out _ rfl;have d0:w5.cell? ⟨wb,0,none⟩=some (.string ⟨(dq l k).name.toArray⟩):=aa ng.out 0;have e0:w5.cell? ⟨xb,0,none⟩=some (.string ⟨x.name.toArray⟩):=aa uE.out 0;have g1:w5.frozen? ⟨wb,1,none⟩=false:=ae ng.out _ rfl;have d1:w5.cell? ⟨wb,1,none⟩=some (.int .i64 (dq l k).id):=aa ng.out 1;have e1:w5.cell? ⟨xb,1,none⟩=some (.int .i64 x.id):=aa uE.out 1;have g2:w5.frozen? ⟨wb,2,none⟩=false:=ae ng.out _ rfl;have d2:w5.cell? ⟨wb,2,none⟩=some (.int .i64 (dq l k).plane):=aa ng.out 2;have e2:w5.cell? ⟨xb,2,none⟩=some (.int .i64 x.plane):=aa uE.out 2;have g3:w5.frozen? ⟨wb,3,none⟩=false:=ae ng.out _ rfl;have d3:w5.cell? ⟨wb,3,none⟩=some (.int .i64 (dq l k).table.root):=aa ng.out 3;have e3:w5.cell? ⟨xb,3,none⟩=some (.int .i64 x.table.root):=aa uE.out 3;have g4:w5.frozen? ⟨wb,4,none⟩=false:=ae ng.out _ rfl;have d4:w5.cell? ⟨wb,4,none⟩=some (.int .i64 (dq l k).table.size):=aa ng.out 4;have e4:w5.cell? ⟨xb,4,none⟩=some (.int .i64 x.table.size):=aa uE.out 4;have n1:¬ w.heap.size=wb:=by omega
   have n2:¬ xb=wb:=by omega
   go_wp2_with fail;refine(Mp x _).mono ?_;rintro e w7 ⟨pb,rfl,mV,rx,pB⟩;have ry:ah (·=wb) w5 (((((w5.setCell ⟨wb,0,none⟩ (.string ⟨x.name.toArray⟩)).setCell ⟨wb,1,none⟩ (.int .i64 x.id)).setCell ⟨wb,2,none⟩ (.int .i64 x.plane)).setCell ⟨wb,3,none⟩ (.int .i64 x.table.root)).setCell ⟨wb,4,none⟩ (.int .i64 x.table.size)):=((((((ah.refl (fun y=>y=wb) w5).setCell (p:=⟨wb,0,none⟩) (.inl rfl) _).setCell (p:=⟨wb,1,none⟩) (.inl rfl) _).setCell (p:=⟨wb,2,none⟩) (.inl rfl) _).setCell (p:=⟨wb,3,none⟩) (.inl rfl) _).setCell (p:=⟨wb,4,none⟩) (.inl rfl) _)
   have Ym:=hd0 (ab rx (ab ry FL.out n1) id);have KL:=hd0 (cw (uN F0.out ry (by omega) (fun q c fr hq e=>by
    subst e;have:=ng.out;unfold World.blk at this;rw[this]at hq
    cases hq)) rx)
   have Xv:Hid (World.blk w7 wb #[.string ⟨x.name.toArray⟩,.int .i64 x.id,.int .i64 x.plane,.int .i64 x.table.root,.int .i64 x.table.size] 85):=hd0 (ab rx (ag (ag (ag (ag (ag ng.out 0 _) 1 _) 2 _) 3 _) 4 _) id);have zi:=hd0 ((mT.out.new ry (by omega)).keep rx);have Cu:=hd0 pB;have hpw:wb<pb:=by
    have h:=ak ng.out;have e:=ry.size;omega
   have B3:=hd0 (QI Fi.out N9.out);clear rx pB ry f1 g0 d0 e0 g1 d1 e1 g2 d2 e2 g3 d3 e3 g4 d4 e4 n1 n2 FL ng uE F0 mT FT mV;have NZ:Hid ((aG l.length++(l.take k).flatMap oW).length<=1000000):=hd0 (Mr Cw.out Hl.out k);generalize tF:aG l.length++(l.take k).flatMap oW=pre at*;have I4:=hd0 tF;clear tF;go_wp2_with fail
   go_loopw [49] (fun i wr=>∃ j:Nat,j<=5/\i=.int .i64 (j:Int)/\af w wr/\World.blk wr w.heap.size #[.func (.func 260) #[] #[],.func (.func 262) #[] #[],.func (.func 263) #[] #[]] 289/\World.blk wr wb #[.string ⟨x.name.toArray⟩,.int .i64 x.id,.int .i64 x.plane,.int .i64 x.table.root,.int .i64 x.table.size] 85/\World.blk wr pb #[.iface 9 (.string ⟨x.name.toArray⟩),.iface 3 (.int .i64 x.id),.iface 3 (.int .i64 x.plane),.iface 3 (.int .i64 x.table.root),.iface 3 (.int .i64 x.table.size)] 20/\da (w.heap.size+1) (w.heap.size+1) (pre++((cd x).take j).flatten) wr) (fun i _=>5-(intOf i).toNat)
   case atStart=>exact⟨0,by omega,rfl,zi.out,Ym.out,Xv.out,Cu.out,by simpa using KL.out⟩
   case round=>
    clear Ym KL Xv zi Cu;obtain⟨j,hj,rfl,hK,hF,hW,hP,hB⟩:=hrel;have HK:=hd0 hK;have HF:=hd0 hF;have HW:=hd0 hW;have HP:=hd0 hP;have HB:=hd0 hB;clear hK hF hW hP hB;by_cases hj0:j=0
    ·subst hj0;have HS:Hid (((cd x).take 0).flatten++(aG x.name.length++x.name)=((cd x).take (0+1)).flatten):=hd0 (by simp[cd]);have HLP:Hid (((cd x).take 0).flatten.length<=100):=hd0 (pj Fi.out N9.out 0);have pi:wr.cell? ⟨pb,0,none⟩=some (.iface 9 (.string ⟨x.name.toArray⟩)):=aa HP.out 0;have a0:=Ad ⟨x.name.toArray⟩;have a1:=xj ⟨x.name.toArray⟩;go_wp2_with fail;refine(tg x.name _ (by have:=B3.out;omega)).mono ?_;rintro e w8 ⟨rfl,kB⟩;have B9:=hd0 (ab kB HF.out id);have vf:=hd0 (ab kB HW.out id);have sH:=hd0 (ab kB HP.out id);have BN:=hd0 (cw HB.out kB);have sF:=hd0 (HK.out.keep kB);clear kB HF HW HP HB HK pi a0 a1;go_wp2_with fail;refine(jn (w.heap.size+1) (w.heap.size+1) _ (aG x.name.length++x.name) w8 BN.out (by have:=aV (n:=x.name.length) (by have:=B3.out;omega);have:=B3.out;have:=NZ.out;have:=HLP.out;simp only[avi];omega) (by have:=ak vf.out;omega)).mono ?_;rintro e w9 ⟨rfl,Kx,sI,tK⟩;have VN:=hd0 (ab tK B9.out (cP (by omega) B9.out (by decide)));have Wh:=hd0 (ab tK vf.out (cP (by omega) vf.out (by decide)));have py:=hd0 (ab tK sH.out (cP (by omega) sH.out (by decide)));have OP:Hid (da (w.heap.size+1) (w.heap.size+1) (pre++((cd x).take (0+1)).flatten) w9):=hd0 (by
      have h:=Kx;rw[avJ]at h;have e:((cd x).take 0).flatten++(aG x.name.length++x.name)=((cd x).take (0+1)).flatten:=by
       rw[<-HS.out]
      rw[e]at h;exact h)
     have Cg:=hd0 (cZ sF.out sI (by omega));clear Kx sI tK B9 vf sH BN sF;go_wp2_with fail;refine⟨⟨0+1,by omega,rfl,Cg.out,VN.out,Wh.out,py.out,OP.out⟩,by decide⟩
    ·by_cases hj5:j<5
     ·obtain⟨m,yR,hpc,tJ⟩:=U8 x B3.out j (by omega) hj5;have HS:=hd0 tJ;have HLP:Hid (((cd x).take j).flatten.length<=100):=hd0 (pj Fi.out N9.out j);have pi:wr.cell? ⟨pb,j,none⟩=some (.iface 3 (.int .i64 (m:Int))):=by rw[aa HP.out j];exact hpc
      have sq:(j:Int)<5:=by omega
      clear hpc tJ;have a0:=qU m;go_wp2_with fail;refine(lP m _ (by omega)).mono ?_;rintro e w8 ⟨rfl,kB⟩;have B9:=hd0 (ab kB HF.out id);have vf:=hd0 (ab kB HW.out id);have sH:=hd0 (ab kB HP.out id);have BN:=hd0 (cw HB.out kB);have sF:=hd0 (HK.out.keep kB);clear kB HF HW HP HB HK pi a0;go_wp2_with fail;refine(jn (w.heap.size+1) (w.heap.size+1) _ (aG m) w8 BN.out (by have:=aV (n:=m) (by omega);have:=NZ.out;have:=HLP.out;simp only[avi];omega) (by have:=ak vf.out;omega)).mono ?_;rintro e w9 ⟨rfl,Kx,sI,tK⟩;have VN:=hd0 (ab tK B9.out (cP (by omega) B9.out (by decide)));have Wh:=hd0 (ab tK vf.out (cP (by omega) vf.out (by decide)));have py:=hd0 (ab tK sH.out (cP (by omega) sH.out (by decide)));have OP:Hid (da (w.heap.size+1) (w.heap.size+1) (pre++((cd x).take (j+1)).flatten) w9):=hd0 (by
       have h:=Kx;rw[avJ]at h;rw[HS.out]at h;exact h)
      have Cg:=hd0 (cZ sF.out sI (by omega));clear Kx sI tK B9 vf sH BN sF;go_wp2_with fail;exact⟨⟨j+1,by omega,by go_num,Cg.out,VN.out,Wh.out,py.out,OP.out⟩,by simp[intOf];omega⟩
     ·obtain rfl:j=5:=by omega
      go_wp2_with fail;refine⟨⟨k+1,by omega,by go_num,HK.out,HF.out,by rw[rT Hx.out];exact HW.out,?_⟩,by simp[intOf];omega⟩;have h:=HB.out;rw[avM (by simp[cd]),uf]at h;have e:l.take (k+1)=l.take k++[x]:=by rw[au3,Hx.out];rfl
      rw[e];simp only[avh,avH,List.flatMap_nil,List.append_nil];rw[<-avJ,I4.out];exact h
  ·obtain rfl:k=l.length:=by omega
   have jk:Hid (da (w.heap.size+1) (w.heap.size+1) (j8 l) wo):=hd0 (by have h:=HB.out;rwa [au5]at h);go_wp2_with fail;refine(gH (w.heap.size+1) (w.heap.size+1) (j8 l) wo jk.out (by have:=ak HW.out;omega)).mono ?_;rintro e w6 ⟨rfl,rz⟩;have u9:=hd0 (cZ HK.out rz (by omega));clear rz;go_wp2;go_ret2;exact⟨rfl,u9.out⟩
end
section
open Go.RowKit
theorem En {α:Type}{f:α->List Value}{sz:Nat}{P:Program}{ts te:TypeId}{z:Value}{bytes:Nat}(hs:P.underlying ts=some (.slice te))(hi:(P.info? te).map (fun i=>(i.zero,i.size,i.bytes))=some (some z,sz,bytes))(hz:z.cells.size=sz)(cV:0<sz)
  (hf:∀ a,(f a).length=sz) (base:Nat) (v:Value) (l:List α) (w w0:World) (bu:ec f sz te w base v l) (va:Value) (ys:List α) (ha:mC f sz w va ys) (h1:∀ y∈ys,∀ u∈f y,u.oneCell'=true) (hn:l.length+ys.length<=maxLen) (BP:(l.length+ys.length)*bytes<=140737488355328)
  (Fp:base<=w.heap.size) (h0:af w0 w) (iI:w0.heap.size<=base):
  ∃ v' w',(Builtin.append_ #[ts,ts] ts #[v,va]).run P w=.ok v' w'/\ec f sz te w' base v' (l++ys)/\af w0 w'/\ah (fun b=>base<=b) w w':=by
 obtain⟨i0,hi,ow,nO,oA⟩:=ave hi;obtain⟨a,cap,rfl,hx⟩:=ha;rcases a with _|a
 ·have hy:ys=[]:=by
   cases ys with
   |nil=>rfl
   |cons y ys=>obtain⟨b,o,hb,_⟩:=hx 0 y rfl;cases hb
  subst hy;obtain⟨a0,sl,sc,rfl,Cx⟩:∃ a0 sl sc,v=.slice a0 sl sc/\sl<=sc:=by
   rcases bu.2 with⟨rfl,h⟩|⟨g,cp,d7,rfl,_,_,hc,_⟩
   ·exact⟨none,0,0,rfl,au4 _⟩
   ·exact⟨_,_,_,rfl,hc⟩
  refine⟨_,w,run_append_nothing w ts ts ts te i0 hs hi a0 sl sc Cx (.slice none 0 cap) (Src.ofNil w hs cap),by simpa[ec]using bu,h0,ah.refl _ _⟩
 ·have bA:=Qb hf ys;have adQ:∀ j u,(ys.flatMap f)[j]?=some u->w.cell? (a.add j)=some u:=fun j u hj=>by
   have TY:=(avf.1 hj).1;rw[bA]at TY;have hq:j/sz*sz+j%sz=j:=by rw[Nat.mul_comm];exact Nat.div_add_mod j sz
   have h5:=DQ hf ys (j/sz) (j%sz) (Nat.mod_lt _ cV);rw[hq,hj]at h5
   cases hy:ys[j/sz]? with
   |none=>rw[hy]at h5;cases h5
   |some y=>
    rw[hy]at h5;obtain⟨b,o,hb,hc⟩:=hx (j/sz) y hy
    cases hb
    rw[io];have:=hc (j%sz) u h5.symm
    rwa [avg,hq]at this
  obtain⟨v',w',r1,r2,r3,_⟩:=run_append_own (P:=P) w base ts ts te i0 z sz bytes hs hi ow nO oA hz cV v l.length (l.flatMap f) bu a ys.length cap (ys.flatMap f) bA adQ (fun u hu=>by
   obtain⟨y,hy,hu⟩:=List.mem_flatMap.1 hu;exact h1 y hy u hu) hn BP Fp
  refine⟨v',w',r1,?_,ah.grown h0 r3 (fun k hk=>.inr (auX iI (bu.lt k hk).1)),ah.grown (ah.refl _ w) r3 (fun k hk=>.inl (bu.lt k hk).1)⟩;unfold ec;rw[avh,avi];exact r2
theorem Ms {α:Type}{f:α->List Value}{sz:Nat}(w:World)(t:TypeId):ec f sz t (w.alloc (.cells #[] t)) w.heap.size (.slice (some ⟨w.heap.size,0,none⟩) 0 0) ([]:List α):=by
 refine⟨by simp,.inr ⟨w.heap.size,0,#[],rfl,au4 _,av w _ _,au4 _,by simp[maxLen],by simp,by simp⟩⟩
end
end Go.Proofs.YtkghpdcloaiflaaGreatDoor
