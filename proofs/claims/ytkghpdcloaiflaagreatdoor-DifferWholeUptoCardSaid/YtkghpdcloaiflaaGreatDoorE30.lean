import Derived.Test.YtkghpdcloaiflaaGreatDoorE21
import Derived.Test.YtkghpdcloaiflaaGreatDoorE29
set_option maxHeartbeats 8000000
set_option maxRecDepth 100000
namespace Go.Proofs.YtkghpdcloaiflaaGreatDoor
open _root_.Go.Proofs.Tryz
section
open Go.RowKit Go.Shelf
def tH (pv pl:Nat)(b:jg)(iv sv nv:Value)(pm pt:Nat):Array Value:=
 #[aq pv,aq pl,.int .i64 b.table.root,.int .i64 b.table.size,.int .i64 b.snaps.root,.int .i64 b.snaps.size,.int .i64 b.mapped.root,.int .i64 b.mapped.size,.int .i64 (b.next:Int),.int .i64 (b.id:Int),iv,sv,aq pm,nv,aq pt,.bool false]
structure eF where
 pv:Nat
 pl:Nat
 pm:Nat
 pt:Nat
 iv:Value
 sv:Value
 nv:Value
 d:Dk
 dl:Dk
 text:az
 role:Nat->cT
 Fv:Nat->Prop
 Fl:Nat->Prop
def eF.still (a:eF)(b:Nat):Prop:=b=a.pm\/a.role b≠.none\/a.iv.ownBlock=some b\/a.sv.ownBlock=some b\/a.nv.ownBlock=some b
def eF.foot (a:eF)(p b:Nat):Prop:=b=p\/a.Fv b\/a.Fl b\/a.still b
structure kg (w:World)(p:Nat)(v:Vs)(a:eF):Prop where
 own:World.blk w p (tH a.pv a.pl v.b a.iv a.sv a.nv a.pm a.pt) 102
 vol:ic w a.pv a.d a.text v.num a.Fv
 rd:iw a.d=v.rd
 size:a.d.size/4=v.blocks
 log:le w a.pl a.dl v.num v.recs a.Fl
 half:bG a.dl*64=v.half
 inos:dU jF 5 128 w 0 a.iv v.b.inodes
 list:dU oC 5 85 w 0 a.sv v.b.list
 nodes:dU gG 4 221 w 0 a.nv v.b.nodes
 map:dy w a.pm v.blocks v.b.planes
 tree:∃ tb A M,aI w a.pt v.T tb A M a.role
 wf:∃ d,WF v.T d
 apart:∀ b,a.Fv b->¬ a.Fl b
 nv:¬ a.Fv p
 nl:¬ a.Fl p
 stays:∀ b,a.still b->¬ a.Fv b/\¬ a.Fl b/\b≠p
theorem eh {α:Type}{f:α->List Value}{sz:Nat}{t:TypeId}{w:World}{v:Value}{l:List α}(h:dU f sz t w 0 v l){g:Nat}(hg:v.ownBlock=some g):g<w.heap.size:=aT h hg
theorem ic.lt {w:World}{v:Nat}{d:Dk}{text:az}{num:Nat}{F:Nat->Prop}(h:ic w v d text num F)(b:Nat)(hb:F b):b<w.heap.size:=by
 obtain⟨pd,pc,M,Fd,Fc,h⟩:=h;exact h.lt b hb
theorem le.lt {w:World}{l gen:Nat}{d:Dk}{recs:List az}{F:Nat->Prop}(h:le w l d gen recs F)(b:Nat)(hb:F b):b<w.heap.size:=by
 obtain⟨pd,lv,Fd,h⟩:=h;exact h.lt b hb
theorem aI.same {w w':World}{p:Nat}{T:Tr}{tb:Nat}{A M:Int->Nat}{role:Nat->cT}(h:aI w p T tb A M role)(m:fG (fun b=>role b≠.none) w w')(hs:w.heap.size<=w'.heap.size):aI w' p T tb A M role:=by
 have hm:ah (fun b=>role b=.none) { w with os:=w'.os,tape:=w'.tape,output:=w'.output } w':=⟨rfl,rfl,rfl,hs,fun k hk hn=>m k hn hk⟩
 have h0:aI { w with os:=w'.os,tape:=w'.tape,output:=w'.output } p T tb A M role:=⟨h.tree,h.rtree,h.of,h.rof,h.node,h.rnode,h.names,h.rnames,h.lt⟩
 exact h0.mod hm fun b hb=>hb
theorem kg.lt {w:World}{p:Nat}{v:Vs}{a:eF}(h:kg w p v a){b:Nat}(hb:a.foot p b):b<w.heap.size:=by
 rcases hb with rfl|hb|hb|rfl|hb|hb|hb|hb
 ·exact ai h.own
 ·exact h.vol.lt b hb
 ·exact h.log.lt b hb
 ·exact h.map.lt
 ·obtain⟨tb,A,M,t⟩:=h.tree;exact t.lt b hb
 ·exact eh h.inos hb
 ·exact eh h.list hb
 ·exact eh h.nodes hb
theorem kg.same {w w':World}{p:Nat}{v:Vs}{a:eF}(h:kg w p v a)(m:fG (a.foot p) w w')(hs:w.heap.size<=w'.heap.size):kg w' p v a where
 own:=(m p (.inl rfl) (ai h.own)).trans h.own
 vol:=h.vol.same (fun b hb hl=>m b (.inr (.inl hb)) hl) hs
 rd:=h.rd
 size:=h.size
 log:=h.log.same (fun b hb hl=>m b (.inr (.inr (.inl hb))) hl) hs
 half:=h.half
 inos:=aA h.inos fun b hb=>m b (.inr (.inr (.inr (.inr (.inr (.inl hb)))))) (eh h.inos hb)
 list:=aA h.list fun b hb=>m b (.inr (.inr (.inr (.inr (.inr (.inr (.inl hb))))))) (eh h.list hb)
 nodes:=aA h.nodes fun b hb=>m b (.inr (.inr (.inr (.inr (.inr (.inr (.inr hb))))))) (eh h.nodes hb)
 map:=⟨(m a.pm (.inr (.inr (.inr (.inl rfl)))) h.map.lt).trans h.map.own,h.map.many,h.map.eight,h.map.short⟩
 tree:=by
  obtain⟨tb,A,M,t⟩:=h.tree;exact⟨tb,A,M,t.same (fun b hb hl=>m b (.inr (.inr (.inr (.inr (.inl hb))))) hl) hs⟩
 wf:=h.wf
 apart:=h.apart
 nv:=h.nv
 nl:=h.nl
 stays:=h.stays
def lD (pv size:Nat)(text:az)(num:Nat)(rd:Rd)(w:World)(F:Nat->Prop):Prop:=∃ d,ic w pv d text num F/\iw d=rd/\d.size=size
end
section
open Go.RowKit Go.Shelf
theorem Ip {d:Dk}{n:Int}{p:az}(h:iw d n=.ok p):1<=n/\n<(d.size/4:Nat):=by
 unfold iw at h;split at h
 ·assumption
 ·cases h
theorem nN (pv size:Nat)(text:az)(num:Nat)(rd:Rd):qr 94 (aq pv) 57 (lD pv size text num rd) rd where
 meth _:=by kernel_rfl
 call _ _:=by kernel_rfl
 read:=by
  rintro w F n p ⟨d,h,rfl,rfl⟩ hn;obtain⟨h1,h2⟩:=Ip hn;obtain⟨k,rfl⟩:∃ k:Nat,n=k:=⟨n.toNat,by omega⟩
  refine(zC h k (by omega) (by omega) p hn).mono ?_;rintro e w' ⟨rfl,F',h',k'⟩;exact⟨rfl,F',⟨d,h',rfl,rfl⟩,k'⟩
 same:=by
  rintro w w' F ⟨d,h,h1,h2⟩ m hs;exact⟨d,h.same m hs,h1,h2⟩
 lt:=by
  rintro w F ⟨d,h,h1,h2⟩ b hb;exact h.lt b hb
theorem Iq (pv size:Nat)(text:az)(num:Nat):z7 94 (aq pv) 57 393 (lD pv size text num) (size/4) where
 src rd:=nN pv size text num rd
 methW _:=by kernel_rfl
 callW _ _ _:=by kernel_rfl
 write:=by
  rintro rd w F n p ⟨d,h,rfl,rfl⟩ h1 h2 hp;refine(Gw h n h1 h2 p hp).mono ?_;rintro e w' ⟨rfl,F',h',k'⟩;exact⟨rfl,F',⟨_,h',CU h1 h2 hp,jy d n _ 4⟩,k'⟩
theorem mQ (w:World):Calls prog 129 #[.int .i64 0] w fun e w'=>e=.returned (.tuple #[])/\w'=w:=by
 go_enter func129,ntmps129;go_wp2_with fail;go_end0;exact⟨rfl,rfl⟩
end
section
open Go.RowKit
theorem xG:∀ {l:List fC} {was:Int},0<=was->yI was l=true->∀ x∈l,0<x.num
 |[],_,_,_,x,hx=>by simp at hx
 |y::r,was,h0,h,x,hx=>by
  simp only[yI,auT,auY]at h;rcases auX.1 hx with rfl|hx
  ·omega
  ·exact xG (l:=r) (was:=y.num) (by omega) h.2 x hx
theorem J8 {was:Int}{x:fC}(h:xB was x)(h0:0<x.num):0<=x.num/\x.num<=1099511627776/\0<=x.links/\x.links<=1099511627776/\0<=x.blob.root/\x.blob.root<=1099511627776/\0<=x.blob.size/\x.blob.size<=1099511627776:=by
 obtain⟨h1,h2,h3,h4,h5⟩:=h;simp only[fP.ok,fP.may,auT,auY]at h5;omega
theorem sA {was:Int}{x:fC}(h:xB was x)(h0:0<x.num)(j:Nat):((cG x).take j).flatten.length<=100:=by
 have hn:=J8 h h0;have q0:=bI (n:=x.num.toNat) (by omega);have q1:(aP (if x.dir=true then 1 else 0)).length<=9:=bI (by split<;>omega);have q2:=bI (n:=x.links.toNat) (by omega);have q3:=bI (n:=x.blob.root.toNat) (by omega);have q4:=bI (n:=x.blob.size.toNat) (by omega);have hf:(cG x).flatten.length<=100:=by simp[cG];omega
 have:(cG x).flatten=((cG x).take j).flatten++((cG x).drop j).flatten:=by rw[<-List.flatten_append,List.take_append_drop]
 rw[this,auS]at hf;omega
theorem Ir {l:List fC}(h:yI 0 l=true)(hl:l.length<=4096)(k:Nat):(aP l.length++(l.take k).flatMap oo).length<=1000000:=by
 have key:∀(m:List fC),(∀ x∈m,(oo x).length<=100)->(m.flatMap oo).length<=m.length*100:=by
  intro m
  induction m with
  |nil=>intro _;simp
  |cons y r ih=>
   intro hm;have:=ih (fun x hx=>hm x (by simp[hx]));have:=hm y (by simp);rw[avg,auS,auA];omega
 have h1:=key (l.take k) (fun x hx=>by
  obtain⟨i,hi,rfl⟩:=List.getElem_of_mem (auG hx);have:=sA (ut h (auB hi)) (xG (Int.le_refl 0) h _ (ava hi)) 5
  rwa [avl (by simp[cG]),sx]at this)
 have h2:=bI (n:=l.length) (by omega);have h3:(l.take k).length<=4096:=by rw[auH];omega
 rw[auS];omega
theorem QK (x:fC)(h:0<=x.num/\x.num<=1099511627776/\0<=x.links/\x.links<=1099511627776/\0<=x.blob.root/\x.blob.root<=1099511627776/\0<=x.blob.size/\x.blob.size<=1099511627776)(j:Nat)(hj:j<5):
  ∃ m:Nat,(m:Int)<=1099511627776/\(#[.iface 3 (.int .i64 x.num),.iface 3 (.int .i64 (if x.dir=true then 1 else 0)),.iface 3 (.int .i64 x.links),.iface 3 (.int .i64 x.blob.root),.iface 3 (.int .i64 x.blob.size)]:Array Value)[j]?=some (.iface 3 (.int .i64 (m:Int)))/\((cG x).take j).flatten++aP m=((cG x).take (j+1)).flatten:=by
 have ii:∀ {a:Int},0<=a->((a.toNat:Nat):Int)=a:=fun h=>by omega
 rcases(by omega:j=0\/j=1\/j=2\/j=3\/j=4)with rfl|rfl|rfl|rfl|rfl
 ·exact⟨x.num.toNat,by omega,by rw[ii h.1];rfl,by simp[cG]⟩
 ·exact⟨if x.dir=true then 1 else 0,by split<;>decide,by cases x.dir<;>rfl,by simp[cG]⟩
 ·exact⟨x.links.toNat,by omega,by rw[ii h.2.2.1];rfl,by simp[cG]⟩
 ·exact⟨x.blob.root.toNat,by omega,by rw[ii h.2.2.2.2.1];rfl,by simp[cG]⟩
 ·exact⟨x.blob.size.toNat,by omega,by rw[ii h.2.2.2.2.2.2.1];rfl,by simp[cG]⟩
theorem Et (l:List fC)(v:Value)(w:World)(cJ:jS jF 5 w v l)(cq:qQ l=true):
  Calls prog 259 #[vr,v] w fun e w'=>e=.returned (.tuple #[.string ⟨(j9 l).toArray⟩,.int .i64 0])/\af w w':=by
 obtain⟨a,cap,rfl,hx⟩:=cJ;have HX:=hd0 hx;clear hx;simp only[qQ,auT,auY]at cq;obtain⟨aV,hB⟩:=cq;have FJ:=hd0 hB;clear hB;have h1:¬(4096:Int)<l.length:=by omega
 have Hl:=hd0 aV;clear aV;go_enter func259,ntmps259;go_wp2_with fail;refine(lU l.length _ (by have:=Hl.out;omega)).mono ?_;rintro e w2 ⟨rfl,de⟩;have Sw:Hid (World.blk w2 w.heap.size #[.func (.func 277) #[] #[],.func (.func 278) #[] #[],.func (.func 280) #[] #[]] 308):=hd0 (ab de (aH (aw _ _ _) _) id);have XV:Hid (db (w.heap.size+1) (w.heap.size+1) [] w2):=hd0 (by
  have h:=nA (w.alloc (.cells #[.func (.func 277) #[] #[],.func (.func 278) #[] #[],.func (.func 280) #[] #[]] 308));rw[show(w.alloc (.cells #[.func (.func 277) #[] #[],.func (.func 278) #[] #[],.func (.func 280) #[] #[]] 308)).heap.size=w.heap.size+1 by simp]at h;exact cA h de)
 have bu:=hd0 (dQ (dQ de));have lJ:=de.size;simp at lJ;clear de;go_wp2_with fail;refine(jt (w.heap.size+1) (w.heap.size+1) [] (aP l.length) w2 XV.out (by have:=bI (n:=l.length) (by have:=Hl.out;omega);simp;omega) (by omega)).mono ?_;rintro e w3 ⟨rfl,uV,yk,lz⟩;have F8:=hd0 (ab lz Sw.out (cO (by omega) Sw.out (by decide)));have ox:=hd0 uV;have dZ:=hd0 (cZ bu.out yk (by omega));have BY:=yk.size;rw[au9]at ox;clear uV yk lz Sw XV bu;go_wp2_with fail;obtain⟨wb,Cm⟩:∃ wb,wb=w3.heap.size:=⟨_,rfl⟩
 have Xa:Hid (World.blk (w3.alloc (.cells #[.int .i64 0,.bool false,.int .i64 0,.int .i64 0,.int .i64 0] 128)) wb #[.int .i64 0,.bool false,.int .i64 0,.int .i64 0,.int .i64 0] 128):=hd0 (ba Cm _ _);have Xp:=hd0 (aH F8.out (.cells #[.int .i64 0,.bool false,.int .i64 0,.int .i64 0,.int .i64 0] 128));have nU:=hd0 (cA ox.out ((ah.refl (fun _=>False) w3).alloc (.cells #[.int .i64 0,.bool false,.int .i64 0,.int .i64 0,.int .i64 0] 128)));have dO:=hd0 (dZ.out.alloc (.cells #[.int .i64 0,.bool false,.int .i64 0,.int .i64 0,.int .i64 0] 128));have ae0:w.heap.size+2<=wb:=by omega
 clear F8 ox dZ;rw[<-Cm];generalize w3.alloc (.cells #[.int .i64 0,.bool false,.int .i64 0,.int .i64 0,.int .i64 0] 128)=w4 at*;clear Cm BY lJ
 go_loopw [30] (fun i wr=>∃ k:Nat,k<=l.length/\i=.int .i64 (k:Int)/\af w wr/\World.blk wr w.heap.size #[.func (.func 277) #[] #[],.func (.func 278) #[] #[],.func (.func 280) #[] #[]] 308/\World.blk wr wb #[.int .i64 (cF l k).num,.bool (cF l k).dir,.int .i64 (cF l k).links,.int .i64 (cF l k).blob.root,.int .i64 (cF l k).blob.size] 128/\db (w.heap.size+1) (w.heap.size+1) (aP l.length++(l.take k).flatMap oo) wr) (fun i _=>l.length-(intOf i).toNat)
 case atStart=>exact⟨0,by omega,rfl,dO.out,Xp.out,Xa.out,by simpa using nU.out⟩
 case round=>
  clear Xp Xa nU dO;obtain⟨wo,rfl⟩:∃ wo,wo=wr:=⟨_,rfl⟩
  obtain⟨k,hk,rfl,hK,hF,hW,hB⟩:=hrel;have HK:=hd0 hK;have HF:=hd0 hF;have HW:=hd0 hW;have HB:=hd0 hB;clear hK hF hW hB;by_cases aL:k<l.length
  ·obtain⟨x,hx⟩:∃ x,l[k]?=some x:=⟨_,auB aL⟩
   have Hx:=hd0 hx;have Fx:=hd0 (ut FJ.out hx);have Oj:=hd0 (xG (Int.le_refl 0) FJ.out x (auC hx));clear hx;obtain⟨b,o,rfl,hc⟩:=HX.out k x Hx.out;have c0:wo.cell? ⟨b,o+k*5,none⟩=some (.int .i64 x.num):=by have h:=hc 0 _ rfl;rw[HK.out.cell (p:=⟨b,o+k*5,none⟩) (ak h) id];exact h
   have c1:wo.cell? ⟨b,o+k*5+1,none⟩=some (.bool x.dir):=by have h:=hc 1 _ rfl;rw[HK.out.cell (p:=⟨b,o+k*5+1,none⟩) (ak h) id];exact h
   have c2:wo.cell? ⟨b,o+k*5+2,none⟩=some (.int .i64 x.links):=by have h:=hc 2 _ rfl;rw[HK.out.cell (p:=⟨b,o+k*5+2,none⟩) (ak h) id];exact h
   have c3:wo.cell? ⟨b,o+k*5+3,none⟩=some (.int .i64 x.blob.root):=by have h:=hc 3 _ rfl;rw[HK.out.cell (p:=⟨b,o+k*5+3,none⟩) (ak h) id];exact h
   have c4:wo.cell? ⟨b,o+k*5+4,none⟩=some (.int .i64 x.blob.size):=by have h:=hc 4 _ rfl;rw[HK.out.cell (p:=⟨b,o+k*5+4,none⟩) (ak h) id];exact h
   have f0:wo.cell? ⟨w.heap.size,0,none⟩=some (.func (.func 277) #[] #[]):=aa HF.out 0;have f1:wo.cell? ⟨w.heap.size,1,none⟩=some (.func (.func 278) #[] #[]):=aa HF.out 1;have g0:wo.cell? ⟨wb,0,none⟩=some (.int .i64 (cF l k).num):=aa HW.out 0;have g1:wo.cell? ⟨wb,1,none⟩=some (.bool (cF l k).dir):=aa HW.out 1;have g2:wo.cell? ⟨wb,2,none⟩=some (.int .i64 (cF l k).links):=aa HW.out 2;have g3:wo.cell? ⟨wb,3,none⟩=some (.int .i64 (cF l k).blob.root):=aa HW.out 3;have g4:wo.cell? ⟨wb,4,none⟩=some (.int .i64 (cF l k).blob.size):=aa HW.out 4;obtain⟨fb,hq⟩:∃ fb,((k:Int)==0)=fb:=⟨_,rfl⟩
   have z0:w.heap.size<wo.heap.size:=ai HF.out;have z1:wb<wo.heap.size:=ai HW.out;clear hc;go_wp2_with fail;refine(Im (cF l k) x fb Fx.out _).mono ?_;rintro e w5 ⟨rfl,mt⟩;have FL:=hd0 (ab mt (aH HF.out _) id);have ng:=hd0 (ab mt (aH HW.out _) id);have uP:=hd0 (ab mt (aw wo _ _) id);have F0:=hd0 (cA HB.out (dQ mt));have lZ:=hd0 (HK.out.keep (dQ mt));have FZ:=mt.size;simp at FZ;clear mt c0 c1 c2 c3 c4 f0 f1 g0 g1 g2 g3 g4 z0 HF HW HB HK hq;generalize wo.heap.size=xb at*;have f1:w5.cell? ⟨w.heap.size,1,none⟩=some (.func (.func 278) #[] #[]):=aa FL.out 1;have g0:w5.frozen? ⟨wb,0,none⟩=false:=ae ng.out _ rfl;have d0:w5.cell? ⟨wb,0,none⟩=some (.int .i64 (cF l k).num):=aa ng.out 0;have e0:w5.cell? ⟨xb,0,none⟩=some (.int .i64 x.num):=aa uP.out 0;have g1:w5.frozen? ⟨wb,1,none⟩=false:=ae ng.out _ rfl;have d1:w5.cell? ⟨wb,1,none⟩=some (.bool (cF l k).dir):=aa ng.out 1;have e1:w5.cell? ⟨xb,1,none⟩=some (.bool x.dir):=aa uP.out 1;have g2:w5.frozen? ⟨wb,2,none⟩=false:=ae ng.out _ rfl;have d2:w5.cell? ⟨wb,2,none⟩=some (.int .i64 (cF l k).links):=aa ng.out 2;have e2:w5.cell? ⟨xb,2,none⟩=some (.int .i64 x.links):=aa uP.out 2;have g3:w5.frozen? ⟨wb,3,none⟩=false:=ae ng.out _ rfl;have d3:w5.cell? ⟨wb,3,none⟩=some (.int .i64 (cF l k).blob.root):=aa ng.out 3;have e3:w5.cell? ⟨xb,3,none⟩=some (.int .i64 x.blob.root):=aa uP.out 3;have g4:w5.frozen? ⟨wb,4,none⟩=false:=ae ng.out _ rfl;have d4:w5.cell? ⟨wb,4,none⟩=some (.int .i64 (cF l k).blob.size):=aa ng.out 4;have e4:w5.cell? ⟨xb,4,none⟩=some (.int .i64 x.blob.size):=aa uP.out 4;have n1:¬ w.heap.size=wb:=by omega
   have n2:¬ xb=wb:=by omega
   go_wp2_with fail;refine(In x _).mono ?_;rintro e w7 ⟨pb,rfl,mW,rC,pG⟩;have rF:ah (·=wb) w5 (((((w5.setCell ⟨wb,0,none⟩ (.int .i64 x.num)).setCell ⟨wb,1,none⟩ (.bool x.dir)).setCell ⟨wb,2,none⟩ (.int .i64 x.links)).setCell ⟨wb,3,none⟩ (.int .i64 x.blob.root)).setCell ⟨wb,4,none⟩ (.int .i64 x.blob.size)):=((((((ah.refl (fun y=>y=wb) w5).setCell (p:=⟨wb,0,none⟩) (.inl rfl) _).setCell (p:=⟨wb,1,none⟩) (.inl rfl) _).setCell (p:=⟨wb,2,none⟩) (.inl rfl) _).setCell (p:=⟨wb,3,none⟩) (.inl rfl) _).setCell (p:=⟨wb,4,none⟩) (.inl rfl) _)
   have Yr:=hd0 (ab rC (ab rF FL.out n1) id);have KK:=hd0 (cA (uX9 F0.out rF (by omega) (fun q c fr hq e=>by
    subst e;have:=ng.out;unfold World.blk at this;rw[this]at hq
    cases hq)) rC)
   have XX:Hid (World.blk w7 wb #[.int .i64 x.num,.bool x.dir,.int .i64 x.links,.int .i64 x.blob.root,.int .i64 x.blob.size] 128):=hd0 (ab rC (ag (ag (ag (ag (ag ng.out 0 _) 1 _) 2 _) 3 _) 4 _) id);have yR:=hd0 ((lZ.out.new rF (by omega)).keep rC);have Cu:=hd0 pG;have hpw:wb<pb:=by
    have h:=ai ng.out;have e:=rF.size;omega
   have BN:=hd0 (J8 Fx.out Oj.out);clear rC pG rF f1 g0 d0 e0 g1 d1 e1 g2 d2 e2 g3 d3 e3 g4 d4 e4 n1 n2 FL ng uP F0 lZ FZ mW;have Ob:Hid ((aP l.length++(l.take k).flatMap oo).length<=1000000):=hd0 (Ir FJ.out Hl.out k);generalize uT:aP l.length++(l.take k).flatMap oo=pre at*;have Jf:=hd0 uT;clear uT;go_wp2_with fail
   go_loopw [49] (fun i wr=>∃ j:Nat,j<=5/\i=.int .i64 (j:Int)/\af w wr/\World.blk wr w.heap.size #[.func (.func 277) #[] #[],.func (.func 278) #[] #[],.func (.func 280) #[] #[]] 308/\World.blk wr wb #[.int .i64 x.num,.bool x.dir,.int .i64 x.links,.int .i64 x.blob.root,.int .i64 x.blob.size] 128/\World.blk wr pb #[.iface 3 (.int .i64 x.num),.iface 3 (.int .i64 (if x.dir=true then 1 else 0)),.iface 3 (.int .i64 x.links),.iface 3 (.int .i64 x.blob.root),.iface 3 (.int .i64 x.blob.size)] 20/\db (w.heap.size+1) (w.heap.size+1) (pre++((cG x).take j).flatten) wr) (fun i _=>5-(intOf i).toNat)
   case atStart=>exact⟨0,by omega,rfl,yR.out,Yr.out,XX.out,Cu.out,by simpa using KK.out⟩
   case round=>
    clear Yr KK XX yR Cu;obtain⟨j,hj,rfl,hK,hF,hW,hP,hB⟩:=hrel;have HK:=hd0 hK;have HF:=hd0 hF;have HW:=hd0 hW;have HP:=hd0 hP;have HB:=hd0 hB;clear hK hF hW hP hB;by_cases hj5:j<5
    ·obtain⟨m,ze,ZF,uR⟩:=QK x BN.out j hj5;have HS:=hd0 uR;have HLP:Hid (((cG x).take j).flatten.length<=100):=hd0 (sA Fx.out Oj.out j);have pi:wr.cell? ⟨pb,j,none⟩=some (.iface 3 (.int .i64 (m:Int))):=by rw[aa HP.out j];exact ZF
     have a0:=qW m;have sG:(j:Int)<5:=by omega
     clear ZF uR;go_wp2_with fail;refine(lU m _ (by omega)).mono ?_;rintro e w8 ⟨rfl,lI⟩;have BO:=hd0 (ab lI HF.out id);have vy:=hd0 (ab lI HW.out id);have sO:=hd0 (ab lI HP.out id);have BH:=hd0 (cA HB.out lI);have ql:=hd0 (HK.out.keep lI);clear lI HF HW HP HB HK pi a0;go_wp2_with fail;refine(jt (w.heap.size+1) (w.heap.size+1) _ (aP m) w8 BH.out (by have:=bI (n:=m) (by omega);have:=Ob.out;have:=HLP.out;simp only[auS];omega) (by have:=ai vy.out;omega)).mono ?_;rintro e w9 ⟨rfl,Kj,sN,tW⟩;have Wo:=hd0 (ab tW BO.out (cO (by omega) BO.out (by decide)));have VJ:=hd0 (ab tW vy.out (cO (by omega) vy.out (by decide)));have pF:=hd0 (ab tW sO.out (cO (by omega) sO.out (by decide)));have OC:Hid (db (w.heap.size+1) (w.heap.size+1) (pre++((cG x).take (j+1)).flatten) w9):=hd0 (by
      have h:=Kj;rw[avi]at h;rw[HS.out]at h;exact h)
     have BR:=hd0 (cZ ql.out sN (by omega));clear Kj sN tW BO vy sO BH ql;go_wp2_with fail;exact⟨⟨j+1,by omega,by go_num,BR.out,Wo.out,VJ.out,pF.out,OC.out⟩,by simp[intOf];omega⟩
    ·obtain rfl:j=5:=by omega
     go_wp2_with fail;refine⟨⟨k+1,by omega,by go_num,HK.out,HF.out,by rw[qt Hx.out];exact HW.out,?_⟩,by simp[intOf];omega⟩;have h:=HB.out;rw[avl (by simp[cG]),sx]at h;have e:l.take (k+1)=l.take k++[x]:=by rw[auD,Hx.out];rfl
     rw[e];simp only[auR,avg,List.flatMap_nil,List.append_nil];rw[<-avi,Jf.out];exact h
  ·obtain rfl:k=l.length:=by omega
   have jp:Hid (db (w.heap.size+1) (w.heap.size+1) (j9 l) wo):=hd0 (by have h:=HB.out;rwa [auF]at h);go_wp2_with fail;refine(gO (w.heap.size+1) (w.heap.size+1) (j9 l) wo jp.out (by have:=ai HW.out;omega)).mono ?_;rintro e w6 ⟨rfl,rD⟩;have rz:=hd0 (cZ HK.out rD (by omega));clear rD;go_wp2;go_ret2;exact⟨rfl,rz.out⟩
end
section
open Go.RowKit
theorem Bu:∀ {l:List Sn} {was:Int},0<=was->Ty was l=true->∀ x∈l,0<x.id
 |[],_,_,_,x,hx=>by simp at hx
 |y::r,was,h0,h,x,hx=>by
  simp only[Ty,auT,auY]at h;rcases auX.1 hx with rfl|hx
  ·omega
  ·exact Bu (l:=r) (was:=y.id) (by omega) h.2 x hx
theorem QL {was:Int}{x:Sn}(h:Ik was x)(h0:0<x.id):0<=x.id/\x.id<=1099511627776/\0<=x.plane/\x.plane<=1099511627776/\0<=x.table.root/\x.table.root<=1099511627776/\0<=x.table.size/\x.table.size<=1099511627776/\x.name.length<=16:=by
 obtain⟨h1,h2,h3,h4,h5,h6⟩:=h;simp only[fP.ok,fP.may,auT,auY]at h6;have h7:=h2;simp only[aG,auT,auY]at h7;omega
theorem pu {was:Int}{x:Sn}(h:Ik was x)(h0:0<x.id)(j:Nat):((cg x).take j).flatten.length<=100:=by
 have hn:=QL h h0;have q0:=bI (n:=x.name.length) (by omega);have q1:=bI (n:=x.id.toNat) (by omega);have q2:=bI (n:=x.plane.toNat) (by omega);have q3:=bI (n:=x.table.root.toNat) (by omega);have q4:=bI (n:=x.table.size.toNat) (by omega);have hf:(cg x).flatten.length<=100:=by simp[cg];omega
 have:(cg x).flatten=((cg x).take j).flatten++((cg x).drop j).flatten:=by rw[<-List.flatten_append,List.take_append_drop]
 rw[this,auS]at hf;omega
theorem Mx {l:List Sn}(h:Ty 0 l=true)(hl:l.length<=4096)(k:Nat):(aP l.length++(l.take k).flatMap pa).length<=1000000:=by
 have key:∀(m:List Sn),(∀ x∈m,(pa x).length<=100)->(m.flatMap pa).length<=m.length*100:=by
  intro m
  induction m with
  |nil=>intro _;simp
  |cons y r ih=>
   intro hm;have:=ih (fun x hx=>hm x (by simp[hx]));have:=hm y (by simp);rw[avg,auS,auA];omega
 have h1:=key (l.take k) (fun x hx=>by
  obtain⟨i,hi,rfl⟩:=List.getElem_of_mem (auG hx);have:=pu (xz h (auB hi)) (Bu (Int.le_refl 0) h _ (ava hi)) 5
  rwa [avl (by simp[cg]),us]at this)
 have h2:=bI (n:=l.length) (by omega);have h3:(l.take k).length<=4096:=by rw[auH];omega
 rw[auS];omega
theorem U4 (x:Sn)(h:0<=x.id/\x.id<=1099511627776/\0<=x.plane/\x.plane<=1099511627776/\0<=x.table.root/\x.table.root<=1099511627776/\0<=x.table.size/\x.table.size<=1099511627776/\x.name.length<=16)(j:Nat)(h0:0<j)(hj:j<5):
  ∃ m:Nat,(m:Int)<=1099511627776/\(#[.iface 9 (.string ⟨x.name.toArray⟩),.iface 3 (.int .i64 x.id),.iface 3 (.int .i64 x.plane),.iface 3 (.int .i64 x.table.root),.iface 3 (.int .i64 x.table.size)]:Array Value)[j]?=some (.iface 3 (.int .i64 (m:Int)))/\((cg x).take j).flatten++aP m=((cg x).take (j+1)).flatten:=by
 have ii:∀ {a:Int},0<=a->((a.toNat:Nat):Int)=a:=fun h=>by omega
 rcases(by omega:j=1\/j=2\/j=3\/j=4)with rfl|rfl|rfl|rfl
 ·exact⟨x.id.toNat,by omega,by rw[ii h.1];rfl,by simp[cg]⟩
 ·exact⟨x.plane.toNat,by omega,by rw[ii h.2.2.1];rfl,by simp[cg]⟩
 ·exact⟨x.table.root.toNat,by omega,by rw[ii h.2.2.2.2.1];rfl,by simp[cg]⟩
 ·exact⟨x.table.size.toNat,by omega,by rw[ii h.2.2.2.2.2.2.1];rfl,by simp[cg]⟩
theorem Is (l:List Sn)(v:Value)(w:World)(cJ:jS oC 5 w v l)(cq:zI l=true):
  Calls prog 210 #[Br,v] w fun e w'=>e=.returned (.tuple #[.string ⟨(kc l).toArray⟩,.int .i64 0])/\af w w':=by
 obtain⟨a,cap,rfl,hx⟩:=cJ;have HX:=hd0 hx;clear hx;simp only[zI,auT,auY]at cq;obtain⟨aV,hB⟩:=cq;have FJ:=hd0 hB;clear hB;have h1:¬(4096:Int)<l.length:=by omega
 have Hl:=hd0 aV;clear aV;go_enter func210,ntmps210;go_wp2_with fail;refine(lU l.length _ (by have:=Hl.out;omega)).mono ?_;rintro e w2 ⟨rfl,de⟩;have Sw:Hid (World.blk w2 w.heap.size #[.func (.func 260) #[] #[],.func (.func 262) #[] #[],.func (.func 263) #[] #[]] 289):=hd0 (ab de (aH (aw _ _ _) _) id);have XV:Hid (db (w.heap.size+1) (w.heap.size+1) [] w2):=hd0 (by
  have h:=nA (w.alloc (.cells #[.func (.func 260) #[] #[],.func (.func 262) #[] #[],.func (.func 263) #[] #[]] 289));rw[show(w.alloc (.cells #[.func (.func 260) #[] #[],.func (.func 262) #[] #[],.func (.func 263) #[] #[]] 289)).heap.size=w.heap.size+1 by simp]at h;exact cA h de)
 have bu:=hd0 (dQ (dQ de));have lJ:=de.size;simp at lJ;clear de;go_wp2_with fail;refine(jt (w.heap.size+1) (w.heap.size+1) [] (aP l.length) w2 XV.out (by have:=bI (n:=l.length) (by have:=Hl.out;omega);simp;omega) (by omega)).mono ?_;rintro e w3 ⟨rfl,uV,yk,lz⟩;have F8:=hd0 (ab lz Sw.out (cO (by omega) Sw.out (by decide)));have ox:=hd0 uV;have dZ:=hd0 (cZ bu.out yk (by omega));have BY:=yk.size;rw[au9]at ox;clear uV yk lz Sw XV bu;go_wp2_with fail;obtain⟨wb,Cm⟩:∃ wb,wb=w3.heap.size:=⟨_,rfl⟩
 have Xa:Hid (World.blk (w3.alloc (.cells #[.string ⟨#[]⟩,.int .i64 0,.int .i64 0,.int .i64 0,.int .i64 0] 85)) wb #[.string ⟨#[]⟩,.int .i64 0,.int .i64 0,.int .i64 0,.int .i64 0] 85):=hd0 (ba Cm _ _);have Xp:=hd0 (aH F8.out (.cells #[.string ⟨#[]⟩,.int .i64 0,.int .i64 0,.int .i64 0,.int .i64 0] 85));have nU:=hd0 (cA ox.out ((ah.refl (fun _=>False) w3).alloc (.cells #[.string ⟨#[]⟩,.int .i64 0,.int .i64 0,.int .i64 0,.int .i64 0] 85)));have dO:=hd0 (dZ.out.alloc (.cells #[.string ⟨#[]⟩,.int .i64 0,.int .i64 0,.int .i64 0,.int .i64 0] 85));have ae0:w.heap.size+2<=wb:=by omega
 clear F8 ox dZ;rw[<-Cm];generalize w3.alloc (.cells #[.string ⟨#[]⟩,.int .i64 0,.int .i64 0,.int .i64 0,.int .i64 0] 85)=w4 at*;clear Cm BY lJ
 go_loopw [30] (fun i wr=>∃ k:Nat,k<=l.length/\i=.int .i64 (k:Int)/\af w wr/\World.blk wr w.heap.size #[.func (.func 260) #[] #[],.func (.func 262) #[] #[],.func (.func 263) #[] #[]] 289/\World.blk wr wb #[.string ⟨(dr l k).name.toArray⟩,.int .i64 (dr l k).id,.int .i64 (dr l k).plane,.int .i64 (dr l k).table.root,.int .i64 (dr l k).table.size] 85/\db (w.heap.size+1) (w.heap.size+1) (aP l.length++(l.take k).flatMap pa) wr) (fun i _=>l.length-(intOf i).toNat)
 case atStart=>exact⟨0,by omega,rfl,dO.out,Xp.out,Xa.out,by simpa using nU.out⟩
 case round=>
  clear Xp Xa nU dO;obtain⟨wo,rfl⟩:∃ wo,wo=wr:=⟨_,rfl⟩
  obtain⟨k,hk,rfl,hK,hF,hW,hB⟩:=hrel;have HK:=hd0 hK;have HF:=hd0 hF;have HW:=hd0 hW;have HB:=hd0 hB;clear hK hF hW hB;by_cases aL:k<l.length
  ·obtain⟨x,hx⟩:∃ x,l[k]?=some x:=⟨_,auB aL⟩
   have Hx:=hd0 hx;have Fx:=hd0 (xz FJ.out hx);have Oj:=hd0 (Bu (Int.le_refl 0) FJ.out x (auC hx));clear hx;obtain⟨b,o,rfl,hc⟩:=HX.out k x Hx.out;have c0:wo.cell? ⟨b,o+k*5,none⟩=some (.string ⟨x.name.toArray⟩):=by have h:=hc 0 _ rfl;rw[HK.out.cell (p:=⟨b,o+k*5,none⟩) (ak h) id];exact h
   have c1:wo.cell? ⟨b,o+k*5+1,none⟩=some (.int .i64 x.id):=by have h:=hc 1 _ rfl;rw[HK.out.cell (p:=⟨b,o+k*5+1,none⟩) (ak h) id];exact h
   have c2:wo.cell? ⟨b,o+k*5+2,none⟩=some (.int .i64 x.plane):=by have h:=hc 2 _ rfl;rw[HK.out.cell (p:=⟨b,o+k*5+2,none⟩) (ak h) id];exact h
   have c3:wo.cell? ⟨b,o+k*5+3,none⟩=some (.int .i64 x.table.root):=by have h:=hc 3 _ rfl;rw[HK.out.cell (p:=⟨b,o+k*5+3,none⟩) (ak h) id];exact h
   have c4:wo.cell? ⟨b,o+k*5+4,none⟩=some (.int .i64 x.table.size):=by have h:=hc 4 _ rfl;rw[HK.out.cell (p:=⟨b,o+k*5+4,none⟩) (ak h) id];exact h
   have f0:wo.cell? ⟨w.heap.size,0,none⟩=some (.func (.func 260) #[] #[]):=aa HF.out 0;have f1:wo.cell? ⟨w.heap.size,1,none⟩=some (.func (.func 262) #[] #[]):=aa HF.out 1;have g0:wo.cell? ⟨wb,0,none⟩=some (.string ⟨(dr l k).name.toArray⟩):=aa HW.out 0;have g1:wo.cell? ⟨wb,1,none⟩=some (.int .i64 (dr l k).id):=aa HW.out 1;have g2:wo.cell? ⟨wb,2,none⟩=some (.int .i64 (dr l k).plane):=aa HW.out 2;have g3:wo.cell? ⟨wb,3,none⟩=some (.int .i64 (dr l k).table.root):=aa HW.out 3;have g4:wo.cell? ⟨wb,4,none⟩=some (.int .i64 (dr l k).table.size):=aa HW.out 4;obtain⟨fb,hq⟩:∃ fb,((k:Int)==0)=fb:=⟨_,rfl⟩
   have z0:w.heap.size<wo.heap.size:=ai HF.out;have z1:wb<wo.heap.size:=ai HW.out;clear hc;go_wp2_with fail;refine(Mu (dr l k) x fb Fx.out _).mono ?_;rintro e w5 ⟨rfl,mt⟩;have FL:=hd0 (ab mt (aH HF.out _) id);have ng:=hd0 (ab mt (aH HW.out _) id);have uP:=hd0 (ab mt (aw wo _ _) id);have F0:=hd0 (cA HB.out (dQ mt));have lZ:=hd0 (HK.out.keep (dQ mt));have FZ:=mt.size;simp at FZ;clear mt c0 c1 c2 c3 c4 f0 f1 g0 g1 g2 g3 g4 z0 HF HW HB HK hq;generalize wo.heap.size=xb at*;have f1:w5.cell? ⟨w.heap.size,1,none⟩=some (.func (.func 262) #[] #[]):=aa FL.out 1;have g0:w5.frozen? ⟨wb,0,none⟩=false:=ae ng.out _ rfl;have d0:w5.cell? ⟨wb,0,none⟩=some (.string ⟨(dr l k).name.toArray⟩):=aa ng.out 0;have e0:w5.cell? ⟨xb,0,none⟩=some (.string ⟨x.name.toArray⟩):=aa uP.out 0;have g1:w5.frozen? ⟨wb,1,none⟩=false:=ae ng.out _ rfl;have d1:w5.cell? ⟨wb,1,none⟩=some (.int .i64 (dr l k).id):=aa ng.out 1;have e1:w5.cell? ⟨xb,1,none⟩=some (.int .i64 x.id):=aa uP.out 1;have g2:w5.frozen? ⟨wb,2,none⟩=false:=ae ng.out _ rfl;have d2:w5.cell? ⟨wb,2,none⟩=some (.int .i64 (dr l k).plane):=aa ng.out 2;have e2:w5.cell? ⟨xb,2,none⟩=some (.int .i64 x.plane):=aa uP.out 2;have g3:w5.frozen? ⟨wb,3,none⟩=false:=ae ng.out _ rfl;have d3:w5.cell? ⟨wb,3,none⟩=some (.int .i64 (dr l k).table.root):=aa ng.out 3;have e3:w5.cell? ⟨xb,3,none⟩=some (.int .i64 x.table.root):=aa uP.out 3;have g4:w5.frozen? ⟨wb,4,none⟩=false:=ae ng.out _ rfl;have d4:w5.cell? ⟨wb,4,none⟩=some (.int .i64 (dr l k).table.size):=aa ng.out 4;have e4:w5.cell? ⟨xb,4,none⟩=some (.int .i64 x.table.size):=aa uP.out 4;have n1:¬ w.heap.size=wb:=by omega
   have n2:¬ xb=wb:=by omega
   go_wp2_with fail;refine(Mv x _).mono ?_;rintro e w7 ⟨pb,rfl,mW,rC,pG⟩;have rF:ah (·=wb) w5 (((((w5.setCell ⟨wb,0,none⟩ (.string ⟨x.name.toArray⟩)).setCell ⟨wb,1,none⟩ (.int .i64 x.id)).setCell ⟨wb,2,none⟩ (.int .i64 x.plane)).setCell ⟨wb,3,none⟩ (.int .i64 x.table.root)).setCell ⟨wb,4,none⟩ (.int .i64 x.table.size)):=((((((ah.refl (fun y=>y=wb) w5).setCell (p:=⟨wb,0,none⟩) (.inl rfl) _).setCell (p:=⟨wb,1,none⟩) (.inl rfl) _).setCell (p:=⟨wb,2,none⟩) (.inl rfl) _).setCell (p:=⟨wb,3,none⟩) (.inl rfl) _).setCell (p:=⟨wb,4,none⟩) (.inl rfl) _)
   have Yr:=hd0 (ab rC (ab rF FL.out n1) id);have KK:=hd0 (cA (uX9 F0.out rF (by omega) (fun q c fr hq e=>by
    subst e;have:=ng.out;unfold World.blk at this;rw[this]at hq
    cases hq)) rC)
   have XX:Hid (World.blk w7 wb #[.string ⟨x.name.toArray⟩,.int .i64 x.id,.int .i64 x.plane,.int .i64 x.table.root,.int .i64 x.table.size] 85):=hd0 (ab rC (ag (ag (ag (ag (ag ng.out 0 _) 1 _) 2 _) 3 _) 4 _) id);have yR:=hd0 ((lZ.out.new rF (by omega)).keep rC);have Cu:=hd0 pG;have hpw:wb<pb:=by
    have h:=ai ng.out;have e:=rF.size;omega
   have BN:=hd0 (QL Fx.out Oj.out);clear rC pG rF f1 g0 d0 e0 g1 d1 e1 g2 d2 e2 g3 d3 e3 g4 d4 e4 n1 n2 FL ng uP F0 lZ FZ mW;have Ob:Hid ((aP l.length++(l.take k).flatMap pa).length<=1000000):=hd0 (Mx FJ.out Hl.out k);generalize uT:aP l.length++(l.take k).flatMap pa=pre at*;have Jf:=hd0 uT;clear uT;go_wp2_with fail
   go_loopw [49] (fun i wr=>∃ j:Nat,j<=5/\i=.int .i64 (j:Int)/\af w wr/\World.blk wr w.heap.size #[.func (.func 260) #[] #[],.func (.func 262) #[] #[],.func (.func 263) #[] #[]] 289/\World.blk wr wb #[.string ⟨x.name.toArray⟩,.int .i64 x.id,.int .i64 x.plane,.int .i64 x.table.root,.int .i64 x.table.size] 85/\World.blk wr pb #[.iface 9 (.string ⟨x.name.toArray⟩),.iface 3 (.int .i64 x.id),.iface 3 (.int .i64 x.plane),.iface 3 (.int .i64 x.table.root),.iface 3 (.int .i64 x.table.size)] 20/\db (w.heap.size+1) (w.heap.size+1) (pre++((cg x).take j).flatten) wr) (fun i _=>5-(intOf i).toNat)
   case atStart=>exact⟨0,by omega,rfl,yR.out,Yr.out,XX.out,Cu.out,by simpa using KK.out⟩
   case round=>
    clear Yr KK XX yR Cu;obtain⟨j,hj,rfl,hK,hF,hW,hP,hB⟩:=hrel;have HK:=hd0 hK;have HF:=hd0 hF;have HW:=hd0 hW;have HP:=hd0 hP;have HB:=hd0 hB;clear hK hF hW hP hB;by_cases hj0:j=0
    ·subst hj0;have HS:Hid (((cg x).take 0).flatten++(aP x.name.length++x.name)=((cg x).take (0+1)).flatten):=hd0 (by simp[cg]);have HLP:Hid (((cg x).take 0).flatten.length<=100):=hd0 (pu Fx.out Oj.out 0);have pi:wr.cell? ⟨pb,0,none⟩=some (.iface 9 (.string ⟨x.name.toArray⟩)):=aa HP.out 0;have a0:=Ad ⟨x.name.toArray⟩;have a1:=xx ⟨x.name.toArray⟩;go_wp2_with fail;refine(tE x.name _ (by have:=BN.out;omega)).mono ?_;rintro e w8 ⟨rfl,lI⟩;have BO:=hd0 (ab lI HF.out id);have vy:=hd0 (ab lI HW.out id);have sO:=hd0 (ab lI HP.out id);have BH:=hd0 (cA HB.out lI);have ql:=hd0 (HK.out.keep lI);clear lI HF HW HP HB HK pi a0 a1;go_wp2_with fail;refine(jt (w.heap.size+1) (w.heap.size+1) _ (aP x.name.length++x.name) w8 BH.out (by have:=bI (n:=x.name.length) (by have:=BN.out;omega);have:=BN.out;have:=Ob.out;have:=HLP.out;simp only[auS];omega) (by have:=ai vy.out;omega)).mono ?_;rintro e w9 ⟨rfl,Kj,sN,tW⟩;have Wo:=hd0 (ab tW BO.out (cO (by omega) BO.out (by decide)));have VJ:=hd0 (ab tW vy.out (cO (by omega) vy.out (by decide)));have pF:=hd0 (ab tW sO.out (cO (by omega) sO.out (by decide)));have OC:Hid (db (w.heap.size+1) (w.heap.size+1) (pre++((cg x).take (0+1)).flatten) w9):=hd0 (by
      have h:=Kj;rw[avi]at h;have e:((cg x).take 0).flatten++(aP x.name.length++x.name)=((cg x).take (0+1)).flatten:=by
       rw[<-HS.out]
      rw[e]at h;exact h)
     have BR:=hd0 (cZ ql.out sN (by omega));clear Kj sN tW BO vy sO BH ql;go_wp2_with fail;refine⟨⟨0+1,by omega,rfl,BR.out,Wo.out,VJ.out,pF.out,OC.out⟩,by decide⟩
    ·by_cases hj5:j<5
     ·obtain⟨m,ze,ZF,uR⟩:=U4 x BN.out j (by omega) hj5;have HS:=hd0 uR;have HLP:Hid (((cg x).take j).flatten.length<=100):=hd0 (pu Fx.out Oj.out j);have pi:wr.cell? ⟨pb,j,none⟩=some (.iface 3 (.int .i64 (m:Int))):=by rw[aa HP.out j];exact ZF
      have sG:(j:Int)<5:=by omega
      clear ZF uR;have a0:=qW m;go_wp2_with fail;refine(lU m _ (by omega)).mono ?_;rintro e w8 ⟨rfl,lI⟩;have BO:=hd0 (ab lI HF.out id);have vy:=hd0 (ab lI HW.out id);have sO:=hd0 (ab lI HP.out id);have BH:=hd0 (cA HB.out lI);have ql:=hd0 (HK.out.keep lI);clear lI HF HW HP HB HK pi a0;go_wp2_with fail;refine(jt (w.heap.size+1) (w.heap.size+1) _ (aP m) w8 BH.out (by have:=bI (n:=m) (by omega);have:=Ob.out;have:=HLP.out;simp only[auS];omega) (by have:=ai vy.out;omega)).mono ?_;rintro e w9 ⟨rfl,Kj,sN,tW⟩;have Wo:=hd0 (ab tW BO.out (cO (by omega) BO.out (by decide)));have VJ:=hd0 (ab tW vy.out (cO (by omega) vy.out (by decide)));have pF:=hd0 (ab tW sO.out (cO (by omega) sO.out (by decide)));have OC:Hid (db (w.heap.size+1) (w.heap.size+1) (pre++((cg x).take (j+1)).flatten) w9):=hd0 (by
       have h:=Kj;rw[avi]at h;rw[HS.out]at h;exact h)
      have BR:=hd0 (cZ ql.out sN (by omega));clear Kj sN tW BO vy sO BH ql;go_wp2_with fail;exact⟨⟨j+1,by omega,by go_num,BR.out,Wo.out,VJ.out,pF.out,OC.out⟩,by simp[intOf];omega⟩
     ·obtain rfl:j=5:=by omega
      go_wp2_with fail;refine⟨⟨k+1,by omega,by go_num,HK.out,HF.out,by rw[su Hx.out];exact HW.out,?_⟩,by simp[intOf];omega⟩;have h:=HB.out;rw[avl (by simp[cg]),us]at h;have e:l.take (k+1)=l.take k++[x]:=by rw[auD,Hx.out];rfl
      rw[e];simp only[auR,avg,List.flatMap_nil,List.append_nil];rw[<-avi,Jf.out];exact h
  ·obtain rfl:k=l.length:=by omega
   have jp:Hid (db (w.heap.size+1) (w.heap.size+1) (kc l) wo):=hd0 (by have h:=HB.out;rwa [auF]at h);go_wp2_with fail;refine(gO (w.heap.size+1) (w.heap.size+1) (kc l) wo jp.out (by have:=ai HW.out;omega)).mono ?_;rintro e w6 ⟨rfl,rD⟩;have rz:=hd0 (cZ HK.out rD (by omega));clear rD;go_wp2;go_ret2;exact⟨rfl,rz.out⟩
end
section
open Go.RowKit
theorem Eu {α:Type}{f:α->List Value}{sz:Nat}{P:Program}{ts te:TypeId}{z:Value}{bytes:Nat}(hs:P.underlying ts=some (.slice te))(hi:(P.info? te).map (fun i=>(i.zero,i.size,i.bytes))=some (some z,sz,bytes))(hz:z.cells.size=sz)(cK:0<sz)
  (hf:∀ a,(f a).length=sz) (base:Nat) (v:Value) (l:List α) (w w0:World) (bw:dU f sz te w base v l) (va:Value) (ys:List α) (ha:jS f sz w va ys) (h1:∀ y∈ys,∀ u∈f y,u.oneCell'=true) (hn:l.length+ys.length<=maxLen) (Cd:(l.length+ys.length)*bytes<=140737488355328)
  (FC:base<=w.heap.size) (h0:af w0 w) (iM:w0.heap.size<=base):
  ∃ v' w',(Builtin.append_ #[ts,ts] ts #[v,va]).run P w=.ok v' w'/\dU f sz te w' base v' (l++ys)/\af w0 w'/\ah (fun b=>base<=b) w w':=by
 obtain⟨i0,hi,nX,mZ,oH⟩:=auO hi;obtain⟨a,cap,rfl,hx⟩:=ha;rcases a with _|a
 ·have hy:ys=[]:=by
   cases ys with
   |nil=>rfl
   |cons y ys=>obtain⟨b,o,hb,_⟩:=hx 0 y rfl;cases hb
  subst hy;obtain⟨a0,sl,sc,rfl,IY⟩:∃ a0 sl sc,v=.slice a0 sl sc/\sl<=sc:=by
   rcases bw.2 with⟨rfl,h⟩|⟨g,cp,dz,rfl,_,_,hc,_⟩
   ·exact⟨none,0,0,rfl,auE _⟩
   ·exact⟨_,_,_,rfl,hc⟩
  refine⟨_,w,run_append_nothing w ts ts ts te i0 hs hi a0 sl sc IY (.slice none 0 cap) (Src.ofNil w hs cap),by simpa[dU]using bw,h0,ah.refl _ _⟩
 ·have aV:=sj hf ys;have yf:∀ j u,(ys.flatMap f)[j]?=some u->w.cell? (a.add j)=some u:=fun j u hj=>by
   have TC:=(auP.1 hj).1;rw[aV]at TC;have hq:j/sz*sz+j%sz=j:=by rw[Nat.mul_comm];exact Nat.div_add_mod j sz
   have h5:=DW hf ys (j/sz) (j%sz) (Nat.mod_lt _ cK);rw[hq,hj]at h5
   cases hy:ys[j/sz]? with
   |none=>rw[hy]at h5;cases h5
   |some y=>
    rw[hy]at h5;obtain⟨b,o,hb,hc⟩:=hx (j/sz) y hy
    cases hb
    rw[gA];have:=hc (j%sz) u h5.symm
    rwa [auQ,hq]at this
  obtain⟨v',w',r1,r2,r3,_⟩:=run_append_own (P:=P) w base ts ts te i0 z sz bytes hs hi nX mZ oH hz cK v l.length (l.flatMap f) bw a ys.length cap (ys.flatMap f) aV yf (fun u hu=>by
   obtain⟨y,hy,hu⟩:=List.mem_flatMap.1 hu;exact h1 y hy u hu) hn Cd FC
  refine⟨v',w',r1,?_,ah.grown h0 r3 (fun k hk=>.inr (aux iM (bw.lt k hk).1)),ah.grown (ah.refl _ w) r3 (fun k hk=>.inl (bw.lt k hk).1)⟩;unfold dU;rw[auR,auS];exact r2
theorem My {α:Type}{f:α->List Value}{sz:Nat}(w:World)(t:TypeId):dU f sz t (w.alloc (.cells #[] t)) w.heap.size (.slice (some ⟨w.heap.size,0,none⟩) 0 0) ([]:List α):=by
 refine⟨by simp,.inr ⟨w.heap.size,0,#[],rfl,auE _,aw w _ _,auE _,by simp[maxLen],by simp,by simp⟩⟩
end
end Go.Proofs.YtkghpdcloaiflaaGreatDoor
