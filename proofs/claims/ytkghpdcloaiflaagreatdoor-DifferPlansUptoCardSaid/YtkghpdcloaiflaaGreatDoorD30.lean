import Derived.Test.YtkghpdcloaiflaaGreatDoorD21
import Derived.Test.YtkghpdcloaiflaaGreatDoorD29
set_option maxHeartbeats 8000000
set_option maxRecDepth 100000
namespace Go.Proofs.YtkghpdcloaiflaaGreatDoor
open _root_.Go.Proofs.Tryz
section
open Go.RowKit Go.Shelf
def tB (pv pl:Nat)(b:jf)(iv sv nv:Value)(pm pt:Nat):Array Value:=
 #[aq pv,aq pl,.int .i64 b.table.root,.int .i64 b.table.size,.int .i64 b.snaps.root,.int .i64 b.snaps.size,.int .i64 b.mapped.root,.int .i64 b.mapped.size,.int .i64 (b.next:Int),.int .i64 (b.id:Int),iv,sv,aq pm,nv,aq pt,.bool false]
structure eV where
 pv:Nat
 pl:Nat
 pm:Nat
 pt:Nat
 iv:Value
 sv:Value
 nv:Value
 d:Dk
 dl:Dk
 text:ay
 role:Nat->cV
 Fv:Nat->Prop
 Fl:Nat->Prop
def eV.still (a:eV)(b:Nat):Prop:=b=a.pm\/a.role b≠.none\/a.iv.ownBlock=some b\/a.sv.ownBlock=some b\/a.nv.ownBlock=some b
def eV.foot (a:eV)(p b:Nat):Prop:=b=p\/a.Fv b\/a.Fl b\/a.still b
structure lp (w:World)(p:Nat)(v:Vs)(a:eV):Prop where
 own:World.blk w p (tB a.pv a.pl v.b a.iv a.sv a.nv a.pm a.pt) 102
 vol:ig w a.pv a.d a.text v.num a.Fv
 rd:iy a.d=v.rd
 size:a.d.size/4=v.blocks
 log:ld w a.pl a.dl v.num v.recs a.Fl
 half:bF a.dl*64=v.half
 inos:dX jG 5 128 w 0 a.iv v.b.inodes
 list:dX oB 5 85 w 0 a.sv v.b.list
 nodes:dX gF 4 221 w 0 a.nv v.b.nodes
 map:dy w a.pm v.blocks v.b.planes
 tree:∃ tb A M,aJ w a.pt v.T tb A M a.role
 wf:∃ d,WF v.T d
 apart:∀ b,a.Fv b->¬ a.Fl b
 nv:¬ a.Fv p
 nl:¬ a.Fl p
 stays:∀ b,a.still b->¬ a.Fv b/\¬ a.Fl b/\b≠p
theorem el {α:Type}{f:α->List Value}{sz:Nat}{t:TypeId}{w:World}{v:Value}{l:List α}(h:dX f sz t w 0 v l){g:Nat}(hg:v.ownBlock=some g):g<w.heap.size:=aU h hg
theorem ig.lt {w:World}{v:Nat}{d:Dk}{text:ay}{num:Nat}{F:Nat->Prop}(h:ig w v d text num F)(b:Nat)(hb:F b):b<w.heap.size:=by
 obtain⟨pd,pc,M,Fd,Fc,h⟩:=h;exact h.lt b hb
theorem ld.lt {w:World}{l gen:Nat}{d:Dk}{recs:List ay}{F:Nat->Prop}(h:ld w l d gen recs F)(b:Nat)(hb:F b):b<w.heap.size:=by
 obtain⟨pd,lv,Fd,h⟩:=h;exact h.lt b hb
theorem aJ.same {w w':World}{p:Nat}{T:Tr}{tb:Nat}{A M:Int->Nat}{role:Nat->cV}(h:aJ w p T tb A M role)(m:fG (fun b=>role b≠.none) w w')(hs:w.heap.size<=w'.heap.size):aJ w' p T tb A M role:=by
 have hm:ah (fun b=>role b=.none) { w with os:=w'.os,tape:=w'.tape,output:=w'.output } w':=⟨rfl,rfl,rfl,hs,fun k hk hn=>m k hn hk⟩
 have h0:aJ { w with os:=w'.os,tape:=w'.tape,output:=w'.output } p T tb A M role:=⟨h.tree,h.rtree,h.of,h.rof,h.node,h.rnode,h.names,h.rnames,h.lt⟩
 exact h0.mod hm fun b hb=>hb
theorem lp.lt {w:World}{p:Nat}{v:Vs}{a:eV}(h:lp w p v a){b:Nat}(hb:a.foot p b):b<w.heap.size:=by
 rcases hb with rfl|hb|hb|rfl|hb|hb|hb|hb
 ·exact ak h.own
 ·exact h.vol.lt b hb
 ·exact h.log.lt b hb
 ·exact h.map.lt
 ·obtain⟨tb,A,M,t⟩:=h.tree;exact t.lt b hb
 ·exact el h.inos hb
 ·exact el h.list hb
 ·exact el h.nodes hb
theorem lp.same {w w':World}{p:Nat}{v:Vs}{a:eV}(h:lp w p v a)(m:fG (a.foot p) w w')(hs:w.heap.size<=w'.heap.size):lp w' p v a where
 own:=(m p (.inl rfl) (ak h.own)).trans h.own
 vol:=h.vol.same (fun b hb hl=>m b (.inr (.inl hb)) hl) hs
 rd:=h.rd
 size:=h.size
 log:=h.log.same (fun b hb hl=>m b (.inr (.inr (.inl hb))) hl) hs
 half:=h.half
 inos:=aA h.inos fun b hb=>m b (.inr (.inr (.inr (.inr (.inr (.inl hb)))))) (el h.inos hb)
 list:=aA h.list fun b hb=>m b (.inr (.inr (.inr (.inr (.inr (.inr (.inl hb))))))) (el h.list hb)
 nodes:=aA h.nodes fun b hb=>m b (.inr (.inr (.inr (.inr (.inr (.inr (.inr hb))))))) (el h.nodes hb)
 map:=⟨(m a.pm (.inr (.inr (.inr (.inl rfl)))) h.map.lt).trans h.map.own,h.map.many,h.map.eight,h.map.short⟩
 tree:=by
  obtain⟨tb,A,M,t⟩:=h.tree;exact⟨tb,A,M,t.same (fun b hb hl=>m b (.inr (.inr (.inr (.inr (.inl hb))))) hl) hs⟩
 wf:=h.wf
 apart:=h.apart
 nv:=h.nv
 nl:=h.nl
 stays:=h.stays
def lD (pv size:Nat)(text:ay)(num:Nat)(rd:Rd)(w:World)(F:Nat->Prop):Prop:=∃ d,ig w pv d text num F/\iy d=rd/\d.size=size
end
section
open Go.RowKit Go.Shelf
theorem Is {d:Dk}{n:Int}{p:ay}(h:iy d n=.ok p):1<=n/\n<(d.size/4:Nat):=by
 unfold iy at h;split at h
 ·assumption
 ·cases h
theorem nM (pv size:Nat)(text:ay)(num:Nat)(rd:Rd):qq 94 (aq pv) 57 (lD pv size text num rd) rd where
 meth _:=by kernel_rfl
 call _ _:=by kernel_rfl
 read:=by
  rintro w F n p ⟨d,h,rfl,rfl⟩ hn;obtain⟨h1,h2⟩:=Is hn;obtain⟨k,rfl⟩:∃ k:Nat,n=k:=⟨n.toNat,by omega⟩
  refine(zD h k (by omega) (by omega) p hn).mono ?_;rintro e w' ⟨rfl,F',h',k'⟩;exact⟨rfl,F',⟨d,h',rfl,rfl⟩,k'⟩
 same:=by
  rintro w w' F ⟨d,h,h1,h2⟩ m hs;exact⟨d,h.same m hs,h1,h2⟩
 lt:=by
  rintro w F ⟨d,h,h1,h2⟩ b hb;exact h.lt b hb
theorem It (pv size:Nat)(text:ay)(num:Nat):z8 94 (aq pv) 57 393 (lD pv size text num) (size/4) where
 src rd:=nM pv size text num rd
 methW _:=by kernel_rfl
 callW _ _ _:=by kernel_rfl
 write:=by
  rintro rd w F n p ⟨d,h,rfl,rfl⟩ h1 h2 hp;refine(Gz h n h1 h2 p hp).mono ?_;rintro e w' ⟨rfl,F',h',k'⟩;exact⟨rfl,F',⟨_,h',CT h1 h2 hp,jz d n _ 4⟩,k'⟩
theorem mR (w:World):Calls prog 129 #[.int .i64 0] w fun e w'=>e=.returned (.tuple #[])/\w'=w:=by
 go_enter func129,ntmps129;go_wp2_with fail;go_end0;exact⟨rfl,rfl⟩
end
section
open Go.RowKit
theorem xD:∀ {l:List fC} {was:Int},0<=was->yK was l=true->∀ x∈l,0<x.num
 |[],_,_,_,x,hx=>by simp at hx
 |y::r,was,h0,h,x,hx=>by
  simp only[yK,au4,au9]at h;rcases au8.1 hx with rfl|hx
  ·omega
  ·exact xD (l:=r) (was:=y.num) (by omega) h.2 x hx
theorem J6 {was:Int}{x:fC}(h:xx was x)(h0:0<x.num):0<=x.num/\x.num<=1099511627776/\0<=x.links/\x.links<=1099511627776/\0<=x.blob.root/\x.blob.root<=1099511627776/\0<=x.blob.size/\x.blob.size<=1099511627776:=by
 obtain⟨h1,h2,h3,h4,h5⟩:=h;simp only[fQ.ok,fQ.may,au4,au9]at h5;omega
theorem sq {was:Int}{x:fC}(h:xx was x)(h0:0<x.num)(j:Nat):((cF x).take j).flatten.length<=100:=by
 have hn:=J6 h h0;have q0:=bf (n:=x.num.toNat) (by omega);have q1:(aM (if x.dir=true then 1 else 0)).length<=9:=bf (by split<;>omega);have q2:=bf (n:=x.links.toNat) (by omega);have q3:=bf (n:=x.blob.root.toNat) (by omega);have q4:=bf (n:=x.blob.size.toNat) (by omega);have hf:(cF x).flatten.length<=100:=by simp[cF];omega
 have:(cF x).flatten=((cF x).take j).flatten++((cF x).drop j).flatten:=by rw[<-List.flatten_append,List.take_append_drop]
 rw[this,au3]at hf;omega
theorem Iu {l:List fC}(h:yK 0 l=true)(hl:l.length<=4096)(k:Nat):(aM l.length++(l.take k).flatMap ol).length<=1000000:=by
 have key:∀(m:List fC),(∀ x∈m,(ol x).length<=100)->(m.flatMap ol).length<=m.length*100:=by
  intro m
  induction m with
  |nil=>intro _;simp
  |cons y r ih=>
   intro hm;have:=ih (fun x hx=>hm x (by simp[hx]));have:=hm y (by simp);rw[avs,au3,auL];omega
 have h1:=key (l.take k) (fun x hx=>by
  obtain⟨i,hi,rfl⟩:=List.getElem_of_mem (auR hx);have:=sq (un h (auM hi)) (xD (Int.le_refl 0) h _ (avl hi)) 5
  rwa [avx (by simp[cF]),sj]at this)
 have h2:=bf (n:=l.length) (by omega);have h3:(l.take k).length<=4096:=by rw[auS];omega
 rw[au3];omega
theorem QP (x:fC)(h:0<=x.num/\x.num<=1099511627776/\0<=x.links/\x.links<=1099511627776/\0<=x.blob.root/\x.blob.root<=1099511627776/\0<=x.blob.size/\x.blob.size<=1099511627776)(j:Nat)(hj:j<5):
  ∃ m:Nat,(m:Int)<=1099511627776/\(#[.iface 3 (.int .i64 x.num),.iface 3 (.int .i64 (if x.dir=true then 1 else 0)),.iface 3 (.int .i64 x.links),.iface 3 (.int .i64 x.blob.root),.iface 3 (.int .i64 x.blob.size)]:Array Value)[j]?=some (.iface 3 (.int .i64 (m:Int)))/\((cF x).take j).flatten++aM m=((cF x).take (j+1)).flatten:=by
 have ii:∀ {a:Int},0<=a->((a.toNat:Nat):Int)=a:=fun h=>by omega
 rcases(by omega:j=0\/j=1\/j=2\/j=3\/j=4)with rfl|rfl|rfl|rfl|rfl
 ·exact⟨x.num.toNat,by omega,by rw[ii h.1];rfl,by simp[cF]⟩
 ·exact⟨if x.dir=true then 1 else 0,by split<;>decide,by cases x.dir<;>rfl,by simp[cF]⟩
 ·exact⟨x.links.toNat,by omega,by rw[ii h.2.2.1];rfl,by simp[cF]⟩
 ·exact⟨x.blob.root.toNat,by omega,by rw[ii h.2.2.2.2.1];rfl,by simp[cF]⟩
 ·exact⟨x.blob.size.toNat,by omega,by rw[ii h.2.2.2.2.2.2.1];rfl,by simp[cF]⟩
theorem Es (l:List fC)(v:Value)(w:World)(co:ko jG 5 w v l)(cg:qP l=true):
  Calls prog 259 #[vi,v] w fun e w'=>e=.returned (.tuple #[.string ⟨(kh l).toArray⟩,.int .i64 0])/\af w w':=by
 obtain⟨a,cap,rfl,hx⟩:=co;have HX:=hd0 hx;clear hx;simp only[qP,au4,au9]at cg;obtain⟨aW,hB⟩:=cg;have FT:=hd0 hB;clear hB;have h1:¬(4096:Int)<l.length:=by omega
 have Hl:=hd0 aW;clear aW;go_enter func259,ntmps259;go_wp2_with fail;refine(lU l.length _ (by have:=Hl.out;omega)).mono ?_;rintro e w2 ⟨rfl,df⟩;have RT:Hid (World.blk w2 w.heap.size #[.func (.func 277) #[] #[],.func (.func 278) #[] #[],.func (.func 280) #[] #[]] 308):=hd0 (ab df (aH (aw _ _ _) _) id);have Yg:Hid (dc (w.heap.size+1) (w.heap.size+1) [] w2):=hd0 (by
  have h:=nB (w.alloc (.cells #[.func (.func 277) #[] #[],.func (.func 278) #[] #[],.func (.func 280) #[] #[]] 308));rw[show(w.alloc (.cells #[.func (.func 277) #[] #[],.func (.func 278) #[] #[],.func (.func 280) #[] #[]] 308)).heap.size=w.heap.size+1 by simp]at h;exact cy h df)
 have bw:=hd0 (dU (dU df));have lG:=df.size;simp at lG;clear df;go_wp2_with fail;refine(jt (w.heap.size+1) (w.heap.size+1) [] (aM l.length) w2 Yg.out (by have:=bf (n:=l.length) (by have:=Hl.out;omega);simp;omega) (by omega)).mono ?_;rintro e w3 ⟨rfl,uM,yh,ly⟩;have FP:=hd0 (ab ly RT.out (cP (by omega) RT.out (by decide)));have oo:=hd0 uM;have dJ:=hd0 (db bw.out yh (by omega));have Cc:=yh.size;rw[avk]at oo;clear uM yh ly RT Yg bw;go_wp2_with fail;obtain⟨wb,I9⟩:∃ wb,wb=w3.heap.size:=⟨_,rfl⟩
 have Xt:Hid (World.blk (w3.alloc (.cells #[.int .i64 0,.bool false,.int .i64 0,.int .i64 0,.int .i64 0] 128)) wb #[.int .i64 0,.bool false,.int .i64 0,.int .i64 0,.int .i64 0] 128):=hd0 (bi I9 _ _);have Yk:=hd0 (aH FP.out (.cells #[.int .i64 0,.bool false,.int .i64 0,.int .i64 0,.int .i64 0] 128));have nS:=hd0 (cy oo.out ((ah.refl (fun _=>False) w3).alloc (.cells #[.int .i64 0,.bool false,.int .i64 0,.int .i64 0,.int .i64 0] 128)));have dF:=hd0 (dJ.out.alloc (.cells #[.int .i64 0,.bool false,.int .i64 0,.int .i64 0,.int .i64 0] 128));have afQ:w.heap.size+2<=wb:=by omega
 clear FP oo dJ;rw[<-I9];generalize w3.alloc (.cells #[.int .i64 0,.bool false,.int .i64 0,.int .i64 0,.int .i64 0] 128)=w4 at*;clear I9 Cc lG
 go_loopw [30] (fun i wr=>∃ k:Nat,k<=l.length/\i=.int .i64 (k:Int)/\af w wr/\World.blk wr w.heap.size #[.func (.func 277) #[] #[],.func (.func 278) #[] #[],.func (.func 280) #[] #[]] 308/\World.blk wr wb #[.int .i64 (cE l k).num,.bool (cE l k).dir,.int .i64 (cE l k).links,.int .i64 (cE l k).blob.root,.int .i64 (cE l k).blob.size] 128/\dc (w.heap.size+1) (w.heap.size+1) (aM l.length++(l.take k).flatMap ol) wr) (fun i _=>l.length-(intOf i).toNat)
 case atStart=>exact⟨0,by omega,rfl,dF.out,Yk.out,Xt.out,by simpa using nS.out⟩
 case round=>
  clear Yk Xt nS dF;obtain⟨wo,rfl⟩:∃ wo,wo=wr:=⟨_,rfl⟩
  obtain⟨k,hk,rfl,hK,hF,hW,hB⟩:=hrel;have HK:=hd0 hK;have HF:=hd0 hF;have HW:=hd0 hW;have HB:=hd0 hB;clear hK hF hW hB;by_cases aK:k<l.length
  ·obtain⟨x,hx⟩:∃ x,l[k]?=some x:=⟨_,auM aK⟩
   have Hx:=hd0 hx;have Ft:=hd0 (un FT.out hx);have Of:=hd0 (xD (Int.le_refl 0) FT.out x (auN hx));clear hx;obtain⟨b,o,rfl,hc⟩:=HX.out k x Hx.out;have c0:wo.cell? ⟨b,o+k*5,none⟩=some (.int .i64 x.num):=by have h:=hc 0 _ rfl;rw[HK.out.cell (p:=⟨b,o+k*5,none⟩) (am h) id];exact h
   have c1:wo.cell? ⟨b,o+k*5+1,none⟩=some (.bool x.dir):=by have h:=hc 1 _ rfl;rw[HK.out.cell (p:=⟨b,o+k*5+1,none⟩) (am h) id];exact h
   have c2:wo.cell? ⟨b,o+k*5+2,none⟩=some (.int .i64 x.links):=by have h:=hc 2 _ rfl;rw[HK.out.cell (p:=⟨b,o+k*5+2,none⟩) (am h) id];exact h
   have c3:wo.cell? ⟨b,o+k*5+3,none⟩=some (.int .i64 x.blob.root):=by have h:=hc 3 _ rfl;rw[HK.out.cell (p:=⟨b,o+k*5+3,none⟩) (am h) id];exact h
   have c4:wo.cell? ⟨b,o+k*5+4,none⟩=some (.int .i64 x.blob.size):=by have h:=hc 4 _ rfl;rw[HK.out.cell (p:=⟨b,o+k*5+4,none⟩) (am h) id];exact h
   have f0:wo.cell? ⟨w.heap.size,0,none⟩=some (.func (.func 277) #[] #[]):=aa HF.out 0;have f1:wo.cell? ⟨w.heap.size,1,none⟩=some (.func (.func 278) #[] #[]):=aa HF.out 1;have g0:wo.cell? ⟨wb,0,none⟩=some (.int .i64 (cE l k).num):=aa HW.out 0;have g1:wo.cell? ⟨wb,1,none⟩=some (.bool (cE l k).dir):=aa HW.out 1;have g2:wo.cell? ⟨wb,2,none⟩=some (.int .i64 (cE l k).links):=aa HW.out 2;have g3:wo.cell? ⟨wb,3,none⟩=some (.int .i64 (cE l k).blob.root):=aa HW.out 3;have g4:wo.cell? ⟨wb,4,none⟩=some (.int .i64 (cE l k).blob.size):=aa HW.out 4;obtain⟨fb,hq⟩:∃ fb,((k:Int)==0)=fb:=⟨_,rfl⟩
   have z0:w.heap.size<wo.heap.size:=ak HF.out;have z1:wb<wo.heap.size:=ak HW.out;clear hc;go_wp2_with fail;refine(Ip (cE l k) x fb Ft.out _).mono ?_;rintro e w5 ⟨rfl,mt⟩;have F8:=hd0 (ab mt (aH HF.out _) id);have nh:=hd0 (ab mt (aH HW.out _) id);have uP:=hd0 (ab mt (aw wo _ _) id);have FS:=hd0 (cy HB.out (dU mt));have lz:=hd0 (HK.out.keep (dU mt));have Gc:=mt.size;simp at Gc;clear mt c0 c1 c2 c3 c4 f0 f1 g0 g1 g2 g3 g4 z0 HF HW HB HK hq;generalize wo.heap.size=xb at*;have f1:w5.cell? ⟨w.heap.size,1,none⟩=some (.func (.func 278) #[] #[]):=aa F8.out 1;have g0:w5.frozen? ⟨wb,0,none⟩=false:=ae nh.out _ rfl;have d0:w5.cell? ⟨wb,0,none⟩=some (.int .i64 (cE l k).num):=aa nh.out 0;have e0:w5.cell? ⟨xb,0,none⟩=some (.int .i64 x.num):=aa uP.out 0;have g1:w5.frozen? ⟨wb,1,none⟩=false:=ae nh.out _ rfl;have d1:w5.cell? ⟨wb,1,none⟩=some (.bool (cE l k).dir):=aa nh.out 1;have e1:w5.cell? ⟨xb,1,none⟩=some (.bool x.dir):=aa uP.out 1;have g2:w5.frozen? ⟨wb,2,none⟩=false:=ae nh.out _ rfl;have d2:w5.cell? ⟨wb,2,none⟩=some (.int .i64 (cE l k).links):=aa nh.out 2;have e2:w5.cell? ⟨xb,2,none⟩=some (.int .i64 x.links):=aa uP.out 2;have g3:w5.frozen? ⟨wb,3,none⟩=false:=ae nh.out _ rfl;have d3:w5.cell? ⟨wb,3,none⟩=some (.int .i64 (cE l k).blob.root):=aa nh.out 3;have e3:w5.cell? ⟨xb,3,none⟩=some (.int .i64 x.blob.root):=aa uP.out 3;have g4:w5.frozen? ⟨wb,4,none⟩=false:=ae nh.out _ rfl;have d4:w5.cell? ⟨wb,4,none⟩=some (.int .i64 (cE l k).blob.size):=aa nh.out 4;have e4:w5.cell? ⟨xb,4,none⟩=some (.int .i64 x.blob.size):=aa uP.out 4;have n1:¬ w.heap.size=wb:=by omega
   have n2:¬ xb=wb:=by omega
   go_wp2_with fail;refine(Iq x _).mono ?_;rintro e w7 ⟨pb,rfl,mY,rA,pE⟩;have rB:ah (·=wb) w5 (((((w5.setCell ⟨wb,0,none⟩ (.int .i64 x.num)).setCell ⟨wb,1,none⟩ (.bool x.dir)).setCell ⟨wb,2,none⟩ (.int .i64 x.links)).setCell ⟨wb,3,none⟩ (.int .i64 x.blob.root)).setCell ⟨wb,4,none⟩ (.int .i64 x.blob.size)):=((((((ah.refl (fun y=>y=wb) w5).setCell (p:=⟨wb,0,none⟩) (.inl rfl) _).setCell (p:=⟨wb,1,none⟩) (.inl rfl) _).setCell (p:=⟨wb,2,none⟩) (.inl rfl) _).setCell (p:=⟨wb,3,none⟩) (.inl rfl) _).setCell (p:=⟨wb,4,none⟩) (.inl rfl) _)
   have Xj:=hd0 (ab rA (ab rB F8.out n1) id);have KG:=hd0 (cy (uW FS.out rB (by omega) (fun q c fr hq e=>by
    subst e;have:=nh.out;unfold World.blk at this;rw[this]at hq
    cases hq)) rA)
   have XI:Hid (World.blk w7 wb #[.int .i64 x.num,.bool x.dir,.int .i64 x.links,.int .i64 x.blob.root,.int .i64 x.blob.size] 128):=hd0 (ab rA (ag (ag (ag (ag (ag nh.out 0 _) 1 _) 2 _) 3 _) 4 _) id);have uD:=hd0 ((lz.out.new rB (by omega)).keep rA);have Cq:=hd0 pE;have hpw:wb<pb:=by
    have h:=ak nh.out;have e:=rB.size;omega
   have BY:=hd0 (J6 Ft.out Of.out);clear rA pE rB f1 g0 d0 e0 g1 d1 e1 g2 d2 e2 g3 d3 e3 g4 d4 e4 n1 n2 F8 nh uP FS lz Gc mY;have NV:Hid ((aM l.length++(l.take k).flatMap ol).length<=1000000):=hd0 (Iu FT.out Hl.out k);generalize tQ:aM l.length++(l.take k).flatMap ol=pre at*;have I3:=hd0 tQ;clear tQ;go_wp2_with fail
   go_loopw [49] (fun i wr=>∃ j:Nat,j<=5/\i=.int .i64 (j:Int)/\af w wr/\World.blk wr w.heap.size #[.func (.func 277) #[] #[],.func (.func 278) #[] #[],.func (.func 280) #[] #[]] 308/\World.blk wr wb #[.int .i64 x.num,.bool x.dir,.int .i64 x.links,.int .i64 x.blob.root,.int .i64 x.blob.size] 128/\World.blk wr pb #[.iface 3 (.int .i64 x.num),.iface 3 (.int .i64 (if x.dir=true then 1 else 0)),.iface 3 (.int .i64 x.links),.iface 3 (.int .i64 x.blob.root),.iface 3 (.int .i64 x.blob.size)] 20/\dc (w.heap.size+1) (w.heap.size+1) (pre++((cF x).take j).flatten) wr) (fun i _=>5-(intOf i).toNat)
   case atStart=>exact⟨0,by omega,rfl,uD.out,Xj.out,XI.out,Cq.out,by simpa using KG.out⟩
   case round=>
    clear Xj KG XI uD Cq;obtain⟨j,hj,rfl,hK,hF,hW,hP,hB⟩:=hrel;have HK:=hd0 hK;have HF:=hd0 hF;have HW:=hd0 hW;have HP:=hd0 hP;have HB:=hd0 hB;clear hK hF hW hP hB;by_cases hj5:j<5
    ·obtain⟨m,zg,hpc,sN⟩:=QP x BY.out j hj5;have HS:=hd0 sN;have HLP:Hid (((cF x).take j).flatten.length<=100):=hd0 (sq Ft.out Of.out j);have pi:wr.cell? ⟨pb,j,none⟩=some (.iface 3 (.int .i64 (m:Int))):=by rw[aa HP.out j];exact hpc
     have a0:=qV m;have sA:(j:Int)<5:=by omega
     clear hpc sN;go_wp2_with fail;refine(lU m _ (by omega)).mono ?_;rintro e w8 ⟨rfl,lI⟩;have Cl:=hd0 (ab lI HF.out id);have vt:=hd0 (ab lI HW.out id);have sB:=hd0 (ab lI HP.out id);have BN:=hd0 (cy HB.out lI);have sM:=hd0 (HK.out.keep lI);clear lI HF HW HP HB HK pi a0;go_wp2_with fail;refine(jt (w.heap.size+1) (w.heap.size+1) _ (aM m) w8 BN.out (by have:=bf (n:=m) (by omega);have:=NV.out;have:=HLP.out;simp only[au3];omega) (by have:=ak vt.out;omega)).mono ?_;rintro e w9 ⟨rfl,KB,sL,tM⟩;have Wf:=hd0 (ab tM Cl.out (cP (by omega) Cl.out (by decide)));have V2:=hd0 (ab tM vt.out (cP (by omega) vt.out (by decide)));have pB:=hd0 (ab tM sB.out (cP (by omega) sB.out (by decide)));have OO:Hid (dc (w.heap.size+1) (w.heap.size+1) (pre++((cF x).take (j+1)).flatten) w9):=hd0 (by
      have h:=KB;rw[avu]at h;rw[HS.out]at h;exact h)
     have Ch:=hd0 (db sM.out sL (by omega));clear KB sL tM Cl vt sB BN sM;go_wp2_with fail;exact⟨⟨j+1,by omega,by go_num,Ch.out,Wf.out,V2.out,pB.out,OO.out⟩,by simp[intOf];omega⟩
    ·obtain rfl:j=5:=by omega
     go_wp2_with fail;refine⟨⟨k+1,by omega,by go_num,HK.out,HF.out,by rw[qs Hx.out];exact HW.out,?_⟩,by simp[intOf];omega⟩;have h:=HB.out;rw[avx (by simp[cF]),sj]at h;have e:l.take (k+1)=l.take k++[x]:=by rw[auO,Hx.out];rfl
     rw[e];simp only[au2,avs,List.flatMap_nil,List.append_nil];rw[<-avu,I3.out];exact h
  ·obtain rfl:k=l.length:=by omega
   have jp:Hid (dc (w.heap.size+1) (w.heap.size+1) (kh l) wo):=hd0 (by have h:=HB.out;rwa [auQ]at h);go_wp2_with fail;refine(gN (w.heap.size+1) (w.heap.size+1) (kh l) wo jp.out (by have:=ak HW.out;omega)).mono ?_;rintro e w6 ⟨rfl,rD⟩;have tL:=hd0 (db HK.out rD (by omega));clear rD;go_wp2;go_ret2;exact⟨rfl,tL.out⟩
end
section
open Go.RowKit
theorem By:∀ {l:List Sn} {was:Int},0<=was->TJ was l=true->∀ x∈l,0<x.id
 |[],_,_,_,x,hx=>by simp at hx
 |y::r,was,h0,h,x,hx=>by
  simp only[TJ,au4,au9]at h;rcases au8.1 hx with rfl|hx
  ·omega
  ·exact By (l:=r) (was:=y.id) (by omega) h.2 x hx
theorem QQ {was:Int}{x:Sn}(h:In was x)(h0:0<x.id):0<=x.id/\x.id<=1099511627776/\0<=x.plane/\x.plane<=1099511627776/\0<=x.table.root/\x.table.root<=1099511627776/\0<=x.table.size/\x.table.size<=1099511627776/\x.name.length<=16:=by
 obtain⟨h1,h2,h3,h4,h5,h6⟩:=h;simp only[fQ.ok,fQ.may,au4,au9]at h6;have h7:=h2;simp only[aG,au4,au9]at h7;omega
theorem pq {was:Int}{x:Sn}(h:In was x)(h0:0<x.id)(j:Nat):((cf x).take j).flatten.length<=100:=by
 have hn:=QQ h h0;have q0:=bf (n:=x.name.length) (by omega);have q1:=bf (n:=x.id.toNat) (by omega);have q2:=bf (n:=x.plane.toNat) (by omega);have q3:=bf (n:=x.table.root.toNat) (by omega);have q4:=bf (n:=x.table.size.toNat) (by omega);have hf:(cf x).flatten.length<=100:=by simp[cf];omega
 have:(cf x).flatten=((cf x).take j).flatten++((cf x).drop j).flatten:=by rw[<-List.flatten_append,List.take_append_drop]
 rw[this,au3]at hf;omega
theorem Mv {l:List Sn}(h:TJ 0 l=true)(hl:l.length<=4096)(k:Nat):(aM l.length++(l.take k).flatMap o6).length<=1000000:=by
 have key:∀(m:List Sn),(∀ x∈m,(o6 x).length<=100)->(m.flatMap o6).length<=m.length*100:=by
  intro m
  induction m with
  |nil=>intro _;simp
  |cons y r ih=>
   intro hm;have:=ih (fun x hx=>hm x (by simp[hx]));have:=hm y (by simp);rw[avs,au3,auL];omega
 have h1:=key (l.take k) (fun x hx=>by
  obtain⟨i,hi,rfl⟩:=List.getElem_of_mem (auR hx);have:=pq (xu h (auM hi)) (By (Int.le_refl 0) h _ (avl hi)) 5
  rwa [avx (by simp[cf]),um]at this)
 have h2:=bf (n:=l.length) (by omega);have h3:(l.take k).length<=4096:=by rw[auS];omega
 rw[au3];omega
theorem Vh (x:Sn)(h:0<=x.id/\x.id<=1099511627776/\0<=x.plane/\x.plane<=1099511627776/\0<=x.table.root/\x.table.root<=1099511627776/\0<=x.table.size/\x.table.size<=1099511627776/\x.name.length<=16)(j:Nat)(h0:0<j)(hj:j<5):
  ∃ m:Nat,(m:Int)<=1099511627776/\(#[.iface 9 (.string ⟨x.name.toArray⟩),.iface 3 (.int .i64 x.id),.iface 3 (.int .i64 x.plane),.iface 3 (.int .i64 x.table.root),.iface 3 (.int .i64 x.table.size)]:Array Value)[j]?=some (.iface 3 (.int .i64 (m:Int)))/\((cf x).take j).flatten++aM m=((cf x).take (j+1)).flatten:=by
 have ii:∀ {a:Int},0<=a->((a.toNat:Nat):Int)=a:=fun h=>by omega
 rcases(by omega:j=1\/j=2\/j=3\/j=4)with rfl|rfl|rfl|rfl
 ·exact⟨x.id.toNat,by omega,by rw[ii h.1];rfl,by simp[cf]⟩
 ·exact⟨x.plane.toNat,by omega,by rw[ii h.2.2.1];rfl,by simp[cf]⟩
 ·exact⟨x.table.root.toNat,by omega,by rw[ii h.2.2.2.2.1];rfl,by simp[cf]⟩
 ·exact⟨x.table.size.toNat,by omega,by rw[ii h.2.2.2.2.2.2.1];rfl,by simp[cf]⟩
theorem Iv (l:List Sn)(v:Value)(w:World)(co:ko oB 5 w v l)(cg:zJ l=true):
  Calls prog 210 #[Bw,v] w fun e w'=>e=.returned (.tuple #[.string ⟨(kj l).toArray⟩,.int .i64 0])/\af w w':=by
 obtain⟨a,cap,rfl,hx⟩:=co;have HX:=hd0 hx;clear hx;simp only[zJ,au4,au9]at cg;obtain⟨aW,hB⟩:=cg;have FT:=hd0 hB;clear hB;have h1:¬(4096:Int)<l.length:=by omega
 have Hl:=hd0 aW;clear aW;go_enter func210,ntmps210;go_wp2_with fail;refine(lU l.length _ (by have:=Hl.out;omega)).mono ?_;rintro e w2 ⟨rfl,df⟩;have RT:Hid (World.blk w2 w.heap.size #[.func (.func 260) #[] #[],.func (.func 262) #[] #[],.func (.func 263) #[] #[]] 289):=hd0 (ab df (aH (aw _ _ _) _) id);have Yg:Hid (dc (w.heap.size+1) (w.heap.size+1) [] w2):=hd0 (by
  have h:=nB (w.alloc (.cells #[.func (.func 260) #[] #[],.func (.func 262) #[] #[],.func (.func 263) #[] #[]] 289));rw[show(w.alloc (.cells #[.func (.func 260) #[] #[],.func (.func 262) #[] #[],.func (.func 263) #[] #[]] 289)).heap.size=w.heap.size+1 by simp]at h;exact cy h df)
 have bw:=hd0 (dU (dU df));have lG:=df.size;simp at lG;clear df;go_wp2_with fail;refine(jt (w.heap.size+1) (w.heap.size+1) [] (aM l.length) w2 Yg.out (by have:=bf (n:=l.length) (by have:=Hl.out;omega);simp;omega) (by omega)).mono ?_;rintro e w3 ⟨rfl,uM,yh,ly⟩;have FP:=hd0 (ab ly RT.out (cP (by omega) RT.out (by decide)));have oo:=hd0 uM;have dJ:=hd0 (db bw.out yh (by omega));have Cc:=yh.size;rw[avk]at oo;clear uM yh ly RT Yg bw;go_wp2_with fail;obtain⟨wb,I9⟩:∃ wb,wb=w3.heap.size:=⟨_,rfl⟩
 have Xt:Hid (World.blk (w3.alloc (.cells #[.string ⟨#[]⟩,.int .i64 0,.int .i64 0,.int .i64 0,.int .i64 0] 85)) wb #[.string ⟨#[]⟩,.int .i64 0,.int .i64 0,.int .i64 0,.int .i64 0] 85):=hd0 (bi I9 _ _);have Yk:=hd0 (aH FP.out (.cells #[.string ⟨#[]⟩,.int .i64 0,.int .i64 0,.int .i64 0,.int .i64 0] 85));have nS:=hd0 (cy oo.out ((ah.refl (fun _=>False) w3).alloc (.cells #[.string ⟨#[]⟩,.int .i64 0,.int .i64 0,.int .i64 0,.int .i64 0] 85)));have dF:=hd0 (dJ.out.alloc (.cells #[.string ⟨#[]⟩,.int .i64 0,.int .i64 0,.int .i64 0,.int .i64 0] 85));have afQ:w.heap.size+2<=wb:=by omega
 clear FP oo dJ;rw[<-I9];generalize w3.alloc (.cells #[.string ⟨#[]⟩,.int .i64 0,.int .i64 0,.int .i64 0,.int .i64 0] 85)=w4 at*;clear I9 Cc lG
 go_loopw [30] (fun i wr=>∃ k:Nat,k<=l.length/\i=.int .i64 (k:Int)/\af w wr/\World.blk wr w.heap.size #[.func (.func 260) #[] #[],.func (.func 262) #[] #[],.func (.func 263) #[] #[]] 289/\World.blk wr wb #[.string ⟨(dw l k).name.toArray⟩,.int .i64 (dw l k).id,.int .i64 (dw l k).plane,.int .i64 (dw l k).table.root,.int .i64 (dw l k).table.size] 85/\dc (w.heap.size+1) (w.heap.size+1) (aM l.length++(l.take k).flatMap o6) wr) (fun i _=>l.length-(intOf i).toNat)
 case atStart=>exact⟨0,by omega,rfl,dF.out,Yk.out,Xt.out,by simpa using nS.out⟩
 case round=>
  clear Yk Xt nS dF;obtain⟨wo,rfl⟩:∃ wo,wo=wr:=⟨_,rfl⟩
  obtain⟨k,hk,rfl,hK,hF,hW,hB⟩:=hrel;have HK:=hd0 hK;have HF:=hd0 hF;have HW:=hd0 hW;have HB:=hd0 hB;clear hK hF hW hB;by_cases aK:k<l.length
  ·obtain⟨x,hx⟩:∃ x,l[k]?=some x:=⟨_,auM aK⟩
   have Hx:=hd0 hx;have Ft:=hd0 (xu FT.out hx);have Of:=hd0 (By (Int.le_refl 0) FT.out x (auN hx));clear hx;obtain⟨b,o,rfl,hc⟩:=HX.out k x Hx.out;have c0:wo.cell? ⟨b,o+k*5,none⟩=some (.string ⟨x.name.toArray⟩):=by have h:=hc 0 _ rfl;rw[HK.out.cell (p:=⟨b,o+k*5,none⟩) (am h) id];exact h
   have c1:wo.cell? ⟨b,o+k*5+1,none⟩=some (.int .i64 x.id):=by have h:=hc 1 _ rfl;rw[HK.out.cell (p:=⟨b,o+k*5+1,none⟩) (am h) id];exact h
   have c2:wo.cell? ⟨b,o+k*5+2,none⟩=some (.int .i64 x.plane):=by have h:=hc 2 _ rfl;rw[HK.out.cell (p:=⟨b,o+k*5+2,none⟩) (am h) id];exact h
   have c3:wo.cell? ⟨b,o+k*5+3,none⟩=some (.int .i64 x.table.root):=by have h:=hc 3 _ rfl;rw[HK.out.cell (p:=⟨b,o+k*5+3,none⟩) (am h) id];exact h
   have c4:wo.cell? ⟨b,o+k*5+4,none⟩=some (.int .i64 x.table.size):=by have h:=hc 4 _ rfl;rw[HK.out.cell (p:=⟨b,o+k*5+4,none⟩) (am h) id];exact h
   have f0:wo.cell? ⟨w.heap.size,0,none⟩=some (.func (.func 260) #[] #[]):=aa HF.out 0;have f1:wo.cell? ⟨w.heap.size,1,none⟩=some (.func (.func 262) #[] #[]):=aa HF.out 1;have g0:wo.cell? ⟨wb,0,none⟩=some (.string ⟨(dw l k).name.toArray⟩):=aa HW.out 0;have g1:wo.cell? ⟨wb,1,none⟩=some (.int .i64 (dw l k).id):=aa HW.out 1;have g2:wo.cell? ⟨wb,2,none⟩=some (.int .i64 (dw l k).plane):=aa HW.out 2;have g3:wo.cell? ⟨wb,3,none⟩=some (.int .i64 (dw l k).table.root):=aa HW.out 3;have g4:wo.cell? ⟨wb,4,none⟩=some (.int .i64 (dw l k).table.size):=aa HW.out 4;obtain⟨fb,hq⟩:∃ fb,((k:Int)==0)=fb:=⟨_,rfl⟩
   have z0:w.heap.size<wo.heap.size:=ak HF.out;have z1:wb<wo.heap.size:=ak HW.out;clear hc;go_wp2_with fail;refine(Ms (dw l k) x fb Ft.out _).mono ?_;rintro e w5 ⟨rfl,mt⟩;have F8:=hd0 (ab mt (aH HF.out _) id);have nh:=hd0 (ab mt (aH HW.out _) id);have uP:=hd0 (ab mt (aw wo _ _) id);have FS:=hd0 (cy HB.out (dU mt));have lz:=hd0 (HK.out.keep (dU mt));have Gc:=mt.size;simp at Gc;clear mt c0 c1 c2 c3 c4 f0 f1 g0 g1 g2 g3 g4 z0 HF HW HB HK hq;generalize wo.heap.size=xb at*;have f1:w5.cell? ⟨w.heap.size,1,none⟩=some (.func (.func 262) #[] #[]):=aa F8.out 1;have g0:w5.frozen? ⟨wb,0,none⟩=false:=ae nh.out _ rfl;have d0:w5.cell? ⟨wb,0,none⟩=some (.string ⟨(dw l k).name.toArray⟩):=aa nh.out 0;have e0:w5.cell? ⟨xb,0,none⟩=some (.string ⟨x.name.toArray⟩):=aa uP.out 0;have g1:w5.frozen? ⟨wb,1,none⟩=false:=ae nh.out _ rfl;have d1:w5.cell? ⟨wb,1,none⟩=some (.int .i64 (dw l k).id):=aa nh.out 1;have e1:w5.cell? ⟨xb,1,none⟩=some (.int .i64 x.id):=aa uP.out 1;have g2:w5.frozen? ⟨wb,2,none⟩=false:=ae nh.out _ rfl;have d2:w5.cell? ⟨wb,2,none⟩=some (.int .i64 (dw l k).plane):=aa nh.out 2;have e2:w5.cell? ⟨xb,2,none⟩=some (.int .i64 x.plane):=aa uP.out 2;have g3:w5.frozen? ⟨wb,3,none⟩=false:=ae nh.out _ rfl;have d3:w5.cell? ⟨wb,3,none⟩=some (.int .i64 (dw l k).table.root):=aa nh.out 3;have e3:w5.cell? ⟨xb,3,none⟩=some (.int .i64 x.table.root):=aa uP.out 3;have g4:w5.frozen? ⟨wb,4,none⟩=false:=ae nh.out _ rfl;have d4:w5.cell? ⟨wb,4,none⟩=some (.int .i64 (dw l k).table.size):=aa nh.out 4;have e4:w5.cell? ⟨xb,4,none⟩=some (.int .i64 x.table.size):=aa uP.out 4;have n1:¬ w.heap.size=wb:=by omega
   have n2:¬ xb=wb:=by omega
   go_wp2_with fail;refine(Mt x _).mono ?_;rintro e w7 ⟨pb,rfl,mY,rA,pE⟩;have rB:ah (·=wb) w5 (((((w5.setCell ⟨wb,0,none⟩ (.string ⟨x.name.toArray⟩)).setCell ⟨wb,1,none⟩ (.int .i64 x.id)).setCell ⟨wb,2,none⟩ (.int .i64 x.plane)).setCell ⟨wb,3,none⟩ (.int .i64 x.table.root)).setCell ⟨wb,4,none⟩ (.int .i64 x.table.size)):=((((((ah.refl (fun y=>y=wb) w5).setCell (p:=⟨wb,0,none⟩) (.inl rfl) _).setCell (p:=⟨wb,1,none⟩) (.inl rfl) _).setCell (p:=⟨wb,2,none⟩) (.inl rfl) _).setCell (p:=⟨wb,3,none⟩) (.inl rfl) _).setCell (p:=⟨wb,4,none⟩) (.inl rfl) _)
   have Xj:=hd0 (ab rA (ab rB F8.out n1) id);have KG:=hd0 (cy (uW FS.out rB (by omega) (fun q c fr hq e=>by
    subst e;have:=nh.out;unfold World.blk at this;rw[this]at hq
    cases hq)) rA)
   have XI:Hid (World.blk w7 wb #[.string ⟨x.name.toArray⟩,.int .i64 x.id,.int .i64 x.plane,.int .i64 x.table.root,.int .i64 x.table.size] 85):=hd0 (ab rA (ag (ag (ag (ag (ag nh.out 0 _) 1 _) 2 _) 3 _) 4 _) id);have uD:=hd0 ((lz.out.new rB (by omega)).keep rA);have Cq:=hd0 pE;have hpw:wb<pb:=by
    have h:=ak nh.out;have e:=rB.size;omega
   have BY:=hd0 (QQ Ft.out Of.out);clear rA pE rB f1 g0 d0 e0 g1 d1 e1 g2 d2 e2 g3 d3 e3 g4 d4 e4 n1 n2 F8 nh uP FS lz Gc mY;have NV:Hid ((aM l.length++(l.take k).flatMap o6).length<=1000000):=hd0 (Mv FT.out Hl.out k);generalize tQ:aM l.length++(l.take k).flatMap o6=pre at*;have I3:=hd0 tQ;clear tQ;go_wp2_with fail
   go_loopw [49] (fun i wr=>∃ j:Nat,j<=5/\i=.int .i64 (j:Int)/\af w wr/\World.blk wr w.heap.size #[.func (.func 260) #[] #[],.func (.func 262) #[] #[],.func (.func 263) #[] #[]] 289/\World.blk wr wb #[.string ⟨x.name.toArray⟩,.int .i64 x.id,.int .i64 x.plane,.int .i64 x.table.root,.int .i64 x.table.size] 85/\World.blk wr pb #[.iface 9 (.string ⟨x.name.toArray⟩),.iface 3 (.int .i64 x.id),.iface 3 (.int .i64 x.plane),.iface 3 (.int .i64 x.table.root),.iface 3 (.int .i64 x.table.size)] 20/\dc (w.heap.size+1) (w.heap.size+1) (pre++((cf x).take j).flatten) wr) (fun i _=>5-(intOf i).toNat)
   case atStart=>exact⟨0,by omega,rfl,uD.out,Xj.out,XI.out,Cq.out,by simpa using KG.out⟩
   case round=>
    clear Xj KG XI uD Cq;obtain⟨j,hj,rfl,hK,hF,hW,hP,hB⟩:=hrel;have HK:=hd0 hK;have HF:=hd0 hF;have HW:=hd0 hW;have HP:=hd0 hP;have HB:=hd0 hB;clear hK hF hW hP hB;by_cases hj0:j=0
    ·subst hj0;have HS:Hid (((cf x).take 0).flatten++(aM x.name.length++x.name)=((cf x).take (0+1)).flatten):=hd0 (by simp[cf]);have HLP:Hid (((cf x).take 0).flatten.length<=100):=hd0 (pq Ft.out Of.out 0);have pi:wr.cell? ⟨pb,0,none⟩=some (.iface 9 (.string ⟨x.name.toArray⟩)):=aa HP.out 0;have a0:=Ae ⟨x.name.toArray⟩;have a1:=xp ⟨x.name.toArray⟩;go_wp2_with fail;refine(tu x.name _ (by have:=BY.out;omega)).mono ?_;rintro e w8 ⟨rfl,lI⟩;have Cl:=hd0 (ab lI HF.out id);have vt:=hd0 (ab lI HW.out id);have sB:=hd0 (ab lI HP.out id);have BN:=hd0 (cy HB.out lI);have sM:=hd0 (HK.out.keep lI);clear lI HF HW HP HB HK pi a0 a1;go_wp2_with fail;refine(jt (w.heap.size+1) (w.heap.size+1) _ (aM x.name.length++x.name) w8 BN.out (by have:=bf (n:=x.name.length) (by have:=BY.out;omega);have:=BY.out;have:=NV.out;have:=HLP.out;simp only[au3];omega) (by have:=ak vt.out;omega)).mono ?_;rintro e w9 ⟨rfl,KB,sL,tM⟩;have Wf:=hd0 (ab tM Cl.out (cP (by omega) Cl.out (by decide)));have V2:=hd0 (ab tM vt.out (cP (by omega) vt.out (by decide)));have pB:=hd0 (ab tM sB.out (cP (by omega) sB.out (by decide)));have OO:Hid (dc (w.heap.size+1) (w.heap.size+1) (pre++((cf x).take (0+1)).flatten) w9):=hd0 (by
      have h:=KB;rw[avu]at h;have e:((cf x).take 0).flatten++(aM x.name.length++x.name)=((cf x).take (0+1)).flatten:=by
       rw[<-HS.out]
      rw[e]at h;exact h)
     have Ch:=hd0 (db sM.out sL (by omega));clear KB sL tM Cl vt sB BN sM;go_wp2_with fail;refine⟨⟨0+1,by omega,rfl,Ch.out,Wf.out,V2.out,pB.out,OO.out⟩,by decide⟩
    ·by_cases hj5:j<5
     ·obtain⟨m,zg,hpc,sN⟩:=Vh x BY.out j (by omega) hj5;have HS:=hd0 sN;have HLP:Hid (((cf x).take j).flatten.length<=100):=hd0 (pq Ft.out Of.out j);have pi:wr.cell? ⟨pb,j,none⟩=some (.iface 3 (.int .i64 (m:Int))):=by rw[aa HP.out j];exact hpc
      have sA:(j:Int)<5:=by omega
      clear hpc sN;have a0:=qV m;go_wp2_with fail;refine(lU m _ (by omega)).mono ?_;rintro e w8 ⟨rfl,lI⟩;have Cl:=hd0 (ab lI HF.out id);have vt:=hd0 (ab lI HW.out id);have sB:=hd0 (ab lI HP.out id);have BN:=hd0 (cy HB.out lI);have sM:=hd0 (HK.out.keep lI);clear lI HF HW HP HB HK pi a0;go_wp2_with fail;refine(jt (w.heap.size+1) (w.heap.size+1) _ (aM m) w8 BN.out (by have:=bf (n:=m) (by omega);have:=NV.out;have:=HLP.out;simp only[au3];omega) (by have:=ak vt.out;omega)).mono ?_;rintro e w9 ⟨rfl,KB,sL,tM⟩;have Wf:=hd0 (ab tM Cl.out (cP (by omega) Cl.out (by decide)));have V2:=hd0 (ab tM vt.out (cP (by omega) vt.out (by decide)));have pB:=hd0 (ab tM sB.out (cP (by omega) sB.out (by decide)));have OO:Hid (dc (w.heap.size+1) (w.heap.size+1) (pre++((cf x).take (j+1)).flatten) w9):=hd0 (by
       have h:=KB;rw[avu]at h;rw[HS.out]at h;exact h)
      have Ch:=hd0 (db sM.out sL (by omega));clear KB sL tM Cl vt sB BN sM;go_wp2_with fail;exact⟨⟨j+1,by omega,by go_num,Ch.out,Wf.out,V2.out,pB.out,OO.out⟩,by simp[intOf];omega⟩
     ·obtain rfl:j=5:=by omega
      go_wp2_with fail;refine⟨⟨k+1,by omega,by go_num,HK.out,HF.out,by rw[rZ Hx.out];exact HW.out,?_⟩,by simp[intOf];omega⟩;have h:=HB.out;rw[avx (by simp[cf]),um]at h;have e:l.take (k+1)=l.take k++[x]:=by rw[auO,Hx.out];rfl
      rw[e];simp only[au2,avs,List.flatMap_nil,List.append_nil];rw[<-avu,I3.out];exact h
  ·obtain rfl:k=l.length:=by omega
   have jp:Hid (dc (w.heap.size+1) (w.heap.size+1) (kj l) wo):=hd0 (by have h:=HB.out;rwa [auQ]at h);go_wp2_with fail;refine(gN (w.heap.size+1) (w.heap.size+1) (kj l) wo jp.out (by have:=ak HW.out;omega)).mono ?_;rintro e w6 ⟨rfl,rD⟩;have tL:=hd0 (db HK.out rD (by omega));clear rD;go_wp2;go_ret2;exact⟨rfl,tL.out⟩
end
section
open Go.RowKit
theorem Et {α:Type}{f:α->List Value}{sz:Nat}{P:Program}{ts te:TypeId}{z:Value}{bytes:Nat}(hs:P.underlying ts=some (.slice te))(hi:(P.info? te).map (fun i=>(i.zero,i.size,i.bytes))=some (some z,sz,bytes))(hz:z.cells.size=sz)(cJ:0<sz)
  (hf:∀ a,(f a).length=sz) (base:Nat) (v:Value) (l:List α) (w w0:World) (aZ:dX f sz te w base v l) (va:Value) (ys:List α) (ha:ko f sz w va ys) (h1:∀ y∈ys,∀ u∈f y,u.oneCell'=true) (hn:l.length+ys.length<=maxLen) (BO:(l.length+ys.length)*bytes<=140737488355328)
  (FD:base<=w.heap.size) (h0:af w0 w) (iJ:w0.heap.size<=base):
  ∃ v' w',(Builtin.append_ #[ts,ts] ts #[v,va]).run P w=.ok v' w'/\dX f sz te w' base v' (l++ys)/\af w0 w'/\ah (fun b=>base<=b) w w':=by
 obtain⟨i0,hi,nY,mU,oE⟩:=auZ hi;obtain⟨a,cap,rfl,hx⟩:=ha;rcases a with _|a
 ·have hy:ys=[]:=by
   cases ys with
   |nil=>rfl
   |cons y ys=>obtain⟨b,o,hb,_⟩:=hx 0 y rfl;cases hb
  subst hy;obtain⟨a0,sl,sc,rfl,FH⟩:∃ a0 sl sc,v=.slice a0 sl sc/\sl<=sc:=by
   rcases aZ.2 with⟨rfl,h⟩|⟨g,cp,dz,rfl,_,_,hc,_⟩
   ·exact⟨none,0,0,rfl,auP _⟩
   ·exact⟨_,_,_,rfl,hc⟩
  refine⟨_,w,run_append_nothing w ts ts ts te i0 hs hi a0 sl sc FH (.slice none 0 cap) (Src.ofNil w hs cap),by simpa[dX]using aZ,h0,ah.refl _ _⟩
 ·have aW:=rV hf ys;have yu:∀ j u,(ys.flatMap f)[j]?=some u->w.cell? (a.add j)=some u:=fun j u hj=>by
   have TT:=(au0.1 hj).1;rw[aW]at TT;have hq:j/sz*sz+j%sz=j:=by rw[Nat.mul_comm];exact Nat.div_add_mod j sz
   have h5:=DW hf ys (j/sz) (j%sz) (Nat.mod_lt _ cJ);rw[hq,hj]at h5
   cases hy:ys[j/sz]? with
   |none=>rw[hy]at h5;cases h5
   |some y=>
    rw[hy]at h5;obtain⟨b,o,hb,hc⟩:=hx (j/sz) y hy
    cases hb
    rw[gz];have:=hc (j%sz) u h5.symm
    rwa [au1,hq]at this
  obtain⟨v',w',r1,r2,r3,_⟩:=run_append_own (P:=P) w base ts ts te i0 z sz bytes hs hi nY mU oE hz cJ v l.length (l.flatMap f) aZ a ys.length cap (ys.flatMap f) aW yu (fun u hu=>by
   obtain⟨y,hy,hu⟩:=List.mem_flatMap.1 hu;exact h1 y hy u hu) hn BO FD
  refine⟨v',w',r1,?_,ah.grown h0 r3 (fun k hk=>.inr (auI iJ (aZ.lt k hk).1)),ah.grown (ah.refl _ w) r3 (fun k hk=>.inl (aZ.lt k hk).1)⟩;unfold dX;rw[au2,au3];exact r2
theorem Mw {α:Type}{f:α->List Value}{sz:Nat}(w:World)(t:TypeId):dX f sz t (w.alloc (.cells #[] t)) w.heap.size (.slice (some ⟨w.heap.size,0,none⟩) 0 0) ([]:List α):=by
 refine⟨by simp,.inr ⟨w.heap.size,0,#[],rfl,auP _,aw w _ _,auP _,by simp[maxLen],by simp,by simp⟩⟩
end
end Go.Proofs.YtkghpdcloaiflaaGreatDoor
