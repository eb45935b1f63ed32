import Derived.Test.YtkghpdcloaiflaaGreatDoorH37
import Derived.RangeFuncNested
set_option maxHeartbeats 4000000
set_option maxRecDepth 100000
namespace Go.Proofs.YtkghpdcloaiflaaGreatDoor
open _root_.Go.Proofs.Tryz
variable {B p:Nat}{W W' X Y w:World}{er:Int}{row:Option Nat}
section
open Go.RowKit
attribute [local go_sem] av0
def fg:Sn:=⟨[],0,0,⟨0,0⟩⟩
def bB (l:List Sn)(name:ay):Option Sn:=l.find? λx=>x.name==name
theorem uv {l:List Sn}{name:ay}(h:∀ j (x:Sn),j<l.length->l[j]?=some x->x.name≠name):bB l name=none:=by
 unfold bB;rw[aw4];intro x hx;obtain⟨j,hj⟩:=axj hx;have:=h j x (awk.1 hj).1 hj;simpa using this
theorem uw {l:List Sn}{name:ay}{k:Nat}{y:Sn}(h:∀ j (x:Sn),j<k->l[j]?=some x->x.name≠name)(hk:l[k]?=some y)(hy:y.name=name):bB l name=some y:=by
 unfold bB;rw[List.find?_eq_some_iff_getElem];obtain⟨yA,e⟩:=awk.1 hk;refine⟨by simp[hy],k,yA,e,λj hj=>?_⟩;have:=h j l[j] hj (av6 J);simpa using this
theorem Z1 {b:Nat}{t:TypeId}{c0 c1 c2 c3 c4:Value}(h:World.blk w b #[c0,c1,c2,c3,c4] t)(x0 x1 x2 x3 x4:Value):
  World.blk (((((w.setCell ⟨b,0,none⟩ x0).setCell ⟨b,1,none⟩ x1).setCell ⟨b,2,none⟩ x2).setCell ⟨b,3,none⟩ x3).setCell ⟨b,4,none⟩ x4) b #[x0,x1,x2,x3,x4] t/\ai (λg=>g=b) w (((((w.setCell ⟨b,0,none⟩ x0).setCell ⟨b,1,none⟩ x1).setCell ⟨b,2,none⟩ x2).setCell ⟨b,3,none⟩ x3).setCell ⟨b,4,none⟩ x4):=
 ⟨ah (ah (ah (ah (ah h 0 x0) 1 x1) 2 x2) 3 x3) 4 x4,(((((ai.refl (λg=>g=b) w).setCell (p:=⟨b,0,none⟩) (.inl rfl) x0).setCell (p:=⟨b,1,none⟩) (.inl rfl) x1).setCell (p:=⟨b,2,none⟩) (.inl rfl) x2).setCell (p:=⟨b,3,none⟩) (.inl rfl) x3).setCell (p:=⟨b,4,none⟩) (.inl rfl) x4⟩
theorem qW {v:Vs}{a:eX}(h:lc w p v a)(hl:v.b.list.length<=1000)(name:ay):
  Calls prog 50 #[au p,az name] w λe w'=>e=.returned (Bu ((bB v.b.list name).getD fg))/\af w w':=by
 obtain⟨b4,FA⟩:∃ b4,w.heap.size=b4:=⟨_,rfl⟩
 have dM:af w (w.alloc (.cells #[.string ⟨#[]⟩,.int .i64 0,.int .i64 0,.int .i64 0,.int .i64 0] 85)):=(ai.refl _ w).alloc _;have iK:World.blk (w.alloc (.cells #[.string ⟨#[]⟩,.int .i64 0,.int .i64 0,.int .i64 0,.int .i64 0] 85)) b4 #[.string ⟨#[]⟩,.int .i64 0,.int .i64 0,.int .i64 0,.int .i64 0] 85:=by rw[<-FA];exact av _ _ _
 obtain⟨SN,eR,HZ0,Hb4⟩:=K4 (xP (h.keep dM) hl) dM iK FA;have FK:(v.b.list.length:Int)<=1000:=J
 have HLI:=Z hl;clear h dM iK;go_enter func50,ntmps50;go_wp2_with fail;refine SN.mono ?_;rintro e w1 ⟨x,rfl,ho,k1⟩;obtain⟨la,cap,rfl,hx⟩:=cg jk ho;obtain⟨HX,cC,HZ1⟩:=K3 hx (eR.keep k1) (ab k1 HZ0.o id)
 try rw[FA]
 clear ho hx k1 SN eR HZ0 FA;generalize hL:v.b.list=L at*;have HLL:=Z hL;clear hL;go_wp2_with fail
 go_loopw [10] (λi wr=>∃ k:Nat,k<=L.length/\i=.int .i64 (k:Int)/\Hid (af w1 wr)/\Hid (∀ j (x:Sn),j<k->L[j]?=some x->x.name≠name)) (λi _=>L.length-(intOf i).toNat)
 case atStart=>exact⟨0,J,rfl,Z (ai.refl _ _),Z (λj x hj=>J)⟩
 case round=>
  obtain⟨k,hk,rfl,HK,HN⟩:=hrel;have hz:=ab HK.o HZ1.o id;have HZ:=Z hz;obtain⟨z0,z1,z2,z3,z4,f0,f1,f2,f3,f4⟩:=jc hz;clear hz;by_cases aP:k<L.length
  ·have dL:(k:Int)<(L.length:Int):=J
   obtain⟨y,hy⟩:∃ y,L[k]?=some y:=⟨_,av6 aP⟩
   obtain⟨rb,o,rfl,hc⟩:=HX.o k y hy;have c0:wr.cell? ⟨rb,o+k*5,none⟩=some (.string ⟨y.name.toArray⟩):=by have h:=hc 0 _ rfl;rw[HK.cell (p:=⟨rb,o+k*5,none⟩) (am h) id];exact h
   have c1:wr.cell? ⟨rb,o+k*5+1,none⟩=some (.int .i64 y.id):=by have h:=hc 1 _ rfl;rw[HK.cell (p:=⟨rb,o+k*5+1,none⟩) (am h) id];exact h
   have c2:wr.cell? ⟨rb,o+k*5+2,none⟩=some (.int .i64 y.plane):=by have h:=hc 2 _ rfl;rw[HK.cell (p:=⟨rb,o+k*5+2,none⟩) (am h) id];exact h
   have c3:wr.cell? ⟨rb,o+k*5+3,none⟩=some (.int .i64 y.table.root):=by have h:=hc 3 _ rfl;rw[HK.cell (p:=⟨rb,o+k*5+3,none⟩) (am h) id];exact h
   have c4:wr.cell? ⟨rb,o+k*5+4,none⟩=some (.int .i64 y.table.size):=by have h:=hc 4 _ rfl;rw[HK.cell (p:=⟨rb,o+k*5+4,none⟩) (am h) id];exact h
   have Cm:Hid (af w1 (wr.alloc (.cells #[.string ⟨y.name.toArray⟩,.int .i64 y.id,.int .i64 y.plane,.int .i64 y.table.root,.int .i64 y.table.size] 85))):=Z (HK.alloc _);have Hy:=Z hy;have mL:b4<wr.heap.size:=ak HZ.o;have hz':∀ o i,(wr.alloc o).cell? ⟨b4,i,none⟩=wr.cell? ⟨b4,i,none⟩:=λo i=>((ai.refl (λ_=>False) wr).alloc o).cell (p:=⟨b4,i,none⟩) mL id;have hf':∀ o i,(wr.alloc o).frozen? ⟨b4,i,none⟩=false:=λo i=>ae (ab ((ai.refl (λ_=>False) wr).alloc o) HZ.o id) _ rfl;by_cases hq:y.name=name
   ·have HF:Hid (bB L name=some y):=Z (uw HN.o hy hq);have OG:(y.name==name)=true:=by simpa using hq
    clear hq hc hy;go_wp2_with fail;obtain⟨WB,hm⟩:=Z1 HZ.o (.string ⟨y.name.toArray⟩) (.int .i64 y.id) (.int .i64 y.plane) (.int .i64 y.table.root) (.int .i64 y.table.size);have hs:=ab ((ai.refl (λ_=>False) _).alloc (.cells #[.string ⟨y.name.toArray⟩,.int .i64 y.id,.int .i64 y.plane,.int .i64 y.table.root,.int .i64 y.table.size] 85)) WB id;have q0:=aa hs 0;have q1:=aa hs 1;have q2:=aa hs 2;have q3:=aa hs 3;have q4:=aa hs 4;simp only[List.getElem?_toArray,List.getElem?_cons_zero,List.getElem?_cons_succ]at q0 q1 q2 q3 q4;have od:Hid (af w _):=Z (((cC.keep HK.o).new hm (by rw[Hb4.o];exact av9 _)).alloc (.cells #[.string ⟨y.name.toArray⟩,.int .i64 y.id,.int .i64 y.plane,.int .i64 y.table.root,.int .i64 y.table.size] 85));exact awC (v:=Bu y) (by simp[results,Tryz.results50,go_sem,q0,q1,q2,q3,q4]) rfl ⟨by rw[HLL.o,HF.o];rfl,od.o⟩
   ·have OG:(y.name==name)=false:=by simpa using hq
    have HN2:Hid (∀ j (x:Sn),j<k+1->L[j]?=some x->x.name≠name):=Z (λj x hj hx=>by
     by_cases AF:j=k
     ·subst AF;rw[Hy.o]at hx;injection hx with hx;subst hx;exact hq
     ·exact HN.o j x J hx)
    clear hq hc hy;go_wp2_with fail;exact⟨⟨k+1,J,by go_num,Cm,HN2⟩,by simp[intOf];omega⟩
  ·obtain rfl:k=L.length:=J
   have HF:Hid (bB L name=none):=Z (uv HN.o);clear aP hk;go_wp2_with fail;obtain⟨hs,hm⟩:=Z1 HZ.o (.string ⟨#[]⟩) (.int .i64 0) (.int .i64 0) (.int .i64 0) (.int .i64 0);have q0:=aa hs 0;have q1:=aa hs 1;have q2:=aa hs 2;have q3:=aa hs 3;have q4:=aa hs 4;simp only[List.getElem?_toArray,List.getElem?_cons_zero,List.getElem?_cons_succ]at q0 q1 q2 q3 q4;have od:Hid (af w _):=Z ((cC.keep HK.o).new hm (by rw[Hb4.o];exact av9 _));exact awC (v:=Bu fg) (by simp[results,Tryz.results50,go_sem,q0,q1,q2,q3,q4,fg]) rfl ⟨by rw[HLL.o,HF.o];rfl,od.o⟩
end
section
open Go.RowKit Go.Shelf
attribute [local go_sem] av0
structure lV (B:Nat)(W W':World):Prop where
 size:W.heap.size<=W'.heap.size
 same:∀ k o,B<=k->W.heap[k]?=some o->o.isCells=true->W'.heap[k]?=some o
theorem lV.refl (B:Nat)(W:World):lV B W W:=⟨av9 _,λ_ _ _ h _=>h⟩
theorem lV.trans {Za7:World}(h:lV B X Y)(k:lV B Y Za7):lV B X Za7:=⟨av2 h.size k.size,λi o hB hi ho=>k.same i o hB (h.same i o hB hi ho) ho⟩
theorem lV.keep (k:af W W'):lV B W W':=⟨k.size,λi _o _ hi _=>(k.block i (awr.1 hi).1 id).trans hi⟩
theorem lV.put (W:World)(l:Nat)(o o':Obj)(h:W.heap[l]?=some o)(ho:o.isCells=false):lV B W (W.putObj l o'):=
 ⟨by simp,λk x _ hx hc=>(World.putObj_heap_other (λe=>by subst e;rw[h]at hx;cases hx;rw[ho]at hc;cases hc)).trans hx⟩
theorem lV.cell (h:lV B W W'){p:Addr}(hp:B<=p.block){x:Value}(hc:W.cell? p=some x):W'.cell? p=some x:=by
 obtain⟨o,ho,hi⟩:=cells_of_cell hc;have:=h.same p.block o hp ho hi;rw[World.cell?_of_block (this.trans ho.symm)];exact hc
theorem RC (k:af W W'):W.grownBy W' none:=⟨k.os,k.tape,k.output,k.size,λi hi _=>k.block i hi id⟩
theorem Nf (n:Nat)(hn:1<=n)(l Bv B:Nat){v:Vs}{a:eX}(Ja7 Jx:List Sn->World->Prop)(W:World)(hv:lc W p v a)(hl:v.b.list.length<=1000)(hB:B<=W.heap.size)(hBv:W.cell? ⟨Bv,0,none⟩=some (au p))
  (hJ:AbidesFrom W.heap.size Ja7)
  (hY:∀ pre x W,Ja7 pre W->pre.length<v.b.list.length->YieldAt Fence.wide (n-1) prog l #[Bu x] W λe W'=>
   (e=.returned (.bool true)/\Ja7 (pre++[x]) W'/\lV B W W')\/(e=.returned (.bool false)/\Jx (pre++[x]) W')) (h0:Ja7 [] W):
  CallsIn Fence.wide n prog 183 #[.func (.yield l) #[] #[],.pointer (some ⟨Bv,0,none⟩)] W λe W'=>(∃ v,e=.returned v)/\
   ((∃ ys,ys=v.b.list/\Ja7 ys W')\/(∃ pre,pre <+: v.b.list/\Jx pre W')):=by
 obtain⟨SN,HY,HJ,HB,H0⟩:=K5 (xP hv hl) hY hJ hB h0;have FK:(v.b.list.length:Int)<=1000:=J
 clear hY hJ hv h0;refine callsIn_of_wp func183 rfl trivial ?_ rfl;simp only[ntmps183,axo,av5,axe,Nat.reduceAdd,Nat.reduceSub,axp,axq,axr,axs,awE,awK]
 gi_wp2
 refine⟨trivial,(awI.2 SN.o).mono ?_⟩;rintro e W1 ⟨x,rfl,ho,k1⟩;have HO:=Z ho;obtain⟨la,cap,rfl,hx⟩:=cg jk ho;obtain⟨HX,HJ1,cC⟩:=K3 hx (HJ.o [] W W1 none H0.o (RC k1) (λ_ e=>by cases e)) k1;clear ho hx k1 SN hBv
 gi_wp2
 gi_loopw [8] (λi wr=>∃ k:Nat,k<=v.b.list.length/\i=.int .i64 (k:Int)/\Ja7 (v.b.list.take k) wr/\lV B W1 wr) (λi _=>v.b.list.length-(intOf i).toNat)
 case atStart=>exact⟨0,J,rfl,HJ1.o,lV.refl _ _⟩
 case round=>
  obtain⟨k,hk,rfl,hJk,hS⟩:=hrel;obtain⟨HJk,HS⟩:=K2 hJk hS;clear hJk hS;by_cases aP:k<v.b.list.length
  ·have dL:(k:Int)<(v.b.list.length:Int):=J
   obtain⟨y,hy⟩:∃ y,v.b.list[k]?=some y:=⟨_,av6 aP⟩
   obtain⟨rb,o,rfl,hc⟩:=HX.o k y hy;have Sj:B<=rb:=by have:=(HO.lt rb rfl).1;have:=HB.o;omega
   have c0:wr.cell? ⟨rb,o+k*5,none⟩=some (.string ⟨y.name.toArray⟩):=HS.cell (p:=⟨rb,o+k*5,none⟩) Sj (hc 0 _ rfl);have c1:wr.cell? ⟨rb,o+k*5+1,none⟩=some (.int .i64 y.id):=HS.cell (p:=⟨rb,o+k*5+1,none⟩) Sj (hc 1 _ rfl);have c2:wr.cell? ⟨rb,o+k*5+2,none⟩=some (.int .i64 y.plane):=HS.cell (p:=⟨rb,o+k*5+2,none⟩) Sj (hc 2 _ rfl);have c3:wr.cell? ⟨rb,o+k*5+3,none⟩=some (.int .i64 y.table.root):=HS.cell (p:=⟨rb,o+k*5+3,none⟩) Sj (hc 3 _ rfl);have c4:wr.cell? ⟨rb,o+k*5+4,none⟩=some (.int .i64 y.table.size):=HS.cell (p:=⟨rb,o+k*5+4,none⟩) Sj (hc 4 _ rfl);have ro:af wr (wr.alloc (.cells #[.string ⟨y.name.toArray⟩,.int .i64 y.id,.int .i64 y.plane,.int .i64 y.table.root,.int .i64 y.table.size] 85)):=(ai.refl _ wr).alloc _;have hJa:=HJ.o _ wr _ none HJk.o (RC ro) (λ_ e=>by cases e);have BZ:(v.b.list.take k).length<v.b.list.length:=by rw[awc];omega
   obtain⟨fn,tmps,assign,body,hyy,hR⟩:=HY.o _ y _ hJa BZ;have HSa:=Z (HS.trans (lV.keep (B:=B) ro));have Hts:Hid (v.b.list.take k++[y]=v.b.list.take (k+1)):=Z (by rw[av8,hy];rfl);clear hc hy hJa BZ ro
   gi_wp2
   refine hR.mono ?_;rintro e W3 (⟨rfl,hJ3,dr⟩|⟨rfl,Oa⟩)
   ·rw[Hts.o]at hJ3;obtain⟨HJ3,WM⟩:=K2 hJ3 (HSa.trans dr);clear hJ3 dr hyy hR
    gi_wp2
    go_roundw
    case rel=>exact⟨k+1,J,by go_num,HJ3.o,WM.o⟩
    case measure=>simp[intOf];omega
   ·rw[Hts.o]at Oa;have HJx:=Z Oa;clear Oa hyy hR
    gi_wp2
    refine awC (results_none rfl _ _ _) rfl ?_;exact⟨⟨_,rfl⟩,.inr ⟨_,List.take_prefix _ _,HJx.o⟩⟩
  ·obtain nG:k=v.b.list.length:=J
   subst nG;have hJe:=HJk.o;rw[awa]at hJe
   gi_wp2
   go_end0;exact⟨⟨_,rfl⟩,.inl ⟨_,rfl,hJe⟩⟩
theorem pN {β:Type}(b:Nat)(c:Array Value)(t:TypeId):Own (λ(_:β) W=>World.blk W b c t):=λ_ _ _ row hs hg cq=>
 (hg.block b (ak hs) (λe'=>by
  obtain⟨o,ho,hc⟩:=cq b e'.symm;rw[show _=some (Obj.cells c t (0,0))from hs]at ho
  cases ho;cases hc)).trans hs
theorem RF (n:Nat)(p:Nat)(w:World):
  CallsIn Fence.wide n prog 105 #[au p] w λe w'=>e=.returned (.func (.func 183) #[] #[.pointer (some ⟨w.heap.size,0,none⟩)])/\w'=w.alloc (.cells #[au p] 32):=by
 refine callsIn_of_wp func105 rfl trivial ?_ rfl;simp only[ntmps105,axo,av5,axe,Nat.reduceAdd,Nat.reduceSub,axp,axq,axr,axs,awE,awK]
 gi_wp2
 go_ret;exact⟨rfl,rfl⟩
theorem Fa (n:Nat)(hn:1<=n)(Bv:Nat){v:Vs}{a:eX}(w:World)(hv:lc w p v a)(hl:v.b.list.length<=1000)(hb:Bv<w.heap.size)(hc:w.cell? ⟨Bv,0,none⟩=some (au p)):
  SeqStopsK Fence.wide n prog 183 #[.pointer (some ⟨Bv,0,none⟩)] (λx:Sn=>#[Bu x]) (lV w.heap.size) (λys=>ys=v.b.list) (λpre=>pre <+: v.b.list) v.b.list.length w:=λl Ja7 Jx W hW hJ _ hY h0=>
 Nf n hn l Bv w.heap.size Ja7 Jx W (hv.keep (ai.ofBelow hW)) hl hW.size ((hW.cell (p:=⟨Bv,0,none⟩) hb).trans hc) hJ hY h0
structure ql (w:World)(name:ay)(W:World):Prop where
 keep:af w W
 b3:World.blk W w.heap.size #[az name] 9
 b4:World.blk W (w.heap.size+1) #[.string ⟨#[]⟩,.int .i64 0,.int .i64 0,.int .i64 0,.int .i64 0] 85
 b5:World.blk W (w.heap.size+1+1) #[.int .i64 0] 22
theorem ql.step {name:ay}(h:ql w name W)(k:af W W'):ql w name W':=⟨h.keep.keep k,ab k h.b3 id,ab k h.b4 id,ab k h.b5 id⟩
structure xR (w:World)(x:Sn)(er:Int)(W:World):Prop where
 keep:af w W
 b4:World.blk W (w.heap.size+1) #[.string ⟨x.name.toArray⟩,.int .i64 x.id,.int .i64 x.plane,.int .i64 x.table.root,.int .i64 x.table.size] 85
 b5:World.blk W (w.heap.size+1+1) #[.int .i64 er] 22
theorem ql.end {name:ay}(h:ql w name W)(x:Sn)(er:Int):
  xR w x er ((((((W.setCell ⟨w.heap.size+1,0,none⟩ (.string ⟨x.name.toArray⟩)).setCell ⟨w.heap.size+1,1,none⟩ (.int .i64 x.id)).setCell ⟨w.heap.size+1,2,none⟩ (.int .i64 x.plane)).setCell ⟨w.heap.size+1,3,none⟩ (.int .i64 x.table.root)).setCell ⟨w.heap.size+1,4,none⟩ (.int .i64 x.table.size)).setCell ⟨w.heap.size+1+1,0,none⟩ (.int .i64 er))/\
  ai (λg=>g=w.heap.size+1\/g=w.heap.size+1+1) W ((((((W.setCell ⟨w.heap.size+1,0,none⟩ (.string ⟨x.name.toArray⟩)).setCell ⟨w.heap.size+1,1,none⟩ (.int .i64 x.id)).setCell ⟨w.heap.size+1,2,none⟩ (.int .i64 x.plane)).setCell ⟨w.heap.size+1,3,none⟩ (.int .i64 x.table.root)).setCell ⟨w.heap.size+1,4,none⟩ (.int .i64 x.table.size)).setCell ⟨w.heap.size+1+1,0,none⟩ (.int .i64 er)):=by
 obtain⟨hs,hm⟩:=Z1 h.b4 (.string ⟨x.name.toArray⟩) (.int .i64 x.id) (.int .i64 x.plane) (.int .i64 x.table.root) (.int .i64 x.table.size);have h5:=ab hm h.b5 J;have m1:ai (λg=>g=w.heap.size+1\/g=w.heap.size+1+1) W _:=hm.mono λ_ _ h=>.inl h;have m2:=m1.setCell (p:=⟨w.heap.size+1+1,0,none⟩) (.inl (.inr rfl)) (.int .i64 er);exact⟨⟨h.keep.trans m2 (λg hl hg=>by rcases hg with rfl|rfl<;>omega),aZ hs ⟨w.heap.size+1+1,0,none⟩ (by show w.heap.size+1≠w.heap.size+1+1;omega) _,ah h5 0 _⟩,m2⟩
theorem xR.cells {x:Sn}(h:xR w x er W):W.cell? ⟨w.heap.size+1,0,none⟩=some (.string ⟨x.name.toArray⟩)/\W.cell? ⟨w.heap.size+1,1,none⟩=some (.int .i64 x.id)/\W.cell? ⟨w.heap.size+1,2,none⟩=some (.int .i64 x.plane)/\W.cell? ⟨w.heap.size+1,3,none⟩=some (.int .i64 x.table.root)/\W.cell? ⟨w.heap.size+1,4,none⟩=some (.int .i64 x.table.size)/\W.cell? ⟨w.heap.size+1+1,0,none⟩=some (.int .i64 er):=
 ⟨aa h.b4 0,aa h.b4 1,aa h.b4 2,aa h.b4 3,aa h.b4 4,aa h.b5 0⟩
theorem RG (hg:X.grownBy Y row):ai (λg=>row=some g) X Y:=⟨hg.os,hg.tape,hg.output,hg.size,λk hk hn=>hg.block k hk (λe=>hn e.symm)⟩
theorem ql.grown {name:ay}(hB:w.heap.size<=B)(h:ql w name X)(hg:X.grownBy Y row)(hr:∀ r,row=some r->B<=r/\∃ o:Obj,X.heap[r]?=some o/\o.isCells=false):ql w name Y:=
 ⟨h.keep.trans (RG hg) (λg hl e=>by have:=(hr g e).1;omega),pN (β:=Unit) _ _ _ () X Y row h.b3 hg (λr e=>(hr r e).2),pN (β:=Unit) _ _ _ () X Y row h.b4 hg (λr e=>(hr r e).2),pN (β:=Unit) _ _ _ () X Y row h.b5 hg (λr e=>(hr r e).2)⟩
theorem xR.grown {x:Sn}(hB:w.heap.size<=B)(h:xR w x er X)(hg:X.grownBy Y row)(hr:∀ r,row=some r->B<=r/\∃ o:Obj,X.heap[r]?=some o/\o.isCells=false):xR w x er Y:=
 ⟨h.keep.trans (RG hg) (λg hl e=>by have:=(hr g e).1;omega),pN (β:=Unit) _ _ _ () X Y row h.b4 hg (λr e=>(hr r e).2),pN (β:=Unit) _ _ _ () X Y row h.b5 hg (λr e=>(hr r e).2)⟩
def o4 (l:List Sn)(name:ay):Value:=if aJ name=true then(match bB l name with|some x=>.tuple #[Bu x,.int .i64 0]|none=>.tuple #[Bu fg,.int .i64 162])else .tuple #[Bu fg,.int .i64 160]
theorem Ng (n:Nat)(hn:6<=n){v:Vs}{a:eX}(h:lc w p v a)(hl:v.b.list.length<=1000)(name:ay)(KQ:name.length<=140737488355328):
  CallsIn Fence.wide n prog 53 #[au p,az name] w λe W'=>e=.returned (o4 v.b.list name)/\af w W':=by
 have h1:1<=n:=J
 have k3:af w (((w.alloc (.cells #[az name] 9)).alloc (.cells #[.string ⟨#[]⟩,.int .i64 0,.int .i64 0,.int .i64 0,.int .i64 0] 85)).alloc (.cells #[.int .i64 0] 22)):=(((ai.refl _ w).alloc _).alloc _).alloc _;have b3:World.blk (((w.alloc (.cells #[az name] 9)).alloc (.cells #[.string ⟨#[]⟩,.int .i64 0,.int .i64 0,.int .i64 0,.int .i64 0] 85)).alloc (.cells #[.int .i64 0] 22)) w.heap.size #[az name] 9:=aE (aE (av _ _ _) _) _;have b4:World.blk (((w.alloc (.cells #[az name] 9)).alloc (.cells #[.string ⟨#[]⟩,.int .i64 0,.int .i64 0,.int .i64 0,.int .i64 0] 85)).alloc (.cells #[.int .i64 0] 22)) (w.heap.size+1) #[.string ⟨#[]⟩,.int .i64 0,.int .i64 0,.int .i64 0,.int .i64 0] 85:=aE (aV sp7 _ _) _;have b5:World.blk (((w.alloc (.cells #[az name] 9)).alloc (.cells #[.string ⟨#[]⟩,.int .i64 0,.int .i64 0,.int .i64 0,.int .i64 0] 85)).alloc (.cells #[.int .i64 0] 22)) (w.heap.size+1+1) #[.int .i64 0] 22:=aV sp7 _ _;obtain⟨NK,H,HK,HB,HL⟩:=K5 (pI name (((w.alloc (.cells #[az name] 9)).alloc (.cells #[.string ⟨#[]⟩,.int .i64 0,.int .i64 0,.int .i64 0,.int .i64 0] 85)).alloc (.cells #[.int .i64 0] 22)) KQ) h k3 (ql.mk k3 b3 b4 b5) hl;clear h k3 b3 b4 b5 KQ hl HK;refine callsIn_of_wp_marks func53 rfl trivial ?_ rfl;simp only[ntmps53,axo,av5,axe,Nat.reduceAdd,Nat.reduceSub,axp,axq,axr,axs,awE,awK]
 gi_wp2
 refine⟨trivial,(awI.2 NK.o).mono ?_⟩;rintro e W1 ⟨rfl,k1⟩;have jg:=Z (HB.step k1);clear k1 NK HB
 cases bZ:aJ name with
 |false=>
  obtain⟨z0,z1,z2,z3,z4,f0,f1,f2,f3,f4⟩:=jc jg.b4;have y0:W1.cell? ⟨w.heap.size+1+1,0,none⟩=some (.int .i64 0):=aa jg.b5 0;have g0:=ae jg.b5 ⟨w.heap.size+1+1,0,none⟩ rfl
  gi_wp2
  have HE:=(jg.end fg 160).1;obtain⟨q0,q1,q2,q3,q4,q5⟩:=HE.cells;simp only[fg]at q0 q1 q2 q3 q4 q5;exact⟨.tuple #[Bu fg,.int .i64 160],by simp[results,Tryz.results53,go_sem,q0,q1,q2,q3,q4,q5,fg],by unfold o4;rw[bZ];rfl,HE.keep⟩
 |true=>
  have A:=Z (RF (n-1) p W1);have ic:Below W1.heap.size W1 (W1.alloc (.cells #[au p] 32)):=(Below.refl _ W1).alloc (av9 _) _;have kA:af W1 (W1.alloc (.cells #[au p] 32)):=(ai.refl _ W1).alloc _;have OJ:=H.keep (jg.keep.keep kA);have cJ:(W1.alloc (.cells #[au p] 32)).heap.size=W1.heap.size+1:=by simp
  have dh:=Fa (n-1) J W1.heap.size _ OJ HL.o (by rw[cJ];omega) (aa (av W1 #[au p] 32) 0);have HBA:=jg.step kA
  gi_wp2
  refine⟨trivial,A.mono ?_⟩;rintro e W2 ⟨rfl,rfl⟩
  gi_wp2
  have h5w:w.heap.size+1+1<W1.heap.size:=ak jg.b5;refine wpIn_rangeFunc_ownH rfl h1 (gf:=183) (lb:=#[.pointer (some ⟨W1.heap.size,0,none⟩)]) rfl trivial (enters_of func183 kr7 rfl)
   dh lV.trans (λW l o o' _ h ho _=>lV.put W l o o' h ho) (Below.refl _ _) (λ_=>rfl)
   (λ(pre:List Sn) W=>ql w name W/\∀ x∈pre,x.name≠name)
   (λc (pre:List Sn) W=>c=.ret/\∃ N4 y,pre=N4++[y]/\(∀ x∈N4,x.name≠name)/\y.name=name/\xR w y 0 W)
   ?hI ?hIx ⟨HBA,λx hx=>(by cases hx)⟩
   (λ(x:Sn) a' W=>∃ Bx,w.heap.size+1+1<Bx/\World.blk W Bx #[.string ⟨x.name.toArray⟩,.int .i64 x.id,.int .i64 x.plane,.int .i64 x.table.root,.int .i64 x.table.size] 85/\∃ t13,a'={ tmps:=#[au p,az name,undef,.pointer (some ⟨w.heap.size,0,none⟩),.pointer (some ⟨w.heap.size+1,0,none⟩),.pointer (some ⟨w.heap.size+1+1,0,none⟩),.pointer (some ⟨Bx,0,none⟩),az name,.bool true,.bool false,undef,au p,.func (.func 183) #[] #[.pointer (some ⟨W1.heap.size,0,none⟩)],t13,undef,undef,undef,undef,undef,undef],defers:=[] })
   ?hAx ?assign ?body ?done ?stop
  case hI=>exact λpre X Y row hs hg hr=>⟨hs.1.grown (by rw[cJ];omega) hg hr,hs.2⟩
  case hIx=>
   rintro c pre X Y row ⟨hc,N4,y,h1,h2,h3,hE⟩ hg hr;exact⟨hc,N4,y,h1,h2,h3,hE.grown (by rw[cJ];omega) hg hr⟩
  case hAx=>
   rintro x a' _ X Y row ⟨Bx,h1,h2,h3⟩ hg hr;exact⟨Bx,h1,pN (β:=Unit) _ _ _ () X Y row h2 hg (λr e=>(hr r e).2),h3⟩
  case assign=>
   rintro l pre x W K ⟨hB,hN⟩ hK;have k1:af W (W.alloc (.cells #[.string ⟨x.name.toArray⟩,.int .i64 x.id,.int .i64 x.plane,.int .i64 x.table.root,.int .i64 x.table.size] 85)):=(ai.refl _ W).alloc _
   gi_wp2
   exact hK _ _ ((KeepsOthers.alloc _ _).from _) (lV.keep k1) ⟨hB.step k1,hN⟩ ⟨W.heap.size,ak hB.b5,av _ _ _,_,rfl⟩
  case body=>
   rintro l pre x a' W hl ⟨r,hr⟩ ⟨hB,hN⟩ ⟨Bx,hBx,bX,t13,rfl⟩ aP;have HBx:=Z hB;have c0:W.cell? ⟨Bx,0,none⟩=some (.string ⟨x.name.toArray⟩):=aa bX 0;have c1:W.cell? ⟨Bx,1,none⟩=some (.int .i64 x.id):=aa bX 1;have c2:W.cell? ⟨Bx,2,none⟩=some (.int .i64 x.plane):=aa bX 2;have c3:W.cell? ⟨Bx,3,none⟩=some (.int .i64 x.table.root):=aa bX 3;have c4:W.cell? ⟨Bx,4,none⟩=some (.int .i64 x.table.size):=aa bX 4;have s0:W.cell? ⟨w.heap.size,0,none⟩=some (.string ⟨name.toArray⟩):=aa hB.b3 0;obtain⟨z0,z1,z2,z3,z4,f0,f1,f2,f3,f4⟩:=jc hB.b4;have y0:W.cell? ⟨w.heap.size+1+1,0,none⟩=some (.int .i64 0):=aa hB.b5 0;have g0:=ae hB.b5 ⟨w.heap.size+1+1,0,none⟩ rfl;have HBX:=Z bX;clear bX hB hr;by_cases hq:x.name=name
   ·have OG:(x.name==name)=true:=by simpa using hq
    have hE:=HBx.end x 0;obtain⟨HE,Hq⟩:=K2 hE hq;clear hq hE
    gi_wp2
    have hm:=HE.2;refine⟨⟨hm.size,λk o hk ho hc=>(hm.block k (awr.1 ho).1 (λe=>by rw[cJ]at hk;omega)).trans ho⟩,rfl,pre,x,rfl,hN,Hq.o,HE.1⟩
   ·have OG:(x.name==name)=false:=by simpa using hq
    have HN2:Hid (∀ y∈pre++[x],y.name≠name):=Z (λy hy=>by
     rw[aw8]at hy;rcases hy with hy|hy
     ·exact hN y hy
     ·simp at hy;subst hy;exact hq)
    clear hq hN
    gi_wp2
    exact⟨KeepsFrom.refl _ _,lV.refl _ _,HBx.o,HN2.o⟩
  case done=>
   rintro D ys W hD rfl ⟨hB,hN⟩ hK;have HF:Hid (bB v.b.list name=none):=Z (uv (λj x _ hx=>hN x (av7 hx)));obtain⟨z0,z1,z2,z3,z4,f0,f1,f2,f3,f4⟩:=jc hB.b4;have y0:W.cell? ⟨w.heap.size+1+1,0,none⟩=some (.int .i64 0):=aa hB.b5 0;have g0:=ae hB.b5 ⟨w.heap.size+1+1,0,none⟩ rfl;have hE:=hB.end fg 162;have hKD:=(hE.2.block D (awr.1 hK).1 (λe=>by rw[cJ]at hD;omega)).trans hK;obtain⟨HE,HKD⟩:=K2 hE.1 hKD;clear hE hKD hB
   gi_wp2
   refine⟨by simp,.inl ⟨_,_,rfl,run_takeDeferred HKD.o,?_⟩⟩;have WT:=HE.grown (B:=W1.heap.size) J (grownBy_putObj' _ D (.deferred none)) (λr e=>by cases e;exact⟨by rw[cJ]at hD;omega,_,HKD.o,rfl⟩);obtain⟨q0,q1,q2,q3,q4,q5⟩:=WT.cells;simp only[fg]at q0 q1 q2 q3 q4 q5;exact⟨.tuple #[Bu fg,.int .i64 162],by simp[results,Tryz.results53,go_sem,q0,q1,q2,q3,q4,q5,fg],by unfold o4;rw[bZ,HF.o];rfl,WT.keep⟩
  case stop=>
   rintro D c pre W hD tN ⟨rfl,N4,y,rfl,hN,hy,hE⟩ hK;have HF:Hid (bB v.b.list name=some y):=Z (by
    obtain⟨t,ht⟩:=tN;refine uw (k:=N4.length) (λj x hj hx=>?_) (by rw[<-ht];simp) hy;rw[<-ht,awN,List.getElem?_append_left hj]at hx;exact hN x (av7 hx))
   have HE:=Z hE;clear hE
   gi_wp2
   refine⟨by simp,.inl ⟨_,_,rfl,run_takeDeferred hK,?_⟩⟩;have WT:=HE.grown (B:=W1.heap.size) J (grownBy_putObj' _ D (.deferred none)) (λr e=>by cases e;exact⟨by rw[cJ]at hD;omega,_,hK,rfl⟩);obtain⟨q0,q1,q2,q3,q4,q5⟩:=WT.cells;exact⟨.tuple #[Bu y,.int .i64 0],by simp[results,Tryz.results53,go_sem,q0,q1,q2,q3,q4,q5],by unfold o4;rw[bZ,HF.o];rfl,WT.keep⟩
theorem qX {v:Vs}{a:eX}(h:lc w p v a)(hl:v.b.list.length<=1000)(name:ay)(KQ:name.length<=140737488355328):
  Calls prog 53 #[au p,az name] w λe W'=>e=.returned (o4 v.b.list name)/\af w W':=awI.1 (Ng 6 J h hl name KQ)
end
section
open Go.RowKit
attribute [local go_sem] av0
def dT (v:Vs)(x:Sn):ay:=v.b.planes.getD x.plane.toNat []
def gw (v:Vs)(base target:ay):Except Int (ay×ay):=
 if aJ target=false\/(base≠[]/\aJ base=false)then .error 160 else
 match bB v.b.list target with
 |none=>.error 162
 |some x=>if base=[]then .ok (dT v x,[])else
  match bB v.b.list base with
  |none=>.error 162
  |some y=>.ok (bV (dT v x) (dT v y),bV (dT v y) (dT v x))
def RH:Except Int (ay×ay)->Value
 | .error e=>.tuple #[.string ⟨#[]⟩,.string ⟨#[]⟩,.int .i64 e]
 | .ok (a,b)=>.tuple #[az a,az b,.int .i64 0]
theorem gL {l:List Sn}{s:ay}{x:Sn}(h:bB l s=some x):x∈l:=aw2 h
theorem Nh {v:Vs}{a:eX}(h:lc w p v a)(hl:v.b.list.length<=1000)(hp:∀ x∈v.b.list,1<=x.plane/\x.plane<=7)(base target:ay)(hb:base.length<=140737488355328)(ht:target.length<=140737488355328):
  Calls prog 16 #[au p,az base,az target] w λe w'=>e=.returned (RH (gw v base target))/\af w w':=by
 obtain⟨NT,H,HL,HP,Ur⟩:=K5 (pI target w ht) h hl hp (And.intro hb ht);clear h hl hp hb ht;go_enter func16,ntmps16;go_wp2_with fail;refine NT.mono ?_;rintro e w1 ⟨rfl,k1⟩;obtain⟨cC,NB⟩:=K2 k1 (pI base w1 Ur.1);clear k1 NT;obtain⟨bad,pj⟩:∃ bad:Bool,decide (aJ target=false\/(base≠[]/\aJ base=false))=bad:=⟨_,rfl⟩
 have aqO:=Z pj;clear pj
 cases bZ:aJ target with
 |false=>
  have HM:Hid (gw v base target=.error 160):=Z (by unfold gw;rw[awd (.inl bZ)]);go_wp2;go_ret3;exact⟨by rw[HM.o];rfl,cC.o⟩
 |true=>
  have OS:=Z bZ;clear bZ;by_cases he:base=[]
  ·have HE:=Z he;subst he;have SN:=Z (qX (H.keep cC.o) HL.o target Ur.2);go_wp2_with fail;refine SN.mono ?_;rintro e w2 ⟨rfl,k2⟩;have bJ:=Z (cC.keep k2);clear k2 SN;unfold o4;rw[awd OS.o]
   cases hf:bB v.b.list target with
   |none=>
    have HM:Hid (gw v [] target=.error 162):=Z (by unfold gw;rw[awf (by rw[OS.o];simp),hf]);clear hf;simp only;go_wp2;go_ret3;exact⟨by rw[HM.o];rfl,by first|exact bJ.o|exact bJ.alloc _⟩
   |some x=>
    have HM:Hid (gw v [] target=.ok (dT v x,[])):=Z (by unfold gw;rw[awf (by rw[OS.o];simp),hf];rfl);have hpx:=HP.o x (gL hf);obtain⟨q,hq⟩:∃ q:Nat,x.plane=(q:Int):=⟨x.plane.toNat,J⟩
    have HQ:Hid (q<8/\dT v x=v.b.planes.getD q []):=Z ⟨by omega,by unfold dT;rw[hq];rfl⟩;have dr:af w2 (w2.alloc (.cells #[.string ⟨x.name.toArray⟩,.int .i64 x.id,.int .i64 x.plane,.int .i64 x.table.root,.int .i64 x.table.size] 85)):=(ai.refl _ w2).alloc _;have ez:=Z (bJ.keep dr);have MP:=Z (xQ (H.keep ez.o));have qt:Hid (World.blk (w2.alloc (.cells #[.string ⟨x.name.toArray⟩,.int .i64 x.id,.int .i64 x.plane,.int .i64 x.table.root,.int .i64 x.table.size] 85)) w2.heap.size #[.string ⟨x.name.toArray⟩,.int .i64 x.id,.int .i64 x.plane,.int .i64 x.table.root,.int .i64 x.table.size] 85):=Z (av _ _ _);have Hq:=Z hq;clear hf dr hpx hq;simp only;unfold Bu;go_wp2_with fail;refine MP.mono ?_;rintro e w3 ⟨m,rfl,hm,KK,k3⟩;have pO:=Z (ez.keep k3);have Yb:=ab k3 qt.o id;have c2:w3.cell? ⟨w2.heap.size,2,none⟩=some (.int .i64 x.plane):=aa Yb 2;rw[Hq.o]at c2;have PL:=Z (wQ KK q HQ.1);clear k3 Yb hm KK MP;go_wp2_with fail;refine PL.mono ?_;rintro e w4 ⟨rfl,k4⟩;have nD:=Z (pO.keep k4);clear k4 PL c2;go_wp2;go_ret3;exact⟨by rw[HM.o,HQ.2];rfl,nD.o⟩
  ·have heb:(base==[])=false:=by simpa using he
   have apv:(base != [])=true:=by simpa using he
   cases ib:aJ base with
   |false=>
    have HM:Hid (gw v base target=.error 160):=Z (by unfold gw;rw[awd (.inr ⟨he,ib⟩)]);rw[ib]at NB;go_wp2_with fail;refine NB.mono ?_;rintro e w2 ⟨rfl,k2⟩;have bJ:=Z (cC.keep k2);clear k2;go_wp2;go_ret3;exact⟨by rw[HM.o];rfl,bJ.o⟩
   |true=>
    rw[ib]at NB;have HG:Hid (¬(aJ target=false\/(base≠[]/\aJ base=false))):=Z (by rw[OS.o,ib];simp);obtain⟨HBE,yj⟩:=K2 he ib;clear he ib;go_wp2_with fail;refine NB.mono ?_;rintro e w2 ⟨rfl,k2⟩;have bJ:=Z (cC.keep k2);have SN:=Z (qX (H.keep bJ.o) HL.o target Ur.2);clear k2 NB cC;go_wp2_with fail;refine SN.mono ?_;rintro e w3 ⟨rfl,k3⟩;have ez:=Z (bJ.keep k3);clear k3 SN bJ;unfold o4;rw[awd OS.o]
    cases hf:bB v.b.list target with
    |none=>
     have HM:Hid (gw v base target=.error 162):=Z (by unfold gw;rw[awf HG.o,hf]);clear hf;simp only;go_wp2;go_ret3;exact⟨by rw[HM.o];rfl,by first|exact ez.o|exact ez.alloc _⟩
    |some x=>
     have HFX:=Z hf;have hpx:=HP.o x (gL hf);obtain⟨q,hq⟩:∃ q:Nat,x.plane=(q:Int):=⟨x.plane.toNat,J⟩
     have HQ:Hid (q<8/\dT v x=v.b.planes.getD q []):=Z ⟨by omega,by unfold dT;rw[hq];rfl⟩;have Hq:=Z hq;have jE:af w3 (w3.alloc (.cells #[.string ⟨x.name.toArray⟩,.int .i64 x.id,.int .i64 x.plane,.int .i64 x.table.root,.int .i64 x.table.size] 85)):=(ai.refl _ w3).alloc _;have pO:=Z (ez.keep jE);have MP:=Z (xQ (H.keep pO.o));have Cp:Hid (World.blk (w3.alloc (.cells #[.string ⟨x.name.toArray⟩,.int .i64 x.id,.int .i64 x.plane,.int .i64 x.table.root,.int .i64 x.table.size] 85)) w3.heap.size #[.string ⟨x.name.toArray⟩,.int .i64 x.id,.int .i64 x.plane,.int .i64 x.table.root,.int .i64 x.table.size] 85):=Z (av _ _ _);clear hf jE hpx hq ez;simp only;unfold Bu;go_wp2_with fail;refine MP.mono ?_;rintro e w4 ⟨m,rfl,hm,KK,k4⟩;obtain⟨nD,tK,HMA⟩:=K3 (pO.keep k4) (ab k4 Cp.o id) KK;have SB:=Z (qX (H.keep nD.o) HL.o base Ur.1);clear k4 hm KK MP pO Cp;go_wp2_with fail;refine SB.mono ?_;rintro e w5 ⟨rfl,k5⟩;obtain⟨vf,HX6,Uu⟩:=K3 (nD.keep k5) (ab k5 tK.o id) (HMA.mod k5 id);clear k5 SB nD tK HMA;unfold o4;rw[awd yj.o]
     cases hfb:bB v.b.list base with
     |none=>
      have HM:Hid (gw v base target=.error 162):=Z (by unfold gw;rw[awf HG.o,HFX.o];simp only;rw[awf HBE.o,hfb]);clear hfb;simp only;go_wp2;go_ret3;exact⟨by rw[HM.o];rfl,by first|exact vf.o|exact vf.alloc _⟩
     |some y=>
      have HM:Hid (gw v base target=.ok (bV (dT v x) (dT v y),bV (dT v y) (dT v x))):=Z (by unfold gw;rw[awf HG.o,HFX.o];simp only;rw[awf HBE.o,hfb]);have hpy:=HP.o y (gL hfb);obtain⟨r,hr⟩:∃ r:Nat,y.plane=(r:Int):=⟨y.plane.toNat,J⟩
      have HR:Hid (r<8/\dT v y=v.b.planes.getD r []):=Z ⟨by omega,by unfold dT;rw[hr];rfl⟩;have pV:af w5 (w5.alloc (.cells #[.string ⟨y.name.toArray⟩,.int .i64 y.id,.int .i64 y.plane,.int .i64 y.table.root,.int .i64 y.table.size] 85)):=(ai.refl _ w5).alloc _;have yY:=Z (vf.keep pV);have DF:=L4 (Uu.mod pV id) r q HR.1 HQ.1;rw[<-hr,<-Hq.o]at DF;have DF:=Z DF;have aP:=ak HX6.o;have c2:(w5.alloc (.cells #[.string ⟨y.name.toArray⟩,.int .i64 y.id,.int .i64 y.plane,.int .i64 y.table.root,.int .i64 y.table.size] 85)).cell? ⟨w3.heap.size,2,none⟩=some (.int .i64 x.plane):=aa (ab pV HX6.o id) 2;have c2':w5.cell? ⟨w3.heap.size,2,none⟩=some (.int .i64 x.plane):=aa HX6.o 2;clear hfb pV hpy hr;simp only;unfold Bu;go_wp2_with fail;refine DF.mono ?_;rintro e w6 ⟨rfl,k6⟩;have sr:=Z (yY.keep k6);clear k6 DF c2 c2';go_wp2;go_ret3;exact⟨by rw[HM.o,HQ.2,HR.2];rfl,sr.o⟩
end
end Go.Proofs.YtkghpdcloaiflaaGreatDoor
