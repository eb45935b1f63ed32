import Derived.Test.YtkghpdcloaiflaaGreatDoorE38
import Derived.RangeFuncNested
set_option maxHeartbeats 4000000
set_option maxRecDepth 100000
namespace Go.Proofs.YtkghpdcloaiflaaGreatDoor
open _root_.Go.Proofs.Tryz
section
open Go.RowKit
attribute [local go_sem] auv
def dY:Sn:=⟨[],0,0,⟨0,0⟩⟩
def aK (l:List Sn)(name:az):Option Sn:=l.find? fun x=>x.name==name
theorem uC {l:List Sn}{name:az}(h:∀ j (x:Sn),j<l.length->l[j]?=some x->x.name≠name):aK l name=none:=by
 unfold aK;rw[avA];intro x hx;obtain⟨j,hj⟩:=avP hx;have:=h j x (auP.1 hj).1 hj;simpa using this
theorem uD {l:List Sn}{name:az}{k:Nat}{y:Sn}(h:∀ j (x:Sn),j<k->l[j]?=some x->x.name≠name)(hk:l[k]?=some y)(hy:y.name=name):aK l name=some y:=by
 unfold aK;rw[List.find?_eq_some_iff_getElem];obtain⟨CB,e⟩:=auP.1 hk;refine⟨by simp[hy],k,CB,e,fun j hj=>?_⟩;have:=h j l[j] hj (auB (by omega));simpa using this
theorem Y2 {w:World}{b:Nat}{t:TypeId}{c0 c1 c2 c3 c4:Value}(h:World.blk w b #[c0,c1,c2,c3,c4] t)(x0 x1 x2 x3 x4:Value):
  World.blk (((((w.setCell ⟨b,0,none⟩ x0).setCell ⟨b,1,none⟩ x1).setCell ⟨b,2,none⟩ x2).setCell ⟨b,3,none⟩ x3).setCell ⟨b,4,none⟩ x4) b #[x0,x1,x2,x3,x4] t/\ah (fun g=>g=b) w (((((w.setCell ⟨b,0,none⟩ x0).setCell ⟨b,1,none⟩ x1).setCell ⟨b,2,none⟩ x2).setCell ⟨b,3,none⟩ x3).setCell ⟨b,4,none⟩ x4):=
 ⟨ag (ag (ag (ag (ag h 0 x0) 1 x1) 2 x2) 3 x3) 4 x4,(((((ah.refl (fun g=>g=b) w).setCell (p:=⟨b,0,none⟩) (.inl rfl) x0).setCell (p:=⟨b,1,none⟩) (.inl rfl) x1).setCell (p:=⟨b,2,none⟩) (.inl rfl) x2).setCell (p:=⟨b,3,none⟩) (.inl rfl) x3).setCell (p:=⟨b,4,none⟩) (.inl rfl) x4⟩
theorem nP {w:World}{p:Nat}{v:Vs}{a:eF}(h:kg w p v a)(hl:v.b.list.length<=1000)(name:az):
  Calls prog 50 #[aq p,aC name] w fun e w'=>e=.returned (Bp ((aK v.b.list name).getD dY))/\af w w':=by
 obtain⟨b4,Kn⟩:∃ b4,w.heap.size=b4:=⟨_,rfl⟩
 have dE:af w (w.alloc (.cells #[.string ⟨#[]⟩,.int .i64 0,.int .i64 0,.int .i64 0,.int .i64 0] 85)):=(ah.refl _ w).alloc _;have nX:World.blk (w.alloc (.cells #[.string ⟨#[]⟩,.int .i64 0,.int .i64 0,.int .i64 0,.int .i64 0] 85)) b4 #[.string ⟨#[]⟩,.int .i64 0,.int .i64 0,.int .i64 0,.int .i64 0] 85:=by rw[<-Kn];exact aw _ _ _
 have SN:=hd0 (rf (h.keep dE) hl);have dO:=hd0 dE;have HZ0:=hd0 nX;have Hb4:=hd0 Kn;have E9:(v.b.list.length:Int)<=1000:=by omega
 have HLI:=hd0 hl;clear h dE nX;go_enter func50,ntmps50;go_wp2_with fail;refine SN.out.mono ?_;rintro e w1 ⟨x,rfl,ho,k1⟩;obtain⟨la,cap,rfl,hx⟩:=bZ eQ ho;have HX:=hd0 hx;have bU:=hd0 (dO.out.keep k1);have HZ1:=hd0 (ab k1 HZ0.out id)
 try rw[Kn]
 clear ho hx k1 SN dO HZ0 Kn;generalize hL:v.b.list=L at*;have HLL:=hd0 hL;clear hL;go_wp2_with fail
 go_loopw [10] (fun i wr=>∃ k:Nat,k<=L.length/\i=.int .i64 (k:Int)/\Hid (af w1 wr)/\Hid (∀ j (x:Sn),j<k->L[j]?=some x->x.name≠name)) (fun i _=>L.length-(intOf i).toNat)
 case atStart=>exact⟨0,by omega,rfl,hd0 (ah.refl _ _),hd0 (fun j x hj=>by omega)⟩
 case round=>
  obtain⟨k,hk,rfl,HK,HN⟩:=hrel;have hz:=ab HK.out HZ1.out id;have HZ:=hd0 hz;obtain⟨z0,z1,z2,z3,z4,f0,f1,f2,f3,f4⟩:=jo hz;clear hz;by_cases aL:k<L.length
  ·have dN:(k:Int)<(L.length:Int):=by omega
   obtain⟨y,hy⟩:∃ y,L[k]?=some y:=⟨_,auB aL⟩
   obtain⟨rb,o,rfl,hc⟩:=HX.out k y hy;have c0:wr.cell? ⟨rb,o+k*5,none⟩=some (.string ⟨y.name.toArray⟩):=by have h:=hc 0 _ rfl;rw[HK.out.cell (p:=⟨rb,o+k*5,none⟩) (ak h) id];exact h
   have c1:wr.cell? ⟨rb,o+k*5+1,none⟩=some (.int .i64 y.id):=by have h:=hc 1 _ rfl;rw[HK.out.cell (p:=⟨rb,o+k*5+1,none⟩) (ak h) id];exact h
   have c2:wr.cell? ⟨rb,o+k*5+2,none⟩=some (.int .i64 y.plane):=by have h:=hc 2 _ rfl;rw[HK.out.cell (p:=⟨rb,o+k*5+2,none⟩) (ak h) id];exact h
   have c3:wr.cell? ⟨rb,o+k*5+3,none⟩=some (.int .i64 y.table.root):=by have h:=hc 3 _ rfl;rw[HK.out.cell (p:=⟨rb,o+k*5+3,none⟩) (ak h) id];exact h
   have c4:wr.cell? ⟨rb,o+k*5+4,none⟩=some (.int .i64 y.table.size):=by have h:=hc 4 _ rfl;rw[HK.out.cell (p:=⟨rb,o+k*5+4,none⟩) (ak h) id];exact h
   have Ci:Hid (af w1 (wr.alloc (.cells #[.string ⟨y.name.toArray⟩,.int .i64 y.id,.int .i64 y.plane,.int .i64 y.table.root,.int .i64 y.table.size] 85))):=hd0 (HK.out.alloc _);have Hy:=hd0 hy;have oG:b4<wr.heap.size:=ai HZ.out;have hz':∀ o i,(wr.alloc o).cell? ⟨b4,i,none⟩=wr.cell? ⟨b4,i,none⟩:=fun o i=>((ah.refl (fun _=>False) wr).alloc o).cell (p:=⟨b4,i,none⟩) oG id;have hf':∀ o i,(wr.alloc o).frozen? ⟨b4,i,none⟩=false:=fun o i=>ae (ab ((ah.refl (fun _=>False) wr).alloc o) HZ.out id) _ rfl;by_cases hq:y.name=name
   ·have HF:Hid (aK L name=some y):=hd0 (uD HN.out hy hq);have Ow:(y.name==name)=true:=by simpa using hq
    clear hq hc hy;go_wp2_with fail;obtain⟨SR,hm⟩:=Y2 HZ.out (.string ⟨y.name.toArray⟩) (.int .i64 y.id) (.int .i64 y.plane) (.int .i64 y.table.root) (.int .i64 y.table.size);have hs:=ab ((ah.refl (fun _=>False) _).alloc (.cells #[.string ⟨y.name.toArray⟩,.int .i64 y.id,.int .i64 y.plane,.int .i64 y.table.root,.int .i64 y.table.size] 85)) SR id;have q0:=aa hs 0;have q1:=aa hs 1;have q2:=aa hs 2;have q3:=aa hs 3;have q4:=aa hs 4;simp only[List.getElem?_toArray,List.getElem?_cons_zero,List.getElem?_cons_succ]at q0 q1 q2 q3 q4;have CA:Hid (af w _):=hd0 (((bU.out.keep HK.out).new hm (by rw[Hb4.out];exact auE _)).alloc (.cells #[.string ⟨y.name.toArray⟩,.int .i64 y.id,.int .i64 y.plane,.int .i64 y.table.root,.int .i64 y.table.size] 85));exact au7 (v:=Bp y) (by simp[results,Tryz.results50,go_sem,q0,q1,q2,q3,q4]) rfl ⟨by rw[HLL.out,HF.out];rfl,CA.out⟩
   ·have Ow:(y.name==name)=false:=by simpa using hq
    have HN2:Hid (∀ j (x:Sn),j<k+1->L[j]?=some x->x.name≠name):=hd0 (fun j x hj hx=>by
     by_cases yo:j=k
     ·subst yo;rw[Hy.out]at hx;injection hx with hx;subst hx;exact hq
     ·exact HN.out j x (by omega) hx)
    clear hq hc hy;go_wp2_with fail;exact⟨⟨k+1,by omega,by go_num,Ci,HN2⟩,by simp[intOf];omega⟩
  ·obtain rfl:k=L.length:=by omega
   have HF:Hid (aK L name=none):=hd0 (uC HN.out);clear aL hk;go_wp2_with fail;obtain⟨hs,hm⟩:=Y2 HZ.out (.string ⟨#[]⟩) (.int .i64 0) (.int .i64 0) (.int .i64 0) (.int .i64 0);have q0:=aa hs 0;have q1:=aa hs 1;have q2:=aa hs 2;have q3:=aa hs 3;have q4:=aa hs 4;simp only[List.getElem?_toArray,List.getElem?_cons_zero,List.getElem?_cons_succ]at q0 q1 q2 q3 q4;have CA:Hid (af w _):=hd0 ((bU.out.keep HK.out).new hm (by rw[Hb4.out];exact auE _));exact au7 (v:=Bp dY) (by simp[results,Tryz.results50,go_sem,q0,q1,q2,q3,q4,dY]) rfl ⟨by rw[HLL.out,HF.out];rfl,CA.out⟩
end
section
open Go.RowKit Go.Shelf
attribute [local go_sem] auv
structure mo (B:Nat)(W W':World):Prop where
 size:W.heap.size<=W'.heap.size
 same:∀ k o,B<=k->W.heap[k]?=some o->o.isCells=true->W'.heap[k]?=some o
theorem mo.refl (B:Nat)(W:World):mo B W W:=⟨auE _,fun _ _ _ h _=>h⟩
theorem mo.trans {B:Nat}{X Y Z:World}(h:mo B X Y)(k:mo B Y Z):mo B X Z:=⟨aux h.size k.size,fun i o hB hi ho=>k.same i o hB (h.same i o hB hi ho) ho⟩
theorem mo.keep {B:Nat}{W W':World}(k:af W W'):mo B W W':=⟨k.size,fun i _o _ hi _=>(k.block i (auW.1 hi).1 id).trans hi⟩
theorem mo.put {B:Nat}(W:World)(l:Nat)(o o':Obj)(h:W.heap[l]?=some o)(ho:o.isCells=false):mo B W (W.putObj l o'):=
 ⟨by simp,fun k x _ hx hc=>(World.putObj_heap_other (fun e=>by subst e;rw[h]at hx;cases hx;rw[ho]at hc;cases hc)).trans hx⟩
theorem mo.cell {B:Nat}{W W':World}(h:mo B W W'){p:Addr}(hp:B<=p.block){x:Value}(hc:W.cell? p=some x):W'.cell? p=some x:=by
 obtain⟨o,ho,hi⟩:=cells_of_cell hc;have:=h.same p.block o hp ho hi;rw[World.cell?_of_block (this.trans ho.symm)];exact hc
theorem Rk {W W':World}(k:af W W'):W.grownBy W' none:=⟨k.os,k.tape,k.output,k.size,fun i hi _=>k.block i hi id⟩
theorem Na (n:Nat)(hn:1<=n)(l Bv B:Nat){p:Nat}{v:Vs}{a:eF}(J Jx:List Sn->World->Prop)(W:World)(hv:kg W p v a)(hl:v.b.list.length<=1000)(hB:B<=W.heap.size)(hBv:W.cell? ⟨Bv,0,none⟩=some (aq p))
  (hJ:AbidesFrom W.heap.size J)
  (hY:∀ pre x W,J pre W->pre.length<v.b.list.length->YieldAt Fence.wide (n-1) prog l #[Bp x] W fun e W'=>
   (e=.returned (.bool true)/\J (pre++[x]) W'/\mo B W W')\/(e=.returned (.bool false)/\Jx (pre++[x]) W')) (h0:J [] W):
  CallsIn Fence.wide n prog 183 #[.func (.yield l) #[] #[],.pointer (some ⟨Bv,0,none⟩)] W fun e W'=>(∃ v,e=.returned v)/\
   ((∃ ys,ys=v.b.list/\J ys W')\/(∃ pre,pre <+: v.b.list/\Jx pre W')):=by
 have SN:=hd0 (rf hv hl);have HY:=hd0 hY;have HJ:=hd0 hJ;have HB:=hd0 hB;have H0:=hd0 h0;have E9:(v.b.list.length:Int)<=1000:=by omega
 clear hY hJ hv h0;refine callsIn_of_wp func183 rfl trivial ?_ rfl;simp only[ntmps183,avU,auA,avK,Nat.reduceAdd,Nat.reduceSub,avV,avW,avX,avY,au9,avf]
 gi_wp2
 refine⟨trivial,(avd.2 SN.out).mono ?_⟩;rintro e W1 ⟨x,rfl,ho,k1⟩;have HO:=hd0 ho;obtain⟨la,cap,rfl,hx⟩:=bZ eQ ho;have HX:=hd0 hx;have HJ1:=hd0 (HJ.out [] W W1 none H0.out (Rk k1) (fun _ e=>by cases e));have bU:=hd0 k1;clear ho hx k1 SN hBv
 gi_wp2
 gi_loopw [8] (fun i wr=>∃ k:Nat,k<=v.b.list.length/\i=.int .i64 (k:Int)/\J (v.b.list.take k) wr/\mo B W1 wr) (fun i _=>v.b.list.length-(intOf i).toNat)
 case atStart=>exact⟨0,by omega,rfl,HJ1.out,mo.refl _ _⟩
 case round=>
  obtain⟨k,hk,rfl,hJk,hS⟩:=hrel;have HJk:=hd0 hJk;have HS:=hd0 hS;clear hJk hS;by_cases aL:k<v.b.list.length
  ·have dN:(k:Int)<(v.b.list.length:Int):=by omega
   obtain⟨y,hy⟩:∃ y,v.b.list[k]?=some y:=⟨_,auB aL⟩
   obtain⟨rb,o,rfl,hc⟩:=HX.out k y hy;have SZ:B<=rb:=by have:=(HO.out.lt rb rfl).1;have:=HB.out;omega
   have c0:wr.cell? ⟨rb,o+k*5,none⟩=some (.string ⟨y.name.toArray⟩):=HS.out.cell (p:=⟨rb,o+k*5,none⟩) SZ (hc 0 _ rfl);have c1:wr.cell? ⟨rb,o+k*5+1,none⟩=some (.int .i64 y.id):=HS.out.cell (p:=⟨rb,o+k*5+1,none⟩) SZ (hc 1 _ rfl);have c2:wr.cell? ⟨rb,o+k*5+2,none⟩=some (.int .i64 y.plane):=HS.out.cell (p:=⟨rb,o+k*5+2,none⟩) SZ (hc 2 _ rfl);have c3:wr.cell? ⟨rb,o+k*5+3,none⟩=some (.int .i64 y.table.root):=HS.out.cell (p:=⟨rb,o+k*5+3,none⟩) SZ (hc 3 _ rfl);have c4:wr.cell? ⟨rb,o+k*5+4,none⟩=some (.int .i64 y.table.size):=HS.out.cell (p:=⟨rb,o+k*5+4,none⟩) SZ (hc 4 _ rfl);have ro:af wr (wr.alloc (.cells #[.string ⟨y.name.toArray⟩,.int .i64 y.id,.int .i64 y.plane,.int .i64 y.table.root,.int .i64 y.table.size] 85)):=(ah.refl _ wr).alloc _;have hJa:=HJ.out _ wr _ none HJk.out (Rk ro) (fun _ e=>by cases e);have vt:(v.b.list.take k).length<v.b.list.length:=by rw[auH];omega
   obtain⟨fn,tmps,assign,body,hyy,hR⟩:=HY.out _ y _ hJa vt;have HSa:=hd0 (HS.out.trans (mo.keep (B:=B) ro));have Hts:Hid (v.b.list.take k++[y]=v.b.list.take (k+1)):=hd0 (by rw[auD,hy];rfl);clear hc hy hJa vt ro
   gi_wp2
   refine hR.mono ?_;rintro e W3 (⟨rfl,hJ3,dw⟩|⟨rfl,NC⟩)
   ·rw[Hts.out]at hJ3;have HJ3:=hd0 hJ3;have I8:=hd0 (HSa.out.trans dw);clear hJ3 dw hyy hR
    gi_wp2
    go_roundw
    case rel=>exact⟨k+1,by omega,by go_num,HJ3.out,I8.out⟩
    case measure=>simp[intOf];omega
   ·rw[Hts.out]at NC;have HJx:=hd0 NC;clear NC hyy hR
    gi_wp2
    refine au7 (results_none rfl _ _ _) rfl ?_;exact⟨⟨_,rfl⟩,.inr ⟨_,List.take_prefix _ _,HJx.out⟩⟩
  ·obtain nY:k=v.b.list.length:=by omega
   subst nY;have hJe:=HJk.out;rw[auF]at hJe
   gi_wp2
   go_end0;exact⟨⟨_,rfl⟩,.inl ⟨_,rfl,hJe⟩⟩
end
section
open Go.RowKit Go.Shelf
attribute [local go_sem] auv
theorem qd {β:Type}(b:Nat)(c:Array Value)(t:TypeId):Own (fun(_:β) W=>World.blk W b c t):=fun _ _ _ row hs hg cJ=>
 (hg.block b (ai hs) (fun e'=>by
  obtain⟨o,ho,hc⟩:=cJ b e'.symm;rw[show _=some (Obj.cells c t (0,0))from hs]at ho
  cases ho;cases hc)).trans hs
theorem Rl (n:Nat)(p:Nat)(w:World):
  CallsIn Fence.wide n prog 105 #[aq p] w fun e w'=>e=.returned (.func (.func 183) #[] #[.pointer (some ⟨w.heap.size,0,none⟩)])/\w'=w.alloc (.cells #[aq p] 32):=by
 refine callsIn_of_wp func105 rfl trivial ?_ rfl;simp only[ntmps105,avU,auA,avK,Nat.reduceAdd,Nat.reduceSub,avV,avW,avX,avY,au9,avf]
 gi_wp2
 go_ret;exact⟨rfl,rfl⟩
theorem EV (n:Nat)(hn:1<=n)(Bv:Nat){p:Nat}{v:Vs}{a:eF}(w:World)(hv:kg w p v a)(hl:v.b.list.length<=1000)(hb:Bv<w.heap.size)(hc:w.cell? ⟨Bv,0,none⟩=some (aq p)):
  SeqStopsK Fence.wide n prog 183 #[.pointer (some ⟨Bv,0,none⟩)] (fun x:Sn=>#[Bp x]) (mo w.heap.size) (fun ys=>ys=v.b.list) (fun pre=>pre <+: v.b.list) v.b.list.length w:=fun l J Jx W hW hJ _ hY h0=>
 Na n hn l Bv w.heap.size J Jx W (hv.keep (ah.ofBelow hW)) hl hW.size ((hW.cell (p:=⟨Bv,0,none⟩) hb).trans hc) hJ hY h0
structure qv (w:World)(name:az)(W:World):Prop where
 keep:af w W
 b3:World.blk W w.heap.size #[aC name] 9
 b4:World.blk W (w.heap.size+1) #[.string ⟨#[]⟩,.int .i64 0,.int .i64 0,.int .i64 0,.int .i64 0] 85
 b5:World.blk W (w.heap.size+1+1) #[.int .i64 0] 22
theorem qv.step {w W W':World}{name:az}(h:qv w name W)(k:af W W'):qv w name W':=⟨h.keep.keep k,ab k h.b3 id,ab k h.b4 id,ab k h.b5 id⟩
structure xY (w:World)(x:Sn)(er:Int)(W:World):Prop where
 keep:af w W
 b4:World.blk W (w.heap.size+1) #[.string ⟨x.name.toArray⟩,.int .i64 x.id,.int .i64 x.plane,.int .i64 x.table.root,.int .i64 x.table.size] 85
 b5:World.blk W (w.heap.size+1+1) #[.int .i64 er] 22
theorem qv.end {w W:World}{name:az}(h:qv w name W)(x:Sn)(er:Int):
  xY w x er ((((((W.setCell ⟨w.heap.size+1,0,none⟩ (.string ⟨x.name.toArray⟩)).setCell ⟨w.heap.size+1,1,none⟩ (.int .i64 x.id)).setCell ⟨w.heap.size+1,2,none⟩ (.int .i64 x.plane)).setCell ⟨w.heap.size+1,3,none⟩ (.int .i64 x.table.root)).setCell ⟨w.heap.size+1,4,none⟩ (.int .i64 x.table.size)).setCell ⟨w.heap.size+1+1,0,none⟩ (.int .i64 er))/\
  ah (fun g=>g=w.heap.size+1\/g=w.heap.size+1+1) W ((((((W.setCell ⟨w.heap.size+1,0,none⟩ (.string ⟨x.name.toArray⟩)).setCell ⟨w.heap.size+1,1,none⟩ (.int .i64 x.id)).setCell ⟨w.heap.size+1,2,none⟩ (.int .i64 x.plane)).setCell ⟨w.heap.size+1,3,none⟩ (.int .i64 x.table.root)).setCell ⟨w.heap.size+1,4,none⟩ (.int .i64 x.table.size)).setCell ⟨w.heap.size+1+1,0,none⟩ (.int .i64 er)):=by
 obtain⟨hs,hm⟩:=Y2 h.b4 (.string ⟨x.name.toArray⟩) (.int .i64 x.id) (.int .i64 x.plane) (.int .i64 x.table.root) (.int .i64 x.table.size);have h5:=ab hm h.b5 (by omega);have m1:ah (fun g=>g=w.heap.size+1\/g=w.heap.size+1+1) W _:=hm.mono fun _ _ h=>.inl h;have m2:=m1.setCell (p:=⟨w.heap.size+1+1,0,none⟩) (.inl (.inr rfl)) (.int .i64 er);exact⟨⟨h.keep.trans m2 (fun g hl hg=>by rcases hg with rfl|rfl<;>omega),bE hs ⟨w.heap.size+1+1,0,none⟩ (by show w.heap.size+1≠w.heap.size+1+1;omega) _,ag h5 0 _⟩,m2⟩
theorem xY.cells {w W:World}{x:Sn}{er:Int}(h:xY w x er W):W.cell? ⟨w.heap.size+1,0,none⟩=some (.string ⟨x.name.toArray⟩)/\W.cell? ⟨w.heap.size+1,1,none⟩=some (.int .i64 x.id)/\W.cell? ⟨w.heap.size+1,2,none⟩=some (.int .i64 x.plane)/\W.cell? ⟨w.heap.size+1,3,none⟩=some (.int .i64 x.table.root)/\W.cell? ⟨w.heap.size+1,4,none⟩=some (.int .i64 x.table.size)/\W.cell? ⟨w.heap.size+1+1,0,none⟩=some (.int .i64 er):=
 ⟨aa h.b4 0,aa h.b4 1,aa h.b4 2,aa h.b4 3,aa h.b4 4,aa h.b5 0⟩
theorem Rm {X Y:World}{row:Option Nat}(hg:X.grownBy Y row):ah (fun g=>row=some g) X Y:=⟨hg.os,hg.tape,hg.output,hg.size,fun k hk hn=>hg.block k hk (fun e=>hn e.symm)⟩
theorem qv.grown {w X Y:World}{name:az}{row:Option Nat}{B:Nat}(hB:w.heap.size<=B)(h:qv w name X)(hg:X.grownBy Y row)(hr:∀ r,row=some r->B<=r/\∃ o:Obj,X.heap[r]?=some o/\o.isCells=false):qv w name Y:=
 ⟨h.keep.trans (Rm hg) (fun g hl e=>by have:=(hr g e).1;omega),qd (β:=Unit) _ _ _ () X Y row h.b3 hg (fun r e=>(hr r e).2),qd (β:=Unit) _ _ _ () X Y row h.b4 hg (fun r e=>(hr r e).2),qd (β:=Unit) _ _ _ () X Y row h.b5 hg (fun r e=>(hr r e).2)⟩
theorem xY.grown {w X Y:World}{x:Sn}{er:Int}{row:Option Nat}{B:Nat}(hB:w.heap.size<=B)(h:xY w x er X)(hg:X.grownBy Y row)(hr:∀ r,row=some r->B<=r/\∃ o:Obj,X.heap[r]?=some o/\o.isCells=false):xY w x er Y:=
 ⟨h.keep.trans (Rm hg) (fun g hl e=>by have:=(hr g e).1;omega),qd (β:=Unit) _ _ _ () X Y row h.b4 hg (fun r e=>(hr r e).2),qd (β:=Unit) _ _ _ () X Y row h.b5 hg (fun r e=>(hr r e).2)⟩
def pA (l:List Sn)(name:az):Value:=if aG name=true then(match aK l name with|some x=>.tuple #[Bp x,.int .i64 0]|none=>.tuple #[Bp dY,.int .i64 162])else .tuple #[Bp dY,.int .i64 160]
theorem Nb (n:Nat)(hn:6<=n){w:World}{p:Nat}{v:Vs}{a:eF}(h:kg w p v a)(hl:v.b.list.length<=1000)(name:az)(KL:name.length<=140737488355328):
  CallsIn Fence.wide n prog 53 #[aq p,aC name] w fun e W'=>e=.returned (pA v.b.list name)/\af w W':=by
 have h1:1<=n:=by omega
 have k3:af w (((w.alloc (.cells #[aC name] 9)).alloc (.cells #[.string ⟨#[]⟩,.int .i64 0,.int .i64 0,.int .i64 0,.int .i64 0] 85)).alloc (.cells #[.int .i64 0] 22)):=(((ah.refl _ w).alloc _).alloc _).alloc _;have b3:World.blk (((w.alloc (.cells #[aC name] 9)).alloc (.cells #[.string ⟨#[]⟩,.int .i64 0,.int .i64 0,.int .i64 0,.int .i64 0] 85)).alloc (.cells #[.int .i64 0] 22)) w.heap.size #[aC name] 9:=aH (aH (aw _ _ _) _) _;have b4:World.blk (((w.alloc (.cells #[aC name] 9)).alloc (.cells #[.string ⟨#[]⟩,.int .i64 0,.int .i64 0,.int .i64 0,.int .i64 0] 85)).alloc (.cells #[.int .i64 0] 22)) (w.heap.size+1) #[.string ⟨#[]⟩,.int .i64 0,.int .i64 0,.int .i64 0,.int .i64 0] 85:=aH (ba (by simp) _ _) _;have b5:World.blk (((w.alloc (.cells #[aC name] 9)).alloc (.cells #[.string ⟨#[]⟩,.int .i64 0,.int .i64 0,.int .i64 0,.int .i64 0] 85)).alloc (.cells #[.int .i64 0] 22)) (w.heap.size+1+1) #[.int .i64 0] 22:=ba (by simp) _ _;have NK:=hd0 (pX name (((w.alloc (.cells #[aC name] 9)).alloc (.cells #[.string ⟨#[]⟩,.int .i64 0,.int .i64 0,.int .i64 0,.int .i64 0] 85)).alloc (.cells #[.int .i64 0] 22)) KL);have H:=hd0 h;have HK:=hd0 k3;have HB:=hd0 (qv.mk k3 b3 b4 b5);have HL:=hd0 hl;clear h k3 b3 b4 b5 KL hl HK;refine callsIn_of_wp_marks func53 rfl trivial ?_ rfl;simp only[ntmps53,avU,auA,avK,Nat.reduceAdd,Nat.reduceSub,avV,avW,avX,avY,au9,avf]
 gi_wp2
 refine⟨trivial,(avd.2 NK.out).mono ?_⟩;rintro e W1 ⟨rfl,k1⟩;have jp:=hd0 (HB.out.step k1);clear k1 NK HB
 cases cq:aG name with
 |false=>
  obtain⟨z0,z1,z2,z3,z4,f0,f1,f2,f3,f4⟩:=jo jp.out.b4;have y0:W1.cell? ⟨w.heap.size+1+1,0,none⟩=some (.int .i64 0):=aa jp.out.b5 0;have g0:=ae jp.out.b5 ⟨w.heap.size+1+1,0,none⟩ rfl
  gi_wp2
  have HE:=(jp.out.end dY 160).1;obtain⟨q0,q1,q2,q3,q4,q5⟩:=HE.cells;simp only[dY]at q0 q1 q2 q3 q4 q5;exact⟨.tuple #[Bp dY,.int .i64 160],by simp[results,Tryz.results53,go_sem,q0,q1,q2,q3,q4,q5,dY],by unfold pA;rw[cq];rfl,HE.keep⟩
 |true=>
  have A:=hd0 (Rl (n-1) p W1);have iM:Below W1.heap.size W1 (W1.alloc (.cells #[aq p] 32)):=(Below.refl _ W1).alloc (auE _) _;have kA:af W1 (W1.alloc (.cells #[aq p] 32)):=(ah.refl _ W1).alloc _;have Oz:=H.out.keep (jp.out.keep.keep kA);have cK:(W1.alloc (.cells #[aq p] 32)).heap.size=W1.heap.size+1:=by simp
  have dg:=EV (n-1) (by omega) W1.heap.size _ Oz HL.out (by rw[cK];omega) (aa (aw W1 #[aq p] 32) 0);have HBA:=jp.out.step kA
  gi_wp2
  refine⟨trivial,A.out.mono ?_⟩;rintro e W2 ⟨rfl,rfl⟩
  gi_wp2
  have h5w:w.heap.size+1+1<W1.heap.size:=ai jp.out.b5;refine wpIn_rangeFunc_ownH rfl h1 (gf:=183) (lb:=#[.pointer (some ⟨W1.heap.size,0,none⟩)]) rfl trivial (enters_of func183 (by kernel_rfl) rfl)
   dg mo.trans (fun W l o o' _ h ho _=>mo.put W l o o' h ho) (Below.refl _ _) (fun _=>rfl)
   (fun(pre:List Sn) W=>qv w name W/\∀ x∈pre,x.name≠name)
   (fun c (pre:List Sn) W=>c=.ret/\∃ Oi y,pre=Oi++[y]/\(∀ x∈Oi,x.name≠name)/\y.name=name/\xY w y 0 W)
   ?hI ?hIx ⟨HBA,fun x hx=>(by cases hx)⟩
   (fun(x:Sn) a' W=>∃ Bx,w.heap.size+1+1<Bx/\World.blk W Bx #[.string ⟨x.name.toArray⟩,.int .i64 x.id,.int .i64 x.plane,.int .i64 x.table.root,.int .i64 x.table.size] 85/\∃ t13,a'={ tmps:=#[aq p,aC name,undef,.pointer (some ⟨w.heap.size,0,none⟩),.pointer (some ⟨w.heap.size+1,0,none⟩),.pointer (some ⟨w.heap.size+1+1,0,none⟩),.pointer (some ⟨Bx,0,none⟩),aC name,.bool true,.bool false,undef,aq p,.func (.func 183) #[] #[.pointer (some ⟨W1.heap.size,0,none⟩)],t13,undef,undef,undef,undef,undef,undef],defers:=[] })
   ?hAx ?assign ?body ?done ?stop
  case hI=>exact fun pre X Y row hs hg hr=>⟨hs.1.grown (by rw[cK];omega) hg hr,hs.2⟩
  case hIx=>
   rintro c pre X Y row ⟨hc,Oi,y,h1,h2,h3,hE⟩ hg hr;exact⟨hc,Oi,y,h1,h2,h3,hE.grown (by rw[cK];omega) hg hr⟩
  case hAx=>
   rintro x a' _ X Y row ⟨Bx,h1,h2,h3⟩ hg hr;exact⟨Bx,h1,qd (β:=Unit) _ _ _ () X Y row h2 hg (fun r e=>(hr r e).2),h3⟩
  case assign=>
   rintro l pre x W K ⟨hB,hN⟩ hK;have k1:af W (W.alloc (.cells #[.string ⟨x.name.toArray⟩,.int .i64 x.id,.int .i64 x.plane,.int .i64 x.table.root,.int .i64 x.table.size] 85)):=(ah.refl _ W).alloc _
   gi_wp2
   exact hK _ _ ((KeepsOthers.alloc _ _).from _) (mo.keep k1) ⟨hB.step k1,hN⟩ ⟨W.heap.size,ai hB.b5,aw _ _ _,_,rfl⟩
  case body=>
   rintro l pre x a' W hl ⟨r,hr⟩ ⟨hB,hN⟩ ⟨Bx,hBx,bX,t13,rfl⟩ aL;have HBx:=hd0 hB;have c0:W.cell? ⟨Bx,0,none⟩=some (.string ⟨x.name.toArray⟩):=aa bX 0;have c1:W.cell? ⟨Bx,1,none⟩=some (.int .i64 x.id):=aa bX 1;have c2:W.cell? ⟨Bx,2,none⟩=some (.int .i64 x.plane):=aa bX 2;have c3:W.cell? ⟨Bx,3,none⟩=some (.int .i64 x.table.root):=aa bX 3;have c4:W.cell? ⟨Bx,4,none⟩=some (.int .i64 x.table.size):=aa bX 4;have s0:W.cell? ⟨w.heap.size,0,none⟩=some (.string ⟨name.toArray⟩):=aa hB.b3 0;obtain⟨z0,z1,z2,z3,z4,f0,f1,f2,f3,f4⟩:=jo hB.b4;have y0:W.cell? ⟨w.heap.size+1+1,0,none⟩=some (.int .i64 0):=aa hB.b5 0;have g0:=ae hB.b5 ⟨w.heap.size+1+1,0,none⟩ rfl;have HBX:=hd0 bX;clear bX hB hr;by_cases hq:x.name=name
   ·have Ow:(x.name==name)=true:=by simpa using hq
    have hE:=HBx.out.end x 0;have HE:=hd0 hE;have Hq:=hd0 hq;clear hq hE
    gi_wp2
    have hm:=HE.out.2;refine⟨⟨hm.size,fun k o hk ho hc=>(hm.block k (auW.1 ho).1 (fun e=>by rw[cK]at hk;omega)).trans ho⟩,rfl,pre,x,rfl,hN,Hq.out,HE.out.1⟩
   ·have Ow:(x.name==name)=false:=by simpa using hq
    have HN2:Hid (∀ y∈pre++[x],y.name≠name):=hd0 (fun y hy=>by
     rw[avE]at hy;rcases hy with hy|hy
     ·exact hN y hy
     ·simp at hy;subst hy;exact hq)
    clear hq hN
    gi_wp2
    exact⟨KeepsFrom.refl _ _,mo.refl _ _,HBx.out,HN2.out⟩
  case done=>
   rintro D ys W hD rfl ⟨hB,hN⟩ hK;have HF:Hid (aK v.b.list name=none):=hd0 (uC (fun j x _ hx=>hN x (auC hx)));obtain⟨z0,z1,z2,z3,z4,f0,f1,f2,f3,f4⟩:=jo hB.b4;have y0:W.cell? ⟨w.heap.size+1+1,0,none⟩=some (.int .i64 0):=aa hB.b5 0;have g0:=ae hB.b5 ⟨w.heap.size+1+1,0,none⟩ rfl;have hE:=hB.end dY 162;have hKD:=(hE.2.block D (auW.1 hK).1 (fun e=>by rw[cK]at hD;omega)).trans hK;have HE:=hd0 hE.1;have HKD:=hd0 hKD;clear hE hKD hB
   gi_wp2
   refine⟨by simp,.inl ⟨_,_,rfl,run_takeDeferred HKD.out,?_⟩⟩;have We:=HE.out.grown (B:=W1.heap.size) (by omega) (grownBy_putObj' _ D (.deferred none)) (fun r e=>by cases e;exact⟨by rw[cK]at hD;omega,_,HKD.out,rfl⟩);obtain⟨q0,q1,q2,q3,q4,q5⟩:=We.cells;simp only[dY]at q0 q1 q2 q3 q4 q5;exact⟨.tuple #[Bp dY,.int .i64 162],by simp[results,Tryz.results53,go_sem,q0,q1,q2,q3,q4,q5,dY],by unfold pA;rw[cq,HF.out];rfl,We.keep⟩
  case stop=>
   rintro D c pre W hD uT ⟨rfl,Oi,y,rfl,hN,hy,hE⟩ hK;have HF:Hid (aK v.b.list name=some y):=hd0 (by
    obtain⟨t,ht⟩:=uT;refine uD (k:=Oi.length) (fun j x hj hx=>?_) (by rw[<-ht];simp) hy;rw[<-ht,avi,List.getElem?_append_left hj]at hx;exact hN x (auC hx))
   have HE:=hd0 hE;clear hE
   gi_wp2
   refine⟨by simp,.inl ⟨_,_,rfl,run_takeDeferred hK,?_⟩⟩;have We:=HE.out.grown (B:=W1.heap.size) (by omega) (grownBy_putObj' _ D (.deferred none)) (fun r e=>by cases e;exact⟨by rw[cK]at hD;omega,_,hK,rfl⟩);obtain⟨q0,q1,q2,q3,q4,q5⟩:=We.cells;exact⟨.tuple #[Bp y,.int .i64 0],by simp[results,Tryz.results53,go_sem,q0,q1,q2,q3,q4,q5],by unfold pA;rw[cq,HF.out];rfl,We.keep⟩
theorem rg {w:World}{p:Nat}{v:Vs}{a:eF}(h:kg w p v a)(hl:v.b.list.length<=1000)(name:az)(KL:name.length<=140737488355328):
  Calls prog 53 #[aq p,aC name] w fun e W'=>e=.returned (pA v.b.list name)/\af w W':=avd.1 (Nb 6 (by omega) h hl name KL)
end
section
open Go.RowKit
attribute [local go_sem] auv
def co (v:Vs)(x:Sn):az:=v.b.planes.getD x.plane.toNat []
def cX (v:Vs)(base target:az):Except Int (az×az):=
 if aG target=false\/(base≠[]/\aG base=false)then .error 160 else
 match aK v.b.list target with
 |none=>.error 162
 |some x=>if base=[]then .ok (co v x,[])else
  match aK v.b.list base with
  |none=>.error 162
  |some y=>.ok (bQ (co v x) (co v y),bQ (co v y) (co v x))
def Rn:Except Int (az×az)->Value
 | .error e=>.tuple #[.string ⟨#[]⟩,.string ⟨#[]⟩,.int .i64 e]
 | .ok (a,b)=>.tuple #[aC a,aC b,.int .i64 0]
theorem da {l:List Sn}{s:az}{x:Sn}(h:aK l s=some x):x∈l:=avy h
theorem Nc {w:World}{p:Nat}{v:Vs}{a:eF}(h:kg w p v a)(hl:v.b.list.length<=1000)(hp:∀ x∈v.b.list,1<=x.plane/\x.plane<=7)(base target:az)(hb:base.length<=140737488355328)(ht:target.length<=140737488355328):
  Calls prog 16 #[aq p,aC base,aC target] w fun e w'=>e=.returned (Rn (cX v base target))/\af w w':=by
 have NT:=hd0 (pX target w ht);have H:=hd0 h;have HL:=hd0 hl;have HP:=hd0 hp;have Oc:=hd0 (And.intro hb ht);clear h hl hp hb ht;go_enter func16,ntmps16;go_wp2_with fail;refine NT.out.mono ?_;rintro e w1 ⟨rfl,k1⟩;have bU:=hd0 k1;have NB:=hd0 (pX base w1 Oc.out.1);clear k1 NT;obtain⟨bad,aen⟩:∃ bad:Bool,decide (aG target=false\/(base≠[]/\aG base=false))=bad:=⟨_,rfl⟩
 have asj:=hd0 aen;clear aen
 cases cq:aG target with
 |false=>
  have HM:Hid (cX v base target=.error 160):=hd0 (by unfold cX;rw[auI (.inl cq)]);go_wp2;go_ret3;exact⟨by rw[HM.out];rfl,bU.out⟩
 |true=>
  have OJ:=hd0 cq;clear cq;by_cases he:base=[]
  ·have HE:=hd0 he;subst he;have SN:=hd0 (rg (H.out.keep bU.out) HL.out target Oc.out.2);go_wp2_with fail;refine SN.out.mono ?_;rintro e w2 ⟨rfl,k2⟩;have bu:=hd0 (bU.out.keep k2);clear k2 SN;unfold pA;rw[auI OJ.out]
   cases hf:aK v.b.list target with
   |none=>
    have HM:Hid (cX v [] target=.error 162):=hd0 (by unfold cX;rw[auK (by rw[OJ.out];simp),hf]);clear hf;simp only;go_wp2;go_ret3;exact⟨by rw[HM.out];rfl,by first|exact bu.out|exact bu.out.alloc _⟩
   |some x=>
    have HM:Hid (cX v [] target=.ok (co v x,[])):=hd0 (by unfold cX;rw[auK (by rw[OJ.out];simp),hf];rfl);have FW:=HP.out x (da hf);obtain⟨q,hq⟩:∃ q:Nat,x.plane=(q:Int):=⟨x.plane.toNat,by omega⟩
    have HQ:Hid (q<8/\co v x=v.b.planes.getD q []):=hd0 ⟨by omega,by unfold co;rw[hq];rfl⟩;have dw:af w2 (w2.alloc (.cells #[.string ⟨x.name.toArray⟩,.int .i64 x.id,.int .i64 x.plane,.int .i64 x.table.root,.int .i64 x.table.size] 85)):=(ah.refl _ w2).alloc _;have dZ:=hd0 (bu.out.keep dw);have MP:=hd0 (xX (H.out.keep dZ.out));have qw:Hid (World.blk (w2.alloc (.cells #[.string ⟨x.name.toArray⟩,.int .i64 x.id,.int .i64 x.plane,.int .i64 x.table.root,.int .i64 x.table.size] 85)) w2.heap.size #[.string ⟨x.name.toArray⟩,.int .i64 x.id,.int .i64 x.plane,.int .i64 x.table.root,.int .i64 x.table.size] 85):=hd0 (aw _ _ _);have Hq:=hd0 hq;clear hf dw FW hq;simp only;unfold Bp;go_wp2_with fail;refine MP.out.mono ?_;rintro e w3 ⟨m,rfl,hm,KS,k3⟩;have ou:=hd0 (dZ.out.keep k3);have XD:=ab k3 qw.out id;have c2:w3.cell? ⟨w2.heap.size,2,none⟩=some (.int .i64 x.plane):=aa XD 2;rw[Hq.out]at c2;have PL:=hd0 (xc KS q HQ.out.1);clear k3 XD hm KS MP;go_wp2_with fail;refine PL.out.mono ?_;rintro e w4 ⟨rfl,k4⟩;have lZ:=hd0 (ou.out.keep k4);clear k4 PL c2;go_wp2;go_ret3;exact⟨by rw[HM.out,HQ.out.2];rfl,lZ.out⟩
  ·have heb:(base==[])=false:=by simpa using he
   have apo:(base != [])=true:=by simpa using he
   cases ip:aG base with
   |false=>
    have HM:Hid (cX v base target=.error 160):=hd0 (by unfold cX;rw[auI (.inr ⟨he,ip⟩)]);rw[ip]at NB;go_wp2_with fail;refine NB.out.mono ?_;rintro e w2 ⟨rfl,k2⟩;have bu:=hd0 (bU.out.keep k2);clear k2;go_wp2;go_ret3;exact⟨by rw[HM.out];rfl,bu.out⟩
   |true=>
    rw[ip]at NB;have HG:Hid (¬(aG target=false\/(base≠[]/\aG base=false))):=hd0 (by rw[OJ.out,ip];simp);have HBE:=hd0 he;have yz:=hd0 ip;clear he ip;go_wp2_with fail;refine NB.out.mono ?_;rintro e w2 ⟨rfl,k2⟩;have bu:=hd0 (bU.out.keep k2);have SN:=hd0 (rg (H.out.keep bu.out) HL.out target Oc.out.2);clear k2 NB bU;go_wp2_with fail;refine SN.out.mono ?_;rintro e w3 ⟨rfl,k3⟩;have dZ:=hd0 (bu.out.keep k3);clear k3 SN bu;unfold pA;rw[auI OJ.out]
    cases hf:aK v.b.list target with
    |none=>
     have HM:Hid (cX v base target=.error 162):=hd0 (by unfold cX;rw[auK HG.out,hf]);clear hf;simp only;go_wp2;go_ret3;exact⟨by rw[HM.out];rfl,by first|exact dZ.out|exact dZ.out.alloc _⟩
    |some x=>
     have HFX:=hd0 hf;have FW:=HP.out x (da hf);obtain⟨q,hq⟩:∃ q:Nat,x.plane=(q:Int):=⟨x.plane.toNat,by omega⟩
     have HQ:Hid (q<8/\co v x=v.b.planes.getD q []):=hd0 ⟨by omega,by unfold co;rw[hq];rfl⟩;have Hq:=hd0 hq;have iT:af w3 (w3.alloc (.cells #[.string ⟨x.name.toArray⟩,.int .i64 x.id,.int .i64 x.plane,.int .i64 x.table.root,.int .i64 x.table.size] 85)):=(ah.refl _ w3).alloc _;have ou:=hd0 (dZ.out.keep iT);have MP:=hd0 (xX (H.out.keep ou.out));have B3:Hid (World.blk (w3.alloc (.cells #[.string ⟨x.name.toArray⟩,.int .i64 x.id,.int .i64 x.plane,.int .i64 x.table.root,.int .i64 x.table.size] 85)) w3.heap.size #[.string ⟨x.name.toArray⟩,.int .i64 x.id,.int .i64 x.plane,.int .i64 x.table.root,.int .i64 x.table.size] 85):=hd0 (aw _ _ _);clear hf iT FW hq dZ;simp only;unfold Bp;go_wp2_with fail;refine MP.out.mono ?_;rintro e w4 ⟨m,rfl,hm,KS,k4⟩;have lZ:=hd0 (ou.out.keep k4);have uP:=hd0 (ab k4 B3.out id);have HMA:=hd0 KS;have SB:=hd0 (rg (H.out.keep lZ.out) HL.out base Oc.out.1);clear k4 hm KS MP ou B3;go_wp2_with fail;refine SB.out.mono ?_;rintro e w5 ⟨rfl,k5⟩;have rz:=hd0 (lZ.out.keep k5);have HX6:=hd0 (ab k5 uP.out id);have OE:=hd0 (HMA.out.mod k5 id);clear k5 SB lZ uP HMA;unfold pA;rw[auI yz.out]
     cases hfb:aK v.b.list base with
     |none=>
      have HM:Hid (cX v base target=.error 162):=hd0 (by unfold cX;rw[auK HG.out,HFX.out];simp only;rw[auK HBE.out,hfb]);clear hfb;simp only;go_wp2;go_ret3;exact⟨by rw[HM.out];rfl,by first|exact rz.out|exact rz.out.alloc _⟩
     |some y=>
      have HM:Hid (cX v base target=.ok (bQ (co v x) (co v y),bQ (co v y) (co v x))):=hd0 (by unfold cX;rw[auK HG.out,HFX.out];simp only;rw[auK HBE.out,hfb]);have hpy:=HP.out y (da hfb);obtain⟨r,hr⟩:∃ r:Nat,y.plane=(r:Int):=⟨y.plane.toNat,by omega⟩
      have HR:Hid (r<8/\co v y=v.b.planes.getD r []):=hd0 ⟨by omega,by unfold co;rw[hr];rfl⟩;have rC:af w5 (w5.alloc (.cells #[.string ⟨y.name.toArray⟩,.int .i64 y.id,.int .i64 y.plane,.int .i64 y.table.root,.int .i64 y.table.size] 85)):=(ah.refl _ w5).alloc _;have yR:=hd0 (rz.out.keep rC);have DF:=LT (OE.out.mod rC id) r q HR.out.1 HQ.out.1;rw[<-hr,<-Hq.out]at DF;have DF:=hd0 DF;have aL:=ai HX6.out;have c2:(w5.alloc (.cells #[.string ⟨y.name.toArray⟩,.int .i64 y.id,.int .i64 y.plane,.int .i64 y.table.root,.int .i64 y.table.size] 85)).cell? ⟨w3.heap.size,2,none⟩=some (.int .i64 x.plane):=aa (ab rC HX6.out id) 2;have c2':w5.cell? ⟨w3.heap.size,2,none⟩=some (.int .i64 x.plane):=aa HX6.out 2;clear hfb rC hpy hr;simp only;unfold Bp;go_wp2_with fail;refine DF.out.mono ?_;rintro e w6 ⟨rfl,k6⟩;have ql:=hd0 (yR.out.keep k6);clear k6 DF c2 c2';go_wp2;go_ret3;exact⟨by rw[HM.out,HQ.out.2,HR.out.2];rfl,ql.out⟩
end
end Go.Proofs.YtkghpdcloaiflaaGreatDoor
