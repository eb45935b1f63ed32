import Derived.Test.YtkghpdcloaiflaaGreatDoorC38
import Derived.RangeFuncNested
set_option maxHeartbeats 4000000
set_option maxRecDepth 100000
namespace Go.Proofs.YtkghpdcloaiflaaGreatDoor
open _root_.Go.Proofs.Tryz
section
open Go.RowKit
attribute [local go_sem] atC
def fi:Sn:=⟨[],0,0,⟨0,0⟩⟩
def bf (l:List Sn)(name:ay):Option Sn:=l.find? fun x=>x.name==name
theorem uf {l:List Sn}{name:ay}(h:∀ j (x:Sn),j<l.length->l[j]?=some x->x.name≠name):bf l name=none:=by
 unfold bf;rw[auL];intro x hx;obtain⟨j,hj⟩:=au0 hx;have:=h j x (atX.1 hj).1 hj;simpa using this
theorem ug {l:List Sn}{name:ay}{k:Nat}{y:Sn}(h:∀ j (x:Sn),j<k->l[j]?=some x->x.name≠name)(hk:l[k]?=some y)(hy:y.name=name):bf l name=some y:=by
 unfold bf;rw[List.find?_eq_some_iff_getElem];obtain⟨BZ,e⟩:=atX.1 hk;refine⟨by simp[hy],k,BZ,e,fun j hj=>?_⟩;have:=h j l[j] hj (atI (by omega));simpa using this
theorem Yx {w:World}{b:Nat}{t:TypeId}{c0 c1 c2 c3 c4:Value}(h:World.blk w b #[c0,c1,c2,c3,c4] t)(x0 x1 x2 x3 x4:Value):
  World.blk (((((w.setCell ⟨b,0,none⟩ x0).setCell ⟨b,1,none⟩ x1).setCell ⟨b,2,none⟩ x2).setCell ⟨b,3,none⟩ x3).setCell ⟨b,4,none⟩ x4) b #[x0,x1,x2,x3,x4] t/\ah (fun g=>g=b) w (((((w.setCell ⟨b,0,none⟩ x0).setCell ⟨b,1,none⟩ x1).setCell ⟨b,2,none⟩ x2).setCell ⟨b,3,none⟩ x3).setCell ⟨b,4,none⟩ x4):=
 ⟨ag (ag (ag (ag (ag h 0 x0) 1 x1) 2 x2) 3 x3) 4 x4,(((((ah.refl (fun g=>g=b) w).setCell (p:=⟨b,0,none⟩) (.inl rfl) x0).setCell (p:=⟨b,1,none⟩) (.inl rfl) x1).setCell (p:=⟨b,2,none⟩) (.inl rfl) x2).setCell (p:=⟨b,3,none⟩) (.inl rfl) x3).setCell (p:=⟨b,4,none⟩) (.inl rfl) x4⟩
theorem qM {w:World}{p:Nat}{v:Vs}{a:eX}(h:ls w p v a)(hl:v.b.list.length<=1000)(name:ay):
  Calls prog 50 #[aq p,aB name] w fun e w'=>e=.returned (A4 ((bf v.b.list name).getD fi))/\af w w':=by
 obtain⟨b4,J9⟩:∃ b4,w.heap.size=b4:=⟨_,rfl⟩
 have dA:af w (w.alloc (.cells #[.string ⟨#[]⟩,.int .i64 0,.int .i64 0,.int .i64 0,.int .i64 0] 85)):=(ah.refl _ w).alloc _;have nD:World.blk (w.alloc (.cells #[.string ⟨#[]⟩,.int .i64 0,.int .i64 0,.int .i64 0,.int .i64 0] 85)) b4 #[.string ⟨#[]⟩,.int .i64 0,.int .i64 0,.int .i64 0,.int .i64 0] 85:=by rw[<-J9];exact aw _ _ _
 have SN:=hd0 (xF (h.keep dA) hl);have dN:=hd0 dA;have HZ0:=hd0 nD;have Hb4:=hd0 J9;have Fw:(v.b.list.length:Int)<=1000:=by omega
 have HLI:=hd0 hl;clear h dA nD;go_enter func50,ntmps50;go_wp2_with fail;refine SN.out.mono ?_;rintro e w1 ⟨x,rfl,ho,k1⟩;obtain⟨la,cap,rfl,hx⟩:=cf eV ho;have HX:=hd0 hx;have bU:=hd0 (dN.out.keep k1);have HZ1:=hd0 (ab k1 HZ0.out id)
 try rw[J9]
 clear ho hx k1 SN dN HZ0 J9;generalize hL:v.b.list=L at*;have HLL:=hd0 hL;clear hL;go_wp2_with fail
 go_loopw [10] (fun i wr=>∃ k:Nat,k<=L.length/\i=.int .i64 (k:Int)/\Hid (af w1 wr)/\Hid (∀ j (x:Sn),j<k->L[j]?=some x->x.name≠name)) (fun i _=>L.length-(intOf i).toNat)
 case atStart=>exact⟨0,by omega,rfl,hd0 (ah.refl _ _),hd0 (fun j x hj=>by omega)⟩
 case round=>
  obtain⟨k,hk,rfl,HK,HN⟩:=hrel;have hz:=ab HK.out HZ1.out id;have HZ:=hd0 hz;obtain⟨z0,z1,z2,z3,z4,f0,f1,f2,f3,f4⟩:=jb hz;clear hz;by_cases aM:k<L.length
  ·have dS:(k:Int)<(L.length:Int):=by omega
   obtain⟨y,hy⟩:∃ y,L[k]?=some y:=⟨_,atI aM⟩
   obtain⟨rb,o,rfl,hc⟩:=HX.out k y hy;have c0:wr.cell? ⟨rb,o+k*5,none⟩=some (.string ⟨y.name.toArray⟩):=by have h:=hc 0 _ rfl;rw[HK.out.cell (p:=⟨rb,o+k*5,none⟩) (am h) id];exact h
   have c1:wr.cell? ⟨rb,o+k*5+1,none⟩=some (.int .i64 y.id):=by have h:=hc 1 _ rfl;rw[HK.out.cell (p:=⟨rb,o+k*5+1,none⟩) (am h) id];exact h
   have c2:wr.cell? ⟨rb,o+k*5+2,none⟩=some (.int .i64 y.plane):=by have h:=hc 2 _ rfl;rw[HK.out.cell (p:=⟨rb,o+k*5+2,none⟩) (am h) id];exact h
   have c3:wr.cell? ⟨rb,o+k*5+3,none⟩=some (.int .i64 y.table.root):=by have h:=hc 3 _ rfl;rw[HK.out.cell (p:=⟨rb,o+k*5+3,none⟩) (am h) id];exact h
   have c4:wr.cell? ⟨rb,o+k*5+4,none⟩=some (.int .i64 y.table.size):=by have h:=hc 4 _ rfl;rw[HK.out.cell (p:=⟨rb,o+k*5+4,none⟩) (am h) id];exact h
   have BB:Hid (af w1 (wr.alloc (.cells #[.string ⟨y.name.toArray⟩,.int .i64 y.id,.int .i64 y.plane,.int .i64 y.table.root,.int .i64 y.table.size] 85))):=hd0 (HK.out.alloc _);have Hy:=hd0 hy;have qZ:b4<wr.heap.size:=ai HZ.out;have hz':∀ o i,(wr.alloc o).cell? ⟨b4,i,none⟩=wr.cell? ⟨b4,i,none⟩:=fun o i=>((ah.refl (fun _=>False) wr).alloc o).cell (p:=⟨b4,i,none⟩) qZ id;have hf':∀ o i,(wr.alloc o).frozen? ⟨b4,i,none⟩=false:=fun o i=>ae (ab ((ah.refl (fun _=>False) wr).alloc o) HZ.out id) _ rfl;by_cases hq:y.name=name
   ·have HF:Hid (bf L name=some y):=hd0 (ug HN.out hy hq);have Oq:(y.name==name)=true:=by simpa using hq
    clear hq hc hy;go_wp2_with fail;obtain⟨RG,hm⟩:=Yx HZ.out (.string ⟨y.name.toArray⟩) (.int .i64 y.id) (.int .i64 y.plane) (.int .i64 y.table.root) (.int .i64 y.table.size);have hs:=ab ((ah.refl (fun _=>False) _).alloc (.cells #[.string ⟨y.name.toArray⟩,.int .i64 y.id,.int .i64 y.plane,.int .i64 y.table.root,.int .i64 y.table.size] 85)) RG id;have q0:=aa hs 0;have q1:=aa hs 1;have q2:=aa hs 2;have q3:=aa hs 3;have q4:=aa hs 4;simp only[List.getElem?_toArray,List.getElem?_cons_zero,List.getElem?_cons_succ]at q0 q1 q2 q3 q4;have BR:Hid (af w _):=hd0 (((bU.out.keep HK.out).new hm (by rw[Hb4.out];exact atL _)).alloc (.cells #[.string ⟨y.name.toArray⟩,.int .i64 y.id,.int .i64 y.plane,.int .i64 y.table.root,.int .i64 y.table.size] 85));exact auj (v:=A4 y) (by simp[results,Tryz.results50,go_sem,q0,q1,q2,q3,q4]) rfl ⟨by rw[HLL.out,HF.out];rfl,BR.out⟩
   ·have Oq:(y.name==name)=false:=by simpa using hq
    have HN2:Hid (∀ j (x:Sn),j<k+1->L[j]?=some x->x.name≠name):=hd0 (fun j x hj hx=>by
     by_cases yc:j=k
     ·subst yc;rw[Hy.out]at hx;injection hx with hx;subst hx;exact hq
     ·exact HN.out j x (by omega) hx)
    clear hq hc hy;go_wp2_with fail;exact⟨⟨k+1,by omega,by go_num,BB,HN2⟩,by simp[intOf];omega⟩
  ·obtain rfl:k=L.length:=by omega
   have HF:Hid (bf L name=none):=hd0 (uf HN.out);clear aM hk;go_wp2_with fail;obtain⟨hs,hm⟩:=Yx HZ.out (.string ⟨#[]⟩) (.int .i64 0) (.int .i64 0) (.int .i64 0) (.int .i64 0);have q0:=aa hs 0;have q1:=aa hs 1;have q2:=aa hs 2;have q3:=aa hs 3;have q4:=aa hs 4;simp only[List.getElem?_toArray,List.getElem?_cons_zero,List.getElem?_cons_succ]at q0 q1 q2 q3 q4;have BR:Hid (af w _):=hd0 ((bU.out.keep HK.out).new hm (by rw[Hb4.out];exact atL _));exact auj (v:=A4 fi) (by simp[results,Tryz.results50,go_sem,q0,q1,q2,q3,q4,fi]) rfl ⟨by rw[HLL.out,HF.out];rfl,BR.out⟩
end
section
open Go.RowKit Go.Shelf
attribute [local go_sem] atC
structure me (B:Nat)(W W':World):Prop where
 size:W.heap.size<=W'.heap.size
 same:∀ k o,B<=k->W.heap[k]?=some o->o.isCells=true->W'.heap[k]?=some o
theorem me.refl (B:Nat)(W:World):me B W W:=⟨atL _,fun _ _ _ h _=>h⟩
theorem me.trans {B:Nat}{X Y Z:World}(h:me B X Y)(k:me B Y Z):me B X Z:=⟨atE h.size k.size,fun i o hB hi ho=>k.same i o hB (h.same i o hB hi ho) ho⟩
theorem me.keep {B:Nat}{W W':World}(k:af W W'):me B W W':=⟨k.size,fun i _o _ hi _=>(k.block i (at7.1 hi).1 id).trans hi⟩
theorem me.put {B:Nat}(W:World)(l:Nat)(o o':Obj)(h:W.heap[l]?=some o)(ho:o.isCells=false):me B W (W.putObj l o'):=
 ⟨by simp,fun k x _ hx hc=>(World.putObj_heap_other (fun e=>by subst e;rw[h]at hx;cases hx;rw[ho]at hc;cases hc)).trans hx⟩
theorem me.cell {B:Nat}{W W':World}(h:me B W W'){p:Addr}(hp:B<=p.block){x:Value}(hc:W.cell? p=some x):W'.cell? p=some x:=by
 obtain⟨o,ho,hi⟩:=cells_of_cell hc;have:=h.same p.block o hp ho hi;rw[World.cell?_of_block (this.trans ho.symm)];exact hc
theorem QR {W W':World}(k:af W W'):W.grownBy W' none:=⟨k.os,k.tape,k.output,k.size,fun i hi _=>k.block i hi id⟩
theorem Mw (n:Nat)(hn:1<=n)(l Bv B:Nat){p:Nat}{v:Vs}{a:eX}(J Jx:List Sn->World->Prop)(W:World)(hv:ls W p v a)(hl:v.b.list.length<=1000)(hB:B<=W.heap.size)(hBv:W.cell? ⟨Bv,0,none⟩=some (aq p))
  (hJ:AbidesFrom W.heap.size J)
  (hY:∀ pre x W,J pre W->pre.length<v.b.list.length->YieldAt Fence.wide (n-1) prog l #[A4 x] W fun e W'=>
   (e=.returned (.bool true)/\J (pre++[x]) W'/\me B W W')\/(e=.returned (.bool false)/\Jx (pre++[x]) W')) (h0:J [] W):
  CallsIn Fence.wide n prog 183 #[.func (.yield l) #[] #[],.pointer (some ⟨Bv,0,none⟩)] W fun e W'=>(∃ v,e=.returned v)/\
   ((∃ ys,ys=v.b.list/\J ys W')\/(∃ pre,pre <+: v.b.list/\Jx pre W')):=by
 have SN:=hd0 (xF hv hl);have HY:=hd0 hY;have HJ:=hd0 hJ;have HB:=hd0 hB;have H0:=hd0 h0;have Fw:(v.b.list.length:Int)<=1000:=by omega
 clear hY hJ hv h0;refine callsIn_of_wp func183 rfl trivial ?_ rfl;simp only[ntmps183,au5,atH,auV,Nat.reduceAdd,Nat.reduceSub,au6,au7,au8,au9,aul,aur]
 gi_wp2
 refine⟨trivial,(aup.2 SN.out).mono ?_⟩;rintro e W1 ⟨x,rfl,ho,k1⟩;have HO:=hd0 ho;obtain⟨la,cap,rfl,hx⟩:=cf eV ho;have HX:=hd0 hx;have HJ1:=hd0 (HJ.out [] W W1 none H0.out (QR k1) (fun _ e=>by cases e));have bU:=hd0 k1;clear ho hx k1 SN hBv
 gi_wp2
 gi_loopw [8] (fun i wr=>∃ k:Nat,k<=v.b.list.length/\i=.int .i64 (k:Int)/\J (v.b.list.take k) wr/\me B W1 wr) (fun i _=>v.b.list.length-(intOf i).toNat)
 case atStart=>exact⟨0,by omega,rfl,HJ1.out,me.refl _ _⟩
 case round=>
  obtain⟨k,hk,rfl,hJk,hS⟩:=hrel;have HJk:=hd0 hJk;have HS:=hd0 hS;clear hJk hS;by_cases aM:k<v.b.list.length
  ·have dS:(k:Int)<(v.b.list.length:Int):=by omega
   obtain⟨y,hy⟩:∃ y,v.b.list[k]?=some y:=⟨_,atI aM⟩
   obtain⟨rb,o,rfl,hc⟩:=HX.out k y hy;have Ry:B<=rb:=by have:=(HO.out.lt rb rfl).1;have:=HB.out;omega
   have c0:wr.cell? ⟨rb,o+k*5,none⟩=some (.string ⟨y.name.toArray⟩):=HS.out.cell (p:=⟨rb,o+k*5,none⟩) Ry (hc 0 _ rfl);have c1:wr.cell? ⟨rb,o+k*5+1,none⟩=some (.int .i64 y.id):=HS.out.cell (p:=⟨rb,o+k*5+1,none⟩) Ry (hc 1 _ rfl);have c2:wr.cell? ⟨rb,o+k*5+2,none⟩=some (.int .i64 y.plane):=HS.out.cell (p:=⟨rb,o+k*5+2,none⟩) Ry (hc 2 _ rfl);have c3:wr.cell? ⟨rb,o+k*5+3,none⟩=some (.int .i64 y.table.root):=HS.out.cell (p:=⟨rb,o+k*5+3,none⟩) Ry (hc 3 _ rfl);have c4:wr.cell? ⟨rb,o+k*5+4,none⟩=some (.int .i64 y.table.size):=HS.out.cell (p:=⟨rb,o+k*5+4,none⟩) Ry (hc 4 _ rfl);have qY:af wr (wr.alloc (.cells #[.string ⟨y.name.toArray⟩,.int .i64 y.id,.int .i64 y.plane,.int .i64 y.table.root,.int .i64 y.table.size] 85)):=(ah.refl _ wr).alloc _;have hJa:=HJ.out _ wr _ none HJk.out (QR qY) (fun _ e=>by cases e);have uS:(v.b.list.take k).length<v.b.list.length:=by rw[atO];omega
   obtain⟨fn,tmps,assign,body,hyy,hR⟩:=HY.out _ y _ hJa uS;have HSa:=hd0 (HS.out.trans (me.keep (B:=B) qY));have Hts:Hid (v.b.list.take k++[y]=v.b.list.take (k+1)):=hd0 (by rw[atK,hy];rfl);clear hc hy hJa uS qY
   gi_wp2
   refine hR.mono ?_;rintro e W3 (⟨rfl,hJ3,dq⟩|⟨rfl,Ny⟩)
   ·rw[Hts.out]at hJ3;have HJ3:=hd0 hJ3;have IK:=hd0 (HSa.out.trans dq);clear hJ3 dq hyy hR
    gi_wp2
    go_roundw
    case rel=>exact⟨k+1,by omega,by go_num,HJ3.out,IK.out⟩
    case measure=>simp[intOf];omega
   ·rw[Hts.out]at Ny;have HJx:=hd0 Ny;clear Ny hyy hR
    gi_wp2
    refine auj (results_none rfl _ _ _) rfl ?_;exact⟨⟨_,rfl⟩,.inr ⟨_,List.take_prefix _ _,HJx.out⟩⟩
  ·obtain nH:k=v.b.list.length:=by omega
   subst nH;have hJe:=HJk.out;rw[atM]at hJe
   gi_wp2
   go_end0;exact⟨⟨_,rfl⟩,.inl ⟨_,rfl,hJe⟩⟩
end
section
open Go.RowKit Go.Shelf
attribute [local go_sem] atC
theorem pO {β:Type}(b:Nat)(c:Array Value)(t:TypeId):Own (fun(_:β) W=>World.blk W b c t):=fun _ _ _ row hs hg cH=>
 (hg.block b (ai hs) (fun e'=>by
  obtain⟨o,ho,hc⟩:=cH b e'.symm;rw[show _=some (Obj.cells c t (0,0))from hs]at ho
  cases ho;cases hc)).trans hs
theorem QS (n:Nat)(p:Nat)(w:World):
  CallsIn Fence.wide n prog 105 #[aq p] w fun e w'=>e=.returned (.func (.func 183) #[] #[.pointer (some ⟨w.heap.size,0,none⟩)])/\w'=w.alloc (.cells #[aq p] 32):=by
 refine callsIn_of_wp func105 rfl trivial ?_ rfl;simp only[ntmps105,au5,atH,auV,Nat.reduceAdd,Nat.reduceSub,au6,au7,au8,au9,aul,aur]
 gi_wp2
 go_ret;exact⟨rfl,rfl⟩
theorem Eu (n:Nat)(hn:1<=n)(Bv:Nat){p:Nat}{v:Vs}{a:eX}(w:World)(hv:ls w p v a)(hl:v.b.list.length<=1000)(hb:Bv<w.heap.size)(hc:w.cell? ⟨Bv,0,none⟩=some (aq p)):
  SeqStopsK Fence.wide n prog 183 #[.pointer (some ⟨Bv,0,none⟩)] (fun x:Sn=>#[A4 x]) (me w.heap.size) (fun ys=>ys=v.b.list) (fun pre=>pre <+: v.b.list) v.b.list.length w:=fun l J Jx W hW hJ _ hY h0=>
 Mw n hn l Bv w.heap.size J Jx W (hv.keep (ah.ofBelow hW)) hl hW.size ((hW.cell (p:=⟨Bv,0,none⟩) hb).trans hc) hJ hY h0
structure qe (w:World)(name:ay)(W:World):Prop where
 keep:af w W
 b3:World.blk W w.heap.size #[aB name] 9
 b4:World.blk W (w.heap.size+1) #[.string ⟨#[]⟩,.int .i64 0,.int .i64 0,.int .i64 0,.int .i64 0] 85
 b5:World.blk W (w.heap.size+1+1) #[.int .i64 0] 22
theorem qe.step {w W W':World}{name:ay}(h:qe w name W)(k:af W W'):qe w name W':=⟨h.keep.keep k,ab k h.b3 id,ab k h.b4 id,ab k h.b5 id⟩
structure xH (w:World)(x:Sn)(er:Int)(W:World):Prop where
 keep:af w W
 b4:World.blk W (w.heap.size+1) #[.string ⟨x.name.toArray⟩,.int .i64 x.id,.int .i64 x.plane,.int .i64 x.table.root,.int .i64 x.table.size] 85
 b5:World.blk W (w.heap.size+1+1) #[.int .i64 er] 22
theorem qe.end {w W:World}{name:ay}(h:qe w name W)(x:Sn)(er:Int):
  xH w x er ((((((W.setCell ⟨w.heap.size+1,0,none⟩ (.string ⟨x.name.toArray⟩)).setCell ⟨w.heap.size+1,1,none⟩ (.int .i64 x.id)).setCell ⟨w.heap.size+1,2,none⟩ (.int .i64 x.plane)).setCell ⟨w.heap.size+1,3,none⟩ (.int .i64 x.table.root)).setCell ⟨w.heap.size+1,4,none⟩ (.int .i64 x.table.size)).setCell ⟨w.heap.size+1+1,0,none⟩ (.int .i64 er))/\
  ah (fun g=>g=w.heap.size+1\/g=w.heap.size+1+1) W ((((((W.setCell ⟨w.heap.size+1,0,none⟩ (.string ⟨x.name.toArray⟩)).setCell ⟨w.heap.size+1,1,none⟩ (.int .i64 x.id)).setCell ⟨w.heap.size+1,2,none⟩ (.int .i64 x.plane)).setCell ⟨w.heap.size+1,3,none⟩ (.int .i64 x.table.root)).setCell ⟨w.heap.size+1,4,none⟩ (.int .i64 x.table.size)).setCell ⟨w.heap.size+1+1,0,none⟩ (.int .i64 er)):=by
 obtain⟨hs,hm⟩:=Yx h.b4 (.string ⟨x.name.toArray⟩) (.int .i64 x.id) (.int .i64 x.plane) (.int .i64 x.table.root) (.int .i64 x.table.size);have h5:=ab hm h.b5 (by omega);have m1:ah (fun g=>g=w.heap.size+1\/g=w.heap.size+1+1) W _:=hm.mono fun _ _ h=>.inl h;have m2:=m1.setCell (p:=⟨w.heap.size+1+1,0,none⟩) (.inl (.inr rfl)) (.int .i64 er);exact⟨⟨h.keep.trans m2 (fun g hl hg=>by rcases hg with rfl|rfl<;>omega),bC hs ⟨w.heap.size+1+1,0,none⟩ (by show w.heap.size+1≠w.heap.size+1+1;omega) _,ag h5 0 _⟩,m2⟩
theorem xH.cells {w W:World}{x:Sn}{er:Int}(h:xH w x er W):W.cell? ⟨w.heap.size+1,0,none⟩=some (.string ⟨x.name.toArray⟩)/\W.cell? ⟨w.heap.size+1,1,none⟩=some (.int .i64 x.id)/\W.cell? ⟨w.heap.size+1,2,none⟩=some (.int .i64 x.plane)/\W.cell? ⟨w.heap.size+1,3,none⟩=some (.int .i64 x.table.root)/\W.cell? ⟨w.heap.size+1,4,none⟩=some (.int .i64 x.table.size)/\W.cell? ⟨w.heap.size+1+1,0,none⟩=some (.int .i64 er):=
 ⟨aa h.b4 0,aa h.b4 1,aa h.b4 2,aa h.b4 3,aa h.b4 4,aa h.b5 0⟩
theorem QT {X Y:World}{row:Option Nat}(hg:X.grownBy Y row):ah (fun g=>row=some g) X Y:=⟨hg.os,hg.tape,hg.output,hg.size,fun k hk hn=>hg.block k hk (fun e=>hn e.symm)⟩
theorem qe.grown {w X Y:World}{name:ay}{row:Option Nat}{B:Nat}(hB:w.heap.size<=B)(h:qe w name X)(hg:X.grownBy Y row)(hr:∀ r,row=some r->B<=r/\∃ o:Obj,X.heap[r]?=some o/\o.isCells=false):qe w name Y:=
 ⟨h.keep.trans (QT hg) (fun g hl e=>by have:=(hr g e).1;omega),pO (β:=Unit) _ _ _ () X Y row h.b3 hg (fun r e=>(hr r e).2),pO (β:=Unit) _ _ _ () X Y row h.b4 hg (fun r e=>(hr r e).2),pO (β:=Unit) _ _ _ () X Y row h.b5 hg (fun r e=>(hr r e).2)⟩
theorem xH.grown {w X Y:World}{x:Sn}{er:Int}{row:Option Nat}{B:Nat}(hB:w.heap.size<=B)(h:xH w x er X)(hg:X.grownBy Y row)(hr:∀ r,row=some r->B<=r/\∃ o:Obj,X.heap[r]?=some o/\o.isCells=false):xH w x er Y:=
 ⟨h.keep.trans (QT hg) (fun g hl e=>by have:=(hr g e).1;omega),pO (β:=Unit) _ _ _ () X Y row h.b4 hg (fun r e=>(hr r e).2),pO (β:=Unit) _ _ _ () X Y row h.b5 hg (fun r e=>(hr r e).2)⟩
def pg (l:List Sn)(name:ay):Value:=if aH name=true then(match bf l name with|some x=>.tuple #[A4 x,.int .i64 0]|none=>.tuple #[A4 fi,.int .i64 162])else .tuple #[A4 fi,.int .i64 160]
theorem Mx (n:Nat)(hn:6<=n){w:World}{p:Nat}{v:Vs}{a:eX}(h:ls w p v a)(hl:v.b.list.length<=1000)(name:ay)(Ki:name.length<=140737488355328):
  CallsIn Fence.wide n prog 53 #[aq p,aB name] w fun e W'=>e=.returned (pg v.b.list name)/\af w W':=by
 have h1:1<=n:=by omega
 have k3:af w (((w.alloc (.cells #[aB name] 9)).alloc (.cells #[.string ⟨#[]⟩,.int .i64 0,.int .i64 0,.int .i64 0,.int .i64 0] 85)).alloc (.cells #[.int .i64 0] 22)):=(((ah.refl _ w).alloc _).alloc _).alloc _;have b3:World.blk (((w.alloc (.cells #[aB name] 9)).alloc (.cells #[.string ⟨#[]⟩,.int .i64 0,.int .i64 0,.int .i64 0,.int .i64 0] 85)).alloc (.cells #[.int .i64 0] 22)) w.heap.size #[aB name] 9:=aG (aG (aw _ _ _) _) _;have b4:World.blk (((w.alloc (.cells #[aB name] 9)).alloc (.cells #[.string ⟨#[]⟩,.int .i64 0,.int .i64 0,.int .i64 0,.int .i64 0] 85)).alloc (.cells #[.int .i64 0] 22)) (w.heap.size+1) #[.string ⟨#[]⟩,.int .i64 0,.int .i64 0,.int .i64 0,.int .i64 0] 85:=aG (aY (by simp) _ _) _;have b5:World.blk (((w.alloc (.cells #[aB name] 9)).alloc (.cells #[.string ⟨#[]⟩,.int .i64 0,.int .i64 0,.int .i64 0,.int .i64 0] 85)).alloc (.cells #[.int .i64 0] 22)) (w.heap.size+1+1) #[.int .i64 0] 22:=aY (by simp) _ _;have NK:=hd0 (pJ name (((w.alloc (.cells #[aB name] 9)).alloc (.cells #[.string ⟨#[]⟩,.int .i64 0,.int .i64 0,.int .i64 0,.int .i64 0] 85)).alloc (.cells #[.int .i64 0] 22)) Ki);have H:=hd0 h;have HK:=hd0 k3;have HB:=hd0 (qe.mk k3 b3 b4 b5);have HL:=hd0 hl;clear h k3 b3 b4 b5 Ki hl HK;refine callsIn_of_wp_marks func53 rfl trivial ?_ rfl;simp only[ntmps53,au5,atH,auV,Nat.reduceAdd,Nat.reduceSub,au6,au7,au8,au9,aul,aur]
 gi_wp2
 refine⟨trivial,(aup.2 NK.out).mono ?_⟩;rintro e W1 ⟨rfl,k1⟩;have jd:=hd0 (HB.out.step k1);clear k1 NK HB
 cases cC:aH name with
 |false=>
  obtain⟨z0,z1,z2,z3,z4,f0,f1,f2,f3,f4⟩:=jb jd.out.b4;have y0:W1.cell? ⟨w.heap.size+1+1,0,none⟩=some (.int .i64 0):=aa jd.out.b5 0;have g0:=ae jd.out.b5 ⟨w.heap.size+1+1,0,none⟩ rfl
  gi_wp2
  have HE:=(jd.out.end fi 160).1;obtain⟨q0,q1,q2,q3,q4,q5⟩:=HE.cells;simp only[fi]at q0 q1 q2 q3 q4 q5;exact⟨.tuple #[A4 fi,.int .i64 160],by simp[results,Tryz.results53,go_sem,q0,q1,q2,q3,q4,q5,fi],by unfold pg;rw[cC];rfl,HE.keep⟩
 |true=>
  have A:=hd0 (QS (n-1) p W1);have iC:Below W1.heap.size W1 (W1.alloc (.cells #[aq p] 32)):=(Below.refl _ W1).alloc (atL _) _;have kA:af W1 (W1.alloc (.cells #[aq p] 32)):=(ah.refl _ W1).alloc _;have NV:=H.out.keep (jd.out.keep.keep kA);have cA:(W1.alloc (.cells #[aq p] 32)).heap.size=W1.heap.size+1:=by simp
  have dr:=Eu (n-1) (by omega) W1.heap.size _ NV HL.out (by rw[cA];omega) (aa (aw W1 #[aq p] 32) 0);have HBA:=jd.out.step kA
  gi_wp2
  refine⟨trivial,A.out.mono ?_⟩;rintro e W2 ⟨rfl,rfl⟩
  gi_wp2
  have h5w:w.heap.size+1+1<W1.heap.size:=ai jd.out.b5;refine wpIn_rangeFunc_ownH rfl h1 (gf:=183) (lb:=#[.pointer (some ⟨W1.heap.size,0,none⟩)]) rfl trivial (enters_of func183 (by kernel_rfl) rfl)
   dr me.trans (fun W l o o' _ h ho _=>me.put W l o o' h ho) (Below.refl _ _) (fun _=>rfl)
   (fun(pre:List Sn) W=>qe w name W/\∀ x∈pre,x.name≠name)
   (fun c (pre:List Sn) W=>c=.ret/\∃ MW y,pre=MW++[y]/\(∀ x∈MW,x.name≠name)/\y.name=name/\xH w y 0 W)
   ?hI ?hIx ⟨HBA,fun x hx=>(by cases hx)⟩
   (fun(x:Sn) a' W=>∃ Bx,w.heap.size+1+1<Bx/\World.blk W Bx #[.string ⟨x.name.toArray⟩,.int .i64 x.id,.int .i64 x.plane,.int .i64 x.table.root,.int .i64 x.table.size] 85/\∃ t13,a'={ tmps:=#[aq p,aB name,undef,.pointer (some ⟨w.heap.size,0,none⟩),.pointer (some ⟨w.heap.size+1,0,none⟩),.pointer (some ⟨w.heap.size+1+1,0,none⟩),.pointer (some ⟨Bx,0,none⟩),aB name,.bool true,.bool false,undef,aq p,.func (.func 183) #[] #[.pointer (some ⟨W1.heap.size,0,none⟩)],t13,undef,undef,undef,undef,undef,undef],defers:=[] })
   ?hAx ?assign ?body ?done ?stop
  case hI=>exact fun pre X Y row hs hg hr=>⟨hs.1.grown (by rw[cA];omega) hg hr,hs.2⟩
  case hIx=>
   rintro c pre X Y row ⟨hc,MW,y,h1,h2,h3,hE⟩ hg hr;exact⟨hc,MW,y,h1,h2,h3,hE.grown (by rw[cA];omega) hg hr⟩
  case hAx=>
   rintro x a' _ X Y row ⟨Bx,h1,h2,h3⟩ hg hr;exact⟨Bx,h1,pO (β:=Unit) _ _ _ () X Y row h2 hg (fun r e=>(hr r e).2),h3⟩
  case assign=>
   rintro l pre x W K ⟨hB,hN⟩ hK;have k1:af W (W.alloc (.cells #[.string ⟨x.name.toArray⟩,.int .i64 x.id,.int .i64 x.plane,.int .i64 x.table.root,.int .i64 x.table.size] 85)):=(ah.refl _ W).alloc _
   gi_wp2
   exact hK _ _ ((KeepsOthers.alloc _ _).from _) (me.keep k1) ⟨hB.step k1,hN⟩ ⟨W.heap.size,ai hB.b5,aw _ _ _,_,rfl⟩
  case body=>
   rintro l pre x a' W hl ⟨r,hr⟩ ⟨hB,hN⟩ ⟨Bx,hBx,bX,t13,rfl⟩ aM;have HBx:=hd0 hB;have c0:W.cell? ⟨Bx,0,none⟩=some (.string ⟨x.name.toArray⟩):=aa bX 0;have c1:W.cell? ⟨Bx,1,none⟩=some (.int .i64 x.id):=aa bX 1;have c2:W.cell? ⟨Bx,2,none⟩=some (.int .i64 x.plane):=aa bX 2;have c3:W.cell? ⟨Bx,3,none⟩=some (.int .i64 x.table.root):=aa bX 3;have c4:W.cell? ⟨Bx,4,none⟩=some (.int .i64 x.table.size):=aa bX 4;have s0:W.cell? ⟨w.heap.size,0,none⟩=some (.string ⟨name.toArray⟩):=aa hB.b3 0;obtain⟨z0,z1,z2,z3,z4,f0,f1,f2,f3,f4⟩:=jb hB.b4;have y0:W.cell? ⟨w.heap.size+1+1,0,none⟩=some (.int .i64 0):=aa hB.b5 0;have g0:=ae hB.b5 ⟨w.heap.size+1+1,0,none⟩ rfl;have HBX:=hd0 bX;clear bX hB hr;by_cases hq:x.name=name
   ·have Oq:(x.name==name)=true:=by simpa using hq
    have hE:=HBx.out.end x 0;have HE:=hd0 hE;have Hq:=hd0 hq;clear hq hE
    gi_wp2
    have hm:=HE.out.2;refine⟨⟨hm.size,fun k o hk ho hc=>(hm.block k (at7.1 ho).1 (fun e=>by rw[cA]at hk;omega)).trans ho⟩,rfl,pre,x,rfl,hN,Hq.out,HE.out.1⟩
   ·have Oq:(x.name==name)=false:=by simpa using hq
    have HN2:Hid (∀ y∈pre++[x],y.name≠name):=hd0 (fun y hy=>by
     rw[auP]at hy;rcases hy with hy|hy
     ·exact hN y hy
     ·simp at hy;subst hy;exact hq)
    clear hq hN
    gi_wp2
    exact⟨KeepsFrom.refl _ _,me.refl _ _,HBx.out,HN2.out⟩
  case done=>
   rintro D ys W hD rfl ⟨hB,hN⟩ hK;have HF:Hid (bf v.b.list name=none):=hd0 (uf (fun j x _ hx=>hN x (atJ hx)));obtain⟨z0,z1,z2,z3,z4,f0,f1,f2,f3,f4⟩:=jb hB.b4;have y0:W.cell? ⟨w.heap.size+1+1,0,none⟩=some (.int .i64 0):=aa hB.b5 0;have g0:=ae hB.b5 ⟨w.heap.size+1+1,0,none⟩ rfl;have hE:=hB.end fi 162;have hKD:=(hE.2.block D (at7.1 hK).1 (fun e=>by rw[cA]at hD;omega)).trans hK;have HE:=hd0 hE.1;have HKD:=hd0 hKD;clear hE hKD hB
   gi_wp2
   refine⟨by simp,.inl ⟨_,_,rfl,run_takeDeferred HKD.out,?_⟩⟩;have Vh:=HE.out.grown (B:=W1.heap.size) (by omega) (grownBy_putObj' _ D (.deferred none)) (fun r e=>by cases e;exact⟨by rw[cA]at hD;omega,_,HKD.out,rfl⟩);obtain⟨q0,q1,q2,q3,q4,q5⟩:=Vh.cells;simp only[fi]at q0 q1 q2 q3 q4 q5;exact⟨.tuple #[A4 fi,.int .i64 162],by simp[results,Tryz.results53,go_sem,q0,q1,q2,q3,q4,q5,fi],by unfold pg;rw[cC,HF.out];rfl,Vh.keep⟩
  case stop=>
   rintro D c pre W hD ut ⟨rfl,MW,y,rfl,hN,hy,hE⟩ hK;have HF:Hid (bf v.b.list name=some y):=hd0 (by
    obtain⟨t,ht⟩:=ut;refine ug (k:=MW.length) (fun j x hj hx=>?_) (by rw[<-ht];simp) hy;rw[<-ht,auu,List.getElem?_append_left hj]at hx;exact hN x (atJ hx))
   have HE:=hd0 hE;clear hE
   gi_wp2
   refine⟨by simp,.inl ⟨_,_,rfl,run_takeDeferred hK,?_⟩⟩;have Vh:=HE.out.grown (B:=W1.heap.size) (by omega) (grownBy_putObj' _ D (.deferred none)) (fun r e=>by cases e;exact⟨by rw[cA]at hD;omega,_,hK,rfl⟩);obtain⟨q0,q1,q2,q3,q4,q5⟩:=Vh.cells;exact⟨.tuple #[A4 y,.int .i64 0],by simp[results,Tryz.results53,go_sem,q0,q1,q2,q3,q4,q5],by unfold pg;rw[cC,HF.out];rfl,Vh.keep⟩
theorem qN {w:World}{p:Nat}{v:Vs}{a:eX}(h:ls w p v a)(hl:v.b.list.length<=1000)(name:ay)(Ki:name.length<=140737488355328):
  Calls prog 53 #[aq p,aB name] w fun e W'=>e=.returned (pg v.b.list name)/\af w W':=aup.1 (Mx 6 (by omega) h hl name Ki)
end
section
open Go.RowKit
attribute [local go_sem] atC
def bR (v:Vs)(x:Sn):ay:=v.b.planes.getD x.plane.toNat []
def bZ (v:Vs)(base target:ay):Except Int (ay×ay):=
 if aH target=false\/(base≠[]/\aH base=false)then .error 160 else
 match bf v.b.list target with
 |none=>.error 162
 |some x=>if base=[]then .ok (bR v x,[])else
  match bf v.b.list base with
  |none=>.error 162
  |some y=>.ok (bK (bR v x) (bR v y),bK (bR v y) (bR v x))
def JP:Except Int (ay×ay)->Value
 | .error e=>.tuple #[.string ⟨#[]⟩,.string ⟨#[]⟩,.int .i64 e]
 | .ok (a,b)=>.tuple #[aB a,aB b,.int .i64 0]
theorem eJ {l:List Sn}{s:ay}{x:Sn}(h:bf l s=some x):x∈l:=auJ h
theorem Ab {w:World}{p:Nat}{v:Vs}{a:eX}(h:ls w p v a)(hl:v.b.list.length<=1000)(hp:∀ x∈v.b.list,1<=x.plane/\x.plane<=7)(base target:ay)(hb:base.length<=140737488355328)(ht:target.length<=140737488355328):
  Calls prog 16 #[aq p,aB base,aB target] w fun e w'=>e=.returned (JP (bZ v base target))/\af w w':=by
 have NT:=hd0 (pJ target w ht);have H:=hd0 h;have HL:=hd0 hl;have HP:=hd0 hp;have EH:=hd0 (And.intro hb ht);clear h hl hp hb ht;go_enter func16,ntmps16;go_wp2_with fail;refine NT.out.mono ?_;rintro e w1 ⟨rfl,k1⟩;have bU:=hd0 k1;have NB:=hd0 (pJ base w1 EH.out.1);clear k1 NT;obtain⟨bad,acR⟩:∃ bad:Bool,decide (aH target=false\/(base≠[]/\aH base=false))=bad:=⟨_,rfl⟩
 have ark:=hd0 acR;clear acR
 cases cC:aH target with
 |false=>
  have HM:Hid (bZ v base target=.error 160):=hd0 (by unfold bZ;rw[atP (.inl cC)]);go_wp2;go_ret3;exact⟨by rw[HM.out];rfl,bU.out⟩
 |true=>
  have NZ:=hd0 cC;clear cC;by_cases he:base=[]
  ·have HE:=hd0 he;subst he;have SN:=hd0 (qN (H.out.keep bU.out) HL.out target EH.out.2);go_wp2_with fail;refine SN.out.mono ?_;rintro e w2 ⟨rfl,k2⟩;have bu:=hd0 (bU.out.keep k2);clear k2 SN;unfold pg;rw[atP NZ.out]
   cases hf:bf v.b.list target with
   |none=>
    have HM:Hid (bZ v [] target=.error 162):=hd0 (by unfold bZ;rw[atR (by rw[NZ.out];simp),hf]);clear hf;simp only;go_wp2;go_ret3;exact⟨by rw[HM.out];rfl,by first|exact bu.out|exact bu.out.alloc _⟩
   |some x=>
    have HM:Hid (bZ v [] target=.ok (bR v x,[])):=hd0 (by unfold bZ;rw[atR (by rw[NZ.out];simp),hf];rfl);have Xv:=HP.out x (eJ hf);obtain⟨q,hq⟩:∃ q:Nat,x.plane=(q:Int):=⟨x.plane.toNat,by omega⟩
    have HQ:Hid (q<8/\bR v x=v.b.planes.getD q []):=hd0 ⟨by omega,by unfold bR;rw[hq];rfl⟩;have dq:af w2 (w2.alloc (.cells #[.string ⟨x.name.toArray⟩,.int .i64 x.id,.int .i64 x.plane,.int .i64 x.table.root,.int .i64 x.table.size] 85)):=(ah.refl _ w2).alloc _;have dT:=hd0 (bu.out.keep dq);have MP:=hd0 (xG (H.out.keep dT.out));have ql:Hid (World.blk (w2.alloc (.cells #[.string ⟨x.name.toArray⟩,.int .i64 x.id,.int .i64 x.plane,.int .i64 x.table.root,.int .i64 x.table.size] 85)) w2.heap.size #[.string ⟨x.name.toArray⟩,.int .i64 x.id,.int .i64 x.plane,.int .i64 x.table.root,.int .i64 x.table.size] 85):=hd0 (aw _ _ _);have Hq:=hd0 hq;clear hf dq Xv hq;simp only;unfold A4;go_wp2_with fail;refine MP.out.mono ?_;rintro e w3 ⟨m,rfl,hm,JV,k3⟩;have lw:=hd0 (dT.out.keep k3);have W9:=ab k3 ql.out id;have c2:w3.cell? ⟨w2.heap.size,2,none⟩=some (.int .i64 x.plane):=aa W9 2;rw[Hq.out]at c2;have PL:=hd0 (wn JV q HQ.out.1);clear k3 W9 hm JV MP;go_wp2_with fail;refine PL.out.mono ?_;rintro e w4 ⟨rfl,k4⟩;have j7:=hd0 (lw.out.keep k4);clear k4 PL c2;go_wp2;go_ret3;exact⟨by rw[HM.out,HQ.out.2];rfl,j7.out⟩
  ·have Zh:(base==[])=false:=by simpa using he
   have aol:(base != [])=true:=by simpa using he
   cases ic:aH base with
   |false=>
    have HM:Hid (bZ v base target=.error 160):=hd0 (by unfold bZ;rw[atP (.inr ⟨he,ic⟩)]);rw[ic]at NB;go_wp2_with fail;refine NB.out.mono ?_;rintro e w2 ⟨rfl,k2⟩;have bu:=hd0 (bU.out.keep k2);clear k2;go_wp2;go_ret3;exact⟨by rw[HM.out];rfl,bu.out⟩
   |true=>
    rw[ic]at NB;have HG:Hid (¬(aH target=false\/(base≠[]/\aH base=false))):=hd0 (by rw[NZ.out,ic];simp);have HBE:=hd0 he;have xU:=hd0 ic;clear he ic;go_wp2_with fail;refine NB.out.mono ?_;rintro e w2 ⟨rfl,k2⟩;have bu:=hd0 (bU.out.keep k2);have SN:=hd0 (qN (H.out.keep bu.out) HL.out target EH.out.2);clear k2 NB bU;go_wp2_with fail;refine SN.out.mono ?_;rintro e w3 ⟨rfl,k3⟩;have dT:=hd0 (bu.out.keep k3);clear k3 SN bu;unfold pg;rw[atP NZ.out]
    cases hf:bf v.b.list target with
    |none=>
     have HM:Hid (bZ v base target=.error 162):=hd0 (by unfold bZ;rw[atR HG.out,hf]);clear hf;simp only;go_wp2;go_ret3;exact⟨by rw[HM.out];rfl,by first|exact dT.out|exact dT.out.alloc _⟩
    |some x=>
     have HFX:=hd0 hf;have Xv:=HP.out x (eJ hf);obtain⟨q,hq⟩:∃ q:Nat,x.plane=(q:Int):=⟨x.plane.toNat,by omega⟩
     have HQ:Hid (q<8/\bR v x=v.b.planes.getD q []):=hd0 ⟨by omega,by unfold bR;rw[hq];rfl⟩;have Hq:=hd0 hq;have je:af w3 (w3.alloc (.cells #[.string ⟨x.name.toArray⟩,.int .i64 x.id,.int .i64 x.plane,.int .i64 x.table.root,.int .i64 x.table.size] 85)):=(ah.refl _ w3).alloc _;have lw:=hd0 (dT.out.keep je);have MP:=hd0 (xG (H.out.keep lw.out));have Bp:Hid (World.blk (w3.alloc (.cells #[.string ⟨x.name.toArray⟩,.int .i64 x.id,.int .i64 x.plane,.int .i64 x.table.root,.int .i64 x.table.size] 85)) w3.heap.size #[.string ⟨x.name.toArray⟩,.int .i64 x.id,.int .i64 x.plane,.int .i64 x.table.root,.int .i64 x.table.size] 85):=hd0 (aw _ _ _);clear hf je Xv hq dT;simp only;unfold A4;go_wp2_with fail;refine MP.out.mono ?_;rintro e w4 ⟨m,rfl,hm,JV,k4⟩;have j7:=hd0 (lw.out.keep k4);have uy:=hd0 (ab k4 Bp.out id);have HMA:=hd0 JV;have SB:=hd0 (qN (H.out.keep j7.out) HL.out base EH.out.1);clear k4 hm JV MP lw Bp;go_wp2_with fail;refine SB.out.mono ?_;rintro e w5 ⟨rfl,k5⟩;have tD:=hd0 (j7.out.keep k5);have HX6:=hd0 (ab k5 uy.out id);have Oe:=hd0 (HMA.out.mod k5 id);clear k5 SB j7 uy HMA;unfold pg;rw[atP xU.out]
     cases hfb:bf v.b.list base with
     |none=>
      have HM:Hid (bZ v base target=.error 162):=hd0 (by unfold bZ;rw[atR HG.out,HFX.out];simp only;rw[atR HBE.out,hfb]);clear hfb;simp only;go_wp2;go_ret3;exact⟨by rw[HM.out];rfl,by first|exact tD.out|exact tD.out.alloc _⟩
     |some y=>
      have HM:Hid (bZ v base target=.ok (bK (bR v x) (bR v y),bK (bR v y) (bR v x))):=hd0 (by unfold bZ;rw[atR HG.out,HFX.out];simp only;rw[atR HBE.out,hfb]);have hpy:=HP.out y (eJ hfb);obtain⟨r,hr⟩:∃ r:Nat,y.plane=(r:Int):=⟨y.plane.toNat,by omega⟩
      have HR:Hid (r<8/\bR v y=v.b.planes.getD r []):=hd0 ⟨by omega,by unfold bR;rw[hr];rfl⟩;have rg:af w5 (w5.alloc (.cells #[.string ⟨y.name.toArray⟩,.int .i64 y.id,.int .i64 y.plane,.int .i64 y.table.root,.int .i64 y.table.size] 85)):=(ah.refl _ w5).alloc _;have yi:=hd0 (tD.out.keep rg);have DF:=Ll (Oe.out.mod rg id) r q HR.out.1 HQ.out.1;rw[<-hr,<-Hq.out]at DF;have DF:=hd0 DF;have aM:=ai HX6.out;have c2:(w5.alloc (.cells #[.string ⟨y.name.toArray⟩,.int .i64 y.id,.int .i64 y.plane,.int .i64 y.table.root,.int .i64 y.table.size] 85)).cell? ⟨w3.heap.size,2,none⟩=some (.int .i64 x.plane):=aa (ab rg HX6.out id) 2;have c2':w5.cell? ⟨w3.heap.size,2,none⟩=some (.int .i64 x.plane):=aa HX6.out 2;clear hfb rg hpy hr;simp only;unfold A4;go_wp2_with fail;refine DF.out.mono ?_;rintro e w6 ⟨rfl,k6⟩;have rR:=hd0 (yi.out.keep k6);clear k6 DF c2 c2';go_wp2;go_ret3;exact⟨by rw[HM.out,HQ.out.2,HR.out.2];rfl,rR.out⟩
end
end Go.Proofs.YtkghpdcloaiflaaGreatDoor
