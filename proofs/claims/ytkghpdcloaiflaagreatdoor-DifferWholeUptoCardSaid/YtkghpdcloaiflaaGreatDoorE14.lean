import Derived.Test.YtkghpdcloaiflaaGreatDoorE13
import Derived.RangeFuncBox
import Derived.RangeFuncLeaves
import Derived.Shelf.Abstract
import Derived.OwnWalkIn
import Derived.TacticsInMore
import Derived.LoopNIn
import Derived.LoopIn
import Derived.Maps.AppendAt
set_option maxHeartbeats 4000000
set_option maxRecDepth 100000
namespace Go.Proofs.YtkghpdcloaiflaaGreatDoor
open _root_.Go.Proofs.Tryz
section
open Go.RowKit Go.Shelf
attribute [local go_sem] auv
abbrev gy (l:List Nat):List Int:=l.map fun(n:Nat)=>(n:Int)
theorem WT (c:UInt8):Lib.trailingZeros8 c.toNat=tz c:=by
 have key:∀ n:Fin 256,Lib.trailingZeros8 n.1=tz (UInt8.ofNat n.1):=by decide +kernel
 have:=key ⟨c.toNat,c.toNat_lt⟩;simpa using this
def jD (b:Nat)(W W':World):Prop:=W'.cell? ⟨b,0,none⟩=W.cell? ⟨b,0,none⟩
theorem jD.refl (b:Nat)(W:World):jD b W W:=rfl
theorem jD.trans {b:Nat}{A B C:World}(h:jD b A B)(k:jD b B C):jD b A C:=Eq.trans k h
theorem jD.of {n b:Nat}{A B:World}(h:Below n A B)(hb:b<n):jD b A B:=h.cell (p:=⟨b,0,none⟩) hb
theorem JZ {b:Nat}{w:World}(hn:b<w.heap.size)(W:World)(l:Nat)(o o':Obj)(hl:w.heap.size<=l)(_:W.heap[l]?=some o)(_:o.isCells=false)(_:o.isWalk=false):jD b W (W.putObj l o'):=by
 show(W.putObj l o').cell? _=_;refine World.cell?_of_block ?_;show(W.heap.setIfInBounds l o')[b]?=W.heap[b]?;rw[av3 (by omega)]
theorem Uw (n:Nat)(hn:1<=n)(l Bs:Nat)(s:List UInt8)(hs:s.length<=1000000)(J Jx:List Int->World->Prop)
  (hY:∀ pre x W,J pre W->pre.length<(cy s).length->YieldAt Fence.wide (n-1) prog l #[.int .i64 x] W fun e W'=>
   (e=.returned (.bool true)/\J (pre++[x]) W'/\jD Bs W W')\/(e=.returned (.bool false)/\Jx (pre++[x]) W'))
  (W:World) (hBs:W.cell? ⟨Bs,0,none⟩=some (.string ⟨s.toArray⟩)) (h0:J [] W):
  CallsIn Fence.wide n prog 167 #[.func (.yield l) #[] #[],.pointer (some ⟨Bs,0,none⟩)] W fun e W'=>(∃ v,e=.returned v)/\
   ((∃ ys,ys=gy (cy s)/\J ys W')\/(∃ pre,pre <+: gy (cy s)/\Jx pre W')):=by
 have hsi:(s.length:Int)<=1000000:=by omega
 have HY:=hd0 hY;clear hY;refine callsIn_of_wp func167 rfl trivial ?_ rfl;simp only[ntmps167,avU,auA,avK,Nat.reduceAdd,Nat.reduceSub,avV,avW,avX,avY,au9,avf]
 gi_wp2
 gi_loopw [7] (fun i wr=>∃ k:Nat,k<=s.length/\i=.int .i64 (k:Int)/\J (gy (jQ s k)) wr/\jD Bs W wr)
  (fun i _=>s.length-(intOf i).toNat)
 case atStart=>exact⟨0,avk _,rfl,h0,jD.refl _ _⟩
 case round=>
  obtain⟨k,hk,rfl,hJ,hB⟩:=hrel;have HJ:=hd0 hJ;have HB:=hd0 hB;have c0:wr.cell? ⟨Bs,0,none⟩=some (.string ⟨s.toArray⟩):=Eq.trans hB hBs;clear hJ hB;by_cases aL:k<s.length
  ·have dN:(k:Int)<s.length:=by omega
   obtain⟨c,hc⟩:∃ c,s[k]?=some c:=⟨_,auB aL⟩
   have hx:=bf (P:=prog) underlying9 s .i64 (k:Int) c (by omega) (by simpa using hc);have Hsu:Hid (jQ s (k+1)=jQ s k++(mi c).map (8*k+·)):=hd0 (by rw[ul];simp[List.getD,hc]);clear hc
   gi_wp2
   gi_loopw [4] (fun i w2=>∃(d:UInt8) (pre:List Nat),i=.int .u8 (d.toNat:Int)/\J (gy pre) w2/\jD Bs W w2/\Hid (jQ s (k+1)=pre++(mi d).map (8*k+·))) (fun i _=>(intOf i).toNat)
   case atStart=>exact⟨c,_,rfl,HJ.out,HB.out,Hsu⟩
   case round=>
    clear HJ HB c0 hx Hsu;obtain⟨d,pre,rfl,hJ,hB,Hs⟩:=hrel;have HJ:=hd0 hJ;have HB:=hd0 hB;clear hJ hB;by_cases hd:d=0
    ·subst hd;have He:Hid (jQ s (k+1)=pre):=hd0 (by rw[Hs.out,LF];simp)
     gi_wp2
     go_roundw
     case rel=>exact⟨k+1,by omega,by go_num,by rw[He.out];exact HJ.out,HB.out⟩
     case measure=>simp[intOf];omega
    ·have ht:=WS d hd;have hdq:d.toNat≠0:=fun e=>hd (by apply UInt8.toNat_inj.1;simpa using e);have hdb:=d.toNat_lt;have dg:=LE d hd;have IY:=PV d hd;have hw:(d.toNat:Int)-1=((d-1).toNat:Int):=by
      have:(d-1).toNat=d.toNat-1:=by
       rw[UInt8.toNat_sub_of_le]
       ·rfl
       ·rw[UInt8.le_iff_toNat_le];simp;omega
      omega
     obtain⟨d',hd'⟩:∃ d',d&&&(d-1)=d':=⟨_,rfl⟩
     have adb:bits .and .u8 (d.toNat:Int) ((d.toNat:Int)-1)=(d'.toNat:Int):=by rw[hw,ahv,hd']
     rw[hd']at dg IY;have ct:∀ m W,CallsIn Fence.wide m prog 168 #[.int .u8 (d.toNat:Int)] W fun e w'=>e=.returned (.int .i64 (tz d:Int))/\w'=W:=fun m W=>avd.2 ((Tryz.bits_TrailingZeros8 (d.toNat:Int) W (by omega) (by omega)).mono fun e w' ⟨h1,h2⟩=>⟨by rw[h1,avc,WT],h2⟩);have BX:Hid (jQ s (k+1)=(pre++[8*k+tz d])++(mi d').map (8*k+·)):=hd0 (by rw[Hs.out,dg];simp);have Hpl:Hid (pre.length<(cy s).length):=hd0 (by
      have h1:=(wQ s (k+1) (by omega)).length_le;rw[BX.out]at h1;simp only[auS,auA,avK]at h1;omega)
     have hx:((8*k+tz d:Nat):Int)=(k:Int)*8+(tz d:Int):=by omega
     obtain⟨fn,tmps,assign,body,hy,hR⟩:=HY.out (gy pre) ((k:Int)*8+(tz d:Int)) wr HJ.out (by simpa using Hpl.out);have Hx:=hd0 hx;have Hand:=hd0 adb;have Ct:=hd0 ct;have dW:((d.toNat:Int) != 0)=true:=by rw[bne_iff_ne];omega
     clear dg hd' hw adb ct hx hd
     gi_wp2
     refine⟨trivial,(Ct.out _ _).mono ?_⟩;rintro e w' ⟨rfl,rfl⟩
     gi_wp2
     refine hR.mono ?_;rintro e W3 (⟨rfl,hJ3,dw⟩|⟨rfl,NC⟩)
     ·have HJ3:Hid (J (gy (pre++[8*k+tz d])) W3):=hd0 (by
       have e:gy (pre++[8*k+tz d])=gy pre++[(k:Int)*8+(tz d:Int)]:=by rw[<-Hx.out];simp
       rw[e];exact hJ3)
      have ox:=hd0 (HB.out.trans dw);clear hJ3 dw hy hR
      gi_wp2
      go_roundw
      case rel=>exact⟨d',_,by rw[Hand.out],HJ3.out,ox.out,BX⟩
      case measure=>simp[intOf,Hand.out];omega
     ·have HJx:Hid (Jx (gy (pre++[8*k+tz d])) W3):=hd0 (by
       have e:gy (pre++[8*k+tz d])=gy pre++[(k:Int)*8+(tz d:Int)]:=by rw[<-Hx.out];simp
       rw[e];exact NC)
      clear NC hy hR
      gi_wp2
      refine au7 (results_none rfl _ _ _) rfl ?_;refine⟨⟨_,rfl⟩,.inr ⟨_,?_,HJx.out⟩⟩;have h1:=wQ s (k+1) (by omega);rw[BX.out]at h1;exact List.IsPrefix.map _ ((List.prefix_append _ _).trans h1)
  ·obtain rfl:k=s.length:=by omega
   gi_wp2
   go_end0;exact⟨⟨_,rfl⟩,.inl ⟨_,by rw[<-GP],HJ.out⟩⟩
theorem PW (n:Nat)(s:List UInt8)(w:World):
  CallsIn Fence.wide n prog 93 #[.string ⟨s.toArray⟩] w fun e w'=>e=.returned (.func (.func 167) #[] #[.pointer (some ⟨w.heap.size,0,none⟩)])/\w'=w.alloc (.cells #[.string ⟨s.toArray⟩] 9):=by
 refine callsIn_of_wp func93 rfl trivial ?_ rfl;simp only[ntmps93,avU,auA,avK,Nat.reduceAdd,Nat.reduceSub,avV,avW,avX,avY,au9,avf]
 gi_wp2
 go_ret;exact⟨rfl,rfl⟩
theorem zK (n:Nat)(hn:1<=n)(Bs:Nat)(s:List UInt8)(hs:s.length<=1000000)(w:World)(hb:Bs<w.heap.size)(hc:w.cell? ⟨Bs,0,none⟩=some (.string ⟨s.toArray⟩)):
  SeqStopsK Fence.wide n prog 167 #[.pointer (some ⟨Bs,0,none⟩)] (fun x:Int=>#[Value.int .i64 x]) (jD Bs) (fun ys=>ys=gy (cy s)) (fun pre=>pre <+: gy (cy s)) (cy s).length w:=fun l J Jx W hW _ _ hY h0=>
 Uw n hn l Bs s hs J Jx hY W ((hW.cell (p:=⟨Bs,0,none⟩) hb).trans hc) h0
theorem LH:(prog.info? 3).map (fun i=>(i.zero,i.size,i.bytes))=some (some (.int .i64 0),1,8):=by kernel_rfl
theorem PX (n:Nat)(hn:3<=n)(Bs:Nat)(s:List UInt8)(hs:s.length<=100000)(w:World)(hb:Bs<w.heap.size)(hc:w.cell? ⟨Bs,0,none⟩=some (.string ⟨s.toArray⟩)):
  CallsIn Fence.wide n prog 175 #[.slice none 0 0,.func (.func 167) #[] #[.pointer (some ⟨Bs,0,none⟩)]] w fun e W'=>∃ v,e=.returned v/\aN W' w.heap.size v (gy (cy s))/\Below w.heap.size w W':=by
 have h1:1<=n:=by omega
 have tX:(cy s).length<=8*s.length:=by
  unfold cy;exact aux (auM _ _) (by simp)
 obtain⟨i0,hi,nX,mZ,oH⟩:=auO LH;refine callsIn_of_wp_marks func175 rfl trivial ?_ rfl;simp only[ntmps175,avU,auA,avK,Nat.reduceAdd,Nat.reduceSub,avV,avW,avX,avY,au9,avf]
 gi_wp2
 have bO:=Boxed.new w 46 (.slice none 0 0);have ZI:Below w.heap.size w (w.alloc (.cells #[.slice none 0 0] 46)):=(Below.refl _ w).alloc (auE _) _;refine wpIn_rangeFunc_ownG rfl h1 (gf:=167) (lb:=#[.pointer (some ⟨Bs,0,none⟩)]) rfl trivial (enters_of func167 (by kernel_rfl) rfl)
  (zK (n-1) (by omega) Bs s (by omega) _ (by simp;omega) ((ZI.cell (p:=⟨Bs,0,none⟩) hb).trans hc)) jD.trans (JZ (by simp;omega)) (Below.refl _ _) (fun _=>rfl)
  (fun(pre:List Int) W=>(∃ v,Boxed W w.heap.size 46 v/\W.ownsRow w.heap.size 3 1 v pre.length (pre.map (Value.int .i64))/\True)/\Below w.heap.size w W)
  (fun _ _ _=>False)
  (OwnFrom.and (Own.from (holdsRow_own w.heap.size w.heap.size 46 3 1 (fun(pre:List Int)=>pre.length) (fun(pre:List Int)=>pre.map (Value.int .i64)) (fun(_:List Int) _=>True)) _) (ownFrom_below (auE _) (by simp)))
  (fun _ _ _ _ _ hs _ _=>hs)
  ⟨⟨_,bO,World.ownsRow_nil _ _ _ _,trivial⟩,ZI⟩
  (fun x=>{ tmps:=#[.slice none 0 0,.func (.func 167) #[] #[.pointer (some ⟨Bs,0,none⟩)],.pointer (some ⟨w.heap.size,0,none⟩),undef,.slice none 0 0,.int .i64 x,.func (.func 167) #[] #[.pointer (some ⟨Bs,0,none⟩)],.int .i64 x,undef,undef,undef,undef,undef],defers:=[] }) ?assign ?body ?done ?stop
 case assign=>
  intro l x W K hK
  gi_wp2
  exact hK
 case body=>
  rintro l pre x W ⟨⟨v,hv,cJ,_⟩,hB⟩ aL;have hc:=hv.cell
  gi_wp2_with (gi_at_builtin;refine wpListIn_append_own _ rfl _ _ 46 rfl w.heap.size 3 i0 (.int .i64 0) 1 8 underlying46 hi nX mZ oH rfl (by decide) _ _ _ rfl (cJ.alloc _) ⟨W.heap.size,0,none⟩ 1 1 [.int .i64 x] rfl rfl (cell_one_new _ _ _) (by simp[Value.oneCell']) (by unfold maxLen;omega) (by omega) (by have:=hB.size;simp;omega) ?_;intro v' w1 oq qy _;obtain⟨g',WE,rfl⟩:=ownsRow_succ oq;obtain⟨hv1,OP,tT,de,fi⟩:=hv.appended (by decide) cJ hB.size (auE _) oq qy;have AB:=hv1.cell;have hf1:=hv1.frozen)
  exact⟨de.from _,jD.of fi hb,⟨_,OP,by simpa using tT,trivial⟩,hB.trans fi⟩
 case done=>
  rintro D ys W hD rfl ⟨⟨v,hv,cJ,_⟩,hB⟩ hK;have hc:=hv.cell
  gi_wp2
  refine⟨by simp,.inl ⟨_,_,rfl,run_takeDeferred hK,?_⟩⟩;exact⟨_,results_tmp rfl _ _ _,v,rfl,ownsRow_putObj cJ _ hK rfl,hB.trans (belowK_b (w:=w) (auE _) W D _ _ (by simp at hD;omega) hK rfl rfl)⟩
 case stop=>
  rintro D c pre W _ _ h _;exact h.elim
end
section
open Go.RowKit
def LJ:Option Nat->Value
 |some n=>.tuple #[.int .i64 (n:Int),.bool true]
 |none=>.tuple #[.int .i64 0,.bool false]
theorem J0 (s:List UInt8)(a b:Nat)(w:World)(hs:s.length<=1000000000)(ha:a<=1000000000)(hb:b<=1000000000):
  Calls prog 206 #[.string ⟨s.toArray⟩,.int .i64 (a:Int),.int .i64 (b:Int)] w fun e w'=>e=.returned (LJ (gl s a b))/\w=w':=by
 have Xx:max (0:Int) (a:Int)=(a:Int):=by omega
 have Hs:=hd0 hs;clear hs;go_enter func206,ntmps206;go_wp2_with fail;clear Xx
 go_loop [8] (fun i=>∃ k:Nat,a<=k/\k<=max a b/\i=.int .i64 (k:Int)/\Hid (gl s a b=gl s k b)) (fun i=>max a b-(intOf i).toNat)
 case atStart=>exact⟨a,by omega,by omega,rfl,hd0 rfl⟩
 case round=>
  obtain⟨k,h1,h2,rfl,Hk⟩:=hrel;by_cases aL:k<b
  ·have dN:(k:Int)<b:=by omega
   have hc:=JY s k w (aux Hs.out (by decide)) (by omega);have e1:wS s (k:Int)=am s k:=by simp[wS]
   rw[e1]at hc;have BX:Hid (gl s k b=if am s k=true then gl s (k+1) b else some k):=hd0 (OW s aL)
   cases hh:am s k with
   |true=>
    rw[hh]at hc BX;rw[auI rfl]at BX;have Hc:=hd0 hc;clear hc hh e1;go_wp2_with fail;refine Hc.out.mono ?_;rintro e w' ⟨rfl,rfl⟩;go_wp2_with fail;exact⟨⟨k+1,by omega,by omega,by go_num,hd0 (by rw[Hk.out,BX.out])⟩,by simp[intOf];omega⟩
   |false=>
    rw[hh]at hc BX;have Hc:=hd0 hc;clear hc hh e1;go_wp2_with fail;refine Hc.out.mono ?_;rintro e w' ⟨rfl,rfl⟩;go_wp2;go_ret2;exact⟨by rw[Hk.out,BX.out];rfl,rfl⟩
  ·have dN:¬(k:Int)<b:=by omega
   have Jt:Hid (gl s k b=none):=hd0 (T5 s (by omega));go_wp2;go_ret2;exact⟨by rw[Hk.out,Jt.out];rfl,rfl⟩
theorem Ux (n:Nat)(w:World)(hn:n<=65535):Calls prog 81 #[.int .i64 (n:Int)] w fun e w'=>e=.returned (.bool false)/\w=w':=by
 have h1:¬(n:Int)<0:=by omega
 have h2:¬(65535:Int)<n:=by omega
 go_enter func81,ntmps81;go_wp2;go_ret;exact⟨rfl,rfl⟩
abbrev qj (l:List Nat):List Value:=l.map fun(n:Nat)=>Value.int .i64 (n:Int)
theorem Uy (l:List Nat)(v:Value)(w:World)(hv:eJ w v (qj l))(hl:l.length<=1000000)(hn:∀ n∈l,n<=65535):
  Calls prog 162 #[v,.func (.func 81) #[] #[]] w fun e w'=>e=.returned (.int .i64 (-1))/\w=w':=by
 obtain⟨a,cap,rfl,hx⟩:=hv;rw[au4];have HX:=hd0 hx;have HN:=hd0 hn;have E9:(l.length:Int)<=1000000:=by omega
 clear hx hn hl;go_enter func162,ntmps162;go_wp2_with fail
 go_loop [8] (fun i=>∃ k:Nat,k<=l.length/\i=.int .i64 (k:Int)) (fun i=>l.length-(intOf i).toNat)
 case atStart=>exact⟨0,by omega,rfl⟩
 case round=>
  obtain⟨k,hk,rfl⟩:=hrel;by_cases aL:k<l.length
  ·have dN:(k:Int)<l.length:=by omega
   obtain⟨x,hx⟩:∃ x,l[k]?=some x:=⟨_,auB aL⟩
   obtain⟨b,o,rfl,c0⟩:=HX.out k _ (by rw[avB,hx];rfl);have sT:=HN.out x (auC hx);clear hx;go_wp2_with fail;refine(Ux x _ sT).mono ?_;rintro e w' ⟨rfl,rfl⟩;go_wp2_with fail;exact⟨⟨k+1,by omega,by go_num⟩,by simp[intOf];omega⟩
  ·have dN:¬(k:Int)<l.length:=by omega
   go_wp2;go_ret;exact⟨rfl,rfl⟩
theorem Uz (l:List Nat)(v:Value)(w:World)(hv:eJ w v (qj l))(hl:l.length<=1000000)(hn:∀ n∈l,n<=65535):
  Calls prog 80 #[v,.func (.func 81) #[] #[]] w fun e w'=>e=.returned (.bool false)/\w=w':=by
 have HC:=hd0 (Uy l v w hv hl hn);clear hv hl hn;go_enter func80,ntmps80;go_wp2_with fail;refine HC.out.mono ?_;rintro e w' ⟨rfl,rfl⟩;go_wp2;go_ret;exact⟨rfl,rfl⟩
theorem PY (l:List Nat)(v:Value)(w:World)(hv:eJ w v (qj l))(hl:l.length<=1000000)(h0:0<l.length)(hn:∀ n∈l,n<=65535):
  Calls prog 82 #[v] w fun e w'=>e=.returned (.int .i64 ((l.foldl max 0:Nat):Int))/\w=w':=by
 obtain⟨a,cap,rfl,hx⟩:=hv;rw[au4];have HX:=hd0 hx;have HN:=hd0 hn;have E9:(l.length:Int)<=1000000:=by omega
 have tY:¬(l.length:Int)<1:=by omega
 have vw:(0:Int)<l.length:=by omega
 obtain⟨x0,sX⟩:∃ x,l[0]?=some x:=⟨_,auB h0⟩
 obtain⟨b,o,rfl,c0⟩:=HX.out 0 _ (by rw[avB,sX];rfl);rw[Nat.add_zero]at c0;have Hx0:Hid ((l.take 1).foldl max 0=x0):=hd0 (by
  cases l with
  |nil=>cases sX
  |cons y r=>simp at sX;simp[sX])
 have iM:x0<=65535:=hn x0 (auC sX);have Hl0:=hd0 h0;clear hx hn hl sX h0;go_enter func82,ntmps82;go_wp2_with fail
 go_loop [3,4] (fun m i=>∃(k x:Nat),1<=k/\k<=l.length/\i=.int .i64 (k:Int)/\m=.int .i64 (x:Int)/\x<=65535/\Hid ((l.take k).foldl max 0=x)) (fun _ i=>l.length-(intOf i).toNat)
 case atStart=>exact⟨1,x0,by omega,by have:=Hl0.out;omega,rfl,rfl,iM,Hx0⟩
 case round=>
  clear c0 iM Hx0;obtain⟨k,x,hk1,hk,rfl,rfl,yA,Hx⟩:=hrel;by_cases aL:k<l.length
  ·have dN:(k:Int)<l.length:=by omega
   obtain⟨y,hy⟩:∃ x,l[k]?=some x:=⟨_,auB aL⟩
   obtain⟨b',o',e,c1⟩:=HX.out k _ (by rw[avB,hy];rfl)
   cases e
   have hyb:=HN.out y (auC hy);have Xx:max (x:Int) (y:Int)=((max x y:Nat):Int):=by omega
   have Hmx:Hid ((l.take (k+1)).foldl max 0=max x y):=hd0 (by rw[auD,hy];simp[List.foldl_append,Hx.out]);obtain⟨z,hz⟩:∃ z,max x y=z:=⟨_,rfl⟩
   have hzb:z<=65535:=by omega
   rw[hz]at Xx Hmx;clear hy hz;go_wp2_with fail;exact⟨⟨k+1,z,by omega,by omega,by go_num,rfl,hzb,Hmx⟩,by simp[intOf];omega⟩
  ·have dN:¬(k:Int)<l.length:=by omega
   obtain rfl:k=l.length:=by omega
   rw[auF]at Hx;go_wp2;go_ret;exact⟨by rw[Hx.out];rfl,rfl⟩
theorem ahx (n:Nat)(h:n<8):IntKind.u8.wrap (2 ^ n)=((UInt8.ofNat (2 ^ n)).toNat:Int):=by
 have:n=0\/n=1\/n=2\/n=3\/n=4\/n=5\/n=6\/n=7:=by omega
 rcases this with rfl|rfl|rfl|rfl|rfl|rfl|rfl|rfl<;>decide
theorem UA (n k:Nat)(h:n<8)(hk:k<8):(UInt8.ofNat (2 ^ n)).toNat.testBit k=decide (n=k):=by
 have key:∀ n k:Fin 8,(UInt8.ofNat (2 ^ n.1)).toNat.testBit k.1=decide (n.1=k.1):=by decide +kernel
 exact key ⟨n,h⟩ ⟨k,hk⟩
def FE (m:Nat):List Nat->List UInt8
 |[]=>List.replicate m 0
 |n::r=>(FE m r).set (n/8) ((FE m r).getD (n/8) 0|||UInt8.ofNat (2 ^ (n%8)))
theorem Bb (m:Nat)(l:List Nat):(FE m l).length=m:=by
 induction l with
 |nil=>simp[FE]
 |cons n r ih=>simp[FE,ih]
theorem UB (m:Nat)(l:List Nat)(h:∀ n∈l,n/8<m)(n:Nat):am (FE m l) n=l.contains n:=by
 induction l with
 |nil=>
  obtain⟨i,k,hk,rfl⟩:∃ i k,k<8/\n=8*i+k:=⟨n/8,n%8,by omega,by omega⟩
  rw[dV hk];simp only[FE,List.getD,List.getElem?_replicate];split<;>simp
 |cons x r ih=>
  have ih:=ih fun y hy=>h y (by simp[hy]);have hx:=h x (by simp);obtain⟨i,k,hk,rfl⟩:∃ i k,k<8/\n=8*i+k:=⟨n/8,n%8,by omega,by omega⟩
  rw[dV hk]at ih ⊢;rw[List.contains_cons,<-ih];simp only[FE,List.getD,List.getElem?_set];by_cases e:x/8=i
  ·subst e;rw[auI rfl,auI (by rw[Bb];exact hx)];simp only[avb,UInt8.toNat_or,Nat.testBit_or,UA _ _ (Nat.mod_lt x (by decide)) hk];rw[Bool.or_comm]
   congr 1
   rw[avh];simp only[auY,ave];omega
  ·rw[auK e];have:(8*i+k==x)=false:=by rw[avj];omega
   rw[this,Bool.false_or]
theorem acl (l:List Nat)(m:Nat)(h:∀ n∈l,n/8<m):least (FE m l.reverse)=iO l:=by
 refine T3 (oK _) (KY _) fun n=>?_;rw[qE,UB m _ (fun y hy=>h y (by simpa using hy)),vL];simp
theorem GS (l:List UInt8)(i:Nat):(aQ l)[i]?=(l[i]?).map fun c=>Value.int .u8 (c.toNat:Int):=by simp[aQ,gz]
theorem acm (l:List UInt8)(i:Nat)(c:UInt8):(aQ l).setIfInBounds i (.int .u8 (c.toNat:Int))=aQ (l.set i c):=by
 unfold aQ gz;rw[List.setIfInBounds_toArray,List.map_set]
theorem Bc (l:List Nat)(v:Value)(w:World)(hv:eJ w v (qj l))(hl:l.length<=1000000)(hn:∀ n∈l,n<=65535):
  Calls prog 34 #[v] w fun e w'=>e=.returned (.tuple #[.string ⟨(iO l).toArray⟩,.int .i64 0])/\af w w':=by
 have HCf:=hd0 (Uz l v w hv hl hn);by_cases h0:l.length=0
 ·obtain rfl:=au8.1 h0;obtain⟨a,cap,rfl,hx⟩:=hv;clear hx h0 hn hl;go_enter func34,ntmps34;go_wp2_with fail;refine HCf.out.mono ?_;rintro e w' ⟨rfl,rfl⟩;go_wp2;go_ret2;exact⟨rfl,ah.refl _ _⟩
 ·have HCm:=hd0 (PY l v w hv hl (by omega) hn);obtain⟨mx,Xx⟩:∃ mx,l.foldl max 0=mx:=⟨_,rfl⟩
  have ze:mx<=65535:=by
   have key:∀(l:List Nat) (m:Nat),m<=65535->(∀ n∈l,n<=65535)->l.foldl max m<=65535:=by
    intro l
    induction l with
    |nil=>intro m h _;exact h
    |cons x r ih=>intro m h1 h2;exact ih _ (by have:=h2 x (by simp);omega) fun n hn=>h2 n (by simp[hn])
   rw[<-Xx];exact key l 0 (by omega) hn
  have XB:∀ n∈l,n/8<mx/8+1:=fun n h=>by
   have:=(uc l 0).2 n h;rw[Xx]at this;omega
  have VH:=hd0 XB;rw[Xx]at HCm;obtain⟨a,cap,rfl,hx⟩:=hv;rw[au4]at HCf HCm ⊢;have HX:=hd0 hx;have HN:=hd0 hn;have Hl:=hd0 hl;have E9:(l.length:Int)<=1000000:=by omega
  have tY:((l.length:Int)==0)=false:=by rw[avj];omega
  have oz:=jv (P:=prog) (ts:=131) (te:=5) underlying131 (by kernel_rfl) (mx/8+1) (by omega);have ahS:∀ W,(Instr.makeSlice 131 (.int .i64 ((mx:Int)/8+1)) (.int .i64 ((mx:Int)/8+1))).run prog W=.ok (.slice (some ⟨W.heap.size,0,none⟩) (mx/8+1) (mx/8+1)) (W.alloc (.cells (aQ (List.replicate (mx/8+1) 0)) 5)):=fun W=>by
   have:=oz W
   rwa [show((mx/8+1:Nat):Int)=(mx:Int)/8+1 by omega]at this
  clear hx hn hl h0 Xx XB oz;go_enter func34,ntmps34;go_wp2_with fail;refine HCf.out.mono ?_;rintro e w' ⟨rfl,rfl⟩;go_wp2_with fail;refine HCm.out.mono ?_;rintro e w' ⟨rfl,rfl⟩;go_wp2_with fail;obtain⟨m,hm⟩:∃ m,mx/8+1=m:=⟨_,rfl⟩
  have aqI:m<=8192:=by omega
  rw[hm]at VH;rw[hm];have HO:Hid (World.blk (w.alloc (.cells (aQ (List.replicate m 0)) 5)) w.heap.size (aQ (FE m (l.take 0).reverse)) 5):=hd0 (aw _ _ _);have HK:Hid (af w (w.alloc (.cells (aQ (List.replicate m 0)) 5))):=hd0 ((ah.refl _ w).alloc _);clear ahS hm;generalize (w.alloc (.cells (aQ (List.replicate m 0)) 5))=w0 at*;obtain⟨ob,ip⟩:∃ ob,w.heap.size=ob:=⟨_,rfl⟩
  have yz:=hd0 ip;rw[ip]at HO;rw[ip];clear ip HCf HCm
  go_loopw [19] (fun i wr=>∃ k:Nat,k<=l.length/\i=.int .i64 (k:Int)/\af w wr/\World.blk wr ob (aQ (FE m (l.take k).reverse)) 5) (fun i _=>l.length-(intOf i).toNat)
  case atStart=>exact⟨0,by omega,rfl,HK.out,HO.out⟩
  case round=>
   clear HO HK;obtain⟨k,hk,rfl,hK,hO⟩:=hrel;have HK:=hd0 hK;have HO:=hd0 hO;clear hK hO;by_cases aL:k<l.length
   ·have dN:(k:Int)<l.length:=by omega
    obtain⟨x,hx⟩:∃ x,l[k]?=some x:=⟨_,auB aL⟩
    obtain⟨b,o,rfl,c0⟩:=HX.out k _ (by rw[avB,hx];rfl);have c1:wr.cell? ⟨b,o+k,none⟩=some (.int .i64 (x:Int)):=by rw[HK.out.cell (p:=⟨b,o+k,none⟩) (ak c0) id];exact c0
    have yA:=HN.out x (auC hx);have Yk:=VH.out x (auC hx);have hxi:(x:Int)/8<m:=by omega
    have Hx:=hd0 hx;obtain⟨y,hy⟩:∃ y,(FE m (l.take k).reverse)[x/8]?=some y:=⟨_,auB (by rw[Bb];exact Yk)⟩
    have Hy:=hd0 hy;have d0:wr.cell? ⟨ob,x/8,none⟩=some (.int .u8 (y.toNat:Int)):=by rw[aa HO.out,GS,hy];rfl
    have f0:wr.frozen? ⟨ob,x/8,none⟩=false:=ae HO.out _ rfl;clear hx c0 hy;go_wp2_with fail;have FP:IntKind.i64.wrap ((x:Int)/8)=(x:Int)/8:=av4 _ (by omega);have Yt:(0:Int)<=(x:Int)/8:=by omega
    have hw3:((x:Int)/8).toNat=x/8:=by omega
    have Yv:Int.tmod (x:Int) 8=(x:Int)%8:=Int.tmod_eq_emod_of_nonneg (by omega);have hw5:IntKind.i64.wrap ((x:Int)%8)=(x:Int)%8:=av4 _ (by omega);refine dD 10 (by kernel_rfl) (by kernel_rfl) ?_;simp only[avn,avo,avq,avr]
    repeat (quiet_step (fail))
    obtain⟨z,hz⟩:∃ z,y|||UInt8.ofNat (2 ^ (x%8))=z:=⟨_,rfl⟩
    have Vz:bits .or .u8 (y.toNat:Int) (IntKind.u8.wrap (2 ^ ((x:Int)%8).toNat))=(z.toNat:Int):=by
     rw[show((x:Int)%8).toNat=x%8 by omega,ahx _ (Nat.mod_lt x (by decide)),or8,hz]
    rw[Vz];have Hz:=hd0 hz;clear Vz hz FP Yt hw3 Yv hw5;refine avt ?_;intro _ cf;obtain⟨nq,rfl⟩:=cf;go_wp2_with fail;refine⟨⟨k+1,by omega,by go_num,(HK.out.setCell (p:=⟨ob,x/8,none⟩) (.inr (by rw[yz.out];exact auE _)) _).drewN nq,?_⟩,by simp[intOf];omega⟩;have h:=ag HO.out (x/8) (.int .u8 (z.toNat:Int));rw[acm]at h;have e:FE m (l.take (k+1)).reverse=(FE m (l.take k).reverse).set (x/8) z:=by
     rw[auD,Hx.out];simp only[Option.toList_some,List.reverse_append,List.reverse_cons,List.reverse_nil,au9,List.singleton_append,FE];rw[<-Hz.out,List.getD,Hy.out];rfl
    rw[e];exact fQ h nq
   ·have dN:¬(k:Int)<l.length:=by omega
    obtain rfl:k=l.length:=by omega
    rw[auF]at HO;have He:Hid (least (FE m l.reverse)=iO l):=hd0 (acl l m VH.out);go_wp2_with fail;refine(tx _ ob m wr HO.out (Bb _ _) (by omega)).mono ?_;rintro e w' ⟨rfl,rfl⟩;go_wp2;go_ret2;exact⟨by rw[He.out];rfl,HK.out⟩
end
section
open Go.RowKit Go.Shelf
attribute [local go_sem] auv
theorem rY (s:List UInt8):(cy s).length<=8*s.length:=by
 unfold cy;exact aux (auM _ _) (by simp)
theorem ahy {β:Type}(B:Nat)(t:TypeId)(f:β->Value):Own (fun s W=>Boxed W B t (f s)):=fun s X Y row hs hg cJ=>hs.kept hg (fun e'=>by
 obtain⟨o,ho,hc⟩:=cJ B e'.symm;rw[show X.heap[B]?=_ from hs]at ho;cases ho;cases hc)
theorem UC (n:Nat)(hn:4<=n)(Bs:Nat)(s:List UInt8)(hs:s.length<=100000)(w:World)(hb:Bs<w.heap.size)(hc:w.cell? ⟨Bs,0,none⟩=some (.string ⟨s.toArray⟩)):
  CallsIn Fence.wide n prog 103 #[.func (.func 167) #[] #[.pointer (some ⟨Bs,0,none⟩)]] w fun e W'=>∃ v,e=.returned v/\aN W' w.heap.size v (gy (cy s))/\Below w.heap.size w W':=by
 have h1:1<=n:=by omega
 have H:=hd0 (PX (n-1) (by omega) Bs s hs w hb hc);refine callsIn_of_wp func103 rfl trivial ?_ rfl;simp only[ntmps103,avU,auA,avK,Nat.reduceAdd,Nat.reduceSub,avV,avW,avX,avY,au9,avf]
 gi_wp2
 refine⟨trivial,H.out.mono ?_⟩;rintro e W1 ⟨v,rfl,h3,h2⟩;have H1:=hd0 h3;have H2:=hd0 h2;clear h3 h2
 gi_wp2
 go_ret;exact⟨_,rfl,H1.out,H2.out⟩
theorem PZ (n:Nat)(hn:5<=n)(s:List UInt8)(hs:s.length<=100000)(w:World):
  CallsIn Fence.wide n prog 51 #[.string ⟨s.toArray⟩] w fun e W'=>∃ v,e=.returned v/\aN W' w.heap.size v (gy (cy s))/\af w W':=by
 have h1:1<=n:=by omega
 have A:=hd0 (PW (n-1) s w);have H:=hd0 (UC (n-1) (by omega) w.heap.size s hs (w.alloc (.cells #[.string ⟨s.toArray⟩] 9)) (by simp) (by simp[go_sem]));refine callsIn_of_wp func51 rfl trivial ?_ rfl;simp only[ntmps51,avU,auA,avK,Nat.reduceAdd,Nat.reduceSub,avV,avW,avX,avY,au9,avf]
 gi_wp2
 refine⟨trivial,A.out.mono ?_⟩;rintro e W1 ⟨rfl,rfl⟩
 gi_wp2
 refine⟨trivial,H.out.mono ?_⟩;rintro e W2 ⟨v,rfl,h3,h2⟩;have H1:=hd0 h3;have H2:=hd0 h2;clear h3 h2
 gi_wp2
 go_ret;exact⟨_,rfl,eX H1.out (by simp),((ah.refl _ _).alloc _).trans (ah.ofBelow H2.out) (fun _ _ h=>h)⟩
theorem zL (s:List UInt8)(hs:s.length<=100000)(w:World):
  Calls prog 51 #[.string ⟨s.toArray⟩] w fun e W'=>∃ v,e=.returned v/\aN W' w.heap.size v (gy (cy s))/\eJ W' v (qj (cy s))/\af w W':=
 (avd.1 (PZ 5 (by omega) s hs w)).mono fun e W' ⟨v,h1,h2,h3⟩=>⟨v,h1,h2,by
  have:=bd h2;simpa[bo,gy,qj,au0,Function.comp_def]using this,h3⟩
theorem P0 (n:Nat)(hn:4<=n)(s:List UInt8)(hs:s.length<=100000)(w:World):
  CallsIn Fence.wide n prog 47 #[.string ⟨s.toArray⟩] w fun e W'=>e=.returned (.int .i64 (jK s:Int))/\af w W':=by
 have h1:1<=n:=by omega
 have tX:=rY s;have A:=hd0 (PW (n-1) s (w.alloc (.cells #[.int .i64 0] 3)));refine callsIn_of_wp_marks func47 rfl trivial ?_ rfl;simp only[ntmps47,avU,auA,avK,Nat.reduceAdd,Nat.reduceSub,avV,avW,avX,avY,au9,avf]
 gi_wp2
 refine⟨trivial,A.out.mono ?_⟩;rintro e W1 ⟨rfl,rfl⟩
 gi_wp2
 refine wpIn_rangeFunc_ownG rfl h1 (gf:=167) (lb:=#[.pointer (some ⟨w.heap.size+1,0,none⟩)]) rfl trivial (enters_of func167 (by kernel_rfl) rfl)
  (zK (n-1) (by omega) (w.heap.size+1) s (by omega) _ (by simp) (by simp[go_sem])) jD.trans (JZ (by simp)) (Below.refl _ _) (fun _=>rfl)
  (fun(pre:List Int) W=>Boxed W w.heap.size 3 (.int .i64 (pre.length:Int))/\Below w.heap.size w W)
  (fun _ _ _=>False)
  (OwnFrom.and (Own.from (ahy w.heap.size 3 (fun(pre:List Int)=>.int .i64 (pre.length:Int))) _) (ownFrom_below (auE _) (by simp;omega)))
  (fun _ _ _ _ _ hs _ _=>hs)
  ⟨(Boxed.new _ _ _).alloc _,((Below.refl _ w).alloc (auE _) _).trans ((Below.refl _ _).alloc (by simp) _)⟩
  (fun x=>{ tmps:=#[.string ⟨s.toArray⟩,undef,.int .i64 0,.pointer (some ⟨w.heap.size,0,none⟩),.string ⟨s.toArray⟩,.func (.func 167) #[] #[.pointer (some ⟨w.heap.size+1,0,none⟩)],.int .i64 x,undef,undef,undef],defers:=[] }) ?assign ?body ?done ?stop
 case assign=>
  intro l x W K hK
  gi_wp2
  simpa using hK
 case body=>
  rintro l pre x W ⟨hv,hB⟩ aL;have hc:=hv.cell;have hf:=hv.frozen;have jJ:(pre.length:Int)<=800000:=by omega
  gi_wp2
  refine⟨(KeepsOthers.setCell W _ _).from _,?_,?_,?_⟩
  ·show World.cell? _ _=_;exact World.cell?_of_block (a:=⟨w.heap.size+1,0,none⟩) (Below.heap_setCell _ _ _ _ (by show w.heap.size+1≠w.heap.size;omega))
  ·have:=hv.set (.int .i64 ((pre.length:Int)+1));simpa using this
  ·exact hB.setCell (auE _) _
 case done=>
  rintro D ys W hD rfl ⟨hv,hB⟩ hK;have hc:=hv.cell
  gi_wp2
  refine⟨by simp,.inl ⟨_,_,rfl,run_takeDeferred hK,?_⟩⟩;exact⟨_,results_tmp rfl _ _ _,by simp[jK],ah.ofBelow (hB.trans (belowK_b (w:=w) (auE _) W D _ _ (by simp at hD;omega) hK rfl rfl))⟩
 case stop=>
  rintro D c pre W _ _ h _;exact h.elim
theorem zM (s:List UInt8)(hs:s.length<=100000)(w:World):
  Calls prog 47 #[.string ⟨s.toArray⟩] w fun e w'=>e=.returned (.int .i64 (jK s:Int))/\af w w':=avd.1 (P0 4 (by omega) s hs w)
end
section
open Go.RowKit Go.Shelf
attribute [local go_sem] auv
theorem acn (c:UInt8)(r:Nat)(hr:r<8):(c.toNat:Int)/2 ^ r*2 ^ r%256=(((c>>>UInt8.ofNat r)<<<UInt8.ofNat r).toNat:Int):=by
 have key:∀(n:Fin 256) (r:Fin 8),n.1/2 ^ r.1*2 ^ r.1%256=((UInt8.ofNat n.1>>>UInt8.ofNat r.1)<<<UInt8.ofNat r.1).toNat:=by decide +kernel
 have:=key ⟨c.toNat,c.toNat_lt⟩ ⟨r,hr⟩;simp only[UInt8.ofNat_toNat]at this;have zj:r=0\/r=1\/r=2\/r=3\/r=4\/r=5\/r=6\/r=7:=by omega
 rcases zj with rfl|rfl|rfl|rfl|rfl|rfl|rfl|rfl<;>(simp only[Nat.reducePow,Int.reducePow]at this ⊢;omega)
theorem P3 (s:List UInt8)(a:Nat)(w:World)(hs:s.length<=140737488351232)(ha:a<=1000000000):
  Calls prog 209 #[.string ⟨s.toArray⟩,.int .i64 (a:Int)] w fun e w'=>e=.returned (LJ (mu s a))/\w=w':=by
 have aaa:max (0:Int) (a:Int)=(a:Int):=by omega
 have hsi:(s.length:Int)<=140737488351232:=by omega
 obtain⟨q,hq⟩:∃ q,a/8=q:=⟨_,rfl⟩
 obtain⟨r,hr⟩:∃ r,a%8=r:=⟨_,rfl⟩
 have e1:(a:Int)/8=(q:Int):=by omega
 have e2:(a:Int)%8=(r:Int):=by omega
 have e2n:a%8=r:=hr;have hr8:r<8:=by omega
 have HQ:Hid (a=8*q+r/\q<=125000000):=hd0 (by omega);clear hq hr;have ct:∀(d:UInt8) (m:World),d≠0->Calls prog 168 #[.int .u8 (d.toNat:Int)] m fun e w'=>e=.returned (.int .i64 (tz d:Int))/\w'=m:=fun d m _=>((Tryz.bits_TrailingZeros8 (d.toNat:Int) m (by omega) (by have:=d.toNat_lt;omega)).mono fun e w' ⟨h1,h2⟩=>⟨by rw[h1,avc,WT],h2⟩)
 have Ct:=hd0 ct;clear ct;go_enter func209,ntmps209;go_wp2_with fail
 go_loop [6] (fun i=>∃ k:Nat,i=.int .i64 (k:Int)/\q<=k/\k<=140737488351232/\Hid (∀ m,a<=m->m<8*k->am s m=false)) (fun i=>s.length-(intOf i).toNat)
 case atStart=>exact⟨q,rfl,auE _,by have:=HQ.out;omega,hd0 (fun m h1 h2=>by have:=HQ.out;omega)⟩
 case round=>
  obtain⟨k,rfl,hk,hk9,Hk⟩:=hrel;by_cases aL:k<s.length
  ·have dN:(k:Int)<s.length:=by omega
   obtain⟨c,hc⟩:∃ c,s[k]?=some c:=⟨_,auB aL⟩
   have hx:=bf (P:=prog) underlying9 s .i64 (k:Int) c (by omega) (by simpa using hc);have Hc:Hid (∀ j,j<8->am s (8*k+j)=c.toNat.testBit j):=hd0 (fun j hj=>by rw[dV hj];simp[List.getD,hc]);clear hc;obtain⟨d,hd⟩:∃ d,d=if k=q then(c>>>UInt8.ofNat r)<<<UInt8.ofNat r else c:=⟨_,rfl⟩
   have Hd:Hid ((d=0->∀ m,a<=m->m<8*(k+1)->am s m=false)/\(d≠0->mu s a=some (8*k+tz d))):=hd0 (by
    obtain⟨hq1,KN⟩:=HQ.out;by_cases Sz:k=q
    ·rw[auI Sz]at hd;have mf:=wO c r hr8;simp only at mf;rw[<-hd]at mf;refine⟨fun h0 m h1 h2=>?_,fun h0=>?_⟩
     ·obtain⟨j,rfl⟩:∃ j,m=8*k+j:=⟨m-8*k,by omega⟩
      rw[Hc.out j (by omega)];exact mf.1 h0 j (by omega) (by omega)
     ·obtain⟨t1,t2,t3,t4⟩:=mf.2 h0;refine JX (by omega) (by rw[Hc.out _ t2];exact t3) (fun m h1 h2=>?_);obtain⟨j,rfl⟩:∃ j,m=8*k+j:=⟨m-8*k,by omega⟩
      rw[Hc.out j (by omega)];exact t4 j (by omega) (by omega)
    ·rw[auK Sz]at hd;subst hd;have mf:=wO d 0 (by omega);have hz:((d>>>UInt8.ofNat 0)<<<UInt8.ofNat 0)=d:=by simp
     simp only[hz]at mf;refine⟨fun h0 m h1 h2=>?_,fun h0=>?_⟩
     ·by_cases h8:m<8*k
      ·exact Hk.out m h1 h8
      ·obtain⟨j,rfl⟩:∃ j,m=8*k+j:=⟨m-8*k,by omega⟩
       rw[Hc.out j (by omega)];exact mf.1 h0 j (by omega) (by omega)
     ·obtain⟨t1,t2,t3,t4⟩:=mf.2 h0;refine JX (by omega) (by rw[Hc.out _ t2];exact t3) (fun m h1 h2=>?_);by_cases h8:m<8*k
      ·exact Hk.out m h1 h8
      ·obtain⟨j,rfl⟩:∃ j,m=8*k+j:=⟨m-8*k,by omega⟩
       rw[Hc.out j (by omega)];exact t4 j (by omega) (by omega))
   have hdb:=d.toNat_lt;have htz:d≠0->tz d<8:=WS d;have hdq:d≠0->(d.toNat:Int)≠0:=fun h0 e=>h0 (by apply UInt8.toNat_inj.1;simpa using e);by_cases ro:k=q
   ·rw[auI ro]at hd;have hm8:=acn c r hr8;rw[<-hd]at hm8;have Sz:((k:Int)==(q:Int))=true:=by simp[ro]
    clear hd ro;by_cases h0:d=0
    ·have hz:((d.toNat:Int) != 0)=false:=by rw[h0];rfl
     have H0:Hid (∀ m,a<=m->m<8*(k+1)->am s m=false):=hd0 (Hd.out.1 h0);clear h0 htz hdq;go_wp2_with fail;exact⟨⟨k+1,by go_num,by omega,by omega,H0⟩,by simp[intOf];omega⟩
    ·have hz:((d.toNat:Int) != 0)=true:=by rw[bne_iff_ne];exact hdq h0
     have H0:Hid (mu s a=some (8*k+tz d)):=hd0 (Hd.out.2 h0);have ht:=htz h0;have C:=hd0 (Ct.out d w h0);clear h0 htz hdq;go_wp2_with fail;refine C.out.mono ?_;rintro e w' ⟨rfl,rfl⟩;go_wp2;go_ret2;have e8:((8*k+tz d:Nat):Int)=(k:Int)*8+(tz d:Int):=by omega
     refine⟨?_,rfl⟩;rw[H0.out];show Ending.returned (.tuple #[.int .i64 ((k:Int)*8+(tz d:Int)),.bool true])=_;rw[<-e8];rfl
   ·rw[auK ro]at hd;subst hd;have Sz:((k:Int)==(q:Int))=false:=by simp;omega
    clear ro;by_cases h0:d=0
    ·have hz:((d.toNat:Int) != 0)=false:=by rw[h0];rfl
     have H0:Hid (∀ m,a<=m->m<8*(k+1)->am s m=false):=hd0 (Hd.out.1 h0);clear h0 htz hdq;go_wp2_with fail;exact⟨⟨k+1,by go_num,by omega,by omega,H0⟩,by simp[intOf];omega⟩
    ·have hz:((d.toNat:Int) != 0)=true:=by rw[bne_iff_ne];exact hdq h0
     have H0:Hid (mu s a=some (8*k+tz d)):=hd0 (Hd.out.2 h0);have ht:=htz h0;have C:=hd0 (Ct.out d w h0);clear h0 htz hdq;go_wp2_with fail;refine C.out.mono ?_;rintro e w' ⟨rfl,rfl⟩;go_wp2;go_ret2;have e8:((8*k+tz d:Nat):Int)=(k:Int)*8+(tz d:Int):=by omega
     refine⟨?_,rfl⟩;rw[H0.out];show Ending.returned (.tuple #[.int .i64 ((k:Int)*8+(tz d:Int)),.bool true])=_;rw[<-e8];rfl
  ·have dN:¬(k:Int)<s.length:=by omega
   go_wp2;go_ret2;refine⟨?_,rfl⟩;rw[LG (fun m hm=>?_)]
   ·rfl
   ·by_cases h8:m<8*k
    ·exact Hk.out m hm h8
    ·exact th (by omega)
end
section
open Go.RowKit Go.Shelf
attribute [local go_sem] auv
def qS (p:Pl):Array Value:=#[.string ⟨p.used.toArray⟩,.string ⟨p.taken.toArray⟩,.int .i64 (p.blocks:Int),.int .i64 (p.next:Int),.int .i64 (p.left:Int)]
structure jR (w:World)(b:Nat)(p:Pl):Prop where
 own:World.blk w b (qS p) 280
 ok:cH p
 used:p.used.length<=600
 taken:p.taken.length<=600
theorem jR.mod {w w':World}{b:Nat}{p:Pl}{S:Nat->Prop}(h:jR w b p)(m:ah S w w')(hb:¬ S b):jR w' b p:=⟨ab m h.own hb,h.ok,h.used,h.taken⟩
theorem DC (used:List UInt8)(blocks next:Nat)(w:World)(hu:used.length<=600)(hb:8<=blocks/\blocks<=4096)(hn:1<=next/\next<=blocks):
  Calls prog 126 #[.string ⟨used.toArray⟩,.int .i64 (blocks:Int),.int .i64 (next:Int)] w fun e w'=>∃ b,e=.returned (.tuple #[.pointer (some ⟨b,0,none⟩),.int .i64 0])/\jR w' b (gB used blocks next)/\w.heap.size<=b/\af w w':=by
 have h1:¬(blocks:Int)<8:=by omega
 have h2:¬(4096:Int)<(blocks:Int):=by omega
 have h3:¬(next:Int)<1:=by omega
 have h4:¬(blocks:Int)<(next:Int):=by omega
 have hbi:(blocks:Int)<=4096:=by omega
 have G:=fun(a:Nat) (ha:a<=5000) W=>J0 used a blocks W (by omega) (by omega) (by omega);have HG:=hd0 G;have G1:=hd0 (G 1 (by omega));have Hhn:=hd0 (And.intro hb hn);clear G hn;go_enter func126,ntmps126;go_wp2_with fail;refine(G1.out _).mono ?_;rintro e w1 ⟨rfl,rfl⟩;obtain⟨o1,Tf⟩:∃ o,gl used 1 blocks=o:=⟨_,rfl⟩
 have Ho1:=hd0 Tf;rw[Tf];have hoV:∀ o:Option Nat,LJ o=.tuple #[.int .i64 ((o.getD 0:Nat):Int),.bool o.isSome]:=fun o=>by cases o<;>rfl
 rw[hoV];have HoV:=hd0 hoV;clear hoV Tf G1;go_wp2_with fail
 go_loopw [8,9,10] (fun l i k wr=>∃(a:Nat) (o:Option Nat),1<=a/\a<=blocks/\Hid (gl used a blocks=o)/\l=.int .i64 ((gq used a:Nat):Int)/\i=.int .i64 ((o.getD 0:Nat):Int)/\k=.bool o.isSome/\wr=w) (fun l _ _ _=>blocks+1-(intOf l).toNat)
 case atStart=>exact⟨1,o1,by omega,by have:=Hhn.out;omega,Ho1,rfl,rfl,rfl,rfl⟩
 case round=>
  obtain⟨a,o,ha1,ha2,Ho,rfl,rfl,rfl,rfl⟩:=hrel;have hfu:gq used a<=a:=LC used a
  cases o with
  |none=>
   have Hl:Hid (gq used a=(gB used blocks next).left):=hd0 (GN ha1 ha2 Ho.out).symm;have HP:=hd0 (GO used Hhn.out.2.1 Hhn.out.2.2 Hhn.out.1.2);clear hfu;go_wp2;go_ret2;have e:qS (gB used blocks next)=#[.string ⟨used.toArray⟩,.string ⟨#[]⟩,.int .i64 (blocks:Int),.int .i64 (next:Int),.int .i64 ((gq used a:Nat):Int)]:=by unfold qS;rw[<-Hl.out];rfl
   exact⟨_,rfl,⟨by rw[e];exact aw _ _ _,HP.out,by show used.length<=600;omega,by show([]:List UInt8).length<=600;simp⟩,auE _,(ah.refl _ wr).alloc _⟩
  |some n=>
   obtain⟨g1,g2,_,_⟩:=oL Ho.out;have Hf:=hd0 (GM ha1 Ho.out);have G:=hd0 (HG.out (n+1) (by omega) wr);have en:((n+1:Nat):Int)=(n:Int)+1:=by omega
   rw[en]at G;have Cd:(n:Int)<5000:=by omega
   have hfi:((gq used a:Nat):Int)<=5000:=by omega
   have Hg:=hd0 (And.intro g1 g2);obtain⟨o',Fe⟩:∃ o',gl used (n+1) blocks=o':=⟨_,rfl⟩
   rw[Fe,HoV.out]at G;have Ho':=hd0 Fe;have Hfu:=hd0 hfu;clear g1 g2 Fe hfu;go_wp2_with fail;refine G.out.mono ?_;rintro e w1 ⟨rfl,rfl⟩;go_wp2_with fail;refine⟨⟨n+1,o',by omega,by have:=Hg.out;omega,Ho',by rw[Hf.out];go_num,rfl,rfl,by first|rfl|trivial⟩,?_⟩;have:=Hf.out;have:=Hfu.out;simp[intOf];omega
theorem DD {w:World}{b bx:Nat}{p:Pl}(h:jR w b p)(hx:World.blk w bx #[.pointer (some ⟨b,0,none⟩)] 200)(yr I6:Nat)(hf:yr<=5000)(he:I6<=5000):
  Calls prog 272 #[.int .i64 (yr:Int),.int .i64 (I6:Int),.pointer (some ⟨bx,0,none⟩)] w fun e w'=>e=.returned (.bool (gl p.used yr I6).isSome)/\w'=match gl p.used yr I6 with
   |some n=>w.setCell ⟨b,3,none⟩ (.int .i64 ((n+1:Nat):Int))
   |none=>w:=by
 have c0:w.cell? ⟨bx,0,none⟩=some (.pointer (some ⟨b,0,none⟩)):=aa hx 0;have u0:w.cell? ⟨b,0,none⟩=some (.string ⟨p.used.toArray⟩):=aa h.own 0;have u3:w.cell? ⟨b,3,none⟩=some (.int .i64 (p.next:Int)):=aa h.own 3;have f3:=ae h.own ⟨b,3,none⟩ rfl;have G:=hd0 (J0 p.used yr I6 w (by have:=h.used;omega) (by omega) (by omega));have hb:∀ n,gl p.used yr I6=some n->n<=5000:=fun n hn=>by have:=(oL hn).2.1;omega
 obtain⟨o,ho⟩:∃ o,gl p.used yr I6=o:=⟨_,rfl⟩
 rw[ho]at G hb ⊢;clear h hx ho;go_enter func272,ntmps272;go_wp2_with fail;refine G.out.mono ?_;rintro e w1 ⟨rfl,rfl⟩;clear G
 cases o with
 |none=>
  unfold LJ;go_wp2;go_ret;exact⟨rfl,rfl⟩
 |some n=>
  have hn:(n:Int)<=5000:=by have:=hb n rfl;omega
  unfold LJ;clear hb;go_wp2;go_ret;exact⟨rfl,rfl⟩
end
end Go.Proofs.YtkghpdcloaiflaaGreatDoor
