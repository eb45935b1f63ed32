import Derived.Test.YtkghpdcloaiflaaGreatDoorH13
import Derived.RangeFuncBox
import Derived.RangeFuncLeaves
import Derived.Shelf.Abstract
import Derived.OwnWalkIn
import Derived.TacticsInMore
import Derived.LoopNIn
import Derived.LoopIn
import Derived.Maps.AppendAt
set_option maxHeartbeats 4000000
set_option maxRecDepth 100000
namespace Go.Proofs.YtkghpdcloaiflaaGreatDoor
open _root_.Go.Proofs.Tryz
variable {A B w:World}{b:Nat}
section
open Go.RowKit Go.Shelf
attribute [local go_sem] av0
abbrev gh (l:List Nat):List Int:=l.map λ(n:Nat)=>(n:Int)
theorem XP (c:UInt8):Lib.trailingZeros8 c.toNat=tz c:=by
 have key:∀ n:Fin 256,Lib.trailingZeros8 n.1=tz (UInt8.ofNat n.1):=by decide +kernel
 have:=key ⟨c.toNat,c.toNat_lt⟩;simpa using this
def jy (b:Nat)(W W':World):Prop:=W'.cell? ⟨b,0,none⟩=W.cell? ⟨b,0,none⟩
theorem jy.refl (b:Nat)(W:World):jy b W W:=rfl
theorem jy.trans {C:World}(h:jy b A B)(k:jy b B C):jy b A C:=Eq.trans k h
theorem jy.of {n:Nat}(h:Below n A B)(hb:b<n):jy b A B:=h.cell (p:=⟨b,0,none⟩) hb
theorem Kd (hn:b<w.heap.size)(W:World)(l:Nat)(o o':Obj)(hl:w.heap.size<=l)(_:W.heap[l]?=some o)(_:o.isCells=false)(_:o.isWalk=false):jy b W (W.putObj l o'):=by
 show(W.putObj l o').cell? _=_;refine World.cell?_of_block ?_;show(W.heap.setIfInBounds l o')[b]?=W.heap[b]?;rw[axw J]
theorem Vl (n:Nat)(hn:1<=n)(l Bs:Nat)(s:List UInt8)(hs:s.length<=1000000)(Ja7 Jx:List Int->World->Prop)
  (hY:∀ pre x W,Ja7 pre W->pre.length<(cL s).length->YieldAt Fence.wide (n-1) prog l #[.int .i64 x] W λe W'=>
   (e=.returned (.bool true)/\Ja7 (pre++[x]) W'/\jy Bs W W')\/(e=.returned (.bool false)/\Jx (pre++[x]) W'))
  (W:World) (hBs:W.cell? ⟨Bs,0,none⟩=some (.string ⟨s.toArray⟩)) (h0:Ja7 [] W):
  CallsIn Fence.wide n prog 167 #[.func (.yield l) #[] #[],.pointer (some ⟨Bs,0,none⟩)] W λe W'=>(∃ v,e=.returned v)/\
   ((∃ ys,ys=gh (cL s)/\Ja7 ys W')\/(∃ pre,pre <+: gh (cL s)/\Jx pre W')):=by
 have hsi:(s.length:Int)<=1000000:=J
 have HY:=Z hY;clear hY;refine callsIn_of_wp func167 rfl trivial ?_ rfl;simp only[ntmps167,axo,av5,axe,Nat.reduceAdd,Nat.reduceSub,axp,axq,axr,axs,awE,awK]
 gi_wp2
 gi_loopw [7] (λi wr=>∃ k:Nat,k<=s.length/\i=.int .i64 (k:Int)/\Ja7 (gh (jJ s k)) wr/\jy Bs W wr)
  (λi _=>s.length-(intOf i).toNat)
 case atStart=>exact⟨0,awP _,rfl,h0,jy.refl _ _⟩
 case round=>
  obtain⟨k,hk,rfl,hJ,hB⟩:=hrel;obtain⟨HJ,HB⟩:=K2 hJ hB;have c0:wr.cell? ⟨Bs,0,none⟩=some (.string ⟨s.toArray⟩):=Eq.trans hB hBs;clear hJ hB;by_cases aP:k<s.length
  ·have dL:(k:Int)<s.length:=J
   obtain⟨c,hc⟩:∃ c,s[k]?=some c:=⟨_,av6 aP⟩
   have hx:=aM (P:=prog) underlying9 s .i64 (k:Int) c J (by simpa using hc);have Hsu:Hid (jJ s (k+1)=jJ s k++(lS c).map (8*k+·)):=Z (by rw[ue];simp[List.getD,hc]);clear hc
   gi_wp2
   gi_loopw [4] (λi w2=>∃(d:UInt8) (pre:List Nat),i=.int .u8 (d.toNat:Int)/\Ja7 (gh pre) w2/\jy Bs W w2/\Hid (jJ s (k+1)=pre++(lS d).map (8*k+·))) (λi _=>(intOf i).toNat)
   case atStart=>exact⟨c,_,rfl,HJ.o,HB.o,Hsu⟩
   case round=>
    clear HJ HB c0 hx Hsu;obtain⟨d,pre,rfl,hJ,hB,Hs⟩:=hrel;obtain⟨HJ,HB⟩:=K2 hJ hB;clear hJ hB;by_cases hd:d=0
    ·subst hd;have He:Hid (jJ s (k+1)=pre):=Z (by rw[Hs.o,LM];simp)
     gi_wp2
     go_roundw
     case rel=>exact⟨k+1,J,by go_num,by rw[He.o];exact HJ.o,HB.o⟩
     case measure=>simp[intOf];omega
    ·have ht:=XO d hd;have hdq:d.toNat≠0:=λe=>hd (by apply UInt8.toNat_inj.1;simpa using e);have hdb:=d.toNat_lt;have dh:=LL d hd;have KL:=Qb d hd;have hw:(d.toNat:Int)-1=((d-1).toNat:Int):=by
      have:(d-1).toNat=d.toNat-1:=by
       rw[UInt8.toNat_sub_of_le]
       ·rfl
       ·rw[UInt8.le_iff_toNat_le];simp;omega
      omega
     obtain⟨d',hd'⟩:∃ d',d&&&(d-1)=d':=⟨_,rfl⟩
     have agt:bits .and .u8 (d.toNat:Int) ((d.toNat:Int)-1)=(d'.toNat:Int):=by rw[hw,aiD,hd']
     rw[hd']at dh KL;have ct:∀ m W,CallsIn Fence.wide m prog 168 #[.int .u8 (d.toNat:Int)] W λe w'=>e=.returned (.int .i64 (tz d:Int))/\w'=W:=λm W=>awI.2 ((Tryz.bits_TrailingZeros8 (d.toNat:Int) W J J).mono λe w' ⟨h1,h2⟩=>⟨by rw[h1,awH,XP],h2⟩);have Cc:Hid (jJ s (k+1)=(pre++[8*k+tz d])++(lS d').map (8*k+·)):=Z (by rw[Hs.o,dh];simp);have Hpl:Hid (pre.length<(cL s).length):=Z (by
      have h1:=(wA s (k+1) J).length_le;rw[Cc.o]at h1;simp only[awn,av5,axe]at h1;omega)
     have hx:((8*k+tz d:Nat):Int)=(k:Int)*8+(tz d:Int):=J
     obtain⟨fn,tmps,assign,body,hy,hR⟩:=HY.o (gh pre) ((k:Int)*8+(tz d:Int)) wr HJ.o (by simpa using Hpl.o);obtain⟨Hx,Hand,Ct⟩:=K3 hx agt ct;have eG:((d.toNat:Int) != 0)=true:=by rw[bne_iff_ne];omega
     clear dh hd' hw agt ct hx hd
     gi_wp2
     refine⟨trivial,(Ct.o _ _).mono ?_⟩;rintro e w' ⟨rfl,rfl⟩
     gi_wp2
     refine hR.mono ?_;rintro e W3 (⟨rfl,hJ3,dr⟩|⟨rfl,Oa⟩)
     ·have HJ3:Hid (Ja7 (gh (pre++[8*k+tz d])) W3):=Z (by
       have e:gh (pre++[8*k+tz d])=gh pre++[(k:Int)*8+(tz d:Int)]:=by rw[<-Hx.o];simp
       rw[e];exact hJ3)
      have qv:=Z (HB.trans dr);clear hJ3 dr hy hR
      gi_wp2
      go_roundw
      case rel=>exact⟨d',_,by rw[Hand.o],HJ3.o,qv.o,Cc⟩
      case measure=>simp[intOf,Hand.o];omega
     ·have HJx:Hid (Jx (gh (pre++[8*k+tz d])) W3):=Z (by
       have e:gh (pre++[8*k+tz d])=gh pre++[(k:Int)*8+(tz d:Int)]:=by rw[<-Hx.o];simp
       rw[e];exact Oa)
      clear Oa hy hR
      gi_wp2
      refine awC (results_none rfl _ _ _) rfl ?_;refine⟨⟨_,rfl⟩,.inr ⟨_,?_,HJx.o⟩⟩;have h1:=wA s (k+1) J;rw[Cc.o]at h1;exact List.IsPrefix.map _ ((List.prefix_append _ _).trans h1)
  ·obtain rfl:k=s.length:=J
   gi_wp2
   go_end0;exact⟨⟨_,rfl⟩,.inl ⟨_,by rw[<-G7],HJ.o⟩⟩
theorem Qc (n:Nat)(s:List UInt8)(w:World):
  CallsIn Fence.wide n prog 93 #[.string ⟨s.toArray⟩] w λe w'=>e=.returned (.func (.func 167) #[] #[.pointer (some ⟨w.heap.size,0,none⟩)])/\w'=w.alloc (.cells #[.string ⟨s.toArray⟩] 9):=by
 refine callsIn_of_wp func93 rfl trivial ?_ rfl;simp only[ntmps93,axo,av5,axe,Nat.reduceAdd,Nat.reduceSub,axp,axq,axr,axs,awE,awK]
 gi_wp2
 go_ret;exact⟨rfl,rfl⟩
theorem zI (n:Nat)(hn:1<=n)(Bs:Nat)(s:List UInt8)(hs:s.length<=1000000)(w:World)(hb:Bs<w.heap.size)(hc:w.cell? ⟨Bs,0,none⟩=some (.string ⟨s.toArray⟩)):
  SeqStopsK Fence.wide n prog 167 #[.pointer (some ⟨Bs,0,none⟩)] (λx:Int=>#[Value.int .i64 x]) (jy Bs) (λys=>ys=gh (cL s)) (λpre=>pre <+: gh (cL s)) (cL s).length w:=λl Ja7 Jx W hW _ _ hY h0=>
 Vl n hn l Bs s hs Ja7 Jx hY W ((hW.cell (p:=⟨Bs,0,none⟩) hb).trans hc) h0
theorem LP:(prog.info? 3).map (λi=>(i.zero,i.size,i.bytes))=some (some (.int .i64 0),1,8):=kr7
theorem Qe (n:Nat)(hn:3<=n)(Bs:Nat)(s:List UInt8)(hs:s.length<=100000)(w:World)(hb:Bs<w.heap.size)(hc:w.cell? ⟨Bs,0,none⟩=some (.string ⟨s.toArray⟩)):
  CallsIn Fence.wide n prog 175 #[.slice none 0 0,.func (.func 167) #[] #[.pointer (some ⟨Bs,0,none⟩)]] w λe W'=>∃ v,e=.returned v/\aO W' w.heap.size v (gh (cL s))/\Below w.heap.size w W':=by
 have h1:1<=n:=J
 have yl:(cL s).length<=8*s.length:=by
  unfold cL;exact av2 (awh _ _) sp7
 obtain⟨i0,hi,iK,lX,mJ⟩:=awj LP;refine callsIn_of_wp_marks func175 rfl trivial ?_ rfl;simp only[ntmps175,axo,av5,axe,Nat.reduceAdd,Nat.reduceSub,axp,axq,axr,axs,awE,awK]
 gi_wp2
 have bO:=Boxed.new w 46 (.slice none 0 0);have hB0:Below w.heap.size w (w.alloc (.cells #[.slice none 0 0] 46)):=(Below.refl _ w).alloc (av9 _) _;refine wpIn_rangeFunc_ownG rfl h1 (gf:=167) (lb:=#[.pointer (some ⟨Bs,0,none⟩)]) rfl trivial (enters_of func167 kr7 rfl)
  (zI (n-1) J Bs s J _ (by simp;omega) ((hB0.cell (p:=⟨Bs,0,none⟩) hb).trans hc)) jy.trans (Kd (by simp;omega)) (Below.refl _ _) (λ_=>rfl)
  (λ(pre:List Int) W=>(∃ v,Boxed W w.heap.size 46 v/\W.ownsRow w.heap.size 3 1 v pre.length (pre.map (Value.int .i64))/\True)/\Below w.heap.size w W)
  (λ_ _ _=>False)
  (OwnFrom.and (Own.from (holdsRow_own w.heap.size w.heap.size 46 3 1 (λ(pre:List Int)=>pre.length) (λ(pre:List Int)=>pre.map (Value.int .i64)) (λ(_:List Int) _=>True)) _) (ownFrom_below (av9 _) sp7))
  (λ_ _ _ _ _ hs _ _=>hs)
  ⟨⟨_,bO,World.ownsRow_nil _ _ _ _,trivial⟩,hB0⟩
  (λx=>{ tmps:=#[.slice none 0 0,.func (.func 167) #[] #[.pointer (some ⟨Bs,0,none⟩)],.pointer (some ⟨w.heap.size,0,none⟩),undef,.slice none 0 0,.int .i64 x,.func (.func 167) #[] #[.pointer (some ⟨Bs,0,none⟩)],.int .i64 x,undef,undef,undef,undef,undef],defers:=[] }) ?assign ?body ?done ?stop
 case assign=>
  intro l x W K hK
  gi_wp2
  exact hK
 case body=>
  rintro l pre x W ⟨⟨v,hv,cq,_⟩,hB⟩ aP;have hc:=hv.cell
  gi_wp2_with (gi_at_builtin;refine wpListIn_append_own _ rfl _ _ 46 rfl w.heap.size 3 i0 (.int .i64 0) 1 8 underlying46 hi iK lX mJ rfl dc7 _ _ _ rfl (cq.alloc _) ⟨W.heap.size,0,none⟩ 1 1 [.int .i64 x] rfl rfl (cell_one_new _ _ _) (by simp[Value.oneCell']) (by unfold maxLen;omega) J (by have:=hB.size;simp;omega) ?_;intro v' w1 nV qq _;obtain⟨g',WP,rfl⟩:=ownsRow_succ nV;obtain⟨hv1,UG,nU,dK,fh⟩:=hv.appended dc7 cq hB.size (av9 _) nV qq;have AH:=hv1.cell;have hf1:=hv1.frozen)
  exact⟨dK.from _,jy.of fh hb,⟨_,UG,by simpa using nU,trivial⟩,hB.trans fh⟩
 case done=>
  rintro D ys W hD rfl ⟨⟨v,hv,cq,_⟩,hB⟩ hK;have hc:=hv.cell
  gi_wp2
  refine⟨by simp,.inl ⟨_,_,rfl,run_takeDeferred hK,?_⟩⟩;exact⟨_,results_tmp rfl _ _ _,v,rfl,ownsRow_putObj cq _ hK rfl,hB.trans (belowK_b (w:=w) (av9 _) W D _ _ (by simp at hD;omega) hK rfl rfl)⟩
 case stop=>
  rintro D c pre W _ _ h _;exact h.elim
end
section
open Go.RowKit
def Bd:Option Nat->Value
 |some n=>.tuple #[.int .i64 (n:Int),.bool true]
 |none=>.tuple #[.int .i64 0,.bool false]
theorem Ke (s:List UInt8)(a b:Nat)(w:World)(hs:s.length<=1000000000)(ha:a<=1000000000)(hb:b<=1000000000):
  Calls prog 206 #[.string ⟨s.toArray⟩,.int .i64 (a:Int),.int .i64 (b:Int)] w λe w'=>e=.returned (Bd (fW s a b))/\w=w':=by
 have Zt:max (0:Int) (a:Int)=(a:Int):=J
 have Hs:=Z hs;clear hs;go_enter func206,ntmps206;go_wp2_with fail;clear Zt
 go_loop [8] (λi=>∃ k:Nat,a<=k/\k<=max a b/\i=.int .i64 (k:Int)/\Hid (fW s a b=fW s k b)) (λi=>max a b-(intOf i).toNat)
 case atStart=>exact⟨a,J,J,rfl,Z rfl⟩
 case round=>
  obtain⟨k,h1,h2,rfl,Hk⟩:=hrel;by_cases aP:k<b
  ·have dL:(k:Int)<b:=J
   have hc:=Bc s k w (av2 Hs.o dc7) J;have e1:mr s (k:Int)=aq s k:=by simp[mr]
   rw[e1]at hc;have Cc:Hid (fW s k b=if aq s k=true then fW s (k+1) b else some k):=Z (Pf s aP)
   cases hh:aq s k with
   |true=>
    rw[hh]at hc Cc;rw[awd rfl]at Cc;have Hc:=Z hc;clear hc hh e1;go_wp2_with fail;refine Hc.mono ?_;rintro e w' ⟨rfl,rfl⟩;go_wp2_with fail;exact⟨⟨k+1,J,J,by go_num,Z (by rw[Hk.o,Cc.o])⟩,by simp[intOf];omega⟩
   |false=>
    rw[hh]at hc Cc;have Hc:=Z hc;clear hc hh e1;go_wp2_with fail;refine Hc.mono ?_;rintro e w' ⟨rfl,rfl⟩;go_wp2;go_ret2;exact⟨by rw[Hk.o,Cc.o];rfl,rfl⟩
  ·have dL:¬(k:Int)<b:=J
   have Jj:Hid (fW s k b=none):=Z (UR s J);go_wp2;go_ret2;exact⟨by rw[Hk.o,Jj.o];rfl,rfl⟩
theorem Vm (n:Nat)(w:World)(hn:n<=65535):Calls prog 81 #[.int .i64 (n:Int)] w λe w'=>e=.returned (.bool false)/\w=w':=by
 have h1:¬(n:Int)<0:=J
 have h2:¬(65535:Int)<n:=J
 go_enter func81,ntmps81;go_wp2;go_ret;exact⟨rfl,rfl⟩
abbrev pT (l:List Nat):List Value:=l.map λ(n:Nat)=>Value.int .i64 (n:Int)
theorem Vn (l:List Nat)(v:Value)(w:World)(hv:eg w v (pT l))(hl:l.length<=1000000)(hn:∀ n∈l,n<=65535):
  Calls prog 162 #[v,.func (.func 81) #[] #[]] w λe w'=>e=.returned (.int .i64 (-1))/\w=w':=by
 obtain⟨a,cap,rfl,hx⟩:=hv;rw[awz];obtain⟨HX,HN⟩:=K2 hx hn;have FK:(l.length:Int)<=1000000:=J
 clear hx hn hl;go_enter func162,ntmps162;go_wp2_with fail
 go_loop [8] (λi=>∃ k:Nat,k<=l.length/\i=.int .i64 (k:Int)) (λi=>l.length-(intOf i).toNat)
 case atStart=>exact⟨0,J,rfl⟩
 case round=>
  obtain⟨k,hk,rfl⟩:=hrel;by_cases aP:k<l.length
  ·have dL:(k:Int)<l.length:=J
   obtain⟨x,hx⟩:∃ x,l[k]?=some x:=⟨_,av6 aP⟩
   obtain⟨b,o,rfl,c0⟩:=HX.o k _ (by rw[aw5,hx];rfl);have sp:=HN.o x (av7 hx);clear hx;go_wp2_with fail;refine(Vm x _ sp).mono ?_;rintro e w' ⟨rfl,rfl⟩;go_wp2_with fail;exact⟨⟨k+1,J,by go_num⟩,by simp[intOf];omega⟩
  ·have dL:¬(k:Int)<l.length:=J
   go_wp2;go_ret;exact⟨rfl,rfl⟩
theorem Vo (l:List Nat)(v:Value)(w:World)(hv:eg w v (pT l))(hl:l.length<=1000000)(hn:∀ n∈l,n<=65535):
  Calls prog 80 #[v,.func (.func 81) #[] #[]] w λe w'=>e=.returned (.bool false)/\w=w':=by
 have HC:=Z (Vn l v w hv hl hn);clear hv hl hn;go_enter func80,ntmps80;go_wp2_with fail;refine HC.mono ?_;rintro e w' ⟨rfl,rfl⟩;go_wp2;go_ret;exact⟨rfl,rfl⟩
theorem Qf (l:List Nat)(v:Value)(w:World)(hv:eg w v (pT l))(hl:l.length<=1000000)(h0:0<l.length)(hn:∀ n∈l,n<=65535):
  Calls prog 82 #[v] w λe w'=>e=.returned (.int .i64 ((l.foldl max 0:Nat):Int))/\w=w':=by
 obtain⟨a,cap,rfl,hx⟩:=hv;rw[awz];obtain⟨HX,HN⟩:=K2 hx hn;have FK:(l.length:Int)<=1000000:=J
 have Jg:¬(l.length:Int)<1:=J
 have KF:(0:Int)<l.length:=J
 obtain⟨x0,rf⟩:∃ x,l[0]?=some x:=⟨_,av6 h0⟩
 obtain⟨b,o,rfl,c0⟩:=HX.o 0 _ (by rw[aw5,rf];rfl);rw[Nat.add_zero]at c0;have Hx0:Hid ((l.take 1).foldl max 0=x0):=Z (by
  cases l with
  |nil=>cases rf
  |cons y r=>simp at rf;simp[rf])
 have ic:x0<=65535:=hn x0 (av7 rf);have Hl0:=Z h0;clear hx hn hl rf h0;go_enter func82,ntmps82;go_wp2_with fail
 go_loop [3,4] (λm i=>∃(k x:Nat),1<=k/\k<=l.length/\i=.int .i64 (k:Int)/\m=.int .i64 (x:Int)/\x<=65535/\Hid ((l.take k).foldl max 0=x)) (λ_ i=>l.length-(intOf i).toNat)
 case atStart=>exact⟨1,x0,J,by have:=Hl0.o;omega,rfl,rfl,ic,Hx0⟩
 case round=>
  clear c0 ic Hx0;obtain⟨k,x,hk1,hk,rfl,rfl,yy,Hx⟩:=hrel;by_cases aP:k<l.length
  ·have dL:(k:Int)<l.length:=J
   obtain⟨y,hy⟩:∃ x,l[k]?=some x:=⟨_,av6 aP⟩
   obtain⟨b',o',e,c1⟩:=HX.o k _ (by rw[aw5,hy];rfl)
   cases e
   have hyb:=HN.o y (av7 hy);have Zt:max (x:Int) (y:Int)=((max x y:Nat):Int):=J
   have Hmx:Hid ((l.take (k+1)).foldl max 0=max x y):=Z (by rw[av8,hy];simp[List.foldl_append,Hx.o]);obtain⟨z,hz⟩:∃ z,max x y=z:=⟨_,rfl⟩
   have Oi:z<=65535:=J
   rw[hz]at Zt Hmx;clear hy hz;go_wp2_with fail;exact⟨⟨k+1,z,J,J,by go_num,rfl,Oi,Hmx⟩,by simp[intOf];omega⟩
  ·have dL:¬(k:Int)<l.length:=J
   obtain rfl:k=l.length:=J
   rw[awa]at Hx;go_wp2;go_ret;exact⟨by rw[Hx.o];rfl,rfl⟩
theorem aiF (n:Nat)(h:n<8):IntKind.u8.wrap (2 ^ n)=((UInt8.ofNat (2 ^ n)).toNat:Int):=by
 have:n=0\/n=1\/n=2\/n=3\/n=4\/n=5\/n=6\/n=7:=J
 rcases this with rfl|rfl|rfl|rfl|rfl|rfl|rfl|rfl<;>decide
theorem Vp (n k:Nat)(h:n<8)(hk:k<8):(UInt8.ofNat (2 ^ n)).toNat.testBit k=decide (n=k):=by
 have key:∀ n k:Fin 8,(UInt8.ofNat (2 ^ n.1)).toNat.testBit k.1=decide (n.1=k.1):=by decide +kernel
 exact key ⟨n,h⟩ ⟨k,hk⟩
def FT (m:Nat):List Nat->List UInt8
 |[]=>List.replicate m 0
 |n::r=>(FT m r).set (n/8) ((FT m r).getD (n/8) 0|||UInt8.ofNat (2 ^ (n%8)))
theorem Be (m:Nat)(l:List Nat):(FT m l).length=m:=by
 induction l with
 |nil=>simp[FT]
 |cons n r ih=>simp[FT,ih]
theorem Vq (m:Nat)(l:List Nat)(h:∀ n∈l,n/8<m)(n:Nat):aq (FT m l) n=l.contains n:=by
 induction l with
 |nil=>
  obtain⟨i,k,hk,rfl⟩:∃ i k,k<8/\n=8*i+k:=⟨n/8,n%8,J,J⟩
  rw[dw hk];simp only[FT,List.getD,List.getElem?_replicate];split<;>simp
 |cons x r ih=>
  have ih:=ih λy hy=>h y (by simp[hy]);have hx:=h x sp7;obtain⟨i,k,hk,rfl⟩:∃ i k,k<8/\n=8*i+k:=⟨n/8,n%8,J,J⟩
  rw[dw hk]at ih ⊢;rw[List.contains_cons,<-ih];simp only[FT,List.getD,List.getElem?_set];by_cases e:x/8=i
  ·subst e;rw[awd rfl,awd (by rw[Be];exact hx)];simp only[awG,UInt8.toNat_or,Nat.testBit_or,Vp _ _ (Nat.mod_lt x dc7) hk];rw[Bool.or_comm]
   congr 1
   rw[awM];simp only[awt,awJ];omega
  ·rw[awf e];have:(8*i+k==x)=false:=by rw[awO];omega
   rw[this,Bool.false_or]
theorem adb (l:List Nat)(m:Nat)(h:∀ n∈l,n/8<m):least (FT m l.reverse)=iE l:=by
 refine JQ (jp _) (Ld _) λn=>?_;rw[mP,Vq m _ (λy hy=>h y (by simpa using hy)),vA];simp
theorem Ia (l:List UInt8)(i:Nat):(aR l)[i]?=(l[i]?).map λc=>Value.int .u8 (c.toNat:Int):=by simp[aR,gg]
theorem adc (l:List UInt8)(i:Nat)(c:UInt8):(aR l).setIfInBounds i (.int .u8 (c.toNat:Int))=aR (l.set i c):=by
 unfold aR gg;rw[List.setIfInBounds_toArray,List.map_set]
theorem Bf (l:List Nat)(v:Value)(w:World)(hv:eg w v (pT l))(hl:l.length<=1000000)(hn:∀ n∈l,n<=65535):
  Calls prog 34 #[v] w λe w'=>e=.returned (.tuple #[.string ⟨(iE l).toArray⟩,.int .i64 0])/\af w w':=by
 have HCf:=Z (Vo l v w hv hl hn);by_cases h0:l.length=0
 ·obtain rfl:=awD.1 h0;obtain⟨a,cap,rfl,hx⟩:=hv;clear hx h0 hn hl;go_enter func34,ntmps34;go_wp2_with fail;refine HCf.mono ?_;rintro e w' ⟨rfl,rfl⟩;go_wp2;go_ret2;exact⟨rfl,ai.refl _ _⟩
 ·have HCm:=Z (Qf l v w hv hl J hn);obtain⟨mx,Zt⟩:∃ mx,l.foldl max 0=mx:=⟨_,rfl⟩
  have zn:mx<=65535:=by
   have key:∀(l:List Nat) (m:Nat),m<=65535->(∀ n∈l,n<=65535)->l.foldl max m<=65535:=by
    intro l
    induction l with
    |nil=>intro m h _;exact h
    |cons x r ih=>intro m h1 h2;exact ih _ (by have:=h2 x sp7;omega) λn hn=>h2 n (by simp[hn])
   rw[<-Zt];exact key l 0 J hn
  have YO:∀ n∈l,n/8<mx/8+1:=λn h=>by
   have:=(tW l 0).2 n h;rw[Zt]at this;omega
  have Xy:=Z YO;rw[Zt]at HCm;obtain⟨a,cap,rfl,hx⟩:=hv;rw[awz]at HCf HCm ⊢;obtain⟨HX,HN,Hl⟩:=K3 hx hn hl;have FK:(l.length:Int)<=1000000:=J
  have Jg:((l.length:Int)==0)=false:=by rw[awO];omega
  have rx:=jn (P:=prog) (ts:=131) (te:=5) underlying131 kr7 (mx/8+1) J;have akn:∀ W,(Instr.makeSlice 131 (.int .i64 ((mx:Int)/8+1)) (.int .i64 ((mx:Int)/8+1))).run prog W=.ok (.slice (some ⟨W.heap.size,0,none⟩) (mx/8+1) (mx/8+1)) (W.alloc (.cells (aR (List.replicate (mx/8+1) 0)) 5)):=λW=>by
   have:=rx W
   rwa [show((mx/8+1:Nat):Int)=(mx:Int)/8+1 by omega]at this
  clear hx hn hl h0 Zt YO rx;go_enter func34,ntmps34;go_wp2_with fail;refine HCf.mono ?_;rintro e w' ⟨rfl,rfl⟩;go_wp2_with fail;refine HCm.mono ?_;rintro e w' ⟨rfl,rfl⟩;go_wp2_with fail;obtain⟨m,hm⟩:∃ m,mx/8+1=m:=⟨_,rfl⟩
  have arK:m<=8192:=J
  rw[hm]at Xy;rw[hm];have HO:Hid (World.blk (w.alloc (.cells (aR (List.replicate m 0)) 5)) w.heap.size (aR (FT m (l.take 0).reverse)) 5):=Z (av _ _ _);have HK:Hid (af w (w.alloc (.cells (aR (List.replicate m 0)) 5))):=Z ((ai.refl _ w).alloc _);clear akn hm;generalize (w.alloc (.cells (aR (List.replicate m 0)) 5))=w0 at*;obtain⟨ob,ib⟩:∃ ob,w.heap.size=ob:=⟨_,rfl⟩
  have yj:=Z ib;rw[ib]at HO;rw[ib];clear ib HCf HCm
  go_loopw [19] (λi wr=>∃ k:Nat,k<=l.length/\i=.int .i64 (k:Int)/\af w wr/\World.blk wr ob (aR (FT m (l.take k).reverse)) 5) (λi _=>l.length-(intOf i).toNat)
  case atStart=>exact⟨0,J,rfl,HK.o,HO.o⟩
  case round=>
   clear HO HK;obtain⟨k,hk,rfl,hK,hO⟩:=hrel;obtain⟨HK,HO⟩:=K2 hK hO;clear hK hO;by_cases aP:k<l.length
   ·have dL:(k:Int)<l.length:=J
    obtain⟨x,hx⟩:∃ x,l[k]?=some x:=⟨_,av6 aP⟩
    obtain⟨b,o,rfl,c0⟩:=HX.o k _ (by rw[aw5,hx];rfl);have c1:wr.cell? ⟨b,o+k,none⟩=some (.int .i64 (x:Int)):=by rw[HK.cell (p:=⟨b,o+k,none⟩) (am c0) id];exact c0
    have yy:=HN.o x (av7 hx);have Yq:=Xy.o x (av7 hx);have hxi:(x:Int)/8<m:=J
    have Hx:=Z hx;obtain⟨y,hy⟩:∃ y,(FT m (l.take k).reverse)[x/8]?=some y:=⟨_,av6 (by rw[Be];exact Yq)⟩
    have Hy:=Z hy;have d0:wr.cell? ⟨ob,x/8,none⟩=some (.int .u8 (y.toNat:Int)):=by rw[aa HO.o,Ia,hy];rfl
    have f0:wr.frozen? ⟨ob,x/8,none⟩=false:=ae HO.o _ rfl;clear hx c0 hy;go_wp2_with fail;have Cy:IntKind.i64.wrap ((x:Int)/8)=(x:Int)/8:=axx _ J;have UI:(0:Int)<=(x:Int)/8:=J
    have hw3:((x:Int)/8).toNat=x/8:=J
    have Zn:Int.tmod (x:Int) 8=(x:Int)%8:=Int.tmod_eq_emod_of_nonneg J;have hw5:IntKind.i64.wrap ((x:Int)%8)=(x:Int)%8:=axx _ J;refine gl 10 kr7 kr7 ?_;simp only[awS,awT,awU,awV]
    repeat (quiet_step (fail))
    obtain⟨z,hz⟩:∃ z,y|||UInt8.ofNat (2 ^ (x%8))=z:=⟨_,rfl⟩
    have WA:bits .or .u8 (y.toNat:Int) (IntKind.u8.wrap (2 ^ ((x:Int)%8).toNat))=(z.toNat:Int):=by
     rw[show((x:Int)%8).toNat=x%8 by omega,aiF _ (Nat.mod_lt x dc7),or8,hz]
    rw[WA];have Hz:=Z hz;clear WA hz Cy UI hw3 Zn hw5;refine awX ?_;intro _ bD;obtain⟨nq,rfl⟩:=bD;go_wp2_with fail;refine⟨⟨k+1,J,by go_num,(HK.setCell (p:=⟨ob,x/8,none⟩) (.inr (by rw[yj.o];exact av9 _)) _).drewN nq,?_⟩,by simp[intOf];omega⟩;have h:=ah HO.o (x/8) (.int .u8 (z.toNat:Int));rw[adc]at h;have e:FT m (l.take (k+1)).reverse=(FT m (l.take k).reverse).set (x/8) z:=by
     rw[av8,Hx.o];simp only[Option.toList_some,List.reverse_append,List.reverse_cons,List.reverse_nil,awE,List.singleton_append,FT];rw[<-Hz.o,List.getD,Hy.o];rfl
    rw[e];exact cf h nq
   ·have dL:¬(k:Int)<l.length:=J
    obtain rfl:k=l.length:=J
    rw[awa]at HO;have He:Hid (least (FT m l.reverse)=iE l):=Z (adb l m Xy.o);go_wp2_with fail;refine(sX _ ob m wr HO.o (Be _ _) J).mono ?_;rintro e w' ⟨rfl,rfl⟩;go_wp2;go_ret2;exact⟨by rw[He.o];rfl,HK.o⟩
end
section
open Go.RowKit Go.Shelf
attribute [local go_sem] av0
theorem wH (s:List UInt8):(cL s).length<=8*s.length:=by
 unfold cL;exact av2 (awh _ _) sp7
theorem aiG {β:Type}(B:Nat)(t:TypeId)(f:β->Value):Own (λs W=>Boxed W B t (f s)):=λs X Y row hs hg cq=>hs.kept hg (λe'=>by
 obtain⟨o,ho,hc⟩:=cq B e'.symm;rw[show X.heap[B]?=_ from hs]at ho;cases ho;cases hc)
theorem Vr (n:Nat)(hn:4<=n)(Bs:Nat)(s:List UInt8)(hs:s.length<=100000)(w:World)(hb:Bs<w.heap.size)(hc:w.cell? ⟨Bs,0,none⟩=some (.string ⟨s.toArray⟩)):
  CallsIn Fence.wide n prog 103 #[.func (.func 167) #[] #[.pointer (some ⟨Bs,0,none⟩)]] w λe W'=>∃ v,e=.returned v/\aO W' w.heap.size v (gh (cL s))/\Below w.heap.size w W':=by
 have h1:1<=n:=J
 have H:=Z (Qe (n-1) J Bs s hs w hb hc);refine callsIn_of_wp func103 rfl trivial ?_ rfl;simp only[ntmps103,axo,av5,axe,Nat.reduceAdd,Nat.reduceSub,axp,axq,axr,axs,awE,awK]
 gi_wp2
 refine⟨trivial,H.mono ?_⟩;rintro e W1 ⟨v,rfl,h3,h2⟩;obtain⟨H1,H2⟩:=K2 h3 h2;clear h3 h2
 gi_wp2
 go_ret;exact⟨_,rfl,H1.o,H2.o⟩
theorem Qg (n:Nat)(hn:5<=n)(s:List UInt8)(hs:s.length<=100000)(w:World):
  CallsIn Fence.wide n prog 51 #[.string ⟨s.toArray⟩] w λe W'=>∃ v,e=.returned v/\aO W' w.heap.size v (gh (cL s))/\af w W':=by
 have h1:1<=n:=J
 obtain⟨A,H⟩:=K2 (Qc (n-1) s w) (Vr (n-1) J w.heap.size s hs (w.alloc (.cells #[.string ⟨s.toArray⟩] 9)) sp7 (by simp[go_sem]));refine callsIn_of_wp func51 rfl trivial ?_ rfl;simp only[ntmps51,axo,av5,axe,Nat.reduceAdd,Nat.reduceSub,axp,axq,axr,axs,awE,awK]
 gi_wp2
 refine⟨trivial,A.mono ?_⟩;rintro e W1 ⟨rfl,rfl⟩
 gi_wp2
 refine⟨trivial,H.mono ?_⟩;rintro e W2 ⟨v,rfl,h3,h2⟩;obtain⟨H1,H2⟩:=K2 h3 h2;clear h3 h2
 gi_wp2
 go_ret;exact⟨_,rfl,eS H1.o sp7,((ai.refl _ _).alloc _).trans (ai.ofBelow H2.o) (λ_ _ h=>h)⟩
theorem zJ (s:List UInt8)(hs:s.length<=100000)(w:World):
  Calls prog 51 #[.string ⟨s.toArray⟩] w λe W'=>∃ v,e=.returned v/\aO W' w.heap.size v (gh (cL s))/\eg W' v (pT (cL s))/\af w W':=
 (awI.1 (Qg 5 J s hs w)).mono λe W' ⟨v,h1,h2,h3⟩=>⟨v,h1,h2,by
  have:=bh h2;simpa[bu,gh,pT,awv,Function.comp_def]using this,h3⟩
theorem Qh (n:Nat)(hn:4<=n)(s:List UInt8)(hs:s.length<=100000)(w:World):
  CallsIn Fence.wide n prog 47 #[.string ⟨s.toArray⟩] w λe W'=>e=.returned (.int .i64 (jF s:Int))/\af w W':=by
 have h1:1<=n:=J
 have yl:=wH s;have A:=Z (Qc (n-1) s (w.alloc (.cells #[.int .i64 0] 3)));refine callsIn_of_wp_marks func47 rfl trivial ?_ rfl;simp only[ntmps47,axo,av5,axe,Nat.reduceAdd,Nat.reduceSub,axp,axq,axr,axs,awE,awK]
 gi_wp2
 refine⟨trivial,A.mono ?_⟩;rintro e W1 ⟨rfl,rfl⟩
 gi_wp2
 refine wpIn_rangeFunc_ownG rfl h1 (gf:=167) (lb:=#[.pointer (some ⟨w.heap.size+1,0,none⟩)]) rfl trivial (enters_of func167 kr7 rfl)
  (zI (n-1) J (w.heap.size+1) s J _ sp7 (by simp[go_sem])) jy.trans (Kd sp7) (Below.refl _ _) (λ_=>rfl)
  (λ(pre:List Int) W=>Boxed W w.heap.size 3 (.int .i64 (pre.length:Int))/\Below w.heap.size w W)
  (λ_ _ _=>False)
  (OwnFrom.and (Own.from (aiG w.heap.size 3 (λ(pre:List Int)=>.int .i64 (pre.length:Int))) _) (ownFrom_below (av9 _) (by simp;omega)))
  (λ_ _ _ _ _ hs _ _=>hs)
  ⟨(Boxed.new _ _ _).alloc _,((Below.refl _ w).alloc (av9 _) _).trans ((Below.refl _ _).alloc sp7 _)⟩
  (λx=>{ tmps:=#[.string ⟨s.toArray⟩,undef,.int .i64 0,.pointer (some ⟨w.heap.size,0,none⟩),.string ⟨s.toArray⟩,.func (.func 167) #[] #[.pointer (some ⟨w.heap.size+1,0,none⟩)],.int .i64 x,undef,undef,undef],defers:=[] }) ?assign ?body ?done ?stop
 case assign=>
  intro l x W K hK
  gi_wp2
  simpa using hK
 case body=>
  rintro l pre x W ⟨hv,hB⟩ aP;have hc:=hv.cell;have hf:=hv.frozen;have nR:(pre.length:Int)<=800000:=J
  gi_wp2
  refine⟨(KeepsOthers.setCell W _ _).from _,?_,?_,?_⟩
  ·show World.cell? _ _=_;exact World.cell?_of_block (a:=⟨w.heap.size+1,0,none⟩) (Below.heap_setCell _ _ _ _ (by show w.heap.size+1≠w.heap.size;omega))
  ·have:=hv.set (.int .i64 ((pre.length:Int)+1));simpa using this
  ·exact hB.setCell (av9 _) _
 case done=>
  rintro D ys W hD rfl ⟨hv,hB⟩ hK;have hc:=hv.cell
  gi_wp2
  refine⟨by simp,.inl ⟨_,_,rfl,run_takeDeferred hK,?_⟩⟩;exact⟨_,results_tmp rfl _ _ _,by simp[jF],ai.ofBelow (hB.trans (belowK_b (w:=w) (av9 _) W D _ _ (by simp at hD;omega) hK rfl rfl))⟩
 case stop=>
  rintro D c pre W _ _ h _;exact h.elim
theorem zK (s:List UInt8)(hs:s.length<=100000)(w:World):
  Calls prog 47 #[.string ⟨s.toArray⟩] w λe w'=>e=.returned (.int .i64 (jF s:Int))/\af w w':=awI.1 (Qh 4 J s hs w)
theorem ade (c:UInt8)(r:Nat)(hr:r<8):(c.toNat:Int)/2 ^ r*2 ^ r%256=(((c>>>UInt8.ofNat r)<<<UInt8.ofNat r).toNat:Int):=by
 have key:∀(n:Fin 256) (r:Fin 8),n.1/2 ^ r.1*2 ^ r.1%256=((UInt8.ofNat n.1>>>UInt8.ofNat r.1)<<<UInt8.ofNat r.1).toNat:=by decide +kernel
 have:=key ⟨c.toNat,c.toNat_lt⟩ ⟨r,hr⟩;simp only[UInt8.ofNat_toNat]at this;have zg:r=0\/r=1\/r=2\/r=3\/r=4\/r=5\/r=6\/r=7:=J
 rcases zg with rfl|rfl|rfl|rfl|rfl|rfl|rfl|rfl<;>(simp only[Nat.reducePow,Int.reducePow]at this ⊢;omega)
theorem DQ (s:List UInt8)(a:Nat)(w:World)(hs:s.length<=140737488351232)(ha:a<=1000000000):
  Calls prog 209 #[.string ⟨s.toArray⟩,.int .i64 (a:Int)] w λe w'=>e=.returned (Bd (gm s a))/\w=w':=by
 have agQ:max (0:Int) (a:Int)=(a:Int):=J
 have hsi:(s.length:Int)<=140737488351232:=J
 obtain⟨q,hq⟩:∃ q,a/8=q:=⟨_,rfl⟩
 obtain⟨r,hr⟩:∃ r,a%8=r:=⟨_,rfl⟩
 have e1:(a:Int)/8=(q:Int):=J
 have e2:(a:Int)%8=(r:Int):=J
 have e2n:a%8=r:=hr;have OD:r<8:=J
 have HQ:Hid (a=8*q+r/\q<=125000000):=Z J;clear hq hr;have ct:∀(d:UInt8) (m:World),d≠0->Calls prog 168 #[.int .u8 (d.toNat:Int)] m λe w'=>e=.returned (.int .i64 (tz d:Int))/\w'=m:=λd m _=>((Tryz.bits_TrailingZeros8 (d.toNat:Int) m J (by have:=d.toNat_lt;omega)).mono λe w' ⟨h1,h2⟩=>⟨by rw[h1,awH,XP],h2⟩)
 have Ct:=Z ct;clear ct;go_enter func209,ntmps209;go_wp2_with fail
 go_loop [6] (λi=>∃ k:Nat,i=.int .i64 (k:Int)/\q<=k/\k<=140737488351232/\Hid (∀ m,a<=m->m<8*k->aq s m=false)) (λi=>s.length-(intOf i).toNat)
 case atStart=>exact⟨q,rfl,av9 _,by have:=HQ.o;omega,Z (λm h1 h2=>by have:=HQ.o;omega)⟩
 case round=>
  obtain⟨k,rfl,hk,hk9,Hk⟩:=hrel;by_cases aP:k<s.length
  ·have dL:(k:Int)<s.length:=J
   obtain⟨c,hc⟩:∃ c,s[k]?=some c:=⟨_,av6 aP⟩
   have hx:=aM (P:=prog) underlying9 s .i64 (k:Int) c J (by simpa using hc);have Hc:Hid (∀ j,j<8->aq s (8*k+j)=c.toNat.testBit j):=Z (λj hj=>by rw[dw hj];simp[List.getD,hc]);clear hc;obtain⟨d,hd⟩:∃ d,d=if k=q then(c>>>UInt8.ofNat r)<<<UInt8.ofNat r else c:=⟨_,rfl⟩
   have Hd:Hid ((d=0->∀ m,a<=m->m<8*(k+1)->aq s m=false)/\(d≠0->gm s a=some (8*k+tz d))):=Z (by
    obtain⟨hq1,SQ⟩:=HQ.o;by_cases TP:k=q
    ·rw[awd TP]at hd;have mf:=ww c r OD;simp only at mf;rw[<-hd]at mf;refine⟨λh0 m h1 h2=>?_,λh0=>?_⟩
     ·obtain⟨j,rfl⟩:∃ j,m=8*k+j:=⟨m-8*k,J⟩
      rw[Hc.o j J];exact mf.1 h0 j J J
     ·obtain⟨t1,t2,t3,t4⟩:=mf.2 h0;refine Kc J (by rw[Hc.o _ t2];exact t3) (λm h1 h2=>?_);obtain⟨j,rfl⟩:∃ j,m=8*k+j:=⟨m-8*k,J⟩
      rw[Hc.o j J];exact t4 j J J
    ·rw[awf TP]at hd;subst hd;have mf:=ww d 0 J;have hz:((d>>>UInt8.ofNat 0)<<<UInt8.ofNat 0)=d:=by simp
     simp only[hz]at mf;refine⟨λh0 m h1 h2=>?_,λh0=>?_⟩
     ·by_cases h8:m<8*k
      ·exact Hk.o m h1 h8
      ·obtain⟨j,rfl⟩:∃ j,m=8*k+j:=⟨m-8*k,J⟩
       rw[Hc.o j J];exact mf.1 h0 j J J
     ·obtain⟨t1,t2,t3,t4⟩:=mf.2 h0;refine Kc J (by rw[Hc.o _ t2];exact t3) (λm h1 h2=>?_);by_cases h8:m<8*k
      ·exact Hk.o m h1 h8
      ·obtain⟨j,rfl⟩:∃ j,m=8*k+j:=⟨m-8*k,J⟩
       rw[Hc.o j J];exact t4 j J J)
   have hdb:=d.toNat_lt;have htz:d≠0->tz d<8:=XO d;have hdq:d≠0->(d.toNat:Int)≠0:=λh0 e=>h0 (by apply UInt8.toNat_inj.1;simpa using e);by_cases ro:k=q
   ·rw[awd ro]at hd;have hm8:=ade c r OD;rw[<-hd]at hm8;have TP:((k:Int)==(q:Int))=true:=by simp[ro]
    clear hd ro;by_cases h0:d=0
    ·have hz:((d.toNat:Int) != 0)=false:=by rw[h0];rfl
     have H0:Hid (∀ m,a<=m->m<8*(k+1)->aq s m=false):=Z (Hd.1 h0);clear h0 htz hdq;go_wp2_with fail;exact⟨⟨k+1,by go_num,J,J,H0⟩,by simp[intOf];omega⟩
    ·have hz:((d.toNat:Int) != 0)=true:=by rw[bne_iff_ne];exact hdq h0
     have H0:Hid (gm s a=some (8*k+tz d)):=Z (Hd.2 h0);have ht:=htz h0;have C:=Z (Ct.o d w h0);clear h0 htz hdq;go_wp2_with fail;refine C.mono ?_;rintro e w' ⟨rfl,rfl⟩;go_wp2;go_ret2;have e8:((8*k+tz d:Nat):Int)=(k:Int)*8+(tz d:Int):=J
     refine⟨?_,rfl⟩;rw[H0.o];show Ending.returned (.tuple #[.int .i64 ((k:Int)*8+(tz d:Int)),.bool true])=_;rw[<-e8];rfl
   ·rw[awf ro]at hd;subst hd;have TP:((k:Int)==(q:Int))=false:=by simp;omega
    clear ro;by_cases h0:d=0
    ·have hz:((d.toNat:Int) != 0)=false:=by rw[h0];rfl
     have H0:Hid (∀ m,a<=m->m<8*(k+1)->aq s m=false):=Z (Hd.1 h0);clear h0 htz hdq;go_wp2_with fail;exact⟨⟨k+1,by go_num,J,J,H0⟩,by simp[intOf];omega⟩
    ·have hz:((d.toNat:Int) != 0)=true:=by rw[bne_iff_ne];exact hdq h0
     have H0:Hid (gm s a=some (8*k+tz d)):=Z (Hd.2 h0);have ht:=htz h0;have C:=Z (Ct.o d w h0);clear h0 htz hdq;go_wp2_with fail;refine C.mono ?_;rintro e w' ⟨rfl,rfl⟩;go_wp2;go_ret2;have e8:((8*k+tz d:Nat):Int)=(k:Int)*8+(tz d:Int):=J
     refine⟨?_,rfl⟩;rw[H0.o];show Ending.returned (.tuple #[.int .i64 ((k:Int)*8+(tz d:Int)),.bool true])=_;rw[<-e8];rfl
  ·have dL:¬(k:Int)<s.length:=J
   go_wp2;go_ret2;refine⟨?_,rfl⟩;rw[LN (λm hm=>?_)]
   ·rfl
   ·by_cases h8:m<8*k
    ·exact Hk.o m hm h8
    ·exact l9 J
def qM (p:Pl):Array Value:=#[.string ⟨p.used.toArray⟩,.string ⟨p.taken.toArray⟩,.int .i64 (p.blocks:Int),.int .i64 (p.next:Int),.int .i64 (p.left:Int)]
structure jK (w:World)(b:Nat)(p:Pl):Prop where
 own:World.blk w b (qM p) 280
 ok:cE p
 used:p.used.length<=600
 taken:p.taken.length<=600
theorem jK.mod {w':World}{p:Pl}{S:Nat->Prop}(h:jK w b p)(m:ai S w w')(hb:¬ S b):jK w' b p:=⟨ab m h.own hb,h.ok,h.used,h.taken⟩
theorem DS (used:List UInt8)(blocks next:Nat)(w:World)(hu:used.length<=600)(hb:8<=blocks/\blocks<=4096)(hn:1<=next/\next<=blocks):
  Calls prog 126 #[.string ⟨used.toArray⟩,.int .i64 (blocks:Int),.int .i64 (next:Int)] w λe w'=>∃ b,e=.returned (.tuple #[.pointer (some ⟨b,0,none⟩),.int .i64 0])/\jK w' b (gp used blocks next)/\w.heap.size<=b/\af w w':=by
 have h1:¬(blocks:Int)<8:=J
 have h2:¬(4096:Int)<(blocks:Int):=J
 have h3:¬(next:Int)<1:=J
 have h4:¬(blocks:Int)<(next:Int):=J
 have hbi:(blocks:Int)<=4096:=J
 have G:=λ(a:Nat) (ha:a<=5000) W=>Ke used a blocks W J J J;obtain⟨HG,G1,Hhn⟩:=K3 G (G 1 J) (And.intro hb hn);clear G hn;go_enter func126,ntmps126;go_wp2_with fail;refine(G1.o _).mono ?_;rintro e w1 ⟨rfl,rfl⟩;obtain⟨o1,R9⟩:∃ o,fW used 1 blocks=o:=⟨_,rfl⟩
 have Ho1:=Z R9;rw[R9];have hoV:∀ o:Option Nat,Bd o=.tuple #[.int .i64 ((o.getD 0:Nat):Int),.bool o.isSome]:=λo=>by cases o<;>rfl
 rw[hoV];have HoV:=Z hoV;clear hoV R9 G1;go_wp2_with fail
 go_loopw [8,9,10] (λl i k wr=>∃(a:Nat) (o:Option Nat),1<=a/\a<=blocks/\Hid (fW used a blocks=o)/\l=.int .i64 ((fY used a:Nat):Int)/\i=.int .i64 ((o.getD 0:Nat):Int)/\k=.bool o.isSome/\wr=w) (λl _ _ _=>blocks+1-(intOf l).toNat)
 case atStart=>exact⟨1,o1,J,by have:=Hhn.o;omega,Ho1,rfl,rfl,rfl,rfl⟩
 case round=>
  obtain⟨a,o,ha1,ha2,Ho,rfl,rfl,rfl,rfl⟩:=hrel;have hfu:fY used a<=a:=LK used a
  cases o with
  |none=>
   have Hl:Hid (fY used a=(gp used blocks next).left):=Z (G0 ha1 ha2 Ho.o).symm;have HP:=Z (G6 used Hhn.2.1 Hhn.2.2 Hhn.1.2);clear hfu;go_wp2;go_ret2;have e:qM (gp used blocks next)=#[.string ⟨used.toArray⟩,.string ⟨#[]⟩,.int .i64 (blocks:Int),.int .i64 (next:Int),.int .i64 ((fY used a:Nat):Int)]:=by unfold qM;rw[<-Hl.o];rfl
   exact⟨_,rfl,⟨by rw[e];exact av _ _ _,HP.o,by show used.length<=600;omega,by show([]:List UInt8).length<=600;simp⟩,av9 _,(ai.refl _ wr).alloc _⟩
  |some n=>
   obtain⟨g1,g2,_,_⟩:=ol Ho.o;obtain⟨Hf,G⟩:=K2 (GZ ha1 Ho.o) (HG.o (n+1) J wr);have en:((n+1:Nat):Int)=(n:Int)+1:=J
   rw[en]at G;have Oj:(n:Int)<5000:=J
   have hfi:((fY used a:Nat):Int)<=5000:=J
   have Hg:=Z (And.intro g1 g2);obtain⟨o',FG⟩:∃ o',fW used (n+1) blocks=o':=⟨_,rfl⟩
   rw[FG,HoV.o]at G;obtain⟨Ho',Hfu⟩:=K2 FG hfu;clear g1 g2 FG hfu;go_wp2_with fail;refine G.mono ?_;rintro e w1 ⟨rfl,rfl⟩;go_wp2_with fail;refine⟨⟨n+1,o',J,by have:=Hg.o;omega,Ho',by rw[Hf.o];go_num,rfl,rfl,by first|rfl|trivial⟩,?_⟩;have:=Hf.o;have:=Hfu.o;simp[intOf];omega
theorem DT {bx:Nat}{p:Pl}(h:jK w b p)(hx:World.blk w bx #[.pointer (some ⟨b,0,none⟩)] 200)(yc JJ:Nat)(hf:yc<=5000)(he:JJ<=5000):
  Calls prog 272 #[.int .i64 (yc:Int),.int .i64 (JJ:Int),.pointer (some ⟨bx,0,none⟩)] w λe w'=>e=.returned (.bool (fW p.used yc JJ).isSome)/\w'=match fW p.used yc JJ with
   |some n=>w.setCell ⟨b,3,none⟩ (.int .i64 ((n+1:Nat):Int))
   |none=>w:=by
 have c0:w.cell? ⟨bx,0,none⟩=some (.pointer (some ⟨b,0,none⟩)):=aa hx 0;have u0:w.cell? ⟨b,0,none⟩=some (.string ⟨p.used.toArray⟩):=aa h.own 0;have u3:w.cell? ⟨b,3,none⟩=some (.int .i64 (p.next:Int)):=aa h.own 3;have f3:=ae h.own ⟨b,3,none⟩ rfl;have G:=Z (Ke p.used yc JJ w (by have:=h.used;omega) J J);have hb:∀ n,fW p.used yc JJ=some n->n<=5000:=λn hn=>by have:=(ol hn).2.1;omega
 obtain⟨o,ho⟩:∃ o,fW p.used yc JJ=o:=⟨_,rfl⟩
 rw[ho]at G hb ⊢;clear h hx ho;go_enter func272,ntmps272;go_wp2_with fail;refine G.mono ?_;rintro e w1 ⟨rfl,rfl⟩;clear G
 cases o with
 |none=>
  unfold Bd;go_wp2;go_ret;exact⟨rfl,rfl⟩
 |some n=>
  have hn:(n:Int)<=5000:=by have:=hb n rfl;omega
  unfold Bd;clear hb;go_wp2;go_ret;exact⟨rfl,rfl⟩
end
end Go.Proofs.YtkghpdcloaiflaaGreatDoor
