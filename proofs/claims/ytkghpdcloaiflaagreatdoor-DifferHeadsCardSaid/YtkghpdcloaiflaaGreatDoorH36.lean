import Derived.Test.YtkghpdcloaiflaaGreatDoorH34
import Derived.Test.YtkghpdcloaiflaaGreatDoorH35
set_option maxHeartbeats 4000000
set_option maxRecDepth 100000
namespace Go.Proofs.YtkghpdcloaiflaaGreatDoor
open _root_.Go.Proofs.Tryz
variable {A M d:Int->Nat}{lv:Value}{p q tb:Nat}{w w' w1 w2:World}
section
open Go.RowKit Go.Maps
attribute [local go_sem] av0
structure xJ (l:List Nt):Prop where
 many:l.length<=60
 nums:∀ x∈l,0<=x.num/\x.num<=65535
 data:∀ x∈l,x.data.length<=16384
theorem pM {l:List Nt}(h:NodesOk l):xJ l:=⟨h.many,λx hx=>by have:=ja h.nums x hx;omega,h.data⟩
theorem IY {l:List Nt}(h:xJ l)(k:Int):(cF l k).length<=16384:=by
 unfold cF
 cases hl:(l.filter λx=>x.num==k).getLast? with
 |none=>simp
 |some x=>
  have:=List.mem_of_getLast? hl;exact h.data x (av1.1 this).1
def gK (old l:List Nt):Nat:=(l.map λx=>cY (cF old x.num) x.data).sum
theorem tx (old l:List Nt)(h:∀ x∈l,x.data.length<=16384):gK old l<=100*l.length:=by
 unfold gK
 induction l with
 |nil=>simp
 |cons x r ih=>
  have h1:=ih λy hy=>h y (by simp[hy]);have h2:=av2 (gq (cF old x.num) x.data) (fF (h x sp7));simp only[av3,av4,av5];omega
theorem MX {v:Vs}{a:eX}(h:lc w p v a)(hb:v.blocks<=4096){role:Nat->dE}{T:Tr}(ht:aS w q T tb A M role)(hw:WF T d)(h1:xJ v.b.nodes)(h2:xJ (aw T)):
  Calls prog 144 #[au p,au q] w λe w'=>e=.returned (.int .i64 ((bI v (aw T):Nat):Int))/\af w w':=by
 have Ug:=@run_makeMap prog;have hfd:∀(x0 x1 x2 x3:Value) (W:World),(Instr.field 221 (.agg #[x0,x1,x2,x3]) 3).run prog W=.ok x3 W:=λ_ _ _ _ _=>kr7
 obtain⟨H,HT,HW,Ur,N1,N2⟩:=K6 h ht hw hb h1 h2;have dM:af w (w.alloc (.map #[] 0)):=(ai.refl _ w).alloc _;have HM0:Hid (Ry (w.alloc (.map #[] 0)) w.heap.size []):=Z (eY.made w);have eR:=Z dM;obtain⟨mb,zn⟩:∃ mb,w.heap.size=mb:=⟨_,rfl⟩
 have Hmb:=Z zn;obtain⟨an,cap,ev,hx⟩:=cg fP h.nodes;have HX:=Z hx;have v13:(w.alloc (.map #[] 0)).cell? ⟨p,13,none⟩=some (.slice an v.b.nodes.length cap):=by rw[<-ev];exact aa (h.keep dM).own 13
 have FK:(v.b.nodes.length:Int)<=60:=by have:=h1.many;omega
 have HE:Hid (bI v (aw T)=bP v+1+gK v.b.nodes (aw T)+(if aw T=v.b.nodes then 0 else aU (2+12*(aw T).length))):=Z rfl;clear h ht hw hb h1 h2 dM hx;rw[zn]at HM0;go_enter func144,ntmps144;go_wp2_with fail
 try rw[zn]
 generalize w.alloc (.map #[] 0)=W at*
 go_loopw [21] (λi wr=>∃ k:Nat,k<=v.b.nodes.length/\i=.int .i64 (k:Int)/\Hid (Ry wr mb (oY (v.b.nodes.take k)))/\Hid (af w wr)) (λi _=>v.b.nodes.length-(intOf i).toNat)
 case atStart=>exact⟨0,J,rfl,HM0,eR⟩
 case round=>
  clear HM0 eR v13;obtain⟨k,hk,rfl,HB,HK⟩:=hrel;by_cases aP:k<v.b.nodes.length
  ·have dL:(k:Int)<(v.b.nodes.length:Int):=J
   obtain⟨y,hy⟩:∃ y,v.b.nodes[k]?=some y:=⟨_,av6 aP⟩
   obtain⟨rb,o,rfl,hc⟩:=HX.o k y hy;have c0:wr.cell? ⟨rb,o+k*4,none⟩=some (.int .i64 y.num):=by have h:=hc 0 _ rfl;rw[HK.cell (p:=⟨rb,o+k*4,none⟩) (am h) id];exact h
   have c1:wr.cell? ⟨rb,o+k*4+1,none⟩=some (.bool y.dir):=by have h:=hc 1 _ rfl;rw[HK.cell (p:=⟨rb,o+k*4+1,none⟩) (am h) id];exact h
   have c2:wr.cell? ⟨rb,o+k*4+2,none⟩=some (.int .i64 y.links):=by have h:=hc 2 _ rfl;rw[HK.cell (p:=⟨rb,o+k*4+2,none⟩) (am h) id];exact h
   have c3:wr.cell? ⟨rb,o+k*4+3,none⟩=some (.string ⟨y.data.toArray⟩):=by have h:=hc 3 _ rfl;rw[HK.cell (p:=⟨rb,o+k*4+3,none⟩) (am h) id];exact h
   have hyn:=N1.nums y (av7 hy);have ro:af wr (wr.alloc (.cells (gt y).toArray 221)):=(ai.refl _ wr).alloc _;obtain⟨w2,bN,db,dV,cJ⟩:=(HB.mod ro id).store Rx underlying295 underlying3 y.num J y trivial (by have h1:=MV (v.b.nodes.take k);have h2:=N1.many;have h3:(v.b.nodes.take k).length<=v.b.nodes.length:=List.length_take_le' _ _;omega);have hws:ee jS y.num y (oY (v.b.nodes.take k))=oY (v.b.nodes.take (k+1)):=by rw[av8,hy];exact(qV _ _).symm
   rw[hws]at db;have lJ:=Z db;have bJ:Hid (af w w2):=Z ((HK.keep ro).new dV (by rw[Hmb.o];exact av9 _));unfold kP gt at bN;clear hws db dV hc hyn ro hy;go_wp2_with fail;exact⟨⟨k+1,J,by go_num,lJ,bJ⟩,by simp[intOf];omega⟩
  ·obtain rfl:k=v.b.nodes.length:=J
   rw[awa]at HB;have NO:=Z (ti (HT.keep HK.o) HW.o);clear aP hk;go_wp2_with fail;refine NO.mono ?_;rintro e w1 ⟨nv,rfl,ho,k1⟩;obtain⟨cC,jg⟩:=K2 (HK.keep k1) (HB.mod k1 id);obtain⟨bn,abH,rfl,sp⟩:=cg fP ho;obtain⟨HO,HXN⟩:=K2 (Ap (H.keep cC.o) Ur.o) sp;have hh:bP v<=100:=fF (by have:=Ur.o;omega);have hhi:(bP v:Int)<=100:=J
   have HH:=Z hh;clear ho sp k1 NO HK HB hh;go_wp2_with fail;refine HO.mono ?_;rintro e w2 ⟨rfl,k2⟩;obtain⟨bJ,lJ⟩:=K2 (cC.keep k2) (jg.mod k2 id);have ru:Hid (ms gt 4 w2 (.slice bn (aw T).length abH) (aw T)):=Z (fO ⟨bn,abH,rfl,HXN.o⟩ k2);have hni:((aw T).length:Int)<=60:=by have:=N2.many;omega
   clear k2 jg HXN HO cC;go_wp2_with fail
   go_loopw [37,9] (λi s wr=>∃ k:Nat,k<=(aw T).length/\i=.int .i64 (k:Int)/\s=.int .i64 ((bP v+1+gK v.b.nodes ((aw T).take k):Nat):Int)/\Hid (Ry wr mb (oY v.b.nodes))/\Hid (af w2 wr)) (λi _ _=>(aw T).length-(intOf i).toNat)
   case atStart=>exact⟨0,J,rfl,by simp[gK];try go_num,lJ,Z (ai.refl _ _)⟩
   case round=>
    clear lJ;obtain⟨k,hk,rfl,rfl,HB,HK⟩:=hrel;by_cases aP:k<(aw T).length
    ·have dL:(k:Int)<((aw T).length:Int):=J
     obtain⟨x,hx⟩:∃ x,(aw T)[k]?=some x:=⟨_,av6 aP⟩
     obtain⟨an',WP,en',Zp⟩:=ru.o;injection en' with ea1 ea2 ea3;subst ea1 ea3;obtain⟨rb,o,rfl,hc⟩:=Zp k x hx;have c0:wr.cell? ⟨rb,o+k*4,none⟩=some (.int .i64 x.num):=by have h:=hc 0 _ rfl;rw[HK.cell (p:=⟨rb,o+k*4,none⟩) (am h) id];exact h
     have c1:wr.cell? ⟨rb,o+k*4+1,none⟩=some (.bool x.dir):=by have h:=hc 1 _ rfl;rw[HK.cell (p:=⟨rb,o+k*4+1,none⟩) (am h) id];exact h
     have c2:wr.cell? ⟨rb,o+k*4+2,none⟩=some (.int .i64 x.links):=by have h:=hc 2 _ rfl;rw[HK.cell (p:=⟨rb,o+k*4+2,none⟩) (am h) id];exact h
     have c3:wr.cell? ⟨rb,o+k*4+3,none⟩=some (.string ⟨x.data.toArray⟩):=by have h:=hc 3 _ rfl;rw[HK.cell (p:=⟨rb,o+k*4+3,none⟩) (am h) id];exact h
     have sp:=N2.nums x (av7 hx);have qo:=N2.data x (av7 hx);have ro:af wr (wr.alloc (.cells #[.int .i64 x.num,.bool x.dir,.int .i64 x.links,.string ⟨x.data.toArray⟩] 221)):=(ai.refl _ wr).alloc _;have FZ:=(HB.mod ro id).look1 Rx underlying295 underlying3 x.num J;unfold kP at FZ;rw[MT]at FZ;obtain⟨CO,HBa,Cm⟩:=K3 (Rv (cF v.b.nodes x.num) x.data (IY N1.o _) qo (wr.alloc (.cells #[.int .i64 x.num,.bool x.dir,.int .i64 x.links,.string ⟨x.data.toArray⟩] 221))) (HB.mod ro id) (HK.keep ro);have hco:=av2 (gq (cF v.b.nodes x.num) x.data) (fF qo);have hct:gK v.b.nodes ((aw T).take (k+1))=gK v.b.nodes ((aw T).take k)+cY (cF v.b.nodes x.num) x.data:=by unfold gK;rw[av8,hx];simp
     have vh:=tx v.b.nodes ((aw T).take k) (λy hy=>N2.data y (awb hy));rw[awc]at vh;have Tu:((bP v+1+gK v.b.nodes ((aw T).take k):Nat):Int)<=7000:=by have:=N2.many;have:=HH.o;omega
     have Ch:((cY (cF v.b.nodes x.num) x.data:Nat):Int)<=100:=J
     have HCT:Hid (bP v+1+gK v.b.nodes ((aw T).take (k+1))=(bP v+1+gK v.b.nodes ((aw T).take k))+cY (cF v.b.nodes x.num) x.data):=Z J;clear hct vh hco sp qo hc hx Zp HB HK ro;generalize bP v+1+gK v.b.nodes ((aw T).take k)=sm at*;go_wp2_with fail;refine CO.mono ?_;rintro e w3 ⟨rfl,k3⟩;obtain⟨qv,ez⟩:=K2 (HBa.mod k3 id) (Cm.keep k3);clear k3 CO FZ;go_wp2_with fail;exact⟨⟨k+1,J,by go_num,by rw[HCT.o];go_num,qv,ez⟩,by simp[intOf];omega⟩
    ·obtain nG:k=(aw T).length:=J
     subst nG;rw[awa];have HKe:=Z (bJ.keep HK.o);have hx:=(H.keep HKe.o)
     obtain⟨an2,XA,ev2,vg⟩:=cg fP hx.nodes;have c13:wr.cell? ⟨p,13,none⟩=some (.slice an2 v.b.nodes.length XA):=by rw[<-ev2];exact aa hx.own 13
     have EQ:=Z (us (.slice bn (aw T).length abH) (.slice an2 v.b.nodes.length XA) (aw T) v.b.nodes wr (fO ru.o HK.o) ⟨an2,XA,rfl,vg⟩ J J);have vh:=tx v.b.nodes (aw T) (λy hy=>N2.data y hy);have Tu:((bP v+1+gK v.b.nodes (aw T):Nat):Int)<=7000:=by have:=N2.many;have:=HH.o;omega
     have OO:=HE;generalize bP v+1+gK v.b.nodes (aw T)=sm at*;clear hx ev2 vg vh HB aP hk;go_wp2_with fail;refine EQ.mono ?_;rintro e w4 ⟨rfl,k4⟩;have pO:=Z (HKe.keep k4);clear k4 EQ c13;by_cases hq:aw T=v.b.nodes
     ·have hd:decide (aw T=v.b.nodes)=true:=decide_eq_true hq;rw[hd];have HF:Hid (bI v (aw T)=sm):=Z (by rw[HE.o,awd hq];rfl);clear hq hd HE OO;go_wp2;go_ret;exact⟨by rw[HF.o];rfl,pO.o⟩
     ·have hd:decide (aw T=v.b.nodes)=false:=awe hq;rw[hd];have HF:Hid (bI v (aw T)=sm+aU (2+12*(aw T).length)):=Z (by rw[HE.o,awf hq]);have SH:=Z (tr (2+12*(aw T).length) w4 J);have hsh:((aU (2+12*(aw T).length):Nat):Int)<=100:=by have:=fF (b:=2+12*(aw T).length) J;omega
      have Yl:(2+12*((aw T).length:Int))=((2+12*(aw T).length:Nat):Int):=J
      rw[<-Yl]at SH;clear Yl;clear hq hd HE OO;go_wp2_with fail;refine SH.mono ?_;rintro e w5 ⟨rfl,k5⟩;have nD:=Z (pO.keep k5);clear k5 SH;go_wp2;go_ret;exact⟨by rw[HF.o];rfl,nD.o⟩
end
section
open Go.RowKit
attribute [local go_sem] av0
def kS (v:Vs)(c:cm):Except Int Tr:=if c.ok=false then .error 1 else nY v c
def iy (w:World)(v:Vs)(a:eX)(c:cm)(e:Ending)(w':World):Prop:=
 af w w'/\match kS v c with
  | .error x=>e=.returned (.tuple #[.pointer none,.int .i64 x])
  | .ok T=>∃(q tb:Nat) (A M:Int->Nat) (role:Nat->dE) (d:Int->Nat),e=.returned (.tuple #[au q,.int .i64 0])/\aS w' q T tb A M role/\WF T d/\((T=v.T/\role=a.role)\/∀ b,role b≠.none->w.heap.size<=b)
theorem iy.err {v:Vs}{a:eX}{c:cm}{x:Int}(h:kS v c=.error x)(k:af w w'):iy w v a c (.returned (.tuple #[.pointer none,.int .i64 x])) w':=by
 unfold iy;rw[h];exact⟨k,rfl⟩
theorem iy.here {v:Vs}{a:eX}{c:cm}(h:kS v c=.ok v.T)(k:af w w')(hv:lc w' p v a):iy w v a c (.returned (.tuple #[au a.pt,.int .i64 0])) w':=by
 unfold iy;rw[h];obtain⟨tb,A,M,t⟩:=hv.tree;obtain⟨d,hw⟩:=hv.wf;exact⟨k,a.pt,tb,A,M,a.role,d,rfl,t,hw,.inl ⟨rfl,rfl⟩⟩
theorem iy.new {v:Vs}{a:eX}{c:cm}{T:Tr}{role:Nat->dE}(h:kS v c=.ok T)(k:af w w')(ht:aS w' q T tb A M role)(hw:WF T d)(hr:∀ b,role b≠.none->w.heap.size<=b):iy w v a c (.returned (.tuple #[au q,.int .i64 0])) w':=by
 unfold iy;rw[h];exact⟨k,q,tb,A,M,role,d,rfl,ht,hw,.inr hr⟩
theorem MZ {v:Vs}{a:eX}(h:lc w p v a)(he:yK w)(c:cm)(hc:c.Small)(hl:v.b.list.length<=7)(hid:v.b.id<=1099511627777)(uA:VP c):
  Calls prog 61 #[au p,kZ c] w (iy w v a c):=by
 have dM:af w (w.alloc (.cells (dq c) 55)):=(ai.refl _ w).alloc _;have ic:World.blk (w.alloc (.cells (dq c) 55)) w.heap.size (dq c) 55:=av _ _ _;have PR:=tf c _ (he.keep dM) hc;obtain⟨HE,Hc,H,eR,nE,HL,HI,HDO⟩:=K8 he hc h dM ic hl hid uA;clear uA;have FK:(v.b.list.length:Int)<=7:=J
 have akV:(v.b.id:Int)<=1099511627777:=J
 unfold kM at PR
 cases bZ:c.ok with
 |false=>
  rw[bZ,awf dc7]at PR;have PR:=Z PR;have HM:Hid (kS v c=.error 1):=Z (by unfold kS;rw[awd bZ]);clear h he hc dM ic hl hid bZ;go_enter func61,ntmps61;unfold kZ dq;go_wp2_with fail;refine PR.mono ?_;rintro e w1 ⟨rfl,k1⟩;have cC:=Z (eR.keep k1);clear k1;go_wp2;go_ret2;exact iy.err HM.o cC.o
 |true=>
  rw[bZ,awd rfl]at PR;have PR:=Z PR;have HX:Hid (kS v c=nY v c):=Z (by unfold kS;rw[awf (by rw[bZ];decide)]);clear h he hc dM ic hl hid bZ;go_enter func61,ntmps61;unfold kZ dq;go_wp2_with fail;refine PR.mono ?_;rintro e w1 ⟨rfl,k1⟩;have cC:=Z (eR.keep k1);have hb1:=ab k1 nE.o id;obtain⟨c0,c1,c2,c3,c4⟩:=cw hb1;have hv1:=H.keep cC.o;have d15:w1.cell? ⟨p,15,none⟩=some (.bool false):=aa hv1.own 15;obtain⟨NM,jg⟩:=K2 (xI hv1 (by have:=HL.o;omega) c.path) hb1;clear k1 hb1 hv1;go_wp2_with fail;refine NM.mono ?_;rintro e w2 ⟨rfl,k2⟩;have bJ:=Z (cC.keep k2);have fh:=ab k2 jg.o id;clear c0 c1 c2 c3 c4 d15;obtain⟨c0,c1,c2,c3,c4⟩:=cw fh;have UG:=H.keep bJ.o;obtain⟨Kz,lJ⟩:=K2 UG fh;obtain⟨la,aiU,elv,_⟩:=cg jk UG.list;have d11:w2.cell? ⟨p,11,none⟩=some (.slice la v.b.list.length aiU):=by rw[<-elv];exact aa UG.own 11
  have d9:w2.cell? ⟨p,9,none⟩=some (.int .i64 (v.b.id:Int)):=aa UG.own 9;have d14:w2.cell? ⟨p,14,none⟩=some (au a.pt):=aa UG.own 14;clear k2 fh UG elv jg cC eR nE PR NM;by_cases h7:c.kind=7
  ·rw[h7]at c0
   cases hn:dt v c.path with
   |some i=>
    have HM:Hid (kS v c=.error 161):=Z (by rw[HX.o];unfold nY;rw[awd ⟨h7,by rw[hn];rfl⟩]);have hi0:¬(i:Int)<0:=J
    clear hn h7;unfold xB;go_wp2;go_ret2;exact iy.err HM.o bJ.o
   |none=>
    have uK:¬(c.kind=7/\(dt v c.path).isSome=true):=by rw[hn];simp
    unfold xB;by_cases hq:7<=v.b.list.length
    ·have HM:Hid (kS v c=.error 163):=Z (by rw[HX.o];unfold nY;rw[awf uK,awd ⟨h7,.inl hq⟩]);have X9:(7:Int)<=(v.b.list.length:Int):=J
     clear hn uK h7;go_wp2;go_ret2;exact iy.err HM.o bJ.o
    ·have X9:¬(7:Int)<=(v.b.list.length:Int):=J
     by_cases SQ:1099511627777<=v.b.id
     ·have HM:Hid (kS v c=.error 163):=Z (by rw[HX.o];unfold nY;rw[awf uK,awd ⟨h7,.inr SQ⟩]);have ali:(1099511627777:Int)<=(v.b.id:Int):=J
      clear hn uK h7;go_wp2;go_ret2;exact iy.err HM.o bJ.o
     ·have HM:Hid (kS v c=.ok v.T):=Z (by rw[HX.o];unfold nY;rw[awf uK,awf (λh=>h.2.elim hq SQ),awf (λh=>by have:=h.1;omega),awd (.inl h7)]);have ali:(v.b.id:Int)<=1099511627776:=J
      have asd:decide ((1099511627777:Int)<=(v.b.id:Int))=false:=awe J;clear hn uK h7 SQ akV;go_wp2;go_ret2;exact iy.here HM.o bJ.o Kz.o
  ·have b7:(c.kind==7)=false:=by simpa using h7
   have uK:¬(c.kind=7/\(dt v c.path).isSome=true):=λh=>h7 h.1;have Ow:¬(c.kind=7/\(7<=v.b.list.length\/1099511627777<=v.b.id)):=λh=>h7 h.1;by_cases h8:c.kind=8
   ·rw[h8]at c0
    cases hn:dt v c.path with
    |some i=>
     have HM:Hid (kS v c=.ok v.T):=Z (by rw[HX.o];unfold nY;rw[awf uK,awf Ow,awf (λh=>by rw[hn]at h;cases h.2),awd (.inr h8)]);have hi0:¬(i:Int)<0:=J
     clear hn h8 uK Ow;unfold xB;go_wp2;go_ret2;exact iy.here HM.o bJ.o Kz.o
    |none=>
     have HM:Hid (kS v c=.error 162):=Z (by rw[HX.o];unfold nY;rw[awf uK,awf Ow,awd ⟨h8,by rw[hn];rfl⟩]);clear hn h8 uK Ow;unfold xB;go_wp2;go_ret2;exact iy.err HM.o bJ.o
   ·have b8:(c.kind==8)=false:=by simpa using h8
    have lg:Hid (kS v c=if(qG v.T c).2=0 then .ok (qG v.T c).1 else .error (qG v.T c).2):=Z (by rw[HX.o];unfold nY;rw[awf uK,awf Ow,awf (λh=>h8 h.1),awf (λh=>h.elim h7 h8)]);clear uK Ow h7 h8;generalize xB (dt v c.path)=ix;obtain⟨tb,A,M,ht⟩:=Kz.tree;obtain⟨d,hw⟩:=Kz.wf;obtain⟨CL,HW⟩:=K2 (Mw ht hw) hw;clear ht hw;go_wp2_with fail;refine CL.mono ?_;rintro e w3 ⟨q,tb2,A2,M2,anT,rfl,Gg,nU,k3⟩;have ez:=Z (bJ.keep k3);have sK:=ab k3 lJ.o id;clear c0 c1 c2 c3 c4 d11 d9 d14;obtain⟨c0,c1,c2,c3,c4⟩:=cw sK;obtain⟨DO,ru,B3⟩:=K3 (adh Gg HW.o (HE.keep ez.o) c Hc.o HDO.o) nU bJ.size;clear k3 sK Gg nU CL;unfold kZ dq at DO;go_wp2_with fail;refine DO.mono ?_;rintro e w4 ⟨rfl,A',M',jQ,ht4,O4,AG⟩;have pO:Hid (af w w4):=Z (ez.trans AG (λg hg h=>absurd (ru.o g h) (by have:=B3.o;omega)));have HT4:=Z ht4;have HR4:Hid (∀ b,jQ b≠.none->w.heap.size<=b):=Z (λb hb=>(O4 b hb).elim (λh=>av2 B3.o (ru.o b h)) (λh=>av2 ez.size h));clear ht4 O4 AG DO c0 c1 c2 c3 c4;by_cases hz:(qG v.T c).2=0
    ·have HM:Hid (kS v c=.ok (qG v.T c).1):=Z (by rw[lg.o,awd hz]);rw[hz];obtain⟨d',bD⟩:=P0 HW.o c;have HW':=Z bD;clear hz bD;go_wp2;go_ret2;exact iy.new HM.o pO.o HT4.o HW'.o HR4.o
    ·have HM:Hid (kS v c=.error (qG v.T c).2):=Z (by rw[lg.o,awf hz]);have bz:((qG v.T c).2==0)=false:=by simpa using hz
     generalize (qG v.T c).2=er at*;clear hz;go_wp2;go_ret2;exact iy.err HM.o pO.o
end
def BG (v:Vs)(c:cm):Except Int (Int×Vs):=
 if c.ok=false then .ok (1,v)else match nY v c with
 | .error e=>.ok (e,v)
 | .ok T=>match (if(c.kind=7\/c.kind=8)\/c.line.length+2<=cG v then .ok v else bF v v.b.list [])with
  | .error e=>.error e
  | .ok v1=>match oK v1 T c.kind with
   | .error e=>.error e
   | .ok (false,v2)=>.ok (151,v2)
   | .ok (true,v2)=>
    if c.kind=7 then(bF v2 v2.b.list c.path).map λu=>(0,u)
    else if c.kind=8 then(bF v2 (v2.b.list.eraseIdx ((dt v2 c.path).getD 0)) []).map λu=>(0,u)
    else if cG v2<c.line.length+2 then .ok (72,v2)
    else .ok (0,{ v2 with T:=T,recs:=v2.recs++[c.line] })
structure iJ (v u:Vs):Prop where
 good:mu u
 blocks:u.blocks=v.blocks
 half:u.half=v.half
 T:u.T=v.T
 id:u.b.id=v.b.id
 list:u.b.list=v.b.list
 trees:∀ x∈v.b.list,∀ nodes,qQ v x nodes->qQ u x nodes
 num:v.num<=u.num
 same:v.num=u.num->u=v
theorem iJ.refl {v:Vs}(h:mu v):iJ v v:=⟨h,rfl,rfl,rfl,rfl,rfl,λ_ _ _ h=>h,av9 _,λ_=>rfl⟩
theorem iJ.trans {a b c:Vs}(h:iJ a b)(k:iJ b c):iJ a c:=
 ⟨k.good,k.blocks.trans h.blocks,k.half.trans h.half,k.T.trans h.T,k.id.trans h.id,k.list.trans h.list,λx hx nodes hn=>k.trees x (by rw[h.list];exact hx) nodes (h.trees x hx nodes hn),av2 h.num k.num,
  λe=>by have h1:=h.num;have h2:=k.num;rw[k.same J,h.same J]⟩
theorem nw (v:Vs):fE v v.b.list []:=⟨List.Sublist.refl _,.inl rfl⟩
theorem gZ {v:Vs}(h:mu v):∃ u,bF v v.b.list []=.ok u/\iJ v u/\u.b.nodes=aw v.T/\u.recs=[]/\u.num=v.num+1:=by
 obtain⟨u,hu⟩:=xx h (nw v);obtain⟨x,_,_,_,hl,_⟩:=hu.sns;exact⟨u,hu.run,⟨hu.good,hu.blocks,hu.half,hu.T,by rw[hu.id,awd rfl],by rw[hl,awd rfl],hu.trees,by have:=hu.num;omega,λe=>by have:=hu.num;omega⟩,hu.nodes,hu.recs,hu.num⟩
theorem Wd {v:Vs}(h:mu v)(T:Tr)(kind:Int):∃ b u,oK v T kind=.ok (b,u)/\iJ v u/\(b=true->bI u (aw T)+cQ u kind<=de u)/\(b=false->de u<bI u (aw T)+cQ u kind/\u.b.nodes=aw u.T)/\(u.recs=v.recs\/u.recs=[]):=by
 unfold oK;by_cases h1:bI v (aw T)+cQ v kind<=de v
 ·rw[awd h1];exact⟨true,v,rfl,iJ.refl h,λ_=>h1,λe=>(by cases e),.inl rfl⟩
 ·rw[awf h1];by_cases h2:aw v.T=v.b.nodes
  ·rw[awd h2];exact⟨false,v,by simp[Except.map,h1],iJ.refl h,λe=>(by cases e),λ_=>⟨by omega,h2.symm⟩,.inl rfl⟩
  ·rw[awf h2];obtain⟨u,hu,hs,hn,hr,_⟩:=gZ h;rw[hu];refine⟨decide (bI u (aw T)+cQ u kind<=de u),u,rfl,hs,λe=>by simpa using e,λe=>⟨by simpa using e,by rw[hn,hs.T]⟩,.inr hr⟩
theorem IZ {v:Vs}{s:ay}{i:Nat}(h:dt v s=some i):∃ x,v.b.list[i]?=some x/\x.name=s:=by
 unfold dt at h;rw[List.findIdx?_eq_some_iff_getElem]at h;obtain⟨hi,h1,_⟩:=h;exact⟨_,av6 hi,by simpa using h1⟩
theorem xK {v:Vs}{s:ay}(h:dt v s=none):∀ x∈v.b.list,x.name≠s:=by
 unfold dt at h;rw[List.findIdx?_eq_none_iff]at h;intro x hx;have:=h x hx;simpa using this
theorem Rz {v u:Vs}(h:u.b.list=v.b.list)(s:ay):dt u s=dt v s:=by unfold dt;rw[h]
theorem I0 {v:Vs}(h:mu v){T:Tr}(hn:iw (aw T)){recs:List ay}(hr:bI v (aw T)<=de v):mu { v with T:=T,recs:=recs }:=
 ⟨h.many,h.next,h.eight,h.planes,h.list,h.clear,h.snaps,h.here,h.nodes,hn,hr⟩
def dF (rd:Rd)(blocks num half:Nat)(T:Tr):Vs:=⟨rd,blocks,num,⟨⟨0,0⟩,⟨0,0⟩,⟨0,0⟩,1,1,[],[],List.replicate 8 [],[]⟩,T,[],half⟩
theorem xL (p:Nat):(List.replicate 8 ([]:ay)).getD p []=[]:=by
 rw[List.getD,List.getElem?_replicate];split<;>rfl
theorem M0 (rd:Rd)(blocks num half:Nat)(T:Tr):de (dF rd blocks num half T)=blocks-1:=by
 unfold de dF kF;simp only;rw[List.filter_eq_self.2,List.length_range'];intro n _;have:¬ aq (cT (List.replicate 8 [])) n=true:=by
  rw[oU sp7];rintro⟨p,_,hp⟩;rw[xL]at hp;cases hp
 simpa using this
theorem M9 {b:Nat}(h:b<=4096):aU b<=b/240+2:=by
 unfold aU;have h1:bQ b 240<=b/240+1:=(aL dc7).2 J;have h2:bQ b 240<=18:=(aL dc7).2 J;rcases aN b with⟨_,e⟩|⟨_,_,e⟩|⟨_,_,e⟩|⟨_,e⟩<;>rw[e]<;>simp only[av4,List.sum_nil]<;>omega
theorem xM (rd:Rd){blocks:Nat}(num half:Nat)(T:Tr)(hb:32<=blocks/\blocks<=4096)(hn:iw (aw T))(h1:(aw T).length=1)(hd:∀ x∈aw T,x.data.length<=240):mw (dF rd blocks num half T):=by
 have uB:bI (dF rd blocks num half T) (aw T)+bP (dF rd blocks num half T)+1<=de (dF rd blocks num half T):=by
  rw[M0];unfold bI bP;have e1:((aw T).map λx=>cY (cF (dF rd blocks num half T).b.nodes x.num) x.data).sum<=1:=by
   have:=XR (l:=aw T) (f:=λx=>cY (cF (dF rd blocks num half T).b.nodes x.num) x.data) (k:=1) λx hx=>av2 (gq _ _) (my (hd x hx));omega
  have e2:(if aw T=(dF rd blocks num half T).b.nodes then 0 else aU (2+12*(aw T).length))<=1:=by
   split
   ·omega
   ·exact my J
  have e3:aU (dF rd blocks num half T).blocks<=blocks/240+2:=M9 hb.2;have e4:blocks<240->aU blocks<=1:=λh=>my J;have e5:(dF rd blocks num half T).blocks=blocks:=rfl;rw[e5]at e3 ⊢;omega
 refine⟨hb,⟨av9 _,by show 1<=blocks;omega⟩,by simp[dF],?_,?_,λx hx=>by simp[dF]at hx,?_,?_,hn,?_⟩
 ·intro p _;show eP ((List.replicate 8 []).getD p [])/\∀ n,aq ((List.replicate 8 []).getD p []) n=true->_;rw[xL];exact⟨by simp[eP],λn hn=>by cases hn⟩
 ·exact⟨by simp[dF],λx hx=>by simp[dF]at hx,by simp[dF],λx hx=>by simp[dF]at hx,by simp[dF],by simp[dF],λx hx=>by simp[dF]at hx,by simp[dF]⟩
 ·refine⟨λ_=>False,λ_=>False,λ_=>False,[],[],[],λ_ h=>h,iY rd,?_,iY rd,by simp,?_,?_,λ_ h=>h.elim,.inr uB⟩
  ·intro he;have:aw T=[]:=he;rw[this]at h1;cases h1
  ·intro n;show aq ((List.replicate 8 []).getD 0 []) n=true↔_;rw[xL];simp[fJ]
  ·rintro n (h|h)
   ·exact h.elim
   ·cases h
 ·exact⟨by simp[dF],rfl,λx hx=>by simp[dF]at hx,λx hx=>by simp[dF]at hx⟩
 ·show bI _ _<=_;have:=uB;have e:(dF rd blocks num half T).T=T:=rfl;rw[e];omega
section
open Go.RowKit
attribute [local go_sem] av0
structure em (w:World)(p:Nat)(v:Vs)(a:eX)(u:Vs)(a':eX)(w':World):Prop where
 at_:lc w' p u a'
 role:a'.role=a.role
 foot:∀ g,a'.foot p g->a.foot p g\/w.heap.size<=g
 mod:ai (a.foot p) w w'
 still:fy (λb=>a.role b≠.none) w w'
 text:a.text=fT v.b->a'.text=fT u.b
theorem em.refl {v:Vs}{a:eX}(h:lc w p v a):em w p v a v a w:=⟨h,rfl,λ_ h=>.inl h,ai.refl _ _,λ_ _ _=>rfl,id⟩
theorem em.keep {v u:Vs}{a a':eX}(h:em w p v a u a' w1)(k:af w1 w2):em w p v a u a' w2:=
 ⟨h.at_.keep k,h.role,h.foot,h.mod.trans (k.mono (T:=a.foot p) (λ_ _ h=>h.elim)) (λ_ _ h=>h),λb hb hl=>(k.block b (awg hl h.mod.size) id).trans (h.still b hb hl),h.text⟩
theorem em.trans {v u x:Vs}{a a1 a2:eX}(h:em w p v a u a1 w1)(k:em w1 p u a1 x a2 w2):em w p v a x a2 w2:=
 ⟨k.at_,k.role.trans h.role,λg hg=>(k.foot g hg).elim (h.foot g) (λh1=>.inr (av2 h.mod.size h1)),h.mod.trans k.mod λg hl hs=>(h.foot g hs).elim id (λh1=>absurd h1 J),
  λb hb hl=>(k.still b (by rw[h.role];exact hb) (awg hl h.mod.size)).trans (h.still b hb hl),λe=>k.text (h.text e)⟩
theorem em.ahead {w0:World}{u v:Vs}{a a1:eX}(k:af w0 w)(h:em w p v a u a1 w1):em w0 p v a u a1 w1:=
 ⟨h.at_,h.role,λg hg=>(h.foot g hg).imp id (λh1=>av2 k.size h1),(k.mono (T:=a.foot p) (λ_ _ h=>h.elim)).trans h.mod (λ_ _ h=>h),λb hb hl=>(h.still b hb (awg hl k.size)).trans (k.block b hl id),h.text⟩
theorem We {v:Vs}(h:mw v):∀ k,aq (cT v.b.planes) k=true->1<=k/\k<v.blocks:=by
 intro k hk;rw[oU h.eight]at hk;obtain⟨p,hp,hq⟩:=hk;exact(h.planes p hp).2 k hq
theorem tA {v:Vs}{a:eX}(h:lc w p v a):Am w p v a a.sv v.b.list:=
 ⟨h,h.list,λg hg=>(h.stays g (.inr (.inr (.inr (.inl hg))))) ⟩
theorem ut {v:Vs}{a:eX}{list:List Sn}(h:Am w p v a lv list){more:ay}(hv:mw v)(hm:fE v list more)(hid:v.b.id<=1099511627777)(iD:v.num<1099511627776):
  Calls prog 64 #[au p,lv,az more] w λe w'=>e=.returned (.int .i64 0)/\∃ u a',bF v list more=.ok u/\a'.text=fT u.b/\em w p v a u a' w':=by
 obtain⟨r,hr⟩:=EC hv hm;refine(IQ h hr hv hm hid iD).mono ?_;rintro e w' ⟨rfl,a',h1,h2,h3,h4⟩;exact⟨rfl,_,a',hr.run,h2.1,h1,h2.2,h3,h4.mono (λg _ h=>by rcases h with h|h|h;exact .inl h;exact .inr (.inl h);exact .inr (.inr (.inl h))),λb hb hl=>h4.block b hl (λhh=>by
  have hs:=h.st.stays b (.inr (.inl hb));rcases hh with hh|hh|hh
  ·exact hs.2.2 hh
  ·exact hs.1 hh
  ·exact hs.2.1 hh),λ_=>h2.1⟩
theorem j0 {v:Vs}{a:eX}{list:List Sn}(h:Am w p v a lv list){more:ay}(hv:mw v)(hm:fE v list more)(hid:v.b.id<=1099511627777)(iD:v.num<1099511627776):
  Calls prog 64 #[au p,lv,az more] w λe w'=>e=.returned (.int .i64 0)/\∃ u a',bF v list more=.ok u/\em w p v a u a' w':=by
 refine(ut h hv hm hid iD).mono ?_;rintro e w' ⟨rfl,u,a',h1,_,h2⟩;exact⟨rfl,u,a',h1,h2⟩
theorem em.tree {v u:Vs}{a a':eX}(k:em w p v a u a' w'){role:Nat->dE}{T:Tr}(ht:aS w q T tb A M role)(nI:∀ b,role b≠.none->a.role b≠.none\/¬ a.foot p b):aS w' q T tb A M role:=
 ht.same (λb hb hl=>(nI b hb).elim (λh1=>k.still b h1 hl) (λh1=>k.mod.block b hl h1)) k.mod.size
theorem Aq {v:Vs}(hb:v.blocks<=4096){l:List Nt}(h:xJ l):bI v l<=7000:=by
 have h1:=tx v.b.nodes l h.data;have h2:bP v<=100:=fF J;have h3:=h.many;have h4:(if l=v.b.nodes then 0 else aU (2+12*l.length))<=100:=by
  split
  ·omega
  ·exact fF J
 show bP v+1+gK v.b.nodes l+_<=_;omega
theorem xN {v:Vs}(hb:v.blocks<=4096)(kind:Int):cQ v kind<=300:=by
 have h2:bP v<=100:=fF J;unfold cQ;split
 ·omega
 ·split<;>omega
theorem E5 {v:Vs}(hb:v.blocks<=4096):de v<=4096:=by
 unfold de kF;refine av2 (awh _ _) ?_;rw[List.length_range'];omega
structure oZ (w:World)(p:Nat)(v:Vs)(a:eX)(q:Nat)(T:Tr):Prop where
 vol:lc w p v a
 ready:mw v
 tree:∃(tb:Nat) (A M:Int->Nat) (role:Nat->dE) (d:Int->Nat),aS w q T tb A M role/\WF T d
 nodes:NodesOk (aw T)
theorem oZ.keep {v:Vs}{a:eX}{T:Tr}(h:oZ w p v a q T)(k:af w w'):oZ w' p v a q T:=by
 obtain⟨tb,A,M,role,d,ht,hw⟩:=h.tree;exact⟨h.vol.keep k,h.ready,⟨tb,A,M,role,d,ht.keep k,hw⟩,h.nodes⟩
theorem oZ.needs {v:Vs}{a:eX}{T:Tr}(h:oZ w p v a q T):Calls prog 144 #[au p,au q] w λe w'=>e=.returned (.int .i64 ((bI v (aw T):Nat):Int))/\af w w':=by
 obtain⟨tb,A,M,role,d,ht,hw⟩:=h.tree;exact MX h.vol h.ready.many.2 ht hw (pM h.ready.nodes) (pM h.nodes)
theorem oZ.spares {v:Vs}{a:eX}{T:Tr}(h:oZ w p v a q T)(kind:Int):Calls prog 145 #[au p,.int .i64 kind] w λe w'=>e=.returned (.int .i64 ((cQ v kind:Nat):Int))/\af w w':=
 IW h.vol h.ready.many.2 kind
theorem oZ.free {v:Vs}{a:eX}{T:Tr}(h:oZ w p v a q T):Calls prog 146 #[au p] w λe w'=>e=.returned (.int .i64 ((de v:Nat):Int))/\af w w':=
 MW h.vol (by have:=h.ready.many;omega) (by have:=ES h.ready;omega) (We h.ready)
theorem Na {v:Vs}{a:eX}(h:lc w p v a)(hg:mu v)(hid:v.b.id<=1099511627777)(iD:v.num<1099511627776){role:Nat->dE}{T:Tr}(ht:aS w q T tb A M role)(hw:WF T d)(hn:NodesOk (aw T))(nI:∀ b,role b≠.none->a.role b≠.none\/¬ a.foot p b)(kind:Int):
  Calls prog 65 #[au p,au q,.int .i64 kind] w λe w'=>∃ b u a',oK v T kind=.ok (b,u)/\e=.returned (.int .i64 (if b=true then 0 else 151))/\em w p v a u a' w':=by
 obtain⟨HF,H,HG,HT,HWF,HN,HI⟩:=K7 (oZ.mk h hg.ready ⟨tb,A,M,role,d,ht,hw⟩ hn) h hg (And.intro ht nI) hw hn (And.intro hid iD);have hb:=hg.many.2;have n1:((bI v (aw T):Nat):Int)<=7000:=by have:=Aq hb (pM hn);omega
 have n2:((cQ v kind:Nat):Int)<=300:=by have:=xN hb kind;omega
 have n3:((de v:Nat):Int)<=4096:=by have:=E5 hb;omega
 have N1:=Z HF.needs;have HFT:Hid (oK v T kind=if bI v (aw T)+cQ v kind<=de v then .ok (true,v)else
  (if aw v.T=v.b.nodes then .ok v else bF v v.b.list []).map λu=>(decide (bI u (aw T)+cQ u kind<=de u),u)):=Z rfl
 clear h hg hid iD ht hw hn nI hb;go_enter func65,ntmps65;go_wp2_with fail;refine N1.mono ?_;rintro e w1 ⟨rfl,k1⟩;obtain⟨cC,N2⟩:=K2 k1 ((HF.keep k1).spares kind);clear k1 N1;go_wp2_with fail;refine N2.mono ?_;rintro e w2 ⟨rfl,k2⟩;have bJ:=Z (cC.keep k2);have N3:=Z (HF.keep bJ.o).free;clear k2 N2 cC;go_wp2_with fail;refine N3.mono ?_;rintro e w3 ⟨rfl,k3⟩;have ez:=Z (bJ.keep k3);clear k3 N3 bJ;by_cases hq:bI v (aw T)+cQ v kind<=de v
 ·have X9:((bI v (aw T):Nat):Int)+((cQ v kind:Nat):Int)<=((de v:Nat):Int):=J
  have HR:Hid (oK v T kind=.ok (true,v)):=Z (by rw[HFT.o,awd hq]);clear hq;go_wp2;go_ret;exact⟨true,v,a,HR.o,rfl,(em.refl H.o).keep ez.o⟩
 ·have X9:¬((bI v (aw T):Nat):Int)+((cQ v kind:Nat):Int)<=((de v:Nat):Int):=J
  have HR:Hid (oK v T kind=(if aw v.T=v.b.nodes then .ok v else bF v v.b.list []).map λu=>(decide (bI u (aw T)+cQ u kind<=de u),u)):=Z (by rw[HFT.o,awf hq]);clear hq HFT
  go_upto_region 3 with fail
  clear n1 n2 n3 X9;obtain⟨bq,hbq⟩:∃ bq,decide (aw v.T=v.b.nodes)=bq:=⟨_,rfl⟩
  have Hbq:=Z hbq;clear hbq;have Un:=Z (H.keep ez.o);go_cut [29]from 8 to 49 (λx wx=>x=.bool (!bq)/\af w3 wx)
  case first=>
   have NO:Hid (∀ W,af w3 W->Calls prog 125 #[au a.pt] W λe w'=>∃(sa:Option Addr) (cap:Nat),e=.returned (.slice sa (aw v.T).length cap)/\ms gt 4 w' (.slice sa (aw v.T).length cap) (aw v.T)/\af W w'):=Z (λW k=>by
    obtain⟨tb,A,M,ht⟩:=Un.tree;obtain⟨d,hw⟩:=Un.wf;refine(ti (ht.keep k) hw).mono ?_;rintro e w' ⟨x,rfl,ho,k'⟩;obtain⟨sa,cap,rfl,hx⟩:=cg fP ho;exact⟨sa,cap,rfl,⟨sa,cap,rfl,hx⟩,k'⟩)
   obtain⟨na,Fw,env,sp⟩:=cg fP Un.nodes;have HXN:Hid (ms gt 4 w3 (.slice na v.b.nodes.length Fw) v.b.nodes):=Z ⟨na,Fw,rfl,sp⟩;have c14:w3.cell? ⟨p,14,none⟩=some (au a.pt):=aa Un.own 14;have c13:w3.cell? ⟨p,13,none⟩=some (.slice na v.b.nodes.length Fw):=by rw[<-env];exact aa Un.own 13
   have nR:=ak Un.own;have VC:Hid (∀ W,af w3 W->W.cell? ⟨p,13,none⟩=some (.slice na v.b.nodes.length Fw)):=Z (λW k=>(k.cell (p:=⟨p,13,none⟩) nR id).trans c13);have HLN:Hid ((aw v.T).length<=1000000/\v.b.nodes.length<=1000000):=Z ⟨by have:=HG.told.toNodesOk.many;omega,by have:=HG.nodes.many;omega⟩;clear env sp nR
   go_region_with (first
    |(go_at_call 125;refine awi (NO.o _ ((ai.refl _ w3).drew)) ?_;rintro e wN ⟨sa,cap,rfl,hr,kN⟩;obtain⟨HKN,HRN⟩:=K2 (((ai.refl (λ_=>False) w3).drew).keep kN) hr;have d13:=VC.o _ HKN.o;clear hr kN)
    |(go_at_call 147;refine awi (us _ _ _ _ _ HRN.o (fO HXN.o HKN.o) HLN.1 HLN.2) ?_;rintro e wE ⟨rfl,kE⟩;have od:=Z (HKN.keep kE);rw[Hbq.o];clear kE))
   all_goals (go_wp2_with fail;go_meet)
   all_goals (case rel=>exact⟨rfl,od.o⟩)
  case rest=>
   obtain⟨rfl,WU⟩:=hcut;have nH:=Z (ez.keep WU);clear WU ez Un
   go_upto_if 29 with fail
   go_cut []from 8 to 49 (λwx=>∃ u a',(if aw v.T=v.b.nodes then .ok v else bF v v.b.list [])=.ok u/\mu u/\em w p v a u a' wx)
   case first=>
    cases bq with
    |true=>
     have he:aw v.T=v.b.nodes:=of_decide_eq_true Hbq.o;have HE:Hid ((if aw v.T=v.b.nodes then .ok v else bF v v.b.list [])=.ok v):=Z (awd he);clear he;go_wp2_with fail;go_meet
     case rel=>exact⟨v,a,HE.o,HG.o,(em.refl H.o).keep nH.o⟩
    |false=>
     have he:¬ aw v.T=v.b.nodes:=of_decide_eq_false Hbq.o;have HE:Hid ((if aw v.T=v.b.nodes then .ok v else bF v v.b.list [])=bF v v.b.list []):=Z (awf he);have HVC:=Z (H.keep nH.o);have Zm:wc.cell? ⟨p,11,none⟩=some a.sv:=aa HVC.own 11;have PO:=Z (j0 (tA HVC.o) HG.ready (nw v) HI.1 HI.2);clear he;go_wp2_with fail;refine PO.mono ?_;rintro e wP ⟨rfl,u,a',hu,jm⟩;have HU:Hid (mu u):=Z (by
      obtain⟨u',h1,h2,_⟩:=gZ HG.o;rw[h1]at hu;injection hu with hu;rw[<-hu];exact h2.good)
     obtain⟨HPT,yW⟩:=K2 hu (em.ahead nH.o jm);clear hu jm PO Zm;go_wp2_with fail;go_meet
     case rel=>exact⟨u,a',HE.trans HPT.o,HU.o,yW.o⟩
   case rest=>
    obtain⟨u,a',hu,hgu,jm⟩:=hcut;have ru:Hid (oK v T kind=.ok (decide (bI u (aw T)+cQ u kind<=de u),u)):=Z (by rw[HR.o,hu];rfl);have Tf:Hid (oZ wc p u a' q T):=Z ⟨jm.at_,hgu.ready,⟨tb,A,M,role,d,jm.tree HT.1 HT.2,HWF.o⟩,HN.o⟩;have hb:=hgu.many.2;have n1:((bI u (aw T):Nat):Int)<=7000:=by have:=Aq hb (pM HN.o);omega
    have n2:((cQ u kind:Nat):Int)<=300:=by have:=xN hb kind;omega
    have n3:((de u:Nat):Int)<=4096:=by have:=E5 hb;omega
    obtain⟨yW,N1⟩:=K2 jm Tf.needs;clear hu hgu jm hb nH HF HR;go_wp2_with fail;refine N1.mono ?_;rintro e w4 ⟨rfl,k1⟩;obtain⟨cC,N2⟩:=K2 k1 ((Tf.keep k1).spares kind);clear k1 N1;go_wp2_with fail;refine N2.mono ?_;rintro e w5 ⟨rfl,k2⟩;have bJ:=Z (cC.keep k2);have N3:=Z (Tf.keep bJ.o).free;clear k2 N2 cC;go_wp2_with fail;refine N3.mono ?_;rintro e w6 ⟨rfl,k3⟩;have ez:=Z (bJ.keep k3);clear k3 N3 bJ;by_cases hq:bI u (aw T)+cQ u kind<=de u
    ·have X9:((bI u (aw T):Nat):Int)+((cQ u kind:Nat):Int)<=((de u:Nat):Int):=J
     rw[decide_eq_true hq]at ru;clear hq;go_wp2;go_ret;exact⟨true,u,a',ru.o,rfl,yW.keep ez.o⟩
    ·have X9:¬((bI u (aw T):Nat):Int)+((cQ u kind:Nat):Int)<=((de u:Nat):Int):=J
     rw[awe hq]at ru;clear hq;go_wp2;go_ret;exact⟨false,u,a',ru.o,rfl,yW.keep ez.o⟩
end
end Go.Proofs.YtkghpdcloaiflaaGreatDoor
