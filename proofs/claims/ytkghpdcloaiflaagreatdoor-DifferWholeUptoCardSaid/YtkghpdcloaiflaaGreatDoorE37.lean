import Derived.Test.YtkghpdcloaiflaaGreatDoorE35
import Derived.Test.YtkghpdcloaiflaaGreatDoorE36
set_option maxHeartbeats 4000000
set_option maxRecDepth 100000
namespace Go.Proofs.YtkghpdcloaiflaaGreatDoor
open _root_.Go.Proofs.Tryz
section
open Go.RowKit Go.Maps
attribute [local go_sem] auv
structure xR (l:List Nt):Prop where
 many:l.length<=60
 nums:∀ x∈l,0<=x.num/\x.num<=65535
 data:∀ x∈l,x.data.length<=16384
theorem qc {l:List Nt}(h:NodesOk l):xR l:=⟨h.many,fun x hx=>by have:=jm h.nums x hx;omega,h.data⟩
theorem IE {l:List Nt}(h:xR l)(k:Int):(cI l k).length<=16384:=by
 unfold cI
 cases hl:(l.filter fun x=>x.num==k).getLast? with
 |none=>simp
 |some x=>
  have:=List.mem_of_getLast? hl;exact h.data x (auw.1 this).1
def gT (old l:List Nt):Nat:=(l.map fun x=>dc (cI old x.num) x.data).sum
theorem tN (old l:List Nt)(h:∀ x∈l,x.data.length<=16384):gT old l<=100*l.length:=by
 unfold gT
 induction l with
 |nil=>simp
 |cons x r ih=>
  have h1:=ih fun y hy=>h y (by simp[hy]);have h2:=aux (gE (cI old x.num) x.data) (fL (h x (by simp)));simp only[auy,auz,auA];omega
theorem MT {w:World}{p:Nat}{v:Vs}{a:eF}(h:kg w p v a)(hb:v.blocks<=4096){q tb:Nat}{A M:Int->Nat}{role:Nat->cT}{T:Tr}{d:Int->Nat}(ht:aI w q T tb A M role)(hw:WF T d)(h1:xR v.b.nodes)(h2:xR (ar T)):
  Calls prog 144 #[aq p,aq q] w fun e w'=>e=.returned (.int .i64 ((bH v (ar T):Nat):Int))/\af w w':=by
 have Ju:=@run_makeMap prog;have hfd:∀(x0 x1 x2 x3:Value) (W:World),(Instr.field 221 (.agg #[x0,x1,x2,x3]) 3).run prog W=.ok x3 W:=fun _ _ _ _ _=>by kernel_rfl
 have H:=hd0 h;have HT:=hd0 ht;have HW:=hd0 hw;have Oc:=hd0 hb;have N1:=hd0 h1;have N2:=hd0 h2;have dE:af w (w.alloc (.map #[] 0)):=(ah.refl _ w).alloc _;have HM0:Hid (Rg (w.alloc (.map #[] 0)) w.heap.size []):=hd0 (fy.made w);have dO:=hd0 dE;obtain⟨mb,ze⟩:∃ mb,w.heap.size=mb:=⟨_,rfl⟩
 have Hmb:=hd0 ze;obtain⟨an,cap,ev,hx⟩:=bZ fV h.nodes;have HX:=hd0 hx;have v13:(w.alloc (.map #[] 0)).cell? ⟨p,13,none⟩=some (.slice an v.b.nodes.length cap):=by rw[<-ev];exact aa (h.keep dE).own 13
 have E9:(v.b.nodes.length:Int)<=60:=by have:=h1.many;omega
 have HE:Hid (bH v (ar T)=bM v+1+gT v.b.nodes (ar T)+(if ar T=v.b.nodes then 0 else aS (2+12*(ar T).length))):=hd0 rfl;clear h ht hw hb h1 h2 dE hx;rw[ze]at HM0;go_enter func144,ntmps144;go_wp2_with fail
 try rw[ze]
 generalize w.alloc (.map #[] 0)=W at*
 go_loopw [21] (fun i wr=>∃ k:Nat,k<=v.b.nodes.length/\i=.int .i64 (k:Int)/\Hid (Rg wr mb (py (v.b.nodes.take k)))/\Hid (af w wr)) (fun i _=>v.b.nodes.length-(intOf i).toNat)
 case atStart=>exact⟨0,by omega,rfl,HM0,dO⟩
 case round=>
  clear HM0 dO v13;obtain⟨k,hk,rfl,HB,HK⟩:=hrel;by_cases aL:k<v.b.nodes.length
  ·have dN:(k:Int)<(v.b.nodes.length:Int):=by omega
   obtain⟨y,hy⟩:∃ y,v.b.nodes[k]?=some y:=⟨_,auB aL⟩
   obtain⟨rb,o,rfl,hc⟩:=HX.out k y hy;have c0:wr.cell? ⟨rb,o+k*4,none⟩=some (.int .i64 y.num):=by have h:=hc 0 _ rfl;rw[HK.out.cell (p:=⟨rb,o+k*4,none⟩) (ak h) id];exact h
   have c1:wr.cell? ⟨rb,o+k*4+1,none⟩=some (.bool y.dir):=by have h:=hc 1 _ rfl;rw[HK.out.cell (p:=⟨rb,o+k*4+1,none⟩) (ak h) id];exact h
   have c2:wr.cell? ⟨rb,o+k*4+2,none⟩=some (.int .i64 y.links):=by have h:=hc 2 _ rfl;rw[HK.out.cell (p:=⟨rb,o+k*4+2,none⟩) (ak h) id];exact h
   have c3:wr.cell? ⟨rb,o+k*4+3,none⟩=some (.string ⟨y.data.toArray⟩):=by have h:=hc 3 _ rfl;rw[HK.out.cell (p:=⟨rb,o+k*4+3,none⟩) (ak h) id];exact h
   have TF:=N1.out.nums y (auC hy);have ro:af wr (wr.alloc (.cells (gG y).toArray 221)):=(ah.refl _ wr).alloc _;obtain⟨w2,bi,gV,dh,cK⟩:=(HB.out.mod ro id).store Rf underlying295 underlying3 y.num (by omega) y trivial (by have h1:=MR (v.b.nodes.take k);have h2:=N1.out.many;have h3:(v.b.nodes.take k).length<=v.b.nodes.length:=List.length_take_le' _ _;omega);have hws:em j6 y.num y (py (v.b.nodes.take k))=py (v.b.nodes.take (k+1)):=by rw[auD,hy];exact(rc _ _).symm
   rw[hws]at gV;have jI:=hd0 gV;have bu:Hid (af w w2):=hd0 ((HK.out.keep ro).new dh (by rw[Hmb.out];exact auE _));unfold lp gG at bi;clear hws gV dh hc TF ro hy;go_wp2_with fail;exact⟨⟨k+1,by omega,by go_num,jI,bu⟩,by simp[intOf];omega⟩
  ·obtain rfl:k=v.b.nodes.length:=by omega
   rw[auF]at HB;have NO:=hd0 (tF (HT.out.keep HK.out) HW.out);clear aL hk;go_wp2_with fail;refine NO.out.mono ?_;rintro e w1 ⟨nv,rfl,ho,k1⟩;have bU:=hd0 (HK.out.keep k1);have jp:=hd0 (HB.out.mod k1 id);obtain⟨bn,Z7,rfl,sT⟩:=bZ fV ho;have HO:=hd0 (Aq (H.out.keep bU.out) Oc.out);have HXN:=hd0 sT;have hh:bM v<=100:=fL (by have:=Oc.out;omega);have hhi:(bM v:Int)<=100:=by omega
   have HH:=hd0 hh;clear ho sT k1 NO HK HB hh;go_wp2_with fail;refine HO.out.mono ?_;rintro e w2 ⟨rfl,k2⟩;have bu:=hd0 (bU.out.keep k2);have jI:=hd0 (jp.out.mod k2 id);have rE:Hid (jS gG 4 w2 (.slice bn (ar T).length Z7) (ar T)):=hd0 (eZ ⟨bn,Z7,rfl,HXN.out⟩ k2);have hni:((ar T).length:Int)<=60:=by have:=N2.out.many;omega
   clear k2 jp HXN HO bU;go_wp2_with fail
   go_loopw [37,9] (fun i s wr=>∃ k:Nat,k<=(ar T).length/\i=.int .i64 (k:Int)/\s=.int .i64 ((bM v+1+gT v.b.nodes ((ar T).take k):Nat):Int)/\Hid (Rg wr mb (py v.b.nodes))/\Hid (af w2 wr)) (fun i _ _=>(ar T).length-(intOf i).toNat)
   case atStart=>exact⟨0,by omega,rfl,by simp[gT];try go_num,jI,hd0 (ah.refl _ _)⟩
   case round=>
    clear jI;obtain⟨k,hk,rfl,rfl,HB,HK⟩:=hrel;by_cases aL:k<(ar T).length
    ·have dN:(k:Int)<((ar T).length:Int):=by omega
     obtain⟨x,hx⟩:∃ x,(ar T)[k]?=some x:=⟨_,auB aL⟩
     obtain⟨an',WE,en',RH⟩:=rE.out;injection en' with ea1 ea2 ea3;subst ea1 ea3;obtain⟨rb,o,rfl,hc⟩:=RH k x hx;have c0:wr.cell? ⟨rb,o+k*4,none⟩=some (.int .i64 x.num):=by have h:=hc 0 _ rfl;rw[HK.out.cell (p:=⟨rb,o+k*4,none⟩) (ak h) id];exact h
     have c1:wr.cell? ⟨rb,o+k*4+1,none⟩=some (.bool x.dir):=by have h:=hc 1 _ rfl;rw[HK.out.cell (p:=⟨rb,o+k*4+1,none⟩) (ak h) id];exact h
     have c2:wr.cell? ⟨rb,o+k*4+2,none⟩=some (.int .i64 x.links):=by have h:=hc 2 _ rfl;rw[HK.out.cell (p:=⟨rb,o+k*4+2,none⟩) (ak h) id];exact h
     have c3:wr.cell? ⟨rb,o+k*4+3,none⟩=some (.string ⟨x.data.toArray⟩):=by have h:=hc 3 _ rfl;rw[HK.out.cell (p:=⟨rb,o+k*4+3,none⟩) (ak h) id];exact h
     have sT:=N2.out.nums x (auC hx);have nh:=N2.out.data x (auC hx);have ro:af wr (wr.alloc (.cells #[.int .i64 x.num,.bool x.dir,.int .i64 x.links,.string ⟨x.data.toArray⟩] 221)):=(ah.refl _ wr).alloc _;have AI:=(HB.out.mod ro id).look1 Rf underlying295 underlying3 x.num (by omega);unfold lp at AI;rw[MQ]at AI;have CO:=hd0 (Rc (cI v.b.nodes x.num) x.data (IE N1.out _) nh (wr.alloc (.cells #[.int .i64 x.num,.bool x.dir,.int .i64 x.links,.string ⟨x.data.toArray⟩] 221)));have HBa:=hd0 (HB.out.mod ro id);have Ci:=hd0 (HK.out.keep ro);have hco:=aux (gE (cI v.b.nodes x.num) x.data) (fL nh);have hct:gT v.b.nodes ((ar T).take (k+1))=gT v.b.nodes ((ar T).take k)+dc (cI v.b.nodes x.num) x.data:=by unfold gT;rw[auD,hx];simp
     have sH:=tN v.b.nodes ((ar T).take k) (fun y hy=>N2.out.data y (auG hy));rw[auH]at sH;have hci:((bM v+1+gT v.b.nodes ((ar T).take k):Nat):Int)<=7000:=by have:=N2.out.many;have:=HH.out;omega
     have BM:((dc (cI v.b.nodes x.num) x.data:Nat):Int)<=100:=by omega
     have HCT:Hid (bM v+1+gT v.b.nodes ((ar T).take (k+1))=(bM v+1+gT v.b.nodes ((ar T).take k))+dc (cI v.b.nodes x.num) x.data):=hd0 (by omega);clear hct sH hco sT nh hc hx RH HB HK ro;generalize bM v+1+gT v.b.nodes ((ar T).take k)=sm at*;go_wp2_with fail;refine CO.out.mono ?_;rintro e w3 ⟨rfl,k3⟩;have ox:=hd0 (HBa.out.mod k3 id);have dZ:=hd0 (Ci.out.keep k3);clear k3 CO AI;go_wp2_with fail;exact⟨⟨k+1,by omega,by go_num,by rw[HCT.out];go_num,ox,dZ⟩,by simp[intOf];omega⟩
    ·obtain nY:k=(ar T).length:=by omega
     subst nY;rw[auF];have HKe:=hd0 (bu.out.keep HK.out);have hx:=(H.out.keep HKe.out)
     obtain⟨an2,VW,ev2,vz⟩:=bZ fV hx.nodes;have c13:wr.cell? ⟨p,13,none⟩=some (.slice an2 v.b.nodes.length VW):=by rw[<-ev2];exact aa hx.own 13
     have EQ:=hd0 (uz (.slice bn (ar T).length Z7) (.slice an2 v.b.nodes.length VW) (ar T) v.b.nodes wr (eZ rE.out HK.out) ⟨an2,VW,rfl,vz⟩ (by omega) (by omega));have sH:=tN v.b.nodes (ar T) (fun y hy=>N2.out.data y hy);have hci:((bM v+1+gT v.b.nodes (ar T):Nat):Int)<=7000:=by have:=N2.out.many;have:=HH.out;omega
     have Oq:=HE;generalize bM v+1+gT v.b.nodes (ar T)=sm at*;clear hx ev2 vz sH HB aL hk;go_wp2_with fail;refine EQ.out.mono ?_;rintro e w4 ⟨rfl,k4⟩;have ou:=hd0 (HKe.out.keep k4);clear k4 EQ c13;by_cases hq:ar T=v.b.nodes
     ·have hd:decide (ar T=v.b.nodes)=true:=decide_eq_true hq;rw[hd];have HF:Hid (bH v (ar T)=sm):=hd0 (by rw[HE.out,auI hq];rfl);clear hq hd HE Oq;go_wp2;go_ret;exact⟨by rw[HF.out];rfl,ou.out⟩
     ·have hd:decide (ar T=v.b.nodes)=false:=auJ hq;rw[hd];have HF:Hid (bH v (ar T)=sm+aS (2+12*(ar T).length)):=hd0 (by rw[HE.out,auK hq]);have SH:=hd0 (tJ (2+12*(ar T).length) w4 (by omega));have hsh:((aS (2+12*(ar T).length):Nat):Int)<=100:=by have:=fL (b:=2+12*(ar T).length) (by omega);omega
      have Xi:(2+12*((ar T).length:Int))=((2+12*(ar T).length:Nat):Int):=by omega
      rw[<-Xi]at SH;clear Xi;clear hq hd HE Oq;go_wp2_with fail;refine SH.out.mono ?_;rintro e w5 ⟨rfl,k5⟩;have lZ:=hd0 (ou.out.keep k5);clear k5 SH;go_wp2;go_ret;exact⟨by rw[HF.out];rfl,lZ.out⟩
end
section
open Go.RowKit
attribute [local go_sem] auv
def ly (v:Vs)(c:bP):Except Int Tr:=if c.ok=false then .error 1 else nB v c
def iJ (w:World)(v:Vs)(a:eF)(c:bP)(e:Ending)(w':World):Prop:=
 af w w'/\match ly v c with
  | .error x=>e=.returned (.tuple #[.pointer none,.int .i64 x])
  | .ok T=>∃(q tb:Nat) (A M:Int->Nat) (role:Nat->cT) (d:Int->Nat),e=.returned (.tuple #[aq q,.int .i64 0])/\aI w' q T tb A M role/\WF T d/\((T=v.T/\role=a.role)\/∀ b,role b≠.none->w.heap.size<=b)
theorem iJ.err {w:World}{v:Vs}{a:eF}{c:bP}{x:Int}{w':World}(h:ly v c=.error x)(k:af w w'):iJ w v a c (.returned (.tuple #[.pointer none,.int .i64 x])) w':=by
 unfold iJ;rw[h];exact⟨k,rfl⟩
theorem iJ.here {w:World}{p:Nat}{v:Vs}{a:eF}{c:bP}{w':World}(h:ly v c=.ok v.T)(k:af w w')(hv:kg w' p v a):iJ w v a c (.returned (.tuple #[aq a.pt,.int .i64 0])) w':=by
 unfold iJ;rw[h];obtain⟨tb,A,M,t⟩:=hv.tree;obtain⟨d,hw⟩:=hv.wf;exact⟨k,a.pt,tb,A,M,a.role,d,rfl,t,hw,.inl ⟨rfl,rfl⟩⟩
theorem iJ.new {w:World}{v:Vs}{a:eF}{c:bP}{T:Tr}{w':World}{q tb:Nat}{A M:Int->Nat}{role:Nat->cT}{d:Int->Nat}(h:ly v c=.ok T)(k:af w w')(ht:aI w' q T tb A M role)(hw:WF T d)(hr:∀ b,role b≠.none->w.heap.size<=b):iJ w v a c (.returned (.tuple #[aq q,.int .i64 0])) w':=by
 unfold iJ;rw[h];exact⟨k,q,tb,A,M,role,d,rfl,ht,hw,.inr hr⟩
theorem MV {w:World}{p:Nat}{v:Vs}{a:eF}(h:kg w p v a)(he:tr w)(c:bP)(hc:c.Small)(hl:v.b.list.length<=7)(hid:v.b.id<=1099511627777)(nR:QD c):
  Calls prog 61 #[aq p,gt c] w (iJ w v a c):=by
 have dE:af w (w.alloc (.cells (bL c) 55)):=(ah.refl _ w).alloc _;have iM:World.blk (w.alloc (.cells (bL c) 55)) w.heap.size (bL c) 55:=aw _ _ _;have PR:=tD c _ (he.keep dE) hc;have HE:=hd0 he;have Hc:=hd0 hc;have H:=hd0 h;have dO:=hd0 dE;have nU:=hd0 iM;have HL:=hd0 hl;have HI:=hd0 hid;have HDO:=hd0 nR;clear nR;have E9:(v.b.list.length:Int)<=7:=by omega
 have ajV:(v.b.id:Int)<=1099511627777:=by omega
 unfold lh at PR
 cases cq:c.ok with
 |false=>
  rw[cq,auK (by decide)]at PR;have PR:=hd0 PR;have HM:Hid (ly v c=.error 1):=hd0 (by unfold ly;rw[auI cq]);clear h he hc dE iM hl hid cq;go_enter func61,ntmps61;unfold gt bL;go_wp2_with fail;refine PR.out.mono ?_;rintro e w1 ⟨rfl,k1⟩;have bU:=hd0 (dO.out.keep k1);clear k1;go_wp2;go_ret2;exact iJ.err HM.out bU.out
 |true=>
  rw[cq,auI rfl]at PR;have PR:=hd0 PR;have HX:Hid (ly v c=nB v c):=hd0 (by unfold ly;rw[auK (by rw[cq];decide)]);clear h he hc dE iM hl hid cq;go_enter func61,ntmps61;unfold gt bL;go_wp2_with fail;refine PR.out.mono ?_;rintro e w1 ⟨rfl,k1⟩;have bU:=hd0 (dO.out.keep k1);have hb1:=ab k1 nU.out id;obtain⟨c0,c1,c2,c3,c4⟩:=cE hb1;have hv1:=H.out.keep bU.out;have d15:w1.cell? ⟨p,15,none⟩=some (.bool false):=aa hv1.own 15;have NM:=hd0 (xQ hv1 (by have:=HL.out;omega) c.path);have jp:=hd0 hb1;clear k1 hb1 hv1;go_wp2_with fail;refine NM.out.mono ?_;rintro e w2 ⟨rfl,k2⟩;have bu:=hd0 (bU.out.keep k2);have fi:=ab k2 jp.out id;clear c0 c1 c2 c3 c4 d15;obtain⟨c0,c1,c2,c3,c4⟩:=cE fi;have OP:=H.out.keep bu.out;have KI:=hd0 OP;have jI:=hd0 fi;obtain⟨la,aje,ZN,_⟩:=bZ eQ OP.list;have d11:w2.cell? ⟨p,11,none⟩=some (.slice la v.b.list.length aje):=by rw[<-ZN];exact aa OP.own 11
  have d9:w2.cell? ⟨p,9,none⟩=some (.int .i64 (v.b.id:Int)):=aa OP.own 9;have d14:w2.cell? ⟨p,14,none⟩=some (aq a.pt):=aa OP.own 14;clear k2 fi OP ZN jp bU dO nU PR NM;by_cases h7:c.kind=7
  ·rw[h7]at c0
   cases hn:du v c.path with
   |some i=>
    have HM:Hid (ly v c=.error 161):=hd0 (by rw[HX.out];unfold nB;rw[auI ⟨h7,by rw[hn];rfl⟩]);have hi0:¬(i:Int)<0:=by omega
    clear hn h7;unfold xJ;go_wp2;go_ret2;exact iJ.err HM.out bu.out
   |none=>
    have uU:¬(c.kind=7/\(du v c.path).isSome=true):=by rw[hn];simp
    unfold xJ;by_cases hq:7<=v.b.list.length
    ·have HM:Hid (ly v c=.error 163):=hd0 (by rw[HX.out];unfold nB;rw[auK uU,auI ⟨h7,.inl hq⟩]);have W9:(7:Int)<=(v.b.list.length:Int):=by omega
     clear hn uU h7;go_wp2;go_ret2;exact iJ.err HM.out bu.out
    ·have W9:¬(7:Int)<=(v.b.list.length:Int):=by omega
     by_cases KN:1099511627777<=v.b.id
     ·have HM:Hid (ly v c=.error 163):=hd0 (by rw[HX.out];unfold nB;rw[auK uU,auI ⟨h7,.inr KN⟩]);have akI:(1099511627777:Int)<=(v.b.id:Int):=by omega
      clear hn uU h7;go_wp2;go_ret2;exact iJ.err HM.out bu.out
     ·have HM:Hid (ly v c=.ok v.T):=hd0 (by rw[HX.out];unfold nB;rw[auK uU,auK (fun h=>h.2.elim hq KN),auK (fun h=>by have:=h.1;omega),auI (.inl h7)]);have akI:(v.b.id:Int)<=1099511627776:=by omega
      have aqi:decide ((1099511627777:Int)<=(v.b.id:Int))=false:=auJ (by omega);clear hn uU h7 KN ajV;go_wp2;go_ret2;exact iJ.here HM.out bu.out KI.out
  ·have b7:(c.kind==7)=false:=by simpa using h7
   have uU:¬(c.kind=7/\(du v c.path).isSome=true):=fun h=>h7 h.1;have N0:¬(c.kind=7/\(7<=v.b.list.length\/1099511627777<=v.b.id)):=fun h=>h7 h.1;by_cases h8:c.kind=8
   ·rw[h8]at c0
    cases hn:du v c.path with
    |some i=>
     have HM:Hid (ly v c=.ok v.T):=hd0 (by rw[HX.out];unfold nB;rw[auK uU,auK N0,auK (fun h=>by rw[hn]at h;cases h.2),auI (.inr h8)]);have hi0:¬(i:Int)<0:=by omega
     clear hn h8 uU N0;unfold xJ;go_wp2;go_ret2;exact iJ.here HM.out bu.out KI.out
    |none=>
     have HM:Hid (ly v c=.error 162):=hd0 (by rw[HX.out];unfold nB;rw[auK uU,auK N0,auI ⟨h8,by rw[hn];rfl⟩]);clear hn h8 uU N0;unfold xJ;go_wp2;go_ret2;exact iJ.err HM.out bu.out
   ·have b8:(c.kind==8)=false:=by simpa using h8
    have lE:Hid (ly v c=if(qN v.T c).2=0 then .ok (qN v.T c).1 else .error (qN v.T c).2):=hd0 (by rw[HX.out];unfold nB;rw[auK uU,auK N0,auK (fun h=>h8 h.1),auK (fun h=>h.elim h7 h8)]);clear uU N0 h7 h8;generalize xJ (du v c.path)=ix;obtain⟨tb,A,M,ht⟩:=KI.out.tree;obtain⟨d,hw⟩:=KI.out.wf;have CL:=hd0 (Mt ht hw);have HW:=hd0 hw;clear ht hw;go_wp2_with fail;refine CL.out.mono ?_;rintro e w3 ⟨q,tb2,A2,M2,amF,rfl,OD,tT,k3⟩;have dZ:=hd0 (bu.out.keep k3);have uV:=ab k3 jI.out id;clear c0 c1 c2 c3 c4 d11 d9 d14;obtain⟨c0,c1,c2,c3,c4⟩:=cE uV;have DO:=hd0 (acq OD HW.out (HE.out.keep dZ.out) c Hc.out HDO.out);have rE:=hd0 tT;have BV:=hd0 bu.out.size;clear k3 uV OD tT CL;unfold gt bL at DO;go_wp2_with fail;refine DO.out.mono ?_;rintro e w4 ⟨rfl,A',M',j4,ht4,hr4,AG⟩;have ou:Hid (af w w4):=hd0 (dZ.out.trans AG (fun g hg h=>absurd (rE.out g h) (by have:=BV.out;omega)));have Sf:=hd0 ht4;have HR4:Hid (∀ b,j4 b≠.none->w.heap.size<=b):=hd0 (fun b hb=>(hr4 b hb).elim (fun h=>aux BV.out (rE.out b h)) (fun h=>aux dZ.out.size h));clear ht4 hr4 AG DO c0 c1 c2 c3 c4;by_cases hz:(qN v.T c).2=0
    ·have HM:Hid (ly v c=.ok (qN v.T c).1):=hd0 (by rw[lE.out,auI hz]);rw[hz];obtain⟨d',cf⟩:=JR HW.out c;have HW':=hd0 cf;clear hz cf;go_wp2;go_ret2;exact iJ.new HM.out ou.out Sf.out HW'.out HR4.out
    ·have HM:Hid (ly v c=.error (qN v.T c).2):=hd0 (by rw[lE.out,auK hz]);have bz:((qN v.T c).2==0)=false:=by simpa using hz
     generalize (qN v.T c).2=er at*;clear hz;go_wp2;go_ret2;exact iJ.err HM.out ou.out
end
def yP (v:Vs)(c:bP):Except Int (Int×Vs):=
 if c.ok=false then .ok (1,v)else match nB v c with
 | .error e=>.ok (e,v)
 | .ok T=>match (if(c.kind=7\/c.kind=8)\/c.line.length+2<=cl v then .ok v else bB v v.b.list [])with
  | .error e=>.error e
  | .ok v1=>match mG v1 T c.kind with
   | .error e=>.error e
   | .ok (false,v2)=>.ok (151,v2)
   | .ok (true,v2)=>
    if c.kind=7 then(bB v2 v2.b.list c.path).map fun u=>(0,u)
    else if c.kind=8 then(bB v2 (v2.b.list.eraseIdx ((du v2 c.path).getD 0)) []).map fun u=>(0,u)
    else if cl v2<c.line.length+2 then .ok (72,v2)
    else .ok (0,{ v2 with T:=T,recs:=v2.recs++[c.line] })
structure im (v u:Vs):Prop where
 good:io u
 blocks:u.blocks=v.blocks
 half:u.half=v.half
 T:u.T=v.T
 id:u.b.id=v.b.id
 list:u.b.list=v.b.list
 trees:∀ x∈v.b.list,∀ nodes,qX v x nodes->qX u x nodes
 num:v.num<=u.num
 same:v.num=u.num->u=v
theorem im.refl {v:Vs}(h:io v):im v v:=⟨h,rfl,rfl,rfl,rfl,rfl,fun _ _ _ h=>h,auE _,fun _=>rfl⟩
theorem im.trans {a b c:Vs}(h:im a b)(k:im b c):im a c:=
 ⟨k.good,k.blocks.trans h.blocks,k.half.trans h.half,k.T.trans h.T,k.id.trans h.id,k.list.trans h.list,fun x hx nodes hn=>k.trees x (by rw[h.list];exact hx) nodes (h.trees x hx nodes hn),aux h.num k.num,
  fun e=>by have h1:=h.num;have h2:=k.num;rw[k.same (by omega),h.same (by omega)]⟩
theorem eS (v:Vs):dX v v.b.list []:=⟨List.Sublist.refl _,.inl rfl⟩
theorem fM {v:Vs}(h:io v):∃ u,bB v v.b.list []=.ok u/\im v u/\u.b.nodes=ar v.T/\u.recs=[]/\u.num=v.num+1:=by
 obtain⟨u,hu⟩:=ls h (eS v);obtain⟨x,_,_,_,hl,_⟩:=hu.sns;exact⟨u,hu.run,⟨hu.good,hu.blocks,hu.half,hu.T,by rw[hu.id,auI rfl],by rw[hl,auI rfl],hu.trees,by have:=hu.num;omega,fun e=>by have:=hu.num;omega⟩,hu.nodes,hu.recs,hu.num⟩
theorem Ka {v:Vs}(h:io v)(T:Tr)(kind:Int):∃ b u,mG v T kind=.ok (b,u)/\im v u/\(b=true->bH u (ar T)+cR u kind<=dp u)/\(b=false->dp u<bH u (ar T)+cR u kind/\u.b.nodes=ar u.T)/\(u.recs=v.recs\/u.recs=[]):=by
 unfold mG;by_cases h1:bH v (ar T)+cR v kind<=dp v
 ·rw[auI h1];exact⟨true,v,rfl,im.refl h,fun _=>h1,fun e=>(by cases e),.inl rfl⟩
 ·rw[auK h1];by_cases h2:ar v.T=v.b.nodes
  ·rw[auI h2];exact⟨false,v,by simp[Except.map,h1],im.refl h,fun e=>(by cases e),fun _=>⟨by omega,h2.symm⟩,.inl rfl⟩
  ·rw[auK h2];obtain⟨u,hu,hs,hn,hr,_⟩:=fM h;rw[hu];refine⟨decide (bH u (ar T)+cR u kind<=dp u),u,rfl,hs,fun e=>by simpa using e,fun e=>⟨by simpa using e,by rw[hn,hs.T]⟩,.inr hr⟩
theorem IG {v:Vs}{s:az}{i:Nat}(h:du v s=some i):∃ x,v.b.list[i]?=some x/\x.name=s:=by
 unfold du at h;rw[List.findIdx?_eq_some_iff_getElem]at h;obtain⟨hi,h1,_⟩:=h;exact⟨_,auB hi,by simpa using h1⟩
theorem re {v:Vs}{s:az}(h:du v s=none):∀ x∈v.b.list,x.name≠s:=by
 unfold du at h;rw[List.findIdx?_eq_none_iff]at h;intro x hx;have:=h x hx;simpa using this
theorem Rh {v u:Vs}(h:u.b.list=v.b.list)(s:az):du u s=du v s:=by unfold du;rw[h]
theorem II {v:Vs}(h:io v){T:Tr}(hn:iI (ar T)){recs:List az}(hr:bH v (ar T)<=dp v):io { v with T:=T,recs:=recs }:=
 ⟨h.many,h.next,h.eight,h.planes,h.list,h.clear,h.snaps,h.here,h.nodes,hn,hr⟩
def dM (rd:Rd)(blocks num half:Nat)(T:Tr):Vs:=⟨rd,blocks,num,⟨⟨0,0⟩,⟨0,0⟩,⟨0,0⟩,1,1,[],[],List.replicate 8 [],[]⟩,T,[],half⟩
theorem xS (p:Nat):(List.replicate 8 ([]:az)).getD p []=[]:=by
 rw[List.getD,List.getElem?_replicate];split<;>rfl
theorem MW (rd:Rd)(blocks num half:Nat)(T:Tr):dp (dM rd blocks num half T)=blocks-1:=by
 unfold dp dM kX;simp only;rw[List.filter_eq_self.2,List.length_range'];intro n _;have:¬ am (cV (List.replicate 8 [])) n=true:=by
  rw[pr (by simp)];rintro⟨p,_,hp⟩;rw[xS]at hp;cases hp
 simpa using this
theorem MX {b:Nat}(h:b<=4096):aS b<=b/240+2:=by
 unfold aS;have h1:bN b 240<=b/240+1:=(aJ (by decide)).2 (by omega);have h2:bN b 240<=18:=(aJ (by decide)).2 (by omega);rcases aM b with⟨_,e⟩|⟨_,_,e⟩|⟨_,_,e⟩|⟨_,e⟩<;>rw[e]<;>simp only[auz,List.sum_nil]<;>omega
theorem xT (rd:Rd){blocks:Nat}(num half:Nat)(T:Tr)(hb:32<=blocks/\blocks<=4096)(hn:iI (ar T))(h1:(ar T).length=1)(hd:∀ x∈ar T,x.data.length<=240):mM (dM rd blocks num half T):=by
 have uG:bH (dM rd blocks num half T) (ar T)+bM (dM rd blocks num half T)+1<=dp (dM rd blocks num half T):=by
  rw[MW];unfold bH bM;have e1:((ar T).map fun x=>dc (cI (dM rd blocks num half T).b.nodes x.num) x.data).sum<=1:=by
   have:=WV (l:=ar T) (f:=fun x=>dc (cI (dM rd blocks num half T).b.nodes x.num) x.data) (k:=1) fun x hx=>aux (gE _ _) (mN (hd x hx));omega
  have e2:(if ar T=(dM rd blocks num half T).b.nodes then 0 else aS (2+12*(ar T).length))<=1:=by
   split
   ·omega
   ·exact mN (by omega)
  have e3:aS (dM rd blocks num half T).blocks<=blocks/240+2:=MX hb.2;have e4:blocks<240->aS blocks<=1:=fun h=>mN (by omega);have e5:(dM rd blocks num half T).blocks=blocks:=rfl;rw[e5]at e3 ⊢;omega
 refine⟨hb,⟨auE _,by show 1<=blocks;omega⟩,by simp[dM],?_,?_,fun x hx=>by simp[dM]at hx,?_,?_,hn,?_⟩
 ·intro p _;show ga ((List.replicate 8 []).getD p [])/\∀ n,am ((List.replicate 8 []).getD p []) n=true->_;rw[xS];exact⟨by simp[ga],fun n hn=>by cases hn⟩
 ·exact⟨by simp[dM],fun x hx=>by simp[dM]at hx,by simp[dM],fun x hx=>by simp[dM]at hx,by simp[dM],by simp[dM],fun x hx=>by simp[dM]at hx,by simp[dM]⟩
 ·refine⟨fun _=>False,fun _=>False,fun _=>False,[],[],[],fun _ h=>h,jh rd,?_,jh rd,by simp,?_,?_,fun _ h=>h.elim,.inr uG⟩
  ·intro he;have:ar T=[]:=he;rw[this]at h1;cases h1
  ·intro n;show am ((List.replicate 8 []).getD 0 []) n=true↔_;rw[xS];simp[gJ]
  ·rintro n (h|h)
   ·exact h.elim
   ·cases h
 ·exact⟨by simp[dM],rfl,fun x hx=>by simp[dM]at hx,fun x hx=>by simp[dM]at hx⟩
 ·show bH _ _<=_;have:=uG;have e:(dM rd blocks num half T).T=T:=rfl;rw[e];omega
section
open Go.RowKit
attribute [local go_sem] auv
structure eg (w:World)(p:Nat)(v:Vs)(a:eF)(u:Vs)(a':eF)(w':World):Prop where
 at_:kg w' p u a'
 role:a'.role=a.role
 foot:∀ g,a'.foot p g->a.foot p g\/w.heap.size<=g
 mod:ah (a.foot p) w w'
 still:fG (fun b=>a.role b≠.none) w w'
 text:a.text=ge v.b->a'.text=ge u.b
theorem eg.refl {w:World}{p:Nat}{v:Vs}{a:eF}(h:kg w p v a):eg w p v a v a w:=⟨h,rfl,fun _ h=>.inl h,ah.refl _ _,fun _ _ _=>rfl,id⟩
theorem eg.keep {w w1 w2:World}{p:Nat}{v u:Vs}{a a':eF}(h:eg w p v a u a' w1)(k:af w1 w2):eg w p v a u a' w2:=
 ⟨h.at_.keep k,h.role,h.foot,h.mod.trans (k.mono (T:=a.foot p) (fun _ _ h=>h.elim)) (fun _ _ h=>h),fun b hb hl=>(k.block b (auL hl h.mod.size) id).trans (h.still b hb hl),h.text⟩
theorem eg.trans {w w1 w2:World}{p:Nat}{v u x:Vs}{a a1 a2:eF}(h:eg w p v a u a1 w1)(k:eg w1 p u a1 x a2 w2):eg w p v a x a2 w2:=
 ⟨k.at_,k.role.trans h.role,fun g hg=>(k.foot g hg).elim (h.foot g) (fun h1=>.inr (aux h.mod.size h1)),h.mod.trans k.mod fun g hl hs=>(h.foot g hs).elim id (fun h1=>absurd h1 (by omega)),
  fun b hb hl=>(k.still b (by rw[h.role];exact hb) (auL hl h.mod.size)).trans (h.still b hb hl),fun e=>k.text (h.text e)⟩
theorem eg.ahead {w0 w w1:World}{p:Nat}{u v:Vs}{a a1:eF}(k:af w0 w)(h:eg w p v a u a1 w1):eg w0 p v a u a1 w1:=
 ⟨h.at_,h.role,fun g hg=>(h.foot g hg).imp id (fun h1=>aux k.size h1),(k.mono (T:=a.foot p) (fun _ _ h=>h.elim)).trans h.mod (fun _ _ h=>h),fun b hb hl=>(h.still b hb (auL hl k.size)).trans (k.block b hl id),h.text⟩
theorem Vd {v:Vs}(h:mM v):∀ k,am (cV v.b.planes) k=true->1<=k/\k<v.blocks:=by
 intro k hk;rw[pr h.eight]at hk;obtain⟨p,hp,hq⟩:=hk;exact(h.planes p hp).2 k hq
theorem tO {w:World}{p:Nat}{v:Vs}{a:eF}(h:kg w p v a):An w p v a a.sv v.b.list:=
 ⟨h,h.list,fun g hg=>(h.stays g (.inr (.inr (.inr (.inl hg))))) ⟩
theorem uA {w:World}{p:Nat}{v:Vs}{a:eF}{lv:Value}{list:List Sn}(h:An w p v a lv list){more:az}(hv:mM v)(hm:dX v list more)(hid:v.b.id<=1099511627777)(dC:v.num<1099511627776):
  Calls prog 64 #[aq p,lv,aC more] w fun e w'=>e=.returned (.int .i64 0)/\∃ u a',bB v list more=.ok u/\a'.text=ge u.b/\eg w p v a u a' w':=by
 obtain⟨r,hr⟩:=Es hv hm;refine(Ix h hr hv hm hid dC).mono ?_;rintro e w' ⟨rfl,a',h1,h2,h3,h4⟩;exact⟨rfl,_,a',hr.run,h2.1,h1,h2.2,h3,h4.mono (fun g _ h=>by rcases h with h|h|h;exact .inl h;exact .inr (.inl h);exact .inr (.inr (.inl h))),fun b hb hl=>h4.block b hl (fun hh=>by
  have hs:=h.st.stays b (.inr (.inl hb));rcases hh with hh|hh|hh
  ·exact hs.2.2 hh
  ·exact hs.1 hh
  ·exact hs.2.1 hh),fun _=>h2.1⟩
theorem kh {w:World}{p:Nat}{v:Vs}{a:eF}{lv:Value}{list:List Sn}(h:An w p v a lv list){more:az}(hv:mM v)(hm:dX v list more)(hid:v.b.id<=1099511627777)(dC:v.num<1099511627776):
  Calls prog 64 #[aq p,lv,aC more] w fun e w'=>e=.returned (.int .i64 0)/\∃ u a',bB v list more=.ok u/\eg w p v a u a' w':=by
 refine(uA h hv hm hid dC).mono ?_;rintro e w' ⟨rfl,u,a',h1,_,h2⟩;exact⟨rfl,u,a',h1,h2⟩
end
section
open Go.RowKit
attribute [local go_sem] auv
theorem eg.tree {w w':World}{p:Nat}{v u:Vs}{a a':eF}(k:eg w p v a u a' w'){q tb:Nat}{A M:Int->Nat}{role:Nat->cT}{T:Tr}(ht:aI w q T tb A M role)(nT:∀ b,role b≠.none->a.role b≠.none\/¬ a.foot p b):aI w' q T tb A M role:=
 ht.same (fun b hb hl=>(nT b hb).elim (fun h1=>k.still b h1 hl) (fun h1=>k.mod.block b hl h1)) k.mod.size
theorem Ar {v:Vs}(hb:v.blocks<=4096){l:List Nt}(h:xR l):bH v l<=7000:=by
 have h1:=tN v.b.nodes l h.data;have h2:bM v<=100:=fL (by omega);have h3:=h.many;have h4:(if l=v.b.nodes then 0 else aS (2+12*l.length))<=100:=by
  split
  ·omega
  ·exact fL (by omega)
 show bM v+1+gT v.b.nodes l+_<=_;omega
theorem xU {v:Vs}(hb:v.blocks<=4096)(kind:Int):cR v kind<=300:=by
 have h2:bM v<=100:=fL (by omega);unfold cR;split
 ·omega
 ·split<;>omega
theorem EP {v:Vs}(hb:v.blocks<=4096):dp v<=4096:=by
 unfold dp kX;refine aux (auM _ _) ?_;rw[List.length_range'];omega
structure pz (w:World)(p:Nat)(v:Vs)(a:eF)(q:Nat)(T:Tr):Prop where
 vol:kg w p v a
 ready:mM v
 tree:∃(tb:Nat) (A M:Int->Nat) (role:Nat->cT) (d:Int->Nat),aI w q T tb A M role/\WF T d
 nodes:NodesOk (ar T)
theorem pz.keep {w w':World}{p:Nat}{v:Vs}{a:eF}{q:Nat}{T:Tr}(h:pz w p v a q T)(k:af w w'):pz w' p v a q T:=by
 obtain⟨tb,A,M,role,d,ht,hw⟩:=h.tree;exact⟨h.vol.keep k,h.ready,⟨tb,A,M,role,d,ht.keep k,hw⟩,h.nodes⟩
theorem pz.needs {w:World}{p:Nat}{v:Vs}{a:eF}{q:Nat}{T:Tr}(h:pz w p v a q T):Calls prog 144 #[aq p,aq q] w fun e w'=>e=.returned (.int .i64 ((bH v (ar T):Nat):Int))/\af w w':=by
 obtain⟨tb,A,M,role,d,ht,hw⟩:=h.tree;exact MT h.vol h.ready.many.2 ht hw (qc h.ready.nodes) (qc h.nodes)
theorem pz.spares {w:World}{p:Nat}{v:Vs}{a:eF}{q:Nat}{T:Tr}(h:pz w p v a q T)(kind:Int):Calls prog 145 #[aq p,.int .i64 kind] w fun e w'=>e=.returned (.int .i64 ((cR v kind:Nat):Int))/\af w w':=
 IC h.vol h.ready.many.2 kind
theorem pz.free {w:World}{p:Nat}{v:Vs}{a:eF}{q:Nat}{T:Tr}(h:pz w p v a q T):Calls prog 146 #[aq p] w fun e w'=>e=.returned (.int .i64 ((dp v:Nat):Int))/\af w w':=
 MS h.vol (by have:=h.ready.many;omega) (by have:=EH h.ready;omega) (Vd h.ready)
theorem MZ {w:World}{p:Nat}{v:Vs}{a:eF}(h:kg w p v a)(hg:io v)(hid:v.b.id<=1099511627777)(dC:v.num<1099511627776){q tb:Nat}{A M:Int->Nat}{role:Nat->cT}{T:Tr}{d:Int->Nat}(ht:aI w q T tb A M role)(hw:WF T d)(hn:NodesOk (ar T))(nT:∀ b,role b≠.none->a.role b≠.none\/¬ a.foot p b)(kind:Int):
  Calls prog 65 #[aq p,aq q,.int .i64 kind] w fun e w'=>∃ b u a',mG v T kind=.ok (b,u)/\e=.returned (.int .i64 (if b=true then 0 else 151))/\eg w p v a u a' w':=by
 have HF:=hd0 (pz.mk h hg.ready ⟨tb,A,M,role,d,ht,hw⟩ hn);have H:=hd0 h;have HG:=hd0 hg;have HT:=hd0 (And.intro ht nT);have HWF:=hd0 hw;have HN:=hd0 hn;have HI:=hd0 (And.intro hid dC);have hb:=hg.many.2;have n1:((bH v (ar T):Nat):Int)<=7000:=by have:=Ar hb (qc hn);omega
 have n2:((cR v kind:Nat):Int)<=300:=by have:=xU hb kind;omega
 have n3:((dp v:Nat):Int)<=4096:=by have:=EP hb;omega
 have N1:=hd0 HF.out.needs;have HFT:Hid (mG v T kind=if bH v (ar T)+cR v kind<=dp v then .ok (true,v)else
  (if ar v.T=v.b.nodes then .ok v else bB v v.b.list []).map fun u=>(decide (bH u (ar T)+cR u kind<=dp u),u)):=hd0 rfl
 clear h hg hid dC ht hw hn nT hb;go_enter func65,ntmps65;go_wp2_with fail;refine N1.out.mono ?_;rintro e w1 ⟨rfl,k1⟩;have bU:=hd0 k1;have N2:=hd0 ((HF.out.keep k1).spares kind);clear k1 N1;go_wp2_with fail;refine N2.out.mono ?_;rintro e w2 ⟨rfl,k2⟩;have bu:=hd0 (bU.out.keep k2);have N3:=hd0 (HF.out.keep bu.out).free;clear k2 N2 bU;go_wp2_with fail;refine N3.out.mono ?_;rintro e w3 ⟨rfl,k3⟩;have dZ:=hd0 (bu.out.keep k3);clear k3 N3 bu;by_cases hq:bH v (ar T)+cR v kind<=dp v
 ·have W9:((bH v (ar T):Nat):Int)+((cR v kind:Nat):Int)<=((dp v:Nat):Int):=by omega
  have HR:Hid (mG v T kind=.ok (true,v)):=hd0 (by rw[HFT.out,auI hq]);clear hq;go_wp2;go_ret;exact⟨true,v,a,HR.out,rfl,(eg.refl H.out).keep dZ.out⟩
 ·have W9:¬((bH v (ar T):Nat):Int)+((cR v kind:Nat):Int)<=((dp v:Nat):Int):=by omega
  have HR:Hid (mG v T kind=(if ar v.T=v.b.nodes then .ok v else bB v v.b.list []).map fun u=>(decide (bH u (ar T)+cR u kind<=dp u),u)):=hd0 (by rw[HFT.out,auK hq]);clear hq HFT
  go_upto_region 3 with fail
  clear n1 n2 n3 W9;obtain⟨bq,hbq⟩:∃ bq,decide (ar v.T=v.b.nodes)=bq:=⟨_,rfl⟩
  have Hbq:=hd0 hbq;clear hbq;have TM:=hd0 (H.out.keep dZ.out);go_cut [29]from 8 to 49 (fun x wx=>x=.bool (!bq)/\af w3 wx)
  case first=>
   have NO:Hid (∀ W,af w3 W->Calls prog 125 #[aq a.pt] W fun e w'=>∃(sa:Option Addr) (cap:Nat),e=.returned (.slice sa (ar v.T).length cap)/\jS gG 4 w' (.slice sa (ar v.T).length cap) (ar v.T)/\af W w'):=hd0 (fun W k=>by
    obtain⟨tb,A,M,ht⟩:=TM.out.tree;obtain⟨d,hw⟩:=TM.out.wf;refine(tF (ht.keep k) hw).mono ?_;rintro e w' ⟨x,rfl,ho,k'⟩;obtain⟨sa,cap,rfl,hx⟩:=bZ fV ho;exact⟨sa,cap,rfl,⟨sa,cap,rfl,hx⟩,k'⟩)
   obtain⟨na,Fu,env,sT⟩:=bZ fV TM.out.nodes;have HXN:Hid (jS gG 4 w3 (.slice na v.b.nodes.length Fu) v.b.nodes):=hd0 ⟨na,Fu,rfl,sT⟩;have c14:w3.cell? ⟨p,14,none⟩=some (aq a.pt):=aa TM.out.own 14;have c13:w3.cell? ⟨p,13,none⟩=some (.slice na v.b.nodes.length Fu):=by rw[<-env];exact aa TM.out.own 13
   have jJ:=ai TM.out.own;have VC:Hid (∀ W,af w3 W->W.cell? ⟨p,13,none⟩=some (.slice na v.b.nodes.length Fu)):=hd0 (fun W k=>(k.cell (p:=⟨p,13,none⟩) jJ id).trans c13);have HLN:Hid ((ar v.T).length<=1000000/\v.b.nodes.length<=1000000):=hd0 ⟨by have:=HG.out.told.toNodesOk.many;omega,by have:=HG.out.nodes.many;omega⟩;clear env sT jJ
   go_region_with (first
    |(go_at_call 125;refine auN (NO.out _ ((ah.refl _ w3).drew)) ?_;rintro e wN ⟨sa,cap,rfl,hr,kN⟩;have HKN:=hd0 (((ah.refl (fun _=>False) w3).drew).keep kN);have HRN:=hd0 hr;have d13:=VC.out _ HKN.out;clear hr kN)
    |(go_at_call 147;refine auN (uz _ _ _ _ _ HRN.out (eZ HXN.out HKN.out) HLN.out.1 HLN.out.2) ?_;rintro e wE ⟨rfl,kE⟩;have CA:=hd0 (HKN.out.keep kE);rw[Hbq.out];clear kE))
   all_goals (go_wp2_with fail;go_meet)
   all_goals (case rel=>exact⟨rfl,CA.out⟩)
  case rest=>
   obtain⟨rfl,hkc⟩:=hcut;have Fg:=hd0 (dZ.out.keep hkc);clear hkc dZ TM
   go_upto_if 29 with fail
   go_cut []from 8 to 49 (fun wx=>∃ u a',(if ar v.T=v.b.nodes then .ok v else bB v v.b.list [])=.ok u/\io u/\eg w p v a u a' wx)
   case first=>
    cases bq with
    |true=>
     have he:ar v.T=v.b.nodes:=of_decide_eq_true Hbq.out;have HE:Hid ((if ar v.T=v.b.nodes then .ok v else bB v v.b.list [])=.ok v):=hd0 (auI he);clear he;go_wp2_with fail;go_meet
     case rel=>exact⟨v,a,HE.out,HG.out,(eg.refl H.out).keep Fg.out⟩
    |false=>
     have he:¬ ar v.T=v.b.nodes:=of_decide_eq_false Hbq.out;have HE:Hid ((if ar v.T=v.b.nodes then .ok v else bB v v.b.list [])=bB v v.b.list []):=hd0 (auK he);have HVC:=hd0 (H.out.keep Fg.out);have XZ:wc.cell? ⟨p,11,none⟩=some a.sv:=aa HVC.out.own 11;have PO:=hd0 (kh (tO HVC.out) HG.out.ready (eS v) HI.out.1 HI.out.2);clear he;go_wp2_with fail;refine PO.out.mono ?_;rintro e wP ⟨rfl,u,a',hu,gW⟩;have HU:Hid (io u):=hd0 (by
      obtain⟨u',h1,h2,_⟩:=fM HG.out;rw[h1]at hu;injection hu with hu;rw[<-hu];exact h2.good)
     have HPT:=hd0 hu;have yZ:=hd0 (eg.ahead Fg.out gW);clear hu gW PO XZ;go_wp2_with fail;go_meet
     case rel=>exact⟨u,a',HE.out.trans HPT.out,HU.out,yZ.out⟩
   case rest=>
    obtain⟨u,a',hu,hgu,gW⟩:=hcut;have rE:Hid (mG v T kind=.ok (decide (bH u (ar T)+cR u kind<=dp u),u)):=hd0 (by rw[HR.out,hu];rfl);have Th:Hid (pz wc p u a' q T):=hd0 ⟨gW.at_,hgu.ready,⟨tb,A,M,role,d,gW.tree HT.out.1 HT.out.2,HWF.out⟩,HN.out⟩;have hb:=hgu.many.2;have n1:((bH u (ar T):Nat):Int)<=7000:=by have:=Ar hb (qc HN.out);omega
    have n2:((cR u kind:Nat):Int)<=300:=by have:=xU hb kind;omega
    have n3:((dp u:Nat):Int)<=4096:=by have:=EP hb;omega
    have yZ:=hd0 gW;have N1:=hd0 Th.out.needs;clear hu hgu gW hb Fg HF HR;go_wp2_with fail;refine N1.out.mono ?_;rintro e w4 ⟨rfl,k1⟩;have bU:=hd0 k1;have N2:=hd0 ((Th.out.keep k1).spares kind);clear k1 N1;go_wp2_with fail;refine N2.out.mono ?_;rintro e w5 ⟨rfl,k2⟩;have bu:=hd0 (bU.out.keep k2);have N3:=hd0 (Th.out.keep bu.out).free;clear k2 N2 bU;go_wp2_with fail;refine N3.out.mono ?_;rintro e w6 ⟨rfl,k3⟩;have dZ:=hd0 (bu.out.keep k3);clear k3 N3 bu;by_cases hq:bH u (ar T)+cR u kind<=dp u
    ·have W9:((bH u (ar T):Nat):Int)+((cR u kind:Nat):Int)<=((dp u:Nat):Int):=by omega
     rw[decide_eq_true hq]at rE;clear hq;go_wp2;go_ret;exact⟨true,u,a',rE.out,rfl,yZ.out.keep dZ.out⟩
    ·have W9:¬((bH u (ar T):Nat):Int)+((cR u kind:Nat):Int)<=((dp u:Nat):Int):=by omega
     rw[auJ hq]at rE;clear hq;go_wp2;go_ret;exact⟨false,u,a',rE.out,rfl,yZ.out.keep dZ.out⟩
end
end Go.Proofs.YtkghpdcloaiflaaGreatDoor
