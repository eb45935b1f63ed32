import Derived.Test.YtkghpdcloaiflaaGreatDoorB35
import Derived.Test.YtkghpdcloaiflaaGreatDoorB36
set_option maxHeartbeats 4000000
set_option maxRecDepth 100000
namespace Go.Proofs.YtkghpdcloaiflaaGreatDoor
open _root_.Go.Proofs.Tryz
section
open Go.RowKit Go.Maps
attribute [local go_sem] auV
structure xI (l:List Nt):Prop where
 many:l.length<=60
 nums:∀ x∈l,0<=x.num/\x.num<=65535
 data:∀ x∈l,x.data.length<=16384
theorem pX {l:List Nt}(h:kc l):xI l:=⟨h.many,fun x hx=>by have:=je h.nums x hx;omega,h.data⟩
theorem IG {l:List Nt}(h:xI l)(k:Int):(cG l k).length<=16384:=by
 unfold cG
 cases hl:(l.filter fun x=>x.num==k).getLast? with
 |none=>simp
 |some x=>
  have:=List.mem_of_getLast? hl;exact h.data x (auW.1 this).1
def gN (old l:List Nt):Nat:=(l.map fun x=>db (cG old x.num) x.data).sum
theorem tv (old l:List Nt)(h:∀ x∈l,x.data.length<=16384):gN old l<=100*l.length:=by
 unfold gN
 induction l with
 |nil=>simp
 |cons x r ih=>
  have h1:=ih fun y hy=>h y (by simp[hy]);have h2:=auX (gw (cG old x.num) x.data) (fJ (h x (by simp)));simp only[auY,auZ,au0];omega
theorem MM {w:World}{p:Nat}{v:Vs}{a:eY}(h:lz w p v a)(hb:v.blocks<=4096){q tb:Nat}{A M:Int->Nat}{role:Nat->cW}{T:Tr}{d:Int->Nat}(ht:aH w q T tb A M role)(hw:WF T d)(h1:xI v.b.nodes)(h2:xI (ar T)):
  Calls prog 144 #[aq p,aq q] w fun e w'=>e=.returned (.int .i64 ((bH v (ar T):Nat):Int))/\af w w':=by
 have To:=@run_makeMap prog;have hfd:∀(x0 x1 x2 x3:Value) (W:World),(Instr.field 221 (.agg #[x0,x1,x2,x3]) 3).run prog W=.ok x3 W:=fun _ _ _ _ _=>by kernel_rfl
 have H:=hd0 h;have HT:=hd0 ht;have HW:=hd0 hw;have TL:=hd0 hb;have N1:=hd0 h1;have N2:=hd0 h2;have dt:af w (w.alloc (.map #[] 0)):=(ah.refl _ w).alloc _;have HM0:Hid (Rb (w.alloc (.map #[] 0)) w.heap.size []):=hd0 (fh.made w);have dT:=hd0 dt;obtain⟨mb,yR⟩:∃ mb,w.heap.size=mb:=⟨_,rfl⟩
 have Hmb:=hd0 yR;obtain⟨an,cap,ev,hx⟩:=cl fR h.nodes;have HX:=hd0 hx;have v13:(w.alloc (.map #[] 0)).cell? ⟨p,13,none⟩=some (.slice an v.b.nodes.length cap):=by rw[<-ev];exact aa (h.keep dt).own 13
 have FF:(v.b.nodes.length:Int)<=60:=by have:=h1.many;omega
 have HE:Hid (bH v (ar T)=bM v+1+gN v.b.nodes (ar T)+(if ar T=v.b.nodes then 0 else aR (2+12*(ar T).length))):=hd0 rfl;clear h ht hw hb h1 h2 dt hx;rw[yR]at HM0;go_enter func144,ntmps144;go_wp2_with fail
 try rw[yR]
 generalize w.alloc (.map #[] 0)=W at*
 go_loopw [21] (fun i wr=>∃ k:Nat,k<=v.b.nodes.length/\i=.int .i64 (k:Int)/\Hid (Rb wr mb (po (v.b.nodes.take k)))/\Hid (af w wr)) (fun i _=>v.b.nodes.length-(intOf i).toNat)
 case atStart=>exact⟨0,by omega,rfl,HM0,dT⟩
 case round=>
  clear HM0 dT v13;obtain⟨k,hk,rfl,HB,HK⟩:=hrel;by_cases aL:k<v.b.nodes.length
  ·have dU:(k:Int)<(v.b.nodes.length:Int):=by omega
   obtain⟨y,hy⟩:∃ y,v.b.nodes[k]?=some y:=⟨_,au1 aL⟩
   obtain⟨rb,o,rfl,hc⟩:=HX.out k y hy;have c0:wr.cell? ⟨rb,o+k*4,none⟩=some (.int .i64 y.num):=by have h:=hc 0 _ rfl;rw[HK.out.cell (p:=⟨rb,o+k*4,none⟩) (ai h) id];exact h
   have c1:wr.cell? ⟨rb,o+k*4+1,none⟩=some (.bool y.dir):=by have h:=hc 1 _ rfl;rw[HK.out.cell (p:=⟨rb,o+k*4+1,none⟩) (ai h) id];exact h
   have c2:wr.cell? ⟨rb,o+k*4+2,none⟩=some (.int .i64 y.links):=by have h:=hc 2 _ rfl;rw[HK.out.cell (p:=⟨rb,o+k*4+2,none⟩) (ai h) id];exact h
   have c3:wr.cell? ⟨rb,o+k*4+3,none⟩=some (.string ⟨y.data.toArray⟩):=by have h:=hc 3 _ rfl;rw[HK.out.cell (p:=⟨rb,o+k*4+3,none⟩) (ai h) id];exact h
   have hyn:=N1.out.nums y (au2 hy);have mZ:af wr (wr.alloc (.cells (gx y).toArray 221)):=(ah.refl _ wr).alloc _;obtain⟨w2,bh,df,dF,cV⟩:=(HB.out.mod mZ id).store Ra underlying295 underlying3 y.num (by omega) y trivial (by have h1:=MK (v.b.nodes.take k);have h2:=N1.out.many;have h3:(v.b.nodes.take k).length<=v.b.nodes.length:=List.length_take_le' _ _;omega);have hws:ei j4 y.num y (po (v.b.nodes.take k))=po (v.b.nodes.take (k+1)):=by rw[au3,hy];exact(qZ _ _).symm
   rw[hws]at df;have lW:=hd0 df;have bw:Hid (af w w2):=hd0 ((HK.out.keep mZ).new dF (by rw[Hmb.out];exact au4 _));unfold lg gx at bh;clear hws df dF hc hyn mZ hy;go_wp2_with fail;exact⟨⟨k+1,by omega,by go_num,lW,bw⟩,by simp[intOf];omega⟩
  ·obtain rfl:k=v.b.nodes.length:=by omega
   rw[au5]at HB;have NO:=hd0 (th (HT.out.keep HK.out) HW.out);clear aL hk;go_wp2_with fail;refine NO.out.mono ?_;rintro e w1 ⟨nv,rfl,ho,k1⟩;have bZ:=hd0 (HK.out.keep k1);have jk:=hd0 (HB.out.mod k1 id);obtain⟨bn,aap,rfl,sp⟩:=cl fR ho;have HO:=hd0 (Ar (H.out.keep bZ.out) TL.out);have HXN:=hd0 sp;have hh:bM v<=100:=fJ (by have:=TL.out;omega);have hhi:(bM v:Int)<=100:=by omega
   have HH:=hd0 hh;clear ho sp k1 NO HK HB hh;go_wp2_with fail;refine HO.out.mono ?_;rintro e w2 ⟨rfl,k2⟩;have bw:=hd0 (bZ.out.keep k2);have lW:=hd0 (jk.out.mod k2 id);have qx:Hid (mC gx 4 w2 (.slice bn (ar T).length aap) (ar T)):=hd0 (fQ ⟨bn,aap,rfl,HXN.out⟩ k2);have hni:((ar T).length:Int)<=60:=by have:=N2.out.many;omega
   clear k2 jk HXN HO bZ;go_wp2_with fail
   go_loopw [37,9] (fun i s wr=>∃ k:Nat,k<=(ar T).length/\i=.int .i64 (k:Int)/\s=.int .i64 ((bM v+1+gN v.b.nodes ((ar T).take k):Nat):Int)/\Hid (Rb wr mb (po v.b.nodes))/\Hid (af w2 wr)) (fun i _ _=>(ar T).length-(intOf i).toNat)
   case atStart=>exact⟨0,by omega,rfl,by simp[gN];try go_num,lW,hd0 (ah.refl _ _)⟩
   case round=>
    clear lW;obtain⟨k,hk,rfl,rfl,HB,HK⟩:=hrel;by_cases aL:k<(ar T).length
    ·have dU:(k:Int)<((ar T).length:Int):=by omega
     obtain⟨x,hx⟩:∃ x,(ar T)[k]?=some x:=⟨_,au1 aL⟩
     obtain⟨an',Wa,en',Yz⟩:=qx.out;injection en' with ea1 ea2 ea3;subst ea1 ea3;obtain⟨rb,o,rfl,hc⟩:=Yz k x hx;have c0:wr.cell? ⟨rb,o+k*4,none⟩=some (.int .i64 x.num):=by have h:=hc 0 _ rfl;rw[HK.out.cell (p:=⟨rb,o+k*4,none⟩) (ai h) id];exact h
     have c1:wr.cell? ⟨rb,o+k*4+1,none⟩=some (.bool x.dir):=by have h:=hc 1 _ rfl;rw[HK.out.cell (p:=⟨rb,o+k*4+1,none⟩) (ai h) id];exact h
     have c2:wr.cell? ⟨rb,o+k*4+2,none⟩=some (.int .i64 x.links):=by have h:=hc 2 _ rfl;rw[HK.out.cell (p:=⟨rb,o+k*4+2,none⟩) (ai h) id];exact h
     have c3:wr.cell? ⟨rb,o+k*4+3,none⟩=some (.string ⟨x.data.toArray⟩):=by have h:=hc 3 _ rfl;rw[HK.out.cell (p:=⟨rb,o+k*4+3,none⟩) (ai h) id];exact h
     have sp:=N2.out.nums x (au2 hx);have nh:=N2.out.data x (au2 hx);have mZ:af wr (wr.alloc (.cells #[.int .i64 x.num,.bool x.dir,.int .i64 x.links,.string ⟨x.data.toArray⟩] 221)):=(ah.refl _ wr).alloc _;have AE:=(HB.out.mod mZ id).look1 Ra underlying295 underlying3 x.num (by omega);unfold lg at AE;rw[MJ]at AE;have CO:=hd0 (Q8 (cG v.b.nodes x.num) x.data (IG N1.out _) nh (wr.alloc (.cells #[.int .i64 x.num,.bool x.dir,.int .i64 x.links,.string ⟨x.data.toArray⟩] 221)));have HBa:=hd0 (HB.out.mod mZ id);have BH:=hd0 (HK.out.keep mZ);have hco:=auX (gw (cG v.b.nodes x.num) x.data) (fJ nh);have hct:gN v.b.nodes ((ar T).take (k+1))=gN v.b.nodes ((ar T).take k)+db (cG v.b.nodes x.num) x.data:=by unfold gN;rw[au3,hx];simp
     have uZ:=tv v.b.nodes ((ar T).take k) (fun y hy=>N2.out.data y (au6 hy));rw[au7]at uZ;have RP:((bM v+1+gN v.b.nodes ((ar T).take k):Nat):Int)<=7000:=by have:=N2.out.many;have:=HH.out;omega
     have BJ:((db (cG v.b.nodes x.num) x.data:Nat):Int)<=100:=by omega
     have HCT:Hid (bM v+1+gN v.b.nodes ((ar T).take (k+1))=(bM v+1+gN v.b.nodes ((ar T).take k))+db (cG v.b.nodes x.num) x.data):=hd0 (by omega);clear hct uZ hco sp nh hc hx Yz HB HK mZ;generalize bM v+1+gN v.b.nodes ((ar T).take k)=sm at*;go_wp2_with fail;refine CO.out.mono ?_;rintro e w3 ⟨rfl,k3⟩;have oq:=hd0 (HBa.out.mod k3 id);have dR:=hd0 (BH.out.keep k3);clear k3 CO AE;go_wp2_with fail;exact⟨⟨k+1,by omega,by go_num,by rw[HCT.out];go_num,oq,dR⟩,by simp[intOf];omega⟩
    ·obtain nS:k=(ar T).length:=by omega
     subst nS;rw[au5];have HKe:=hd0 (bw.out.keep HK.out);have hx:=(H.out.keep HKe.out)
     obtain⟨an2,VL,ev2,vd⟩:=cl fR hx.nodes;have c13:wr.cell? ⟨p,13,none⟩=some (.slice an2 v.b.nodes.length VL):=by rw[<-ev2];exact aa hx.own 13
     have EQ:=hd0 (um (.slice bn (ar T).length aap) (.slice an2 v.b.nodes.length VL) (ar T) v.b.nodes wr (fQ qx.out HK.out) ⟨an2,VL,rfl,vd⟩ (by omega) (by omega));have uZ:=tv v.b.nodes (ar T) (fun y hy=>N2.out.data y hy);have RP:((bM v+1+gN v.b.nodes (ar T):Nat):Int)<=7000:=by have:=N2.out.many;have:=HH.out;omega
     have OL:=HE;generalize bM v+1+gN v.b.nodes (ar T)=sm at*;clear hx ev2 vd uZ HB aL hk;go_wp2_with fail;refine EQ.out.mono ?_;rintro e w4 ⟨rfl,k4⟩;have od:=hd0 (HKe.out.keep k4);clear k4 EQ c13;by_cases hq:ar T=v.b.nodes
     ·have hd:decide (ar T=v.b.nodes)=true:=decide_eq_true hq;rw[hd];have HF:Hid (bH v (ar T)=sm):=hd0 (by rw[HE.out,au8 hq];rfl);clear hq hd HE OL;go_wp2;go_ret;exact⟨by rw[HF.out];rfl,od.out⟩
     ·have hd:decide (ar T=v.b.nodes)=false:=au9 hq;rw[hd];have HF:Hid (bH v (ar T)=sm+aR (2+12*(ar T).length)):=hd0 (by rw[HE.out,ava hq]);have SH:=hd0 (tq (2+12*(ar T).length) w4 (by omega));have hsh:((aR (2+12*(ar T).length):Nat):Int)<=100:=by have:=fJ (b:=2+12*(ar T).length) (by omega);omega
      have Yf:(2+12*((ar T).length:Int))=((2+12*(ar T).length:Nat):Int):=by omega
      rw[<-Yf]at SH;clear Yf;clear hq hd HE OL;go_wp2_with fail;refine SH.out.mono ?_;rintro e w5 ⟨rfl,k5⟩;have mT:=hd0 (od.out.keep k5);clear k5 SH;go_wp2;go_ret;exact⟨by rw[HF.out];rfl,mT.out⟩
end
section
open Go.RowKit
attribute [local go_sem] auV
def lp (v:Vs)(c:co):Except Int Tr:=if c.ok=false then .error 1 else oy v c
def iF (w:World)(v:Vs)(a:eY)(c:co)(e:Ending)(w':World):Prop:=
 af w w'/\match lp v c with
  | .error x=>e=.returned (.tuple #[.pointer none,.int .i64 x])
  | .ok T=>∃(q tb:Nat) (A M:Int->Nat) (role:Nat->cW) (d:Int->Nat),e=.returned (.tuple #[aq q,.int .i64 0])/\aH w' q T tb A M role/\WF T d/\((T=v.T/\role=a.role)\/∀ b,role b≠.none->w.heap.size<=b)
theorem iF.err {w:World}{v:Vs}{a:eY}{c:co}{x:Int}{w':World}(h:lp v c=.error x)(k:af w w'):iF w v a c (.returned (.tuple #[.pointer none,.int .i64 x])) w':=by
 unfold iF;rw[h];exact⟨k,rfl⟩
theorem iF.here {w:World}{p:Nat}{v:Vs}{a:eY}{c:co}{w':World}(h:lp v c=.ok v.T)(k:af w w')(hv:lz w' p v a):iF w v a c (.returned (.tuple #[aq a.pt,.int .i64 0])) w':=by
 unfold iF;rw[h];obtain⟨tb,A,M,t⟩:=hv.tree;obtain⟨d,hw⟩:=hv.wf;exact⟨k,a.pt,tb,A,M,a.role,d,rfl,t,hw,.inl ⟨rfl,rfl⟩⟩
theorem iF.new {w:World}{v:Vs}{a:eY}{c:co}{T:Tr}{w':World}{q tb:Nat}{A M:Int->Nat}{role:Nat->cW}{d:Int->Nat}(h:lp v c=.ok T)(k:af w w')(ht:aH w' q T tb A M role)(hw:WF T d)(hr:∀ b,role b≠.none->w.heap.size<=b):iF w v a c (.returned (.tuple #[aq q,.int .i64 0])) w':=by
 unfold iF;rw[h];exact⟨k,q,tb,A,M,role,d,rfl,ht,hw,.inr hr⟩
theorem MN {w:World}{p:Nat}{v:Vs}{a:eY}(h:lz w p v a)(he:tU w)(c:co)(hc:c.Small)(hl:v.b.list.length<=7)(hid:v.b.id<=1099511627777):
  Calls prog 61 #[aq p,gK c] w (iF w v a c):=by
 have dt:af w (w.alloc (.cells (bP c) 55)):=(ah.refl _ w).alloc _;have iI:World.blk (w.alloc (.cells (bP c) 55)) w.heap.size (bP c) 55:=av _ _ _;have PR:=tf c _ (he.keep dt) hc;have HE:=hd0 he;have Hc:=hd0 hc;have H:=hd0 h;have dT:=hd0 dt;have nT:=hd0 iI;have HL:=hd0 hl;have HI:=hd0 hid;have FF:(v.b.list.length:Int)<=7:=by omega
 have ajM:(v.b.id:Int)<=1099511627777:=by omega
 unfold ld at PR
 cases bQ:c.ok with
 |false=>
  rw[bQ,ava (by decide)]at PR;have PR:=hd0 PR;have HM:Hid (lp v c=.error 1):=hd0 (by unfold lp;rw[au8 bQ]);clear h he hc dt iI hl hid bQ;go_enter func61,ntmps61;unfold gK bP;go_wp2_with fail;refine PR.out.mono ?_;rintro e w1 ⟨rfl,k1⟩;have bZ:=hd0 (dT.out.keep k1);clear k1;go_wp2;go_ret2;exact iF.err HM.out bZ.out
 |true=>
  rw[bQ,au8 rfl]at PR;have PR:=hd0 PR;have HX:Hid (lp v c=oy v c):=hd0 (by unfold lp;rw[ava (by rw[bQ];decide)]);clear h he hc dt iI hl hid bQ;go_enter func61,ntmps61;unfold gK bP;go_wp2_with fail;refine PR.out.mono ?_;rintro e w1 ⟨rfl,k1⟩;have bZ:=hd0 (dT.out.keep k1);have hb1:=ab k1 nT.out id;obtain⟨c0,c1,c2,c3,c4⟩:=cA hb1;have hv1:=H.out.keep bZ.out;have d15:w1.cell? ⟨p,15,none⟩=some (.bool false):=aa hv1.own 15;have NM:=hd0 (xH hv1 (by have:=HL.out;omega) c.path);have jk:=hd0 hb1;clear k1 hb1 hv1;go_wp2_with fail;refine NM.out.mono ?_;rintro e w2 ⟨rfl,k2⟩;have bw:=hd0 (bZ.out.keep k2);have eV:=ab k2 jk.out id;clear c0 c1 c2 c3 c4 d15;obtain⟨c0,c1,c2,c3,c4⟩:=cA eV;have Oo:=H.out.keep bw.out;have KC:=hd0 Oo;have lW:=hd0 eV;obtain⟨la,akL,elv,_⟩:=cl jo Oo.list;have d11:w2.cell? ⟨p,11,none⟩=some (.slice la v.b.list.length akL):=by rw[<-elv];exact aa Oo.own 11
  have d9:w2.cell? ⟨p,9,none⟩=some (.int .i64 (v.b.id:Int)):=aa Oo.own 9;have d14:w2.cell? ⟨p,14,none⟩=some (aq a.pt):=aa Oo.own 14;clear k2 eV Oo elv jk bZ dT nT PR NM;by_cases h7:c.kind=7
  ·rw[h7]at c0
   cases hn:dy v c.path with
   |some i=>
    have HM:Hid (lp v c=.error 161):=hd0 (by rw[HX.out];unfold oy;rw[au8 ⟨h7,by rw[hn];rfl⟩]);have hi0:¬(i:Int)<0:=by omega
    clear hn h7;unfold xA;go_wp2;go_ret2;exact iF.err HM.out bw.out
   |none=>
    have uK:¬(c.kind=7/\(dy v c.path).isSome=true):=by rw[hn];simp
    unfold xA;by_cases hq:7<=v.b.list.length
    ·have HM:Hid (lp v c=.error 163):=hd0 (by rw[HX.out];unfold oy;rw[ava uK,au8 ⟨h7,.inl hq⟩]);have Yg:(7:Int)<=(v.b.list.length:Int):=by omega
     clear hn uK h7;go_wp2;go_ret2;exact iF.err HM.out bw.out
    ·have Yg:¬(7:Int)<=(v.b.list.length:Int):=by omega
     by_cases Ob:1099511627777<=v.b.id
     ·have HM:Hid (lp v c=.error 163):=hd0 (by rw[HX.out];unfold oy;rw[ava uK,au8 ⟨h7,.inr Ob⟩]);have ahZ:(1099511627777:Int)<=(v.b.id:Int):=by omega
      clear hn uK h7;go_wp2;go_ret2;exact iF.err HM.out bw.out
     ·have HM:Hid (lp v c=.ok v.T):=hd0 (by rw[HX.out];unfold oy;rw[ava uK,ava (fun h=>h.2.elim hq Ob),ava (fun h=>by have:=h.1;omega),au8 (.inl h7)]);have ahZ:(v.b.id:Int)<=1099511627776:=by omega
      have apy:decide ((1099511627777:Int)<=(v.b.id:Int))=false:=au9 (by omega);clear hn uK h7 Ob ajM;go_wp2;go_ret2;exact iF.here HM.out bw.out KC.out
  ·have b7:(c.kind==7)=false:=by simpa using h7
   have uK:¬(c.kind=7/\(dy v c.path).isSome=true):=fun h=>h7 h.1;have NQ:¬(c.kind=7/\(7<=v.b.list.length\/1099511627777<=v.b.id)):=fun h=>h7 h.1;by_cases h8:c.kind=8
   ·rw[h8]at c0
    cases hn:dy v c.path with
    |some i=>
     have HM:Hid (lp v c=.ok v.T):=hd0 (by rw[HX.out];unfold oy;rw[ava uK,ava NQ,ava (fun h=>by rw[hn]at h;cases h.2),au8 (.inr h8)]);have hi0:¬(i:Int)<0:=by omega
     clear hn h8 uK NQ;unfold xA;go_wp2;go_ret2;exact iF.here HM.out bw.out KC.out
    |none=>
     have HM:Hid (lp v c=.error 162):=hd0 (by rw[HX.out];unfold oy;rw[ava uK,ava NQ,au8 ⟨h8,by rw[hn];rfl⟩]);clear hn h8 uK NQ;unfold xA;go_wp2;go_ret2;exact iF.err HM.out bw.out
   ·have b8:(c.kind==8)=false:=by simpa using h8
    have lC:Hid (lp v c=if(qK v.T c).2=0 then .ok (qK v.T c).1 else .error (qK v.T c).2):=hd0 (by rw[HX.out];unfold oy;rw[ava uK,ava NQ,ava (fun h=>h8 h.1),ava (fun h=>h.elim h7 h8)]);clear uK NQ h7 h8;generalize xA (dy v c.path)=ix;obtain⟨tb,A,M,ht⟩:=KC.out.tree;obtain⟨d,hw⟩:=KC.out.wf;have CL:=hd0 (Mn ht hw);have HW:=hd0 hw;clear ht hw;go_wp2_with fail;refine CL.out.mono ?_;rintro e w3 ⟨q,tb2,A2,M2,anr,rfl,FK,ol,k3⟩;have dR:=hd0 (bw.out.keep k3);have uJ:=ab k3 lW.out id;clear c0 c1 c2 c3 c4 d11 d9 d14;obtain⟨c0,c1,c2,c3,c4⟩:=cA uJ;have DO:=hd0 (Y7 FK HW.out (HE.out.keep dR.out) c Hc.out);have qx:=hd0 ol;have Ck:=hd0 bw.out.size;clear k3 uJ FK ol CL;unfold gK bP at DO;go_wp2_with fail;refine DO.out.mono ?_;rintro e w4 ⟨rfl,A',M',j0,ht4,hr4,AG⟩;have od:Hid (af w w4):=hd0 (dR.out.trans AG (fun g hg h=>absurd (qx.out g h) (by have:=Ck.out;omega)));have Sh:=hd0 ht4;have HR4:Hid (∀ b,j0 b≠.none->w.heap.size<=b):=hd0 (fun b hb=>(hr4 b hb).elim (fun h=>auX Ck.out (qx.out b h)) (fun h=>auX dR.out.size h));clear ht4 hr4 AG DO c0 c1 c2 c3 c4;by_cases hz:(qK v.T c).2=0
    ·have HM:Hid (lp v c=.ok (qK v.T c).1):=hd0 (by rw[lC.out,au8 hz]);rw[hz];obtain⟨d',bf⟩:=Py HW.out c;have HW':=hd0 bf;clear hz bf;go_wp2;go_ret2;exact iF.new HM.out od.out Sh.out HW'.out HR4.out
    ·have HM:Hid (lp v c=.error (qK v.T c).2):=hd0 (by rw[lC.out,ava hz]);have bz:((qK v.T c).2==0)=false:=by simpa using hz
     generalize (qK v.T c).2=er at*;clear hz;go_wp2;go_ret2;exact iF.err HM.out od.out
end
def Bz (v:Vs)(c:co):Except Int (Int×Vs):=
 if c.ok=false then .ok (1,v)else match oy v c with
 | .error e=>.ok (e,v)
 | .ok T=>match (if(c.kind=7\/c.kind=8)\/c.line.length+2<=cH v then .ok v else bD v v.b.list [])with
  | .error e=>.error e
  | .ok v1=>match oY v1 T c.kind with
   | .error e=>.error e
   | .ok (false,v2)=>.ok (151,v2)
   | .ok (true,v2)=>
    if c.kind=7 then(bD v2 v2.b.list c.path).map fun u=>(0,u)
    else if c.kind=8 then(bD v2 (v2.b.list.eraseIdx ((dy v2 c.path).getD 0)) []).map fun u=>(0,u)
    else if cH v2<c.line.length+2 then .ok (72,v2)
    else .ok (0,{ v2 with T:=T,recs:=v2.recs++[c.line] })
structure iO (v u:Vs):Prop where
 good:mL u
 blocks:u.blocks=v.blocks
 half:u.half=v.half
 T:u.T=v.T
 id:u.b.id=v.b.id
 list:u.b.list=v.b.list
 trees:∀ x∈v.b.list,∀ nodes,qV v x nodes->qV u x nodes
 num:v.num<=u.num
 same:v.num=u.num->u=v
theorem iO.refl {v:Vs}(h:mL v):iO v v:=⟨h,rfl,rfl,rfl,rfl,rfl,fun _ _ _ h=>h,au4 _,fun _=>rfl⟩
theorem iO.trans {a b c:Vs}(h:iO a b)(k:iO b c):iO a c:=
 ⟨k.good,k.blocks.trans h.blocks,k.half.trans h.half,k.T.trans h.T,k.id.trans h.id,k.list.trans h.list,fun x hx nodes hn=>k.trees x (by rw[h.list];exact hx) nodes (h.trees x hx nodes hn),auX h.num k.num,
  fun e=>by have h1:=h.num;have h2:=k.num;rw[k.same (by omega),h.same (by omega)]⟩
theorem nM (v:Vs):fI v v.b.list []:=⟨List.Sublist.refl _,.inl rfl⟩
theorem ic {v:Vs}(h:mL v):∃ u,bD v v.b.list []=.ok u/\iO v u/\u.b.nodes=ar v.T/\u.recs=[]/\u.num=v.num+1:=by
 obtain⟨u,hu⟩:=xw h (nM v);obtain⟨x,_,_,_,hl,_⟩:=hu.sns;exact⟨u,hu.run,⟨hu.good,hu.blocks,hu.half,hu.T,by rw[hu.id,au8 rfl],by rw[hl,au8 rfl],hu.trees,by have:=hu.num;omega,fun e=>by have:=hu.num;omega⟩,hu.nodes,hu.recs,hu.num⟩
theorem Vh {v:Vs}(h:mL v)(T:Tr)(kind:Int):∃ b u,oY v T kind=.ok (b,u)/\iO v u/\(b=true->bH u (ar T)+cT u kind<=dm u)/\(b=false->dm u<bH u (ar T)+cT u kind/\u.b.nodes=ar u.T)/\(u.recs=v.recs\/u.recs=[]):=by
 unfold oY;by_cases h1:bH v (ar T)+cT v kind<=dm v
 ·rw[au8 h1];exact⟨true,v,rfl,iO.refl h,fun _=>h1,fun e=>(by cases e),.inl rfl⟩
 ·rw[ava h1];by_cases h2:ar v.T=v.b.nodes
  ·rw[au8 h2];exact⟨false,v,by simp[Except.map,h1],iO.refl h,fun e=>(by cases e),fun _=>⟨by omega,h2.symm⟩,.inl rfl⟩
  ·rw[ava h2];obtain⟨u,hu,hs,hn,hr,_⟩:=ic h;rw[hu];refine⟨decide (bH u (ar T)+cT u kind<=dm u),u,rfl,hs,fun e=>by simpa using e,fun e=>⟨by simpa using e,by rw[hn,hs.T]⟩,.inr hr⟩
theorem II {v:Vs}{s:ay}{i:Nat}(h:dy v s=some i):∃ x,v.b.list[i]?=some x/\x.name=s:=by
 unfold dy at h;rw[List.findIdx?_eq_some_iff_getElem]at h;obtain⟨hi,h1,_⟩:=h;exact⟨_,au1 hi,by simpa using h1⟩
theorem xJ {v:Vs}{s:ay}(h:dy v s=none):∀ x∈v.b.list,x.name≠s:=by
 unfold dy at h;rw[List.findIdx?_eq_none_iff]at h;intro x hx;have:=h x hx;simpa using this
theorem Rc {v u:Vs}(h:u.b.list=v.b.list)(s:ay):dy u s=dy v s:=by unfold dy;rw[h]
theorem IJ {v:Vs}(h:mL v){T:Tr}(hn:iE (ar T)){recs:List ay}(hr:bH v (ar T)<=dm v):mL { v with T:=T,recs:=recs }:=
 ⟨h.many,h.next,h.eight,h.planes,h.list,h.clear,h.snaps,h.here,h.nodes,hn,hr⟩
def dL (rd:Rd)(blocks num half:Nat)(T:Tr):Vs:=⟨rd,blocks,num,⟨⟨0,0⟩,⟨0,0⟩,⟨0,0⟩,1,1,[],[],List.replicate 8 [],[]⟩,T,[],half⟩
theorem xK (p:Nat):(List.replicate 8 ([]:ay)).getD p []=[]:=by
 rw[List.getD,List.getElem?_replicate];split<;>rfl
theorem MO (rd:Rd)(blocks num half:Nat)(T:Tr):dm (dL rd blocks num half T)=blocks-1:=by
 unfold dm dL kT;simp only;rw[List.filter_eq_self.2,List.length_range'];intro n _;have:¬ am (cX (List.replicate 8 [])) n=true:=by
  rw[ph (by simp)];rintro⟨p,_,hp⟩;rw[xK]at hp;cases hp
 simpa using this
theorem MQ {b:Nat}(h:b<=4096):aR b<=b/240+2:=by
 unfold aR;have h1:bN b 240<=b/240+1:=(aI (by decide)).2 (by omega);have h2:bN b 240<=18:=(aI (by decide)).2 (by omega);rcases aM b with⟨_,e⟩|⟨_,_,e⟩|⟨_,_,e⟩|⟨_,e⟩<;>rw[e]<;>simp only[auZ,List.sum_nil]<;>omega
theorem xL (rd:Rd){blocks:Nat}(num half:Nat)(T:Tr)(hb:32<=blocks/\blocks<=4096)(hn:iE (ar T))(h1:(ar T).length=1)(hd:∀ x∈ar T,x.data.length<=240):mM (dL rd blocks num half T):=by
 have uu:bH (dL rd blocks num half T) (ar T)+bM (dL rd blocks num half T)+1<=dm (dL rd blocks num half T):=by
  rw[MO];unfold bH bM;have e1:((ar T).map fun x=>db (cG (dL rd blocks num half T).b.nodes x.num) x.data).sum<=1:=by
   have:=W9 (l:=ar T) (f:=fun x=>db (cG (dL rd blocks num half T).b.nodes x.num) x.data) (k:=1) fun x hx=>auX (gw _ _) (mN (hd x hx));omega
  have e2:(if ar T=(dL rd blocks num half T).b.nodes then 0 else aR (2+12*(ar T).length))<=1:=by
   split
   ·omega
   ·exact mN (by omega)
  have e3:aR (dL rd blocks num half T).blocks<=blocks/240+2:=MQ hb.2;have e4:blocks<240->aR blocks<=1:=fun h=>mN (by omega);have e5:(dL rd blocks num half T).blocks=blocks:=rfl;rw[e5]at e3 ⊢;omega
 refine⟨hb,⟨au4 _,by show 1<=blocks;omega⟩,by simp[dL],?_,?_,fun x hx=>by simp[dL]at hx,?_,?_,hn,?_⟩
 ·intro p _;show fT ((List.replicate 8 []).getD p [])/\∀ n,am ((List.replicate 8 []).getD p []) n=true->_;rw[xK];exact⟨by simp[fT],fun n hn=>by cases hn⟩
 ·exact⟨by simp[dL],fun x hx=>by simp[dL]at hx,by simp[dL],fun x hx=>by simp[dL]at hx,by simp[dL],by simp[dL],fun x hx=>by simp[dL]at hx,by simp[dL]⟩
 ·refine⟨fun _=>False,fun _=>False,fun _=>False,[],[],[],fun _ h=>h,ja rd,?_,ja rd,by simp,?_,?_,fun _ h=>h.elim,.inr uu⟩
  ·intro he;have:ar T=[]:=he;rw[this]at h1;cases h1
  ·intro n;show am ((List.replicate 8 []).getD 0 []) n=true↔_;rw[xK];simp[gB]
  ·rintro n (h|h)
   ·exact h.elim
   ·cases h
 ·exact⟨by simp[dL],rfl,fun x hx=>by simp[dL]at hx,fun x hx=>by simp[dL]at hx⟩
 ·show bH _ _<=_;have:=uu;have e:(dL rd blocks num half T).T=T:=rfl;rw[e];omega
section
open Go.RowKit
attribute [local go_sem] auV
structure eA (w:World)(p:Nat)(v:Vs)(a:eY)(u:Vs)(a':eY)(w':World):Prop where
 at_:lz w' p u a'
 role:a'.role=a.role
 foot:∀ g,a'.foot p g->a.foot p g\/w.heap.size<=g
 mod:ah (a.foot p) w w'
 still:fC (fun b=>a.role b≠.none) w w'
 text:a.text=fX v.b->a'.text=fX u.b
theorem eA.refl {w:World}{p:Nat}{v:Vs}{a:eY}(h:lz w p v a):eA w p v a v a w:=⟨h,rfl,fun _ h=>.inl h,ah.refl _ _,fun _ _ _=>rfl,id⟩
theorem eA.keep {w w1 w2:World}{p:Nat}{v u:Vs}{a a':eY}(h:eA w p v a u a' w1)(k:af w1 w2):eA w p v a u a' w2:=
 ⟨h.at_.keep k,h.role,h.foot,h.mod.trans (k.mono (T:=a.foot p) (fun _ _ h=>h.elim)) (fun _ _ h=>h),fun b hb hl=>(k.block b (avb hl h.mod.size) id).trans (h.still b hb hl),h.text⟩
theorem eA.trans {w w1 w2:World}{p:Nat}{v u x:Vs}{a a1 a2:eY}(h:eA w p v a u a1 w1)(k:eA w1 p u a1 x a2 w2):eA w p v a x a2 w2:=
 ⟨k.at_,k.role.trans h.role,fun g hg=>(k.foot g hg).elim (h.foot g) (fun h1=>.inr (auX h.mod.size h1)),h.mod.trans k.mod fun g hl hs=>(h.foot g hs).elim id (fun h1=>absurd h1 (by omega)),
  fun b hb hl=>(k.still b (by rw[h.role];exact hb) (avb hl h.mod.size)).trans (h.still b hb hl),fun e=>k.text (h.text e)⟩
theorem eA.ahead {w0 w w1:World}{p:Nat}{u v:Vs}{a a1:eY}(k:af w0 w)(h:eA w p v a u a1 w1):eA w0 p v a u a1 w1:=
 ⟨h.at_,h.role,fun g hg=>(h.foot g hg).imp id (fun h1=>auX k.size h1),(k.mono (T:=a.foot p) (fun _ _ h=>h.elim)).trans h.mod (fun _ _ h=>h),fun b hb hl=>(h.still b hb (avb hl k.size)).trans (k.block b hl id),h.text⟩
theorem Vi {v:Vs}(h:mM v):∀ k,am (cX v.b.planes) k=true->1<=k/\k<v.blocks:=by
 intro k hk;rw[ph h.eight]at hk;obtain⟨p,hp,hq⟩:=hk;exact(h.planes p hp).2 k hq
theorem tx {w:World}{p:Nat}{v:Vs}{a:eY}(h:lz w p v a):Ao w p v a a.sv v.b.list:=
 ⟨h,h.list,fun g hg=>(h.stays g (.inr (.inr (.inr (.inl hg))))) ⟩
theorem un {w:World}{p:Nat}{v:Vs}{a:eY}{lv:Value}{list:List Sn}(h:Ao w p v a lv list){more:ay}(hv:mM v)(hm:fI v list more)(hid:v.b.id<=1099511627777)(dA:v.num<1099511627776):
  Calls prog 64 #[aq p,lv,ax more] w fun e w'=>e=.returned (.int .i64 0)/\∃ u a',bD v list more=.ok u/\a'.text=fX u.b/\eA w p v a u a' w':=by
 obtain⟨r,hr⟩:=El hv hm;refine(Iy h hr hv hm hid dA).mono ?_;rintro e w' ⟨rfl,a',h1,h2,h3,h4⟩;exact⟨rfl,_,a',hr.run,h2.1,h1,h2.2,h3,h4.mono (fun g _ h=>by rcases h with h|h|h;exact .inl h;exact .inr (.inl h);exact .inr (.inr (.inl h))),fun b hb hl=>h4.block b hl (fun hh=>by
  have hs:=h.st.stays b (.inr (.inl hb));rcases hh with hh|hh|hh
  ·exact hs.2.2 hh
  ·exact hs.1 hh
  ·exact hs.2.1 hh),fun _=>h2.1⟩
theorem ke {w:World}{p:Nat}{v:Vs}{a:eY}{lv:Value}{list:List Sn}(h:Ao w p v a lv list){more:ay}(hv:mM v)(hm:fI v list more)(hid:v.b.id<=1099511627777)(dA:v.num<1099511627776):
  Calls prog 64 #[aq p,lv,ax more] w fun e w'=>e=.returned (.int .i64 0)/\∃ u a',bD v list more=.ok u/\eA w p v a u a' w':=by
 refine(un h hv hm hid dA).mono ?_;rintro e w' ⟨rfl,u,a',h1,_,h2⟩;exact⟨rfl,u,a',h1,h2⟩
end
section
open Go.RowKit
attribute [local go_sem] auV
theorem eA.tree {w w':World}{p:Nat}{v u:Vs}{a a':eY}(k:eA w p v a u a' w'){q tb:Nat}{A M:Int->Nat}{role:Nat->cW}{T:Tr}(ht:aH w q T tb A M role)(nP:∀ b,role b≠.none->a.role b≠.none\/¬ a.foot p b):aH w' q T tb A M role:=
 ht.same (fun b hb hl=>(nP b hb).elim (fun h1=>k.still b h1 hl) (fun h1=>k.mod.block b hl h1)) k.mod.size
theorem As {v:Vs}(hb:v.blocks<=4096){l:List Nt}(h:xI l):bH v l<=7000:=by
 have h1:=tv v.b.nodes l h.data;have h2:bM v<=100:=fJ (by omega);have h3:=h.many;have h4:(if l=v.b.nodes then 0 else aR (2+12*l.length))<=100:=by
  split
  ·omega
  ·exact fJ (by omega)
 show bM v+1+gN v.b.nodes l+_<=_;omega
theorem xM {v:Vs}(hb:v.blocks<=4096)(kind:Int):cT v kind<=300:=by
 have h2:bM v<=100:=fJ (by omega);unfold cT;split
 ·omega
 ·split<;>omega
theorem EI {v:Vs}(hb:v.blocks<=4096):dm v<=4096:=by
 unfold dm kT;refine auX (avc _ _) ?_;rw[List.length_range'];omega
structure pp (w:World)(p:Nat)(v:Vs)(a:eY)(q:Nat)(T:Tr):Prop where
 vol:lz w p v a
 ready:mM v
 tree:∃(tb:Nat) (A M:Int->Nat) (role:Nat->cW) (d:Int->Nat),aH w q T tb A M role/\WF T d
 nodes:kc (ar T)
theorem pp.keep {w w':World}{p:Nat}{v:Vs}{a:eY}{q:Nat}{T:Tr}(h:pp w p v a q T)(k:af w w'):pp w' p v a q T:=by
 obtain⟨tb,A,M,role,d,ht,hw⟩:=h.tree;exact⟨h.vol.keep k,h.ready,⟨tb,A,M,role,d,ht.keep k,hw⟩,h.nodes⟩
theorem pp.needs {w:World}{p:Nat}{v:Vs}{a:eY}{q:Nat}{T:Tr}(h:pp w p v a q T):Calls prog 144 #[aq p,aq q] w fun e w'=>e=.returned (.int .i64 ((bH v (ar T):Nat):Int))/\af w w':=by
 obtain⟨tb,A,M,role,d,ht,hw⟩:=h.tree;exact MM h.vol h.ready.many.2 ht hw (pX h.ready.nodes) (pX h.nodes)
theorem pp.spares {w:World}{p:Nat}{v:Vs}{a:eY}{q:Nat}{T:Tr}(h:pp w p v a q T)(kind:Int):Calls prog 145 #[aq p,.int .i64 kind] w fun e w'=>e=.returned (.int .i64 ((cT v kind:Nat):Int))/\af w w':=
 IE h.vol h.ready.many.2 kind
theorem pp.free {w:World}{p:Nat}{v:Vs}{a:eY}{q:Nat}{T:Tr}(h:pp w p v a q T):Calls prog 146 #[aq p] w fun e w'=>e=.returned (.int .i64 ((dm v:Nat):Int))/\af w w':=
 ML h.vol (by have:=h.ready.many;omega) (by have:=EA h.ready;omega) (Vi h.ready)
theorem MR {w:World}{p:Nat}{v:Vs}{a:eY}(h:lz w p v a)(hg:mL v)(hid:v.b.id<=1099511627777)(dA:v.num<1099511627776){q tb:Nat}{A M:Int->Nat}{role:Nat->cW}{T:Tr}{d:Int->Nat}(ht:aH w q T tb A M role)(hw:WF T d)(hn:kc (ar T))(nP:∀ b,role b≠.none->a.role b≠.none\/¬ a.foot p b)(kind:Int):
  Calls prog 65 #[aq p,aq q,.int .i64 kind] w fun e w'=>∃ b u a',oY v T kind=.ok (b,u)/\e=.returned (.int .i64 (if b=true then 0 else 151))/\eA w p v a u a' w':=by
 have HF:=hd0 (pp.mk h hg.ready ⟨tb,A,M,role,d,ht,hw⟩ hn);have H:=hd0 h;have HG:=hd0 hg;have HT:=hd0 (And.intro ht nP);have HWF:=hd0 hw;have HN:=hd0 hn;have HI:=hd0 (And.intro hid dA);have hb:=hg.many.2;have n1:((bH v (ar T):Nat):Int)<=7000:=by have:=As hb (pX hn);omega
 have n2:((cT v kind:Nat):Int)<=300:=by have:=xM hb kind;omega
 have n3:((dm v:Nat):Int)<=4096:=by have:=EI hb;omega
 have N1:=hd0 HF.out.needs;have HFT:Hid (oY v T kind=if bH v (ar T)+cT v kind<=dm v then .ok (true,v)else
  (if ar v.T=v.b.nodes then .ok v else bD v v.b.list []).map fun u=>(decide (bH u (ar T)+cT u kind<=dm u),u)):=hd0 rfl
 clear h hg hid dA ht hw hn nP hb;go_enter func65,ntmps65;go_wp2_with fail;refine N1.out.mono ?_;rintro e w1 ⟨rfl,k1⟩;have bZ:=hd0 k1;have N2:=hd0 ((HF.out.keep k1).spares kind);clear k1 N1;go_wp2_with fail;refine N2.out.mono ?_;rintro e w2 ⟨rfl,k2⟩;have bw:=hd0 (bZ.out.keep k2);have N3:=hd0 (HF.out.keep bw.out).free;clear k2 N2 bZ;go_wp2_with fail;refine N3.out.mono ?_;rintro e w3 ⟨rfl,k3⟩;have dR:=hd0 (bw.out.keep k3);clear k3 N3 bw;by_cases hq:bH v (ar T)+cT v kind<=dm v
 ·have Yg:((bH v (ar T):Nat):Int)+((cT v kind:Nat):Int)<=((dm v:Nat):Int):=by omega
  have HR:Hid (oY v T kind=.ok (true,v)):=hd0 (by rw[HFT.out,au8 hq]);clear hq;go_wp2;go_ret;exact⟨true,v,a,HR.out,rfl,(eA.refl H.out).keep dR.out⟩
 ·have Yg:¬((bH v (ar T):Nat):Int)+((cT v kind:Nat):Int)<=((dm v:Nat):Int):=by omega
  have HR:Hid (oY v T kind=(if ar v.T=v.b.nodes then .ok v else bD v v.b.list []).map fun u=>(decide (bH u (ar T)+cT u kind<=dm u),u)):=hd0 (by rw[HFT.out,ava hq]);clear hq HFT
  go_upto_region 3 with fail
  clear n1 n2 n3 Yg;obtain⟨bq,hbq⟩:∃ bq,decide (ar v.T=v.b.nodes)=bq:=⟨_,rfl⟩
  have Hbq:=hd0 hbq;clear hbq;have TV:=hd0 (H.out.keep dR.out);go_cut [29]from 8 to 49 (fun x wx=>x=.bool (!bq)/\af w3 wx)
  case first=>
   have NO:Hid (∀ W,af w3 W->Calls prog 125 #[aq a.pt] W fun e w'=>∃(sa:Option Addr) (cap:Nat),e=.returned (.slice sa (ar v.T).length cap)/\mC gx 4 w' (.slice sa (ar v.T).length cap) (ar v.T)/\af W w'):=hd0 (fun W k=>by
    obtain⟨tb,A,M,ht⟩:=TV.out.tree;obtain⟨d,hw⟩:=TV.out.wf;refine(th (ht.keep k) hw).mono ?_;rintro e w' ⟨x,rfl,ho,k'⟩;obtain⟨sa,cap,rfl,hx⟩:=cl fR ho;exact⟨sa,cap,rfl,⟨sa,cap,rfl,hx⟩,k'⟩)
   obtain⟨na,Fg,env,sp⟩:=cl fR TV.out.nodes;have HXN:Hid (mC gx 4 w3 (.slice na v.b.nodes.length Fg) v.b.nodes):=hd0 ⟨na,Fg,rfl,sp⟩;have c14:w3.cell? ⟨p,14,none⟩=some (aq a.pt):=aa TV.out.own 14;have c13:w3.cell? ⟨p,13,none⟩=some (.slice na v.b.nodes.length Fg):=by rw[<-env];exact aa TV.out.own 13
   have nQ:=ak TV.out.own;have VC:Hid (∀ W,af w3 W->W.cell? ⟨p,13,none⟩=some (.slice na v.b.nodes.length Fg)):=hd0 (fun W k=>(k.cell (p:=⟨p,13,none⟩) nQ id).trans c13);have HLN:Hid ((ar v.T).length<=1000000/\v.b.nodes.length<=1000000):=hd0 ⟨by have:=HG.out.told.tokc.many;omega,by have:=HG.out.nodes.many;omega⟩;clear env sp nQ
   go_region_with (first
    |(go_at_call 125;refine avd (NO.out _ ((ah.refl _ w3).drew)) ?_;rintro e wN ⟨sa,cap,rfl,hr,kN⟩;have HKN:=hd0 (((ah.refl (fun _=>False) w3).drew).keep kN);have HRN:=hd0 hr;have d13:=VC.out _ HKN.out;clear hr kN)
    |(go_at_call 147;refine avd (um _ _ _ _ _ HRN.out (fQ HXN.out HKN.out) HLN.out.1 HLN.out.2) ?_;rintro e wE ⟨rfl,kE⟩;have Cp:=hd0 (HKN.out.keep kE);rw[Hbq.out];clear kE))
   all_goals (go_wp2_with fail;go_meet)
   all_goals (case rel=>exact⟨rfl,Cp.out⟩)
  case rest=>
   obtain⟨rfl,hkc⟩:=hcut;have Jn:=hd0 (dR.out.keep hkc);clear hkc dR TV
   go_upto_if 29 with fail
   go_cut []from 8 to 49 (fun wx=>∃ u a',(if ar v.T=v.b.nodes then .ok v else bD v v.b.list [])=.ok u/\mL u/\eA w p v a u a' wx)
   case first=>
    cases bq with
    |true=>
     have he:ar v.T=v.b.nodes:=of_decide_eq_true Hbq.out;have HE:Hid ((if ar v.T=v.b.nodes then .ok v else bD v v.b.list [])=.ok v):=hd0 (au8 he);clear he;go_wp2_with fail;go_meet
     case rel=>exact⟨v,a,HE.out,HG.out,(eA.refl H.out).keep Jn.out⟩
    |false=>
     have he:¬ ar v.T=v.b.nodes:=of_decide_eq_false Hbq.out;have HE:Hid ((if ar v.T=v.b.nodes then .ok v else bD v v.b.list [])=bD v v.b.list []):=hd0 (ava he);have HVC:=hd0 (H.out.keep Jn.out);have Yj:wc.cell? ⟨p,11,none⟩=some a.sv:=aa HVC.out.own 11;have PO:=hd0 (ke (tx HVC.out) HG.out.ready (nM v) HI.out.1 HI.out.2);clear he;go_wp2_with fail;refine PO.out.mono ?_;rintro e wP ⟨rfl,u,a',hu,jq⟩;have HU:Hid (mL u):=hd0 (by
      obtain⟨u',h1,h2,_⟩:=ic HG.out;rw[h1]at hu;injection hu with hu;rw[<-hu];exact h2.good)
     have HPT:=hd0 hu;have yT:=hd0 (eA.ahead Jn.out jq);clear hu jq PO Yj;go_wp2_with fail;go_meet
     case rel=>exact⟨u,a',HE.out.trans HPT.out,HU.out,yT.out⟩
   case rest=>
    obtain⟨u,a',hu,hgu,jq⟩:=hcut;have qx:Hid (oY v T kind=.ok (decide (bH u (ar T)+cT u kind<=dm u),u)):=hd0 (by rw[HR.out,hu];rfl);have Sy:Hid (pp wc p u a' q T):=hd0 ⟨jq.at_,hgu.ready,⟨tb,A,M,role,d,jq.tree HT.out.1 HT.out.2,HWF.out⟩,HN.out⟩;have hb:=hgu.many.2;have n1:((bH u (ar T):Nat):Int)<=7000:=by have:=As hb (pX HN.out);omega
    have n2:((cT u kind:Nat):Int)<=300:=by have:=xM hb kind;omega
    have n3:((dm u:Nat):Int)<=4096:=by have:=EI hb;omega
    have yT:=hd0 jq;have N1:=hd0 Sy.out.needs;clear hu hgu jq hb Jn HF HR;go_wp2_with fail;refine N1.out.mono ?_;rintro e w4 ⟨rfl,k1⟩;have bZ:=hd0 k1;have N2:=hd0 ((Sy.out.keep k1).spares kind);clear k1 N1;go_wp2_with fail;refine N2.out.mono ?_;rintro e w5 ⟨rfl,k2⟩;have bw:=hd0 (bZ.out.keep k2);have N3:=hd0 (Sy.out.keep bw.out).free;clear k2 N2 bZ;go_wp2_with fail;refine N3.out.mono ?_;rintro e w6 ⟨rfl,k3⟩;have dR:=hd0 (bw.out.keep k3);clear k3 N3 bw;by_cases hq:bH u (ar T)+cT u kind<=dm u
    ·have Yg:((bH u (ar T):Nat):Int)+((cT u kind:Nat):Int)<=((dm u:Nat):Int):=by omega
     rw[decide_eq_true hq]at qx;clear hq;go_wp2;go_ret;exact⟨true,u,a',qx.out,rfl,yT.out.keep dR.out⟩
    ·have Yg:¬((bH u (ar T):Nat):Int)+((cT u kind:Nat):Int)<=((dm u:Nat):Int):=by omega
     rw[au9 hq]at qx;clear hq;go_wp2;go_ret;exact⟨false,u,a',qx.out,rfl,yT.out.keep dR.out⟩
end
end Go.Proofs.YtkghpdcloaiflaaGreatDoor
