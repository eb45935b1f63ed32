import Derived.Test.YtkghpdcloaiflaaGreatDoorD35
import Derived.Test.YtkghpdcloaiflaaGreatDoorD36
set_option maxHeartbeats 4000000
set_option maxRecDepth 100000
namespace Go.Proofs.YtkghpdcloaiflaaGreatDoor
open _root_.Go.Proofs.Tryz
section
open Go.RowKit Go.Maps
attribute [local go_sem] auG
structure xO (l:List Nt):Prop where
 many:l.length<=60
 nums:∀ x∈l,0<=x.num/\x.num<=65535
 data:∀ x∈l,x.data.length<=16384
theorem qa {l:List Nt}(h:kp l):xO l:=⟨h.many,fun x hx=>by have:=jl h.nums x hx;omega,h.data⟩
theorem IJ {l:List Nt}(h:xO l)(k:Int):(cH l k).length<=16384:=by
 unfold cH
 cases hl:(l.filter fun x=>x.num==k).getLast? with
 |none=>simp
 |some x=>
  have:=List.mem_of_getLast? hl;exact h.data x (auH.1 this).1
def gU (old l:List Nt):Nat:=(l.map fun x=>dd (cH old x.num) x.data).sum
theorem tH (old l:List Nt)(h:∀ x∈l,x.data.length<=16384):gU old l<=100*l.length:=by
 unfold gU
 induction l with
 |nil=>simp
 |cons x r ih=>
  have h1:=ih fun y hy=>h y (by simp[hy]);have h2:=auI (gD (cH old x.num) x.data) (fM (h x (by simp)));simp only[auJ,auK,auL];omega
theorem MR {w:World}{p:Nat}{v:Vs}{a:eV}(h:lp w p v a)(hb:v.blocks<=4096){q tb:Nat}{A M:Int->Nat}{role:Nat->cV}{T:Tr}{d:Int->Nat}(ht:aJ w q T tb A M role)(hw:WF T d)(h1:xO v.b.nodes)(h2:xO (ar T)):
  Calls prog 144 #[aq p,aq q] w fun e w'=>e=.returned (.int .i64 ((bG v (ar T):Nat):Int))/\af w w':=by
 have I7:=@run_makeMap prog;have hfd:∀(x0 x1 x2 x3:Value) (W:World),(Instr.field 221 (.agg #[x0,x1,x2,x3]) 3).run prog W=.ok x3 W:=fun _ _ _ _ _=>by kernel_rfl
 have H:=hd0 h;have HT:=hd0 ht;have HW:=hd0 hw;have FF:=hd0 hb;have N1:=hd0 h1;have N2:=hd0 h2;have dE:af w (w.alloc (.map #[] 0)):=(ah.refl _ w).alloc _;have HM0:Hid (Rk (w.alloc (.map #[] 0)) w.heap.size []):=hd0 (fy.made w);have dF:=hd0 dE;obtain⟨mb,zg⟩:∃ mb,w.heap.size=mb:=⟨_,rfl⟩
 have Hmb:=hd0 zg;obtain⟨an,cap,ev,hx⟩:=bY fW h.nodes;have HX:=hd0 hx;have v13:(w.alloc (.map #[] 0)).cell? ⟨p,13,none⟩=some (.slice an v.b.nodes.length cap):=by rw[<-ev];exact aa (h.keep dE).own 13
 have Cx:(v.b.nodes.length:Int)<=60:=by have:=h1.many;omega
 have HE:Hid (bG v (ar T)=bK v+1+gU v.b.nodes (ar T)+(if ar T=v.b.nodes then 0 else aT (2+12*(ar T).length))):=hd0 rfl;clear h ht hw hb h1 h2 dE hx;rw[zg]at HM0;go_enter func144,ntmps144;go_wp2_with fail
 try rw[zg]
 generalize w.alloc (.map #[] 0)=W at*
 go_loopw [21] (fun i wr=>∃ k:Nat,k<=v.b.nodes.length/\i=.int .i64 (k:Int)/\Hid (Rk wr mb (pw (v.b.nodes.take k)))/\Hid (af w wr)) (fun i _=>v.b.nodes.length-(intOf i).toNat)
 case atStart=>exact⟨0,by omega,rfl,HM0,dF⟩
 case round=>
  clear HM0 dF v13;obtain⟨k,hk,rfl,HB,HK⟩:=hrel;by_cases aK:k<v.b.nodes.length
  ·have dR:(k:Int)<(v.b.nodes.length:Int):=by omega
   obtain⟨y,hy⟩:∃ y,v.b.nodes[k]?=some y:=⟨_,auM aK⟩
   obtain⟨rb,o,rfl,hc⟩:=HX.out k y hy;have c0:wr.cell? ⟨rb,o+k*4,none⟩=some (.int .i64 y.num):=by have h:=hc 0 _ rfl;rw[HK.out.cell (p:=⟨rb,o+k*4,none⟩) (am h) id];exact h
   have c1:wr.cell? ⟨rb,o+k*4+1,none⟩=some (.bool y.dir):=by have h:=hc 1 _ rfl;rw[HK.out.cell (p:=⟨rb,o+k*4+1,none⟩) (am h) id];exact h
   have c2:wr.cell? ⟨rb,o+k*4+2,none⟩=some (.int .i64 y.links):=by have h:=hc 2 _ rfl;rw[HK.out.cell (p:=⟨rb,o+k*4+2,none⟩) (am h) id];exact h
   have c3:wr.cell? ⟨rb,o+k*4+3,none⟩=some (.string ⟨y.data.toArray⟩):=by have h:=hc 3 _ rfl;rw[HK.out.cell (p:=⟨rb,o+k*4+3,none⟩) (am h) id];exact h
   have YH:=N1.out.nums y (auN hy);have qh:af wr (wr.alloc (.cells (gF y).toArray 221)):=(ah.refl _ wr).alloc _;obtain⟨w2,bh,gX,dp,cJ⟩:=(HB.out.mod qh id).store Rj underlying295 underlying3 y.num (by omega) y trivial (by have h1:=MO (v.b.nodes.take k);have h2:=N1.out.many;have h3:(v.b.nodes.take k).length<=v.b.nodes.length:=List.length_take_le' _ _;omega);have hws:eA kc y.num y (pw (v.b.nodes.take k))=pw (v.b.nodes.take (k+1)):=by rw[auO,hy];exact(ra _ _).symm
   rw[hws]at gX;have jL:=hd0 gX;have bw:Hid (af w w2):=hd0 ((HK.out.keep qh).new dp (by rw[Hmb.out];exact auP _));unfold lj gF at bh;clear hws gX dp hc YH qh hy;go_wp2_with fail;exact⟨⟨k+1,by omega,by go_num,jL,bw⟩,by simp[intOf];omega⟩
  ·obtain rfl:k=v.b.nodes.length:=by omega
   rw[auQ]at HB;have NO:=hd0 (tv (HT.out.keep HK.out) HW.out);clear aK hk;go_wp2_with fail;refine NO.out.mono ?_;rintro e w1 ⟨nv,rfl,ho,k1⟩;have bS:=hd0 (HK.out.keep k1);have jp:=hd0 (HB.out.mod k1 id);obtain⟨bn,aam,rfl,sJ⟩:=bY fW ho;have HO:=hd0 (Ar (H.out.keep bS.out) FF.out);have HXN:=hd0 sJ;have hh:bK v<=100:=fM (by have:=FF.out;omega);have hhi:(bK v:Int)<=100:=by omega
   have HH:=hd0 hh;clear ho sJ k1 NO HK HB hh;go_wp2_with fail;refine HO.out.mono ?_;rintro e w2 ⟨rfl,k2⟩;have bw:=hd0 (bS.out.keep k2);have jL:=hd0 (jp.out.mod k2 id);have rz:Hid (ko gF 4 w2 (.slice bn (ar T).length aam) (ar T)):=hd0 (eZ ⟨bn,aam,rfl,HXN.out⟩ k2);have hni:((ar T).length:Int)<=60:=by have:=N2.out.many;omega
   clear k2 jp HXN HO bS;go_wp2_with fail
   go_loopw [37,9] (fun i s wr=>∃ k:Nat,k<=(ar T).length/\i=.int .i64 (k:Int)/\s=.int .i64 ((bK v+1+gU v.b.nodes ((ar T).take k):Nat):Int)/\Hid (Rk wr mb (pw v.b.nodes))/\Hid (af w2 wr)) (fun i _ _=>(ar T).length-(intOf i).toNat)
   case atStart=>exact⟨0,by omega,rfl,by simp[gU];try go_num,jL,hd0 (ah.refl _ _)⟩
   case round=>
    clear jL;obtain⟨k,hk,rfl,rfl,HB,HK⟩:=hrel;by_cases aK:k<(ar T).length
    ·have dR:(k:Int)<((ar T).length:Int):=by omega
     obtain⟨x,hx⟩:∃ x,(ar T)[k]?=some x:=⟨_,auM aK⟩
     obtain⟨an',Wz,en',Yj⟩:=rz.out;injection en' with ea1 ea2 ea3;subst ea1 ea3;obtain⟨rb,o,rfl,hc⟩:=Yj k x hx;have c0:wr.cell? ⟨rb,o+k*4,none⟩=some (.int .i64 x.num):=by have h:=hc 0 _ rfl;rw[HK.out.cell (p:=⟨rb,o+k*4,none⟩) (am h) id];exact h
     have c1:wr.cell? ⟨rb,o+k*4+1,none⟩=some (.bool x.dir):=by have h:=hc 1 _ rfl;rw[HK.out.cell (p:=⟨rb,o+k*4+1,none⟩) (am h) id];exact h
     have c2:wr.cell? ⟨rb,o+k*4+2,none⟩=some (.int .i64 x.links):=by have h:=hc 2 _ rfl;rw[HK.out.cell (p:=⟨rb,o+k*4+2,none⟩) (am h) id];exact h
     have c3:wr.cell? ⟨rb,o+k*4+3,none⟩=some (.string ⟨x.data.toArray⟩):=by have h:=hc 3 _ rfl;rw[HK.out.cell (p:=⟨rb,o+k*4+3,none⟩) (am h) id];exact h
     have sJ:=N2.out.nums x (auN hx);have nk:=N2.out.data x (auN hx);have qh:af wr (wr.alloc (.cells #[.int .i64 x.num,.bool x.dir,.int .i64 x.links,.string ⟨x.data.toArray⟩] 221)):=(ah.refl _ wr).alloc _;have AF:=(HB.out.mod qh id).look1 Rj underlying295 underlying3 x.num (by omega);unfold lj at AF;rw[MN]at AF;have CO:=hd0 (Rh (cH v.b.nodes x.num) x.data (IJ N1.out _) nk (wr.alloc (.cells #[.int .i64 x.num,.bool x.dir,.int .i64 x.links,.string ⟨x.data.toArray⟩] 221)));have HBa:=hd0 (HB.out.mod qh id);have BP:=hd0 (HK.out.keep qh);have hco:=auI (gD (cH v.b.nodes x.num) x.data) (fM nk);have hct:gU v.b.nodes ((ar T).take (k+1))=gU v.b.nodes ((ar T).take k)+dd (cH v.b.nodes x.num) x.data:=by unfold gU;rw[auO,hx];simp
     have rp:=tH v.b.nodes ((ar T).take k) (fun y hy=>N2.out.data y (auR hy));rw[auS]at rp;have hci:((bK v+1+gU v.b.nodes ((ar T).take k):Nat):Int)<=7000:=by have:=N2.out.many;have:=HH.out;omega
     have Cm:((dd (cH v.b.nodes x.num) x.data:Nat):Int)<=100:=by omega
     have HCT:Hid (bK v+1+gU v.b.nodes ((ar T).take (k+1))=(bK v+1+gU v.b.nodes ((ar T).take k))+dd (cH v.b.nodes x.num) x.data):=hd0 (by omega);clear hct rp hco sJ nk hc hx Yj HB HK qh;generalize bK v+1+gU v.b.nodes ((ar T).take k)=sm at*;go_wp2_with fail;refine CO.out.mono ?_;rintro e w3 ⟨rfl,k3⟩;have oo:=hd0 (HBa.out.mod k3 id);have dJ:=hd0 (BP.out.keep k3);clear k3 CO AF;go_wp2_with fail;exact⟨⟨k+1,by omega,by go_num,by rw[HCT.out];go_num,oo,dJ⟩,by simp[intOf];omega⟩
    ·obtain nX:k=(ar T).length:=by omega
     subst nX;rw[auQ];have HKe:=hd0 (bw.out.keep HK.out);have hx:=(H.out.keep HKe.out)
     obtain⟨an2,WC,ev2,vr⟩:=bY fW hx.nodes;have c13:wr.cell? ⟨p,13,none⟩=some (.slice an2 v.b.nodes.length WC):=by rw[<-ev2];exact aa hx.own 13
     have EQ:=hd0 (uu (.slice bn (ar T).length aam) (.slice an2 v.b.nodes.length WC) (ar T) v.b.nodes wr (eZ rz.out HK.out) ⟨an2,WC,rfl,vr⟩ (by omega) (by omega));have rp:=tH v.b.nodes (ar T) (fun y hy=>N2.out.data y hy);have hci:((bK v+1+gU v.b.nodes (ar T):Nat):Int)<=7000:=by have:=N2.out.many;have:=HH.out;omega
     have OZ:=HE;generalize bK v+1+gU v.b.nodes (ar T)=sm at*;clear hx ev2 vr rp HB aK hk;go_wp2_with fail;refine EQ.out.mono ?_;rintro e w4 ⟨rfl,k4⟩;have lZ:=hd0 (HKe.out.keep k4);clear k4 EQ c13;by_cases hq:ar T=v.b.nodes
     ·have hd:decide (ar T=v.b.nodes)=true:=decide_eq_true hq;rw[hd];have HF:Hid (bG v (ar T)=sm):=hd0 (by rw[HE.out,auT hq];rfl);clear hq hd HE OZ;go_wp2;go_ret;exact⟨by rw[HF.out];rfl,lZ.out⟩
     ·have hd:decide (ar T=v.b.nodes)=false:=auU hq;rw[hd];have HF:Hid (bG v (ar T)=sm+aT (2+12*(ar T).length)):=hd0 (by rw[HE.out,auV hq]);have SH:=hd0 (tD (2+12*(ar T).length) w4 (by omega));have hsh:((aT (2+12*(ar T).length):Nat):Int)<=100:=by have:=fM (b:=2+12*(ar T).length) (by omega);omega
      have Xx:(2+12*((ar T).length:Int))=((2+12*(ar T).length:Nat):Int):=by omega
      rw[<-Xx]at SH;clear Xx;clear hq hd HE OZ;go_wp2_with fail;refine SH.out.mono ?_;rintro e w5 ⟨rfl,k5⟩;have lz:=hd0 (lZ.out.keep k5);clear k5 SH;go_wp2;go_ret;exact⟨by rw[HF.out];rfl,lz.out⟩
end
section
open Go.RowKit
attribute [local go_sem] auG
def lu (v:Vs)(c:bU):Except Int Tr:=if c.ok=false then .error 1 else oA v c
def iI (w:World)(v:Vs)(a:eV)(c:bU)(e:Ending)(w':World):Prop:=
 af w w'/\match lu v c with
  | .error x=>e=.returned (.tuple #[.pointer none,.int .i64 x])
  | .ok T=>∃(q tb:Nat) (A M:Int->Nat) (role:Nat->cV) (d:Int->Nat),e=.returned (.tuple #[aq q,.int .i64 0])/\aJ w' q T tb A M role/\WF T d/\((T=v.T/\role=a.role)\/∀ b,role b≠.none->w.heap.size<=b)
theorem iI.err {w:World}{v:Vs}{a:eV}{c:bU}{x:Int}{w':World}(h:lu v c=.error x)(k:af w w'):iI w v a c (.returned (.tuple #[.pointer none,.int .i64 x])) w':=by
 unfold iI;rw[h];exact⟨k,rfl⟩
theorem iI.here {w:World}{p:Nat}{v:Vs}{a:eV}{c:bU}{w':World}(h:lu v c=.ok v.T)(k:af w w')(hv:lp w' p v a):iI w v a c (.returned (.tuple #[aq a.pt,.int .i64 0])) w':=by
 unfold iI;rw[h];obtain⟨tb,A,M,t⟩:=hv.tree;obtain⟨d,hw⟩:=hv.wf;exact⟨k,a.pt,tb,A,M,a.role,d,rfl,t,hw,.inl ⟨rfl,rfl⟩⟩
theorem iI.new {w:World}{v:Vs}{a:eV}{c:bU}{T:Tr}{w':World}{q tb:Nat}{A M:Int->Nat}{role:Nat->cV}{d:Int->Nat}(h:lu v c=.ok T)(k:af w w')(ht:aJ w' q T tb A M role)(hw:WF T d)(hr:∀ b,role b≠.none->w.heap.size<=b):iI w v a c (.returned (.tuple #[aq q,.int .i64 0])) w':=by
 unfold iI;rw[h];exact⟨k,q,tb,A,M,role,d,rfl,ht,hw,.inr hr⟩
theorem MS {w:World}{p:Nat}{v:Vs}{a:eV}(h:lp w p v a)(he:t8 w)(c:bU)(hc:c.Small)(hl:v.b.list.length<=7)(hid:v.b.id<=1099511627777):
  Calls prog 61 #[aq p,gQ c] w (iI w v a c):=by
 have dE:af w (w.alloc (.cells (bL c) 55)):=(ah.refl _ w).alloc _;have iJ:World.blk (w.alloc (.cells (bL c) 55)) w.heap.size (bL c) 55:=aw _ _ _;have PR:=tt c _ (he.keep dE) hc;have HE:=hd0 he;have Hc:=hd0 hc;have H:=hd0 h;have dF:=hd0 dE;have nS:=hd0 iJ;have HL:=hd0 hl;have HI:=hd0 hid;have Cx:(v.b.list.length:Int)<=7:=by omega
 have ajE:(v.b.id:Int)<=1099511627777:=by omega
 unfold lg at PR
 cases cg:c.ok with
 |false=>
  rw[cg,auV (by decide)]at PR;have PR:=hd0 PR;have HM:Hid (lu v c=.error 1):=hd0 (by unfold lu;rw[auT cg]);clear h he hc dE iJ hl hid cg;go_enter func61,ntmps61;unfold gQ bL;go_wp2_with fail;refine PR.out.mono ?_;rintro e w1 ⟨rfl,k1⟩;have bS:=hd0 (dF.out.keep k1);clear k1;go_wp2;go_ret2;exact iI.err HM.out bS.out
 |true=>
  rw[cg,auT rfl]at PR;have PR:=hd0 PR;have HX:Hid (lu v c=oA v c):=hd0 (by unfold lu;rw[auV (by rw[cg];decide)]);clear h he hc dE iJ hl hid cg;go_enter func61,ntmps61;unfold gQ bL;go_wp2_with fail;refine PR.out.mono ?_;rintro e w1 ⟨rfl,k1⟩;have bS:=hd0 (dF.out.keep k1);have hb1:=ab k1 nS.out id;obtain⟨c0,c1,c2,c3,c4⟩:=cC hb1;have hv1:=H.out.keep bS.out;have d15:w1.cell? ⟨p,15,none⟩=some (.bool false):=aa hv1.own 15;have NM:=hd0 (xN hv1 (by have:=HL.out;omega) c.path);have jp:=hd0 hb1;clear k1 hb1 hv1;go_wp2_with fail;refine NM.out.mono ?_;rintro e w2 ⟨rfl,k2⟩;have bw:=hd0 (bS.out.keep k2);have eL:=ab k2 jp.out id;clear c0 c1 c2 c3 c4 d15;obtain⟨c0,c1,c2,c3,c4⟩:=cC eL;have Oy:=H.out.keep bw.out;have Ke:=hd0 Oy;have jL:=hd0 eL;obtain⟨la,aiQ,elv,_⟩:=bY eQ Oy.list;have d11:w2.cell? ⟨p,11,none⟩=some (.slice la v.b.list.length aiQ):=by rw[<-elv];exact aa Oy.own 11
  have d9:w2.cell? ⟨p,9,none⟩=some (.int .i64 (v.b.id:Int)):=aa Oy.own 9;have d14:w2.cell? ⟨p,14,none⟩=some (aq a.pt):=aa Oy.own 14;clear k2 eL Oy elv jp bS dF nS PR NM;by_cases h7:c.kind=7
  ·rw[h7]at c0
   cases hn:dA v c.path with
   |some i=>
    have HM:Hid (lu v c=.error 161):=hd0 (by rw[HX.out];unfold oA;rw[auT ⟨h7,by rw[hn];rfl⟩]);have hi0:¬(i:Int)<0:=by omega
    clear hn h7;unfold xG;go_wp2;go_ret2;exact iI.err HM.out bw.out
   |none=>
    have uQ:¬(c.kind=7/\(dA v c.path).isSome=true):=by rw[hn];simp
    unfold xG;by_cases hq:7<=v.b.list.length
    ·have HM:Hid (lu v c=.error 163):=hd0 (by rw[HX.out];unfold oA;rw[auV uQ,auT ⟨h7,.inl hq⟩]);have Yv:(7:Int)<=(v.b.list.length:Int):=by omega
     clear hn uQ h7;go_wp2;go_ret2;exact iI.err HM.out bw.out
    ·have Yv:¬(7:Int)<=(v.b.list.length:Int):=by omega
     by_cases KM:1099511627777<=v.b.id
     ·have HM:Hid (lu v c=.error 163):=hd0 (by rw[HX.out];unfold oA;rw[auV uQ,auT ⟨h7,.inr KM⟩]);have ahZ:(1099511627777:Int)<=(v.b.id:Int):=by omega
      clear hn uQ h7;go_wp2;go_ret2;exact iI.err HM.out bw.out
     ·have HM:Hid (lu v c=.ok v.T):=hd0 (by rw[HX.out];unfold oA;rw[auV uQ,auV (fun h=>h.2.elim hq KM),auV (fun h=>by have:=h.1;omega),auT (.inl h7)]);have ahZ:(v.b.id:Int)<=1099511627776:=by omega
      have ary:decide ((1099511627777:Int)<=(v.b.id:Int))=false:=auU (by omega);clear hn uQ h7 KM ajE;go_wp2;go_ret2;exact iI.here HM.out bw.out Ke.out
  ·have b7:(c.kind==7)=false:=by simpa using h7
   have uQ:¬(c.kind=7/\(dA v c.path).isSome=true):=fun h=>h7 h.1;have Oe:¬(c.kind=7/\(7<=v.b.list.length\/1099511627777<=v.b.id)):=fun h=>h7 h.1;by_cases h8:c.kind=8
   ·rw[h8]at c0
    cases hn:dA v c.path with
    |some i=>
     have HM:Hid (lu v c=.ok v.T):=hd0 (by rw[HX.out];unfold oA;rw[auV uQ,auV Oe,auV (fun h=>by rw[hn]at h;cases h.2),auT (.inr h8)]);have hi0:¬(i:Int)<0:=by omega
     clear hn h8 uQ Oe;unfold xG;go_wp2;go_ret2;exact iI.here HM.out bw.out Ke.out
    |none=>
     have HM:Hid (lu v c=.error 162):=hd0 (by rw[HX.out];unfold oA;rw[auV uQ,auV Oe,auT ⟨h8,by rw[hn];rfl⟩]);clear hn h8 uQ Oe;unfold xG;go_wp2;go_ret2;exact iI.err HM.out bw.out
   ·have b8:(c.kind==8)=false:=by simpa using h8
    have lH:Hid (lu v c=if(qM v.T c).2=0 then .ok (qM v.T c).1 else .error (qM v.T c).2):=hd0 (by rw[HX.out];unfold oA;rw[auV uQ,auV Oe,auV (fun h=>h8 h.1),auV (fun h=>h.elim h7 h8)]);clear uQ Oe h7 h8;generalize xG (dA v c.path)=ix;obtain⟨tb,A,M,ht⟩:=Ke.out.tree;obtain⟨d,hw⟩:=Ke.out.wf;have CL:=hd0 (Mr ht hw);have HW:=hd0 hw;clear ht hw;go_wp2_with fail;refine CL.out.mono ?_;rintro e w3 ⟨q,tb2,A2,M2,aom,rfl,OY,tT,k3⟩;have dJ:=hd0 (bw.out.keep k3);have uM:=ab k3 jL.out id;clear c0 c1 c2 c3 c4 d11 d9 d14;obtain⟨c0,c1,c2,c3,c4⟩:=cC uM;have DO:=hd0 (Y8 OY HW.out (HE.out.keep dJ.out) c Hc.out);have rz:=hd0 tT;have yC:=hd0 bw.out.size;clear k3 uM OY tT CL;unfold gQ bL at DO;go_wp2_with fail;refine DO.out.mono ?_;rintro e w4 ⟨rfl,A',M',j9,ht4,hr4,AH⟩;have lZ:Hid (af w w4):=hd0 (dJ.out.trans AH (fun g hg h=>absurd (rz.out g h) (by have:=yC.out;omega)));have Tv:=hd0 ht4;have HR4:Hid (∀ b,j9 b≠.none->w.heap.size<=b):=hd0 (fun b hb=>(hr4 b hb).elim (fun h=>auI yC.out (rz.out b h)) (fun h=>auI dJ.out.size h));clear ht4 hr4 AH DO c0 c1 c2 c3 c4;by_cases hz:(qM v.T c).2=0
    ·have HM:Hid (lu v c=.ok (qM v.T c).1):=hd0 (by rw[lH.out,auT hz]);rw[hz];obtain⟨d',cL⟩:=PM HW.out c;have HW':=hd0 cL;clear hz cL;go_wp2;go_ret2;exact iI.new HM.out lZ.out Tv.out HW'.out HR4.out
    ·have HM:Hid (lu v c=.error (qM v.T c).2):=hd0 (by rw[lH.out,auV hz]);have bz:((qM v.T c).2==0)=false:=by simpa using hz
     generalize (qM v.T c).2=er at*;clear hz;go_wp2;go_ret2;exact iI.err HM.out lZ.out
end
def BG (v:Vs)(c:bU):Except Int (Int×Vs):=
 if c.ok=false then .ok (1,v)else match oA v c with
 | .error e=>.ok (e,v)
 | .ok T=>match (if(c.kind=7\/c.kind=8)\/c.line.length+2<=cI v then .ok v else bC v v.b.list [])with
  | .error e=>.error e
  | .ok v1=>match pa v1 T c.kind with
   | .error e=>.error e
   | .ok (false,v2)=>.ok (151,v2)
   | .ok (true,v2)=>
    if c.kind=7 then(bC v2 v2.b.list c.path).map fun u=>(0,u)
    else if c.kind=8 then(bC v2 (v2.b.list.eraseIdx ((dA v2 c.path).getD 0)) []).map fun u=>(0,u)
    else if cI v2<c.line.length+2 then .ok (72,v2)
    else .ok (0,{ v2 with T:=T,recs:=v2.recs++[c.line] })
structure iR (v u:Vs):Prop where
 good:jY u
 blocks:u.blocks=v.blocks
 half:u.half=v.half
 T:u.T=v.T
 id:u.b.id=v.b.id
 list:u.b.list=v.b.list
 trees:∀ x∈v.b.list,∀ nodes,qW v x nodes->qW u x nodes
 num:v.num<=u.num
 same:v.num=u.num->u=v
theorem iR.refl {v:Vs}(h:jY v):iR v v:=⟨h,rfl,rfl,rfl,rfl,rfl,fun _ _ _ h=>h,auP _,fun _=>rfl⟩
theorem iR.trans {a b c:Vs}(h:iR a b)(k:iR b c):iR a c:=
 ⟨k.good,k.blocks.trans h.blocks,k.half.trans h.half,k.T.trans h.T,k.id.trans h.id,k.list.trans h.list,fun x hx nodes hn=>k.trees x (by rw[h.list];exact hx) nodes (h.trees x hx nodes hn),auI h.num k.num,
  fun e=>by have h1:=h.num;have h2:=k.num;rw[k.same (by omega),h.same (by omega)]⟩
theorem nO (v:Vs):fL v v.b.list []:=⟨List.Sublist.refl _,.inl rfl⟩
theorem ip {v:Vs}(h:jY v):∃ u,bC v v.b.list []=.ok u/\iR v u/\u.b.nodes=ar v.T/\u.recs=[]/\u.num=v.num+1:=by
 obtain⟨u,hu⟩:=xC h (nO v);obtain⟨x,_,_,_,hl,_⟩:=hu.sns;exact⟨u,hu.run,⟨hu.good,hu.blocks,hu.half,hu.T,by rw[hu.id,auT rfl],by rw[hl,auT rfl],hu.trees,by have:=hu.num;omega,fun e=>by have:=hu.num;omega⟩,hu.nodes,hu.recs,hu.num⟩
theorem Vq {v:Vs}(h:jY v)(T:Tr)(kind:Int):∃ b u,pa v T kind=.ok (b,u)/\iR v u/\(b=true->bG u (ar T)+cT u kind<=dt u)/\(b=false->dt u<bG u (ar T)+cT u kind/\u.b.nodes=ar u.T)/\(u.recs=v.recs\/u.recs=[]):=by
 unfold pa;by_cases h1:bG v (ar T)+cT v kind<=dt v
 ·rw[auT h1];exact⟨true,v,rfl,iR.refl h,fun _=>h1,fun e=>(by cases e),.inl rfl⟩
 ·rw[auV h1];by_cases h2:ar v.T=v.b.nodes
  ·rw[auT h2];exact⟨false,v,by simp[Except.map,h1],iR.refl h,fun e=>(by cases e),fun _=>⟨by omega,h2.symm⟩,.inl rfl⟩
  ·rw[auV h2];obtain⟨u,hu,hs,hn,hr,_⟩:=ip h;rw[hu];refine⟨decide (bG u (ar T)+cT u kind<=dt u),u,rfl,hs,fun e=>by simpa using e,fun e=>⟨by simpa using e,by rw[hn,hs.T]⟩,.inr hr⟩
theorem IK {v:Vs}{s:ay}{i:Nat}(h:dA v s=some i):∃ x,v.b.list[i]?=some x/\x.name=s:=by
 unfold dA at h;rw[List.findIdx?_eq_some_iff_getElem]at h;obtain⟨hi,h1,_⟩:=h;exact⟨_,auM hi,by simpa using h1⟩
theorem xP {v:Vs}{s:ay}(h:dA v s=none):∀ x∈v.b.list,x.name≠s:=by
 unfold dA at h;rw[List.findIdx?_eq_none_iff]at h;intro x hx;have:=h x hx;simpa using this
theorem Rl {v u:Vs}(h:u.b.list=v.b.list)(s:ay):dA u s=dA v s:=by unfold dA;rw[h]
theorem IL {v:Vs}(h:jY v){T:Tr}(hn:iH (ar T)){recs:List ay}(hr:bG v (ar T)<=dt v):jY { v with T:=T,recs:=recs }:=
 ⟨h.many,h.next,h.eight,h.planes,h.list,h.clear,h.snaps,h.here,h.nodes,hn,hr⟩
def dP (rd:Rd)(blocks num half:Nat)(T:Tr):Vs:=⟨rd,blocks,num,⟨⟨0,0⟩,⟨0,0⟩,⟨0,0⟩,1,1,[],[],List.replicate 8 [],[]⟩,T,[],half⟩
theorem xQ (p:Nat):(List.replicate 8 ([]:ay)).getD p []=[]:=by
 rw[List.getD,List.getElem?_replicate];split<;>rfl
theorem MT (rd:Rd)(blocks num half:Nat)(T:Tr):dt (dP rd blocks num half T)=blocks-1:=by
 unfold dt dP kV;simp only;rw[List.filter_eq_self.2,List.length_range'];intro n _;have:¬ ai (cW (List.replicate 8 [])) n=true:=by
  rw[pp (by simp)];rintro⟨p,_,hp⟩;rw[xQ]at hp;cases hp
 simpa using this
theorem MV {b:Nat}(h:b<=4096):aT b<=b/240+2:=by
 unfold aT;have h1:bN b 240<=b/240+1:=(aL (by decide)).2 (by omega);have h2:bN b 240<=18:=(aL (by decide)).2 (by omega);rcases aN b with⟨_,e⟩|⟨_,_,e⟩|⟨_,_,e⟩|⟨_,e⟩<;>rw[e]<;>simp only[auK,List.sum_nil]<;>omega
theorem xR (rd:Rd){blocks:Nat}(num half:Nat)(T:Tr)(hb:32<=blocks/\blocks<=4096)(hn:iH (ar T))(h1:(ar T).length=1)(hd:∀ x∈ar T,x.data.length<=240):mN (dP rd blocks num half T):=by
 have uF:bG (dP rd blocks num half T) (ar T)+bK (dP rd blocks num half T)+1<=dt (dP rd blocks num half T):=by
  rw[MT];unfold bG bK;have e1:((ar T).map fun x=>dd (cH (dP rd blocks num half T).b.nodes x.num) x.data).sum<=1:=by
   have:=Xd (l:=ar T) (f:=fun x=>dd (cH (dP rd blocks num half T).b.nodes x.num) x.data) (k:=1) fun x hx=>auI (gD _ _) (mO (hd x hx));omega
  have e2:(if ar T=(dP rd blocks num half T).b.nodes then 0 else aT (2+12*(ar T).length))<=1:=by
   split
   ·omega
   ·exact mO (by omega)
  have e3:aT (dP rd blocks num half T).blocks<=blocks/240+2:=MV hb.2;have e4:blocks<240->aT blocks<=1:=fun h=>mO (by omega);have e5:(dP rd blocks num half T).blocks=blocks:=rfl;rw[e5]at e3 ⊢;omega
 refine⟨hb,⟨auP _,by show 1<=blocks;omega⟩,by simp[dP],?_,?_,fun x hx=>by simp[dP]at hx,?_,?_,hn,?_⟩
 ·intro p _;show ga ((List.replicate 8 []).getD p [])/\∀ n,ai ((List.replicate 8 []).getD p []) n=true->_;rw[xQ];exact⟨by simp[ga],fun n hn=>by cases hn⟩
 ·exact⟨by simp[dP],fun x hx=>by simp[dP]at hx,by simp[dP],fun x hx=>by simp[dP]at hx,by simp[dP],by simp[dP],fun x hx=>by simp[dP]at hx,by simp[dP]⟩
 ·refine⟨fun _=>False,fun _=>False,fun _=>False,[],[],[],fun _ h=>h,jg rd,?_,jg rd,by simp,?_,?_,fun _ h=>h.elim,.inr uF⟩
  ·intro he;have:ar T=[]:=he;rw[this]at h1;cases h1
  ·intro n;show ai ((List.replicate 8 []).getD 0 []) n=true↔_;rw[xQ];simp[gI]
  ·rintro n (h|h)
   ·exact h.elim
   ·cases h
 ·exact⟨by simp[dP],rfl,fun x hx=>by simp[dP]at hx,fun x hx=>by simp[dP]at hx⟩
 ·show bG _ _<=_;have:=uF;have e:(dP rd blocks num half T).T=T:=rfl;rw[e];omega
section
open Go.RowKit
attribute [local go_sem] auG
structure ei (w:World)(p:Nat)(v:Vs)(a:eV)(u:Vs)(a':eV)(w':World):Prop where
 at_:lp w' p u a'
 role:a'.role=a.role
 foot:∀ g,a'.foot p g->a.foot p g\/w.heap.size<=g
 mod:ah (a.foot p) w w'
 still:fG (fun b=>a.role b≠.none) w w'
 text:a.text=ge v.b->a'.text=ge u.b
theorem ei.refl {w:World}{p:Nat}{v:Vs}{a:eV}(h:lp w p v a):ei w p v a v a w:=⟨h,rfl,fun _ h=>.inl h,ah.refl _ _,fun _ _ _=>rfl,id⟩
theorem ei.keep {w w1 w2:World}{p:Nat}{v u:Vs}{a a':eV}(h:ei w p v a u a' w1)(k:af w1 w2):ei w p v a u a' w2:=
 ⟨h.at_.keep k,h.role,h.foot,h.mod.trans (k.mono (T:=a.foot p) (fun _ _ h=>h.elim)) (fun _ _ h=>h),fun b hb hl=>(k.block b (auW hl h.mod.size) id).trans (h.still b hb hl),h.text⟩
theorem ei.trans {w w1 w2:World}{p:Nat}{v u x:Vs}{a a1 a2:eV}(h:ei w p v a u a1 w1)(k:ei w1 p u a1 x a2 w2):ei w p v a x a2 w2:=
 ⟨k.at_,k.role.trans h.role,fun g hg=>(k.foot g hg).elim (h.foot g) (fun h1=>.inr (auI h.mod.size h1)),h.mod.trans k.mod fun g hl hs=>(h.foot g hs).elim id (fun h1=>absurd h1 (by omega)),
  fun b hb hl=>(k.still b (by rw[h.role];exact hb) (auW hl h.mod.size)).trans (h.still b hb hl),fun e=>k.text (h.text e)⟩
theorem ei.ahead {w0 w w1:World}{p:Nat}{u v:Vs}{a a1:eV}(k:af w0 w)(h:ei w p v a u a1 w1):ei w0 p v a u a1 w1:=
 ⟨h.at_,h.role,fun g hg=>(h.foot g hg).imp id (fun h1=>auI k.size h1),(k.mono (T:=a.foot p) (fun _ _ h=>h.elim)).trans h.mod (fun _ _ h=>h),fun b hb hl=>(h.still b hb (auW hl k.size)).trans (k.block b hl id),h.text⟩
theorem Vr {v:Vs}(h:mN v):∀ k,ai (cW v.b.planes) k=true->1<=k/\k<v.blocks:=by
 intro k hk;rw[pp h.eight]at hk;obtain⟨p,hp,hq⟩:=hk;exact(h.planes p hp).2 k hq
theorem tI {w:World}{p:Nat}{v:Vs}{a:eV}(h:lp w p v a):Ao w p v a a.sv v.b.list:=
 ⟨h,h.list,fun g hg=>(h.stays g (.inr (.inr (.inr (.inl hg))))) ⟩
theorem uv {w:World}{p:Nat}{v:Vs}{a:eV}{lv:Value}{list:List Sn}(h:Ao w p v a lv list){more:ay}(hv:mN v)(hm:fL v list more)(hid:v.b.id<=1099511627777)(dC:v.num<1099511627776):
  Calls prog 64 #[aq p,lv,aB more] w fun e w'=>e=.returned (.int .i64 0)/\∃ u a',bC v list more=.ok u/\a'.text=ge u.b/\ei w p v a u a' w':=by
 obtain⟨r,hr⟩:=Er hv hm;refine(IA h hr hv hm hid dC).mono ?_;rintro e w' ⟨rfl,a',h1,h2,h3,h4⟩;exact⟨rfl,_,a',hr.run,h2.1,h1,h2.2,h3,h4.mono (fun g _ h=>by rcases h with h|h|h;exact .inl h;exact .inr (.inl h);exact .inr (.inr (.inl h))),fun b hb hl=>h4.block b hl (fun hh=>by
  have hs:=h.st.stays b (.inr (.inl hb));rcases hh with hh|hh|hh
  ·exact hs.2.2 hh
  ·exact hs.1 hh
  ·exact hs.2.1 hh),fun _=>h2.1⟩
theorem kq {w:World}{p:Nat}{v:Vs}{a:eV}{lv:Value}{list:List Sn}(h:Ao w p v a lv list){more:ay}(hv:mN v)(hm:fL v list more)(hid:v.b.id<=1099511627777)(dC:v.num<1099511627776):
  Calls prog 64 #[aq p,lv,aB more] w fun e w'=>e=.returned (.int .i64 0)/\∃ u a',bC v list more=.ok u/\ei w p v a u a' w':=by
 refine(uv h hv hm hid dC).mono ?_;rintro e w' ⟨rfl,u,a',h1,_,h2⟩;exact⟨rfl,u,a',h1,h2⟩
end
section
open Go.RowKit
attribute [local go_sem] auG
theorem ei.tree {w w':World}{p:Nat}{v u:Vs}{a a':eV}(k:ei w p v a u a' w'){q tb:Nat}{A M:Int->Nat}{role:Nat->cV}{T:Tr}(ht:aJ w q T tb A M role)(nW:∀ b,role b≠.none->a.role b≠.none\/¬ a.foot p b):aJ w' q T tb A M role:=
 ht.same (fun b hb hl=>(nW b hb).elim (fun h1=>k.still b h1 hl) (fun h1=>k.mod.block b hl h1)) k.mod.size
theorem As {v:Vs}(hb:v.blocks<=4096){l:List Nt}(h:xO l):bG v l<=7000:=by
 have h1:=tH v.b.nodes l h.data;have h2:bK v<=100:=fM (by omega);have h3:=h.many;have h4:(if l=v.b.nodes then 0 else aT (2+12*l.length))<=100:=by
  split
  ·omega
  ·exact fM (by omega)
 show bK v+1+gU v.b.nodes l+_<=_;omega
theorem xS {v:Vs}(hb:v.blocks<=4096)(kind:Int):cT v kind<=300:=by
 have h2:bK v<=100:=fM (by omega);unfold cT;split
 ·omega
 ·split<;>omega
theorem EO {v:Vs}(hb:v.blocks<=4096):dt v<=4096:=by
 unfold dt kV;refine auI (auX _ _) ?_;rw[List.length_range'];omega
structure px (w:World)(p:Nat)(v:Vs)(a:eV)(q:Nat)(T:Tr):Prop where
 vol:lp w p v a
 ready:mN v
 tree:∃(tb:Nat) (A M:Int->Nat) (role:Nat->cV) (d:Int->Nat),aJ w q T tb A M role/\WF T d
 nodes:kp (ar T)
theorem px.keep {w w':World}{p:Nat}{v:Vs}{a:eV}{q:Nat}{T:Tr}(h:px w p v a q T)(k:af w w'):px w' p v a q T:=by
 obtain⟨tb,A,M,role,d,ht,hw⟩:=h.tree;exact⟨h.vol.keep k,h.ready,⟨tb,A,M,role,d,ht.keep k,hw⟩,h.nodes⟩
theorem px.needs {w:World}{p:Nat}{v:Vs}{a:eV}{q:Nat}{T:Tr}(h:px w p v a q T):Calls prog 144 #[aq p,aq q] w fun e w'=>e=.returned (.int .i64 ((bG v (ar T):Nat):Int))/\af w w':=by
 obtain⟨tb,A,M,role,d,ht,hw⟩:=h.tree;exact MR h.vol h.ready.many.2 ht hw (qa h.ready.nodes) (qa h.nodes)
theorem px.spares {w:World}{p:Nat}{v:Vs}{a:eV}{q:Nat}{T:Tr}(h:px w p v a q T)(kind:Int):Calls prog 145 #[aq p,.int .i64 kind] w fun e w'=>e=.returned (.int .i64 ((cT v kind:Nat):Int))/\af w w':=
 II h.vol h.ready.many.2 kind
theorem px.free {w:World}{p:Nat}{v:Vs}{a:eV}{q:Nat}{T:Tr}(h:px w p v a q T):Calls prog 146 #[aq p] w fun e w'=>e=.returned (.int .i64 ((dt v:Nat):Int))/\af w w':=
 MQ h.vol (by have:=h.ready.many;omega) (by have:=EG h.ready;omega) (Vr h.ready)
theorem MW {w:World}{p:Nat}{v:Vs}{a:eV}(h:lp w p v a)(hg:jY v)(hid:v.b.id<=1099511627777)(dC:v.num<1099511627776){q tb:Nat}{A M:Int->Nat}{role:Nat->cV}{T:Tr}{d:Int->Nat}(ht:aJ w q T tb A M role)(hw:WF T d)(hn:kp (ar T))(nW:∀ b,role b≠.none->a.role b≠.none\/¬ a.foot p b)(kind:Int):
  Calls prog 65 #[aq p,aq q,.int .i64 kind] w fun e w'=>∃ b u a',pa v T kind=.ok (b,u)/\e=.returned (.int .i64 (if b=true then 0 else 151))/\ei w p v a u a' w':=by
 have HF:=hd0 (px.mk h hg.ready ⟨tb,A,M,role,d,ht,hw⟩ hn);have H:=hd0 h;have HG:=hd0 hg;have HT:=hd0 (And.intro ht nW);have HWF:=hd0 hw;have HN:=hd0 hn;have HI:=hd0 (And.intro hid dC);have hb:=hg.many.2;have n1:((bG v (ar T):Nat):Int)<=7000:=by have:=As hb (qa hn);omega
 have n2:((cT v kind:Nat):Int)<=300:=by have:=xS hb kind;omega
 have n3:((dt v:Nat):Int)<=4096:=by have:=EO hb;omega
 have N1:=hd0 HF.out.needs;have HFT:Hid (pa v T kind=if bG v (ar T)+cT v kind<=dt v then .ok (true,v)else
  (if ar v.T=v.b.nodes then .ok v else bC v v.b.list []).map fun u=>(decide (bG u (ar T)+cT u kind<=dt u),u)):=hd0 rfl
 clear h hg hid dC ht hw hn nW hb;go_enter func65,ntmps65;go_wp2_with fail;refine N1.out.mono ?_;rintro e w1 ⟨rfl,k1⟩;have bS:=hd0 k1;have N2:=hd0 ((HF.out.keep k1).spares kind);clear k1 N1;go_wp2_with fail;refine N2.out.mono ?_;rintro e w2 ⟨rfl,k2⟩;have bw:=hd0 (bS.out.keep k2);have N3:=hd0 (HF.out.keep bw.out).free;clear k2 N2 bS;go_wp2_with fail;refine N3.out.mono ?_;rintro e w3 ⟨rfl,k3⟩;have dJ:=hd0 (bw.out.keep k3);clear k3 N3 bw;by_cases hq:bG v (ar T)+cT v kind<=dt v
 ·have Yv:((bG v (ar T):Nat):Int)+((cT v kind:Nat):Int)<=((dt v:Nat):Int):=by omega
  have HR:Hid (pa v T kind=.ok (true,v)):=hd0 (by rw[HFT.out,auT hq]);clear hq;go_wp2;go_ret;exact⟨true,v,a,HR.out,rfl,(ei.refl H.out).keep dJ.out⟩
 ·have Yv:¬((bG v (ar T):Nat):Int)+((cT v kind:Nat):Int)<=((dt v:Nat):Int):=by omega
  have HR:Hid (pa v T kind=(if ar v.T=v.b.nodes then .ok v else bC v v.b.list []).map fun u=>(decide (bG u (ar T)+cT u kind<=dt u),u)):=hd0 (by rw[HFT.out,auV hq]);clear hq HFT
  go_upto_region 3 with fail
  clear n1 n2 n3 Yv;obtain⟨bq,hbq⟩:∃ bq,decide (ar v.T=v.b.nodes)=bq:=⟨_,rfl⟩
  have Hbq:=hd0 hbq;clear hbq;have T3:=hd0 (H.out.keep dJ.out);go_cut [29]from 8 to 49 (fun x wx=>x=.bool (!bq)/\af w3 wx)
  case first=>
   have NO:Hid (∀ W,af w3 W->Calls prog 125 #[aq a.pt] W fun e w'=>∃(sa:Option Addr) (cap:Nat),e=.returned (.slice sa (ar v.T).length cap)/\ko gF 4 w' (.slice sa (ar v.T).length cap) (ar v.T)/\af W w'):=hd0 (fun W k=>by
    obtain⟨tb,A,M,ht⟩:=T3.out.tree;obtain⟨d,hw⟩:=T3.out.wf;refine(tv (ht.keep k) hw).mono ?_;rintro e w' ⟨x,rfl,ho,k'⟩;obtain⟨sa,cap,rfl,hx⟩:=bY fW ho;exact⟨sa,cap,rfl,⟨sa,cap,rfl,hx⟩,k'⟩)
   obtain⟨na,Fq,env,sJ⟩:=bY fW T3.out.nodes;have HXN:Hid (ko gF 4 w3 (.slice na v.b.nodes.length Fq) v.b.nodes):=hd0 ⟨na,Fq,rfl,sJ⟩;have c14:w3.cell? ⟨p,14,none⟩=some (aq a.pt):=aa T3.out.own 14;have c13:w3.cell? ⟨p,13,none⟩=some (.slice na v.b.nodes.length Fq):=by rw[<-env];exact aa T3.out.own 13
   have j8:=ak T3.out.own;have VC:Hid (∀ W,af w3 W->W.cell? ⟨p,13,none⟩=some (.slice na v.b.nodes.length Fq)):=hd0 (fun W k=>(k.cell (p:=⟨p,13,none⟩) j8 id).trans c13);have HLN:Hid ((ar v.T).length<=1000000/\v.b.nodes.length<=1000000):=hd0 ⟨by have:=HG.out.told.tokp.many;omega,by have:=HG.out.nodes.many;omega⟩;clear env sJ j8
   go_region_with (first
    |(go_at_call 125;refine auY (NO.out _ ((ah.refl _ w3).drew)) ?_;rintro e wN ⟨sa,cap,rfl,hr,kN⟩;have HKN:=hd0 (((ah.refl (fun _=>False) w3).drew).keep kN);have HRN:=hd0 hr;have d13:=VC.out _ HKN.out;clear hr kN)
    |(go_at_call 147;refine auY (uu _ _ _ _ _ HRN.out (eZ HXN.out HKN.out) HLN.out.1 HLN.out.2) ?_;rintro e wE ⟨rfl,kE⟩;have Cw:=hd0 (HKN.out.keep kE);rw[Hbq.out];clear kE))
   all_goals (go_wp2_with fail;go_meet)
   all_goals (case rel=>exact⟨rfl,Cw.out⟩)
  case rest=>
   obtain⟨rfl,hkc⟩:=hcut;have Jp:=hd0 (dJ.out.keep hkc);clear hkc dJ T3
   go_upto_if 29 with fail
   go_cut []from 8 to 49 (fun wx=>∃ u a',(if ar v.T=v.b.nodes then .ok v else bC v v.b.list [])=.ok u/\jY u/\ei w p v a u a' wx)
   case first=>
    cases bq with
    |true=>
     have he:ar v.T=v.b.nodes:=of_decide_eq_true Hbq.out;have HE:Hid ((if ar v.T=v.b.nodes then .ok v else bC v v.b.list [])=.ok v):=hd0 (auT he);clear he;go_wp2_with fail;go_meet
     case rel=>exact⟨v,a,HE.out,HG.out,(ei.refl H.out).keep Jp.out⟩
    |false=>
     have he:¬ ar v.T=v.b.nodes:=of_decide_eq_false Hbq.out;have HE:Hid ((if ar v.T=v.b.nodes then .ok v else bC v v.b.list [])=bC v v.b.list []):=hd0 (auV he);have HVC:=hd0 (H.out.keep Jp.out);have YL:wc.cell? ⟨p,11,none⟩=some a.sv:=aa HVC.out.own 11;have PO:=hd0 (kq (tI HVC.out) HG.out.ready (nO v) HI.out.1 HI.out.2);clear he;go_wp2_with fail;refine PO.out.mono ?_;rintro e wP ⟨rfl,u,a',hu,gW⟩;have HU:Hid (jY u):=hd0 (by
      obtain⟨u',h1,h2,_⟩:=ip HG.out;rw[h1]at hu;injection hu with hu;rw[<-hu];exact h2.good)
     have HPT:=hd0 hu;have ze:=hd0 (ei.ahead Jp.out gW);clear hu gW PO YL;go_wp2_with fail;go_meet
     case rel=>exact⟨u,a',HE.out.trans HPT.out,HU.out,ze.out⟩
   case rest=>
    obtain⟨u,a',hu,hgu,gW⟩:=hcut;have rz:Hid (pa v T kind=.ok (decide (bG u (ar T)+cT u kind<=dt u),u)):=hd0 (by rw[HR.out,hu];rfl);have Sh:Hid (px wc p u a' q T):=hd0 ⟨gW.at_,hgu.ready,⟨tb,A,M,role,d,gW.tree HT.out.1 HT.out.2,HWF.out⟩,HN.out⟩;have hb:=hgu.many.2;have n1:((bG u (ar T):Nat):Int)<=7000:=by have:=As hb (qa HN.out);omega
    have n2:((cT u kind:Nat):Int)<=300:=by have:=xS hb kind;omega
    have n3:((dt u:Nat):Int)<=4096:=by have:=EO hb;omega
    have ze:=hd0 gW;have N1:=hd0 Sh.out.needs;clear hu hgu gW hb Jp HF HR;go_wp2_with fail;refine N1.out.mono ?_;rintro e w4 ⟨rfl,k1⟩;have bS:=hd0 k1;have N2:=hd0 ((Sh.out.keep k1).spares kind);clear k1 N1;go_wp2_with fail;refine N2.out.mono ?_;rintro e w5 ⟨rfl,k2⟩;have bw:=hd0 (bS.out.keep k2);have N3:=hd0 (Sh.out.keep bw.out).free;clear k2 N2 bS;go_wp2_with fail;refine N3.out.mono ?_;rintro e w6 ⟨rfl,k3⟩;have dJ:=hd0 (bw.out.keep k3);clear k3 N3 bw;by_cases hq:bG u (ar T)+cT u kind<=dt u
    ·have Yv:((bG u (ar T):Nat):Int)+((cT u kind:Nat):Int)<=((dt u:Nat):Int):=by omega
     rw[decide_eq_true hq]at rz;clear hq;go_wp2;go_ret;exact⟨true,u,a',rz.out,rfl,ze.out.keep dJ.out⟩
    ·have Yv:¬((bG u (ar T):Nat):Int)+((cT u kind:Nat):Int)<=((dt u:Nat):Int):=by omega
     rw[auU hq]at rz;clear hq;go_wp2;go_ret;exact⟨false,u,a',rz.out,rfl,ze.out.keep dJ.out⟩
end
end Go.Proofs.YtkghpdcloaiflaaGreatDoor
