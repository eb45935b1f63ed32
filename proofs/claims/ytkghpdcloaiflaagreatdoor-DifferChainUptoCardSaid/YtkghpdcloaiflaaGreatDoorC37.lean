import Derived.Test.YtkghpdcloaiflaaGreatDoorC35
import Derived.Test.YtkghpdcloaiflaaGreatDoorC36
set_option maxHeartbeats 4000000
set_option maxRecDepth 100000
namespace Go.Proofs.YtkghpdcloaiflaaGreatDoor
open _root_.Go.Proofs.Tryz
section
open Go.RowKit Go.Maps
attribute [local go_sem] atC
structure xz (l:List Nt):Prop where
 many:l.length<=60
 nums:∀ x∈l,0<=x.num/\x.num<=65535
 data:∀ x∈l,x.data.length<=16384
theorem pN {l:List Nt}(h:jZ l):xz l:=⟨h.many,fun x hx=>by have:=i7 h.nums x hx;omega,h.data⟩
theorem If {l:List Nt}(h:xz l)(k:Int):(cF l k).length<=16384:=by
 unfold cF
 cases hl:(l.filter fun x=>x.num==k).getLast? with
 |none=>simp
 |some x=>
  have:=List.mem_of_getLast? hl;exact h.data x (atD.1 this).1
def gM (old l:List Nt):Nat:=(l.map fun x=>da (cF old x.num) x.data).sum
theorem tg (old l:List Nt)(h:∀ x∈l,x.data.length<=16384):gM old l<=100*l.length:=by
 unfold gM
 induction l with
 |nil=>simp
 |cons x r ih=>
  have h1:=ih fun y hy=>h y (by simp[hy]);have h2:=atE (gt (cF old x.num) x.data) (fH (h x (by simp)));simp only[atF,atG,atH];omega
theorem Mp {w:World}{p:Nat}{v:Vs}{a:eX}(h:ls w p v a)(hb:v.blocks<=4096){q tb:Nat}{A M:Int->Nat}{role:Nat->cU}{T:Tr}{d:Int->Nat}(ht:aI w q T tb A M role)(hw:WF T d)(h1:xz v.b.nodes)(h2:xz (ar T)):
  Calls prog 144 #[aq p,aq q] w fun e w'=>e=.returned (.int .i64 ((bF v (ar T):Nat):Int))/\af w w':=by
 have It:=@run_makeMap prog;have hfd:∀(x0 x1 x2 x3:Value) (W:World),(Instr.field 221 (.agg #[x0,x1,x2,x3]) 3).run prog W=.ok x3 W:=fun _ _ _ _ _=>by kernel_rfl
 have H:=hd0 h;have HT:=hd0 ht;have HW:=hd0 hw;have EH:=hd0 hb;have N1:=hd0 h1;have N2:=hd0 h2;have dA:af w (w.alloc (.map #[] 0)):=(ah.refl _ w).alloc _;have HM0:Hid (QN (w.alloc (.map #[] 0)) w.heap.size []):=hd0 (fg.made w);have dN:=hd0 dA;obtain⟨mb,yU⟩:∃ mb,w.heap.size=mb:=⟨_,rfl⟩
 have Hmb:=hd0 yU;obtain⟨an,cap,ev,hx⟩:=cf fP h.nodes;have HX:=hd0 hx;have v13:(w.alloc (.map #[] 0)).cell? ⟨p,13,none⟩=some (.slice an v.b.nodes.length cap):=by rw[<-ev];exact aa (h.keep dA).own 13
 have Fw:(v.b.nodes.length:Int)<=60:=by have:=h1.many;omega
 have HE:Hid (bF v (ar T)=bL v+1+gM v.b.nodes (ar T)+(if ar T=v.b.nodes then 0 else aQ (2+12*(ar T).length))):=hd0 rfl;clear h ht hw hb h1 h2 dA hx;rw[yU]at HM0;go_enter func144,ntmps144;go_wp2_with fail
 try rw[yU]
 generalize w.alloc (.map #[] 0)=W at*
 go_loopw [21] (fun i wr=>∃ k:Nat,k<=v.b.nodes.length/\i=.int .i64 (k:Int)/\Hid (QN wr mb (pa (v.b.nodes.take k)))/\Hid (af w wr)) (fun i _=>v.b.nodes.length-(intOf i).toNat)
 case atStart=>exact⟨0,by omega,rfl,HM0,dN⟩
 case round=>
  clear HM0 dN v13;obtain⟨k,hk,rfl,HB,HK⟩:=hrel;by_cases aM:k<v.b.nodes.length
  ·have dS:(k:Int)<(v.b.nodes.length:Int):=by omega
   obtain⟨y,hy⟩:∃ y,v.b.nodes[k]?=some y:=⟨_,atI aM⟩
   obtain⟨rb,o,rfl,hc⟩:=HX.out k y hy;have c0:wr.cell? ⟨rb,o+k*4,none⟩=some (.int .i64 y.num):=by have h:=hc 0 _ rfl;rw[HK.out.cell (p:=⟨rb,o+k*4,none⟩) (am h) id];exact h
   have c1:wr.cell? ⟨rb,o+k*4+1,none⟩=some (.bool y.dir):=by have h:=hc 1 _ rfl;rw[HK.out.cell (p:=⟨rb,o+k*4+1,none⟩) (am h) id];exact h
   have c2:wr.cell? ⟨rb,o+k*4+2,none⟩=some (.int .i64 y.links):=by have h:=hc 2 _ rfl;rw[HK.out.cell (p:=⟨rb,o+k*4+2,none⟩) (am h) id];exact h
   have c3:wr.cell? ⟨rb,o+k*4+3,none⟩=some (.string ⟨y.data.toArray⟩):=by have h:=hc 3 _ rfl;rw[HK.out.cell (p:=⟨rb,o+k*4+3,none⟩) (am h) id];exact h
   have hyn:=N1.out.nums y (atJ hy);have qY:af wr (wr.alloc (.cells (gx y).toArray 221)):=(ah.refl _ wr).alloc _;obtain⟨w2,bh,gO,de,cA⟩:=(HB.out.mod qY id).store QM underlying295 underlying3 y.num (by omega) y trivial (by have h1:=Mn (v.b.nodes.take k);have h2:=N1.out.many;have h3:(v.b.nodes.take k).length<=v.b.nodes.length:=List.length_take_le' _ _;omega);have hws:ee jQ y.num y (pa (v.b.nodes.take k))=pa (v.b.nodes.take (k+1)):=by rw[atK,hy];exact(qL _ _).symm
   rw[hws]at gO;have lU:=hd0 gO;have bu:Hid (af w w2):=hd0 ((HK.out.keep qY).new de (by rw[Hmb.out];exact atL _));unfold kY gx at bh;clear hws gO de hc hyn qY hy;go_wp2_with fail;exact⟨⟨k+1,by omega,by go_num,lU,bu⟩,by simp[intOf];omega⟩
  ·obtain rfl:k=v.b.nodes.length:=by omega
   rw[atM]at HB;have NO:=hd0 (sU (HT.out.keep HK.out) HW.out);clear aM hk;go_wp2_with fail;refine NO.out.mono ?_;rintro e w1 ⟨nv,rfl,ho,k1⟩;have bU:=hd0 (HK.out.keep k1);have jd:=hd0 (HB.out.mod k1 id);obtain⟨bn,ZE,rfl,sj⟩:=cf fP ho;have HO:=hd0 (z8 (H.out.keep bU.out) EH.out);have HXN:=hd0 sj;have hh:bL v<=100:=fH (by have:=EH.out;omega);have hhi:(bL v:Int)<=100:=by omega
   have HH:=hd0 hh;clear ho sj k1 NO HK HB hh;go_wp2_with fail;refine HO.out.mono ?_;rintro e w2 ⟨rfl,k2⟩;have bu:=hd0 (bU.out.keep k2);have lU:=hd0 (jd.out.mod k2 id);have rj:Hid (jY gx 4 w2 (.slice bn (ar T).length ZE) (ar T)):=hd0 (eO ⟨bn,ZE,rfl,HXN.out⟩ k2);have hni:((ar T).length:Int)<=60:=by have:=N2.out.many;omega
   clear k2 jd HXN HO bU;go_wp2_with fail
   go_loopw [37,9] (fun i s wr=>∃ k:Nat,k<=(ar T).length/\i=.int .i64 (k:Int)/\s=.int .i64 ((bL v+1+gM v.b.nodes ((ar T).take k):Nat):Int)/\Hid (QN wr mb (pa v.b.nodes))/\Hid (af w2 wr)) (fun i _ _=>(ar T).length-(intOf i).toNat)
   case atStart=>exact⟨0,by omega,rfl,by simp[gM];try go_num,lU,hd0 (ah.refl _ _)⟩
   case round=>
    clear lU;obtain⟨k,hk,rfl,rfl,HB,HK⟩:=hrel;by_cases aM:k<(ar T).length
    ·have dS:(k:Int)<((ar T).length:Int):=by omega
     obtain⟨x,hx⟩:∃ x,(ar T)[k]?=some x:=⟨_,atI aM⟩
     obtain⟨an',Vq,en',WO⟩:=rj.out;injection en' with ea1 ea2 ea3;subst ea1 ea3;obtain⟨rb,o,rfl,hc⟩:=WO k x hx;have c0:wr.cell? ⟨rb,o+k*4,none⟩=some (.int .i64 x.num):=by have h:=hc 0 _ rfl;rw[HK.out.cell (p:=⟨rb,o+k*4,none⟩) (am h) id];exact h
     have c1:wr.cell? ⟨rb,o+k*4+1,none⟩=some (.bool x.dir):=by have h:=hc 1 _ rfl;rw[HK.out.cell (p:=⟨rb,o+k*4+1,none⟩) (am h) id];exact h
     have c2:wr.cell? ⟨rb,o+k*4+2,none⟩=some (.int .i64 x.links):=by have h:=hc 2 _ rfl;rw[HK.out.cell (p:=⟨rb,o+k*4+2,none⟩) (am h) id];exact h
     have c3:wr.cell? ⟨rb,o+k*4+3,none⟩=some (.string ⟨x.data.toArray⟩):=by have h:=hc 3 _ rfl;rw[HK.out.cell (p:=⟨rb,o+k*4+3,none⟩) (am h) id];exact h
     have sj:=N2.out.nums x (atJ hx);have mT:=N2.out.data x (atJ hx);have qY:af wr (wr.alloc (.cells #[.int .i64 x.num,.bool x.dir,.int .i64 x.links,.string ⟨x.data.toArray⟩] 221)):=(ah.refl _ wr).alloc _;have Al:=(HB.out.mod qY id).look1 QM underlying295 underlying3 x.num (by omega);unfold kY at Al;rw[Mm]at Al;have CO:=hd0 (QK (cF v.b.nodes x.num) x.data (If N1.out _) mT (wr.alloc (.cells #[.int .i64 x.num,.bool x.dir,.int .i64 x.links,.string ⟨x.data.toArray⟩] 221)));have HBa:=hd0 (HB.out.mod qY id);have BB:=hd0 (HK.out.keep qY);have hco:=atE (gt (cF v.b.nodes x.num) x.data) (fH mT);have hct:gM v.b.nodes ((ar T).take (k+1))=gM v.b.nodes ((ar T).take k)+da (cF v.b.nodes x.num) x.data:=by unfold gM;rw[atK,hx];simp
     have sr:=tg v.b.nodes ((ar T).take k) (fun y hy=>N2.out.data y (atN hy));rw[atO]at sr;have hci:((bL v+1+gM v.b.nodes ((ar T).take k):Nat):Int)<=7000:=by have:=N2.out.many;have:=HH.out;omega
     have BO:((da (cF v.b.nodes x.num) x.data:Nat):Int)<=100:=by omega
     have HCT:Hid (bL v+1+gM v.b.nodes ((ar T).take (k+1))=(bL v+1+gM v.b.nodes ((ar T).take k))+da (cF v.b.nodes x.num) x.data):=hd0 (by omega);clear hct sr hco sj mT hc hx WO HB HK qY;generalize bL v+1+gM v.b.nodes ((ar T).take k)=sm at*;go_wp2_with fail;refine CO.out.mono ?_;rintro e w3 ⟨rfl,k3⟩;have nW:=hd0 (HBa.out.mod k3 id);have dT:=hd0 (BB.out.keep k3);clear k3 CO Al;go_wp2_with fail;exact⟨⟨k+1,by omega,by go_num,by rw[HCT.out];go_num,nW,dT⟩,by simp[intOf];omega⟩
    ·obtain nH:k=(ar T).length:=by omega
     subst nH;rw[atM];have HKe:=hd0 (bu.out.keep HK.out);have hx:=(H.out.keep HKe.out)
     obtain⟨an2,U2,ev2,uW⟩:=cf fP hx.nodes;have c13:wr.cell? ⟨p,13,none⟩=some (.slice an2 v.b.nodes.length U2):=by rw[<-ev2];exact aa hx.own 13
     have EQ:=hd0 (uc (.slice bn (ar T).length ZE) (.slice an2 v.b.nodes.length U2) (ar T) v.b.nodes wr (eO rj.out HK.out) ⟨an2,U2,rfl,uW⟩ (by omega) (by omega));have sr:=tg v.b.nodes (ar T) (fun y hy=>N2.out.data y hy);have hci:((bL v+1+gM v.b.nodes (ar T):Nat):Int)<=7000:=by have:=N2.out.many;have:=HH.out;omega
     have Ol:=HE;generalize bL v+1+gM v.b.nodes (ar T)=sm at*;clear hx ev2 uW sr HB aM hk;go_wp2_with fail;refine EQ.out.mono ?_;rintro e w4 ⟨rfl,k4⟩;have lw:=hd0 (HKe.out.keep k4);clear k4 EQ c13;by_cases hq:ar T=v.b.nodes
     ·have hd:decide (ar T=v.b.nodes)=true:=decide_eq_true hq;rw[hd];have HF:Hid (bF v (ar T)=sm):=hd0 (by rw[HE.out,atP hq];rfl);clear hq hd HE Ol;go_wp2;go_ret;exact⟨by rw[HF.out];rfl,lw.out⟩
     ·have hd:decide (ar T=v.b.nodes)=false:=atQ hq;rw[hd];have HF:Hid (bF v (ar T)=sm+aQ (2+12*(ar T).length)):=hd0 (by rw[HE.out,atR hq]);have SH:=hd0 (sY (2+12*(ar T).length) w4 (by omega));have hsh:((aQ (2+12*(ar T).length):Nat):Int)<=100:=by have:=fH (b:=2+12*(ar T).length) (by omega);omega
      have WA:(2+12*((ar T).length:Int))=((2+12*(ar T).length:Nat):Int):=by omega
      rw[<-WA]at SH;clear WA;clear hq hd HE Ol;go_wp2_with fail;refine SH.out.mono ?_;rintro e w5 ⟨rfl,k5⟩;have j7:=hd0 (lw.out.keep k5);clear k5 SH;go_wp2;go_ret;exact⟨by rw[HF.out];rfl,j7.out⟩
end
section
open Go.RowKit
attribute [local go_sem] atC
def le (v:Vs)(c:bT):Except Int Tr:=if c.ok=false then .error 1 else od v c
def iA (w:World)(v:Vs)(a:eX)(c:bT)(e:Ending)(w':World):Prop:=
 af w w'/\match le v c with
  | .error x=>e=.returned (.tuple #[.pointer none,.int .i64 x])
  | .ok T=>∃(q tb:Nat) (A M:Int->Nat) (role:Nat->cU) (d:Int->Nat),e=.returned (.tuple #[aq q,.int .i64 0])/\aI w' q T tb A M role/\WF T d/\((T=v.T/\role=a.role)\/∀ b,role b≠.none->w.heap.size<=b)
theorem iA.err {w:World}{v:Vs}{a:eX}{c:bT}{x:Int}{w':World}(h:le v c=.error x)(k:af w w'):iA w v a c (.returned (.tuple #[.pointer none,.int .i64 x])) w':=by
 unfold iA;rw[h];exact⟨k,rfl⟩
theorem iA.here {w:World}{p:Nat}{v:Vs}{a:eX}{c:bT}{w':World}(h:le v c=.ok v.T)(k:af w w')(hv:ls w' p v a):iA w v a c (.returned (.tuple #[aq a.pt,.int .i64 0])) w':=by
 unfold iA;rw[h];obtain⟨tb,A,M,t⟩:=hv.tree;obtain⟨d,hw⟩:=hv.wf;exact⟨k,a.pt,tb,A,M,a.role,d,rfl,t,hw,.inl ⟨rfl,rfl⟩⟩
theorem iA.new {w:World}{v:Vs}{a:eX}{c:bT}{T:Tr}{w':World}{q tb:Nat}{A M:Int->Nat}{role:Nat->cU}{d:Int->Nat}(h:le v c=.ok T)(k:af w w')(ht:aI w' q T tb A M role)(hw:WF T d)(hr:∀ b,role b≠.none->w.heap.size<=b):iA w v a c (.returned (.tuple #[aq q,.int .i64 0])) w':=by
 unfold iA;rw[h];exact⟨k,q,tb,A,M,role,d,rfl,ht,hw,.inr hr⟩
theorem Mq {w:World}{p:Nat}{v:Vs}{a:eX}(h:ls w p v a)(he:tL w)(c:bT)(hc:c.Small)(hl:v.b.list.length<=7)(hid:v.b.id<=1099511627777):
  Calls prog 61 #[aq p,gJ c] w (iA w v a c):=by
 have dA:af w (w.alloc (.cells (bM c) 55)):=(ah.refl _ w).alloc _;have iC:World.blk (w.alloc (.cells (bM c) 55)) w.heap.size (bM c) 55:=aw _ _ _;have PR:=sS c _ (he.keep dA) hc;have HE:=hd0 he;have Hc:=hd0 hc;have H:=hd0 h;have dN:=hd0 dA;have nG:=hd0 iC;have HL:=hd0 hl;have HI:=hd0 hid;have Fw:(v.b.list.length:Int)<=7:=by omega
 have ajl:(v.b.id:Int)<=1099511627777:=by omega
 unfold kV at PR
 cases cC:c.ok with
 |false=>
  rw[cC,atR (by decide)]at PR;have PR:=hd0 PR;have HM:Hid (le v c=.error 1):=hd0 (by unfold le;rw[atP cC]);clear h he hc dA iC hl hid cC;go_enter func61,ntmps61;unfold gJ bM;go_wp2_with fail;refine PR.out.mono ?_;rintro e w1 ⟨rfl,k1⟩;have bU:=hd0 (dN.out.keep k1);clear k1;go_wp2;go_ret2;exact iA.err HM.out bU.out
 |true=>
  rw[cC,atP rfl]at PR;have PR:=hd0 PR;have HX:Hid (le v c=od v c):=hd0 (by unfold le;rw[atR (by rw[cC];decide)]);clear h he hc dA iC hl hid cC;go_enter func61,ntmps61;unfold gJ bM;go_wp2_with fail;refine PR.out.mono ?_;rintro e w1 ⟨rfl,k1⟩;have bU:=hd0 (dN.out.keep k1);have hb1:=ab k1 nG.out id;obtain⟨c0,c1,c2,c3,c4⟩:=cr hb1;have hv1:=H.out.keep bU.out;have d15:w1.cell? ⟨p,15,none⟩=some (.bool false):=aa hv1.own 15;have NM:=hd0 (xy hv1 (by have:=HL.out;omega) c.path);have jd:=hd0 hb1;clear k1 hb1 hv1;go_wp2_with fail;refine NM.out.mono ?_;rintro e w2 ⟨rfl,k2⟩;have bu:=hd0 (bU.out.keep k2);have eS:=ab k2 jd.out id;clear c0 c1 c2 c3 c4 d15;obtain⟨c0,c1,c2,c3,c4⟩:=cr eS;have N7:=H.out.keep bu.out;have JX:=hd0 N7;have lU:=hd0 eS;obtain⟨la,ajz,elv,_⟩:=cf eV N7.list;have d11:w2.cell? ⟨p,11,none⟩=some (.slice la v.b.list.length ajz):=by rw[<-elv];exact aa N7.own 11
  have d9:w2.cell? ⟨p,9,none⟩=some (.int .i64 (v.b.id:Int)):=aa N7.own 9;have d14:w2.cell? ⟨p,14,none⟩=some (aq a.pt):=aa N7.own 14;clear k2 eS N7 elv jd bU dN nG PR NM;by_cases h7:c.kind=7
  ·rw[h7]at c0
   cases hn:dw v c.path with
   |some i=>
    have HM:Hid (le v c=.error 161):=hd0 (by rw[HX.out];unfold od;rw[atP ⟨h7,by rw[hn];rfl⟩]);have hi0:¬(i:Int)<0:=by omega
    clear hn h7;unfold xo;go_wp2;go_ret2;exact iA.err HM.out bu.out
   |none=>
    have ux:¬(c.kind=7/\(dw v c.path).isSome=true):=by rw[hn];simp
    unfold xo;by_cases hq:7<=v.b.list.length
    ·have HM:Hid (le v c=.error 163):=hd0 (by rw[HX.out];unfold od;rw[atR ux,atP ⟨h7,.inl hq⟩]);have XF:(7:Int)<=(v.b.list.length:Int):=by omega
     clear hn ux h7;go_wp2;go_ret2;exact iA.err HM.out bu.out
    ·have XF:¬(7:Int)<=(v.b.list.length:Int):=by omega
     by_cases J0:1099511627777<=v.b.id
     ·have HM:Hid (le v c=.error 163):=hd0 (by rw[HX.out];unfold od;rw[atR ux,atP ⟨h7,.inr J0⟩]);have aiK:(1099511627777:Int)<=(v.b.id:Int):=by omega
      clear hn ux h7;go_wp2;go_ret2;exact iA.err HM.out bu.out
     ·have HM:Hid (le v c=.ok v.T):=hd0 (by rw[HX.out];unfold od;rw[atR ux,atR (fun h=>h.2.elim hq J0),atR (fun h=>by have:=h.1;omega),atP (.inl h7)]);have aiK:(v.b.id:Int)<=1099511627776:=by omega
      have aoX:decide ((1099511627777:Int)<=(v.b.id:Int))=false:=atQ (by omega);clear hn ux h7 J0 ajl;go_wp2;go_ret2;exact iA.here HM.out bu.out JX.out
  ·have b7:(c.kind==7)=false:=by simpa using h7
   have ux:¬(c.kind=7/\(dw v c.path).isSome=true):=fun h=>h7 h.1;have NA:¬(c.kind=7/\(7<=v.b.list.length\/1099511627777<=v.b.id)):=fun h=>h7 h.1;by_cases h8:c.kind=8
   ·rw[h8]at c0
    cases hn:dw v c.path with
    |some i=>
     have HM:Hid (le v c=.ok v.T):=hd0 (by rw[HX.out];unfold od;rw[atR ux,atR NA,atR (fun h=>by rw[hn]at h;cases h.2),atP (.inr h8)]);have hi0:¬(i:Int)<0:=by omega
     clear hn h8 ux NA;unfold xo;go_wp2;go_ret2;exact iA.here HM.out bu.out JX.out
    |none=>
     have HM:Hid (le v c=.error 162):=hd0 (by rw[HX.out];unfold od;rw[atR ux,atR NA,atP ⟨h8,by rw[hn];rfl⟩]);clear hn h8 ux NA;unfold xo;go_wp2;go_ret2;exact iA.err HM.out bu.out
   ·have b8:(c.kind==8)=false:=by simpa using h8
    have ly:Hid (le v c=if(qy v.T c).2=0 then .ok (qy v.T c).1 else .error (qy v.T c).2):=hd0 (by rw[HX.out];unfold od;rw[atR ux,atR NA,atR (fun h=>h8 h.1),atR (fun h=>h.elim h7 h8)]);clear ux NA h7 h8;generalize xo (dw v c.path)=ix;obtain⟨tb,A,M,ht⟩:=JX.out.tree;obtain⟨d,hw⟩:=JX.out.wf;have CL:=hd0 (LU ht hw);have HW:=hd0 hw;clear ht hw;go_wp2_with fail;refine CL.out.mono ?_;rintro e w3 ⟨q,tb2,A2,M2,akC,rfl,Oj,tC,k3⟩;have dT:=hd0 (bu.out.keep k3);have us:=ab k3 lU.out id;clear c0 c1 c2 c3 c4 d11 d9 d14;obtain⟨c0,c1,c2,c3,c4⟩:=cr us;have DO:=hd0 (Yo Oj HW.out (HE.out.keep dT.out) c Hc.out);have rj:=hd0 tC;have Bw:=hd0 bu.out.size;clear k3 us Oj tC CL;unfold gJ bM at DO;go_wp2_with fail;refine DO.out.mono ?_;rintro e w4 ⟨rfl,A',M',jP,ht4,hr4,Ao⟩;have lw:Hid (af w w4):=hd0 (dT.out.trans Ao (fun g hg h=>absurd (rj.out g h) (by have:=Bw.out;omega)));have RT:=hd0 ht4;have HR4:Hid (∀ b,jP b≠.none->w.heap.size<=b):=hd0 (fun b hb=>(hr4 b hb).elim (fun h=>atE Bw.out (rj.out b h)) (fun h=>atE dT.out.size h));clear ht4 hr4 Ao DO c0 c1 c2 c3 c4;by_cases hz:(qy v.T c).2=0
    ·have HM:Hid (le v c=.ok (qy v.T c).1):=hd0 (by rw[ly.out,atP hz]);rw[hz];obtain⟨d',cJ⟩:=Pe HW.out c;have HW':=hd0 cJ;clear hz cJ;go_wp2;go_ret2;exact iA.new HM.out lw.out RT.out HW'.out HR4.out
    ·have HM:Hid (le v c=.error (qy v.T c).2):=hd0 (by rw[ly.out,atR hz]);have bz:((qy v.T c).2==0)=false:=by simpa using hz
     generalize (qy v.T c).2=er at*;clear hz;go_wp2;go_ret2;exact iA.err HM.out lw.out
end
def Bf (v:Vs)(c:bT):Except Int (Int×Vs):=
 if c.ok=false then .ok (1,v)else match od v c with
 | .error e=>.ok (e,v)
 | .ok T=>match (if(c.kind=7\/c.kind=8)\/c.line.length+2<=cG v then .ok v else bB v v.b.list [])with
  | .error e=>.error e
  | .ok v1=>match oQ v1 T c.kind with
   | .error e=>.error e
   | .ok (false,v2)=>.ok (151,v2)
   | .ok (true,v2)=>
    if c.kind=7 then(bB v2 v2.b.list c.path).map fun u=>(0,u)
    else if c.kind=8 then(bB v2 (v2.b.list.eraseIdx ((dw v2 c.path).getD 0)) []).map fun u=>(0,u)
    else if cG v2<c.line.length+2 then .ok (72,v2)
    else .ok (0,{ v2 with T:=T,recs:=v2.recs++[c.line] })
structure iI (v u:Vs):Prop where
 good:ma u
 blocks:u.blocks=v.blocks
 half:u.half=v.half
 T:u.T=v.T
 id:u.b.id=v.b.id
 list:u.b.list=v.b.list
 trees:∀ x∈v.b.list,∀ nodes,qH v x nodes->qH u x nodes
 num:v.num<=u.num
 same:v.num=u.num->u=v
theorem iI.refl {v:Vs}(h:ma v):iI v v:=⟨h,rfl,rfl,rfl,rfl,rfl,fun _ _ _ h=>h,atL _,fun _=>rfl⟩
theorem iI.trans {a b c:Vs}(h:iI a b)(k:iI b c):iI a c:=
 ⟨k.good,k.blocks.trans h.blocks,k.half.trans h.half,k.T.trans h.T,k.id.trans h.id,k.list.trans h.list,fun x hx nodes hn=>k.trees x (by rw[h.list];exact hx) nodes (h.trees x hx nodes hn),atE h.num k.num,
  fun e=>by have h1:=h.num;have h2:=k.num;rw[k.same (by omega),h.same (by omega)]⟩
theorem nB (v:Vs):fG v v.b.list []:=⟨List.Sublist.refl _,.inl rfl⟩
theorem hZ {v:Vs}(h:ma v):∃ u,bB v v.b.list []=.ok u/\iI v u/\u.b.nodes=ar v.T/\u.recs=[]/\u.num=v.num+1:=by
 obtain⟨u,hu⟩:=xk h (nB v);obtain⟨x,_,_,_,hl,_⟩:=hu.sns;exact⟨u,hu.run,⟨hu.good,hu.blocks,hu.half,hu.T,by rw[hu.id,atP rfl],by rw[hl,atP rfl],hu.trees,by have:=hu.num;omega,fun e=>by have:=hu.num;omega⟩,hu.nodes,hu.recs,hu.num⟩
theorem UD {v:Vs}(h:ma v)(T:Tr)(kind:Int):∃ b u,oQ v T kind=.ok (b,u)/\iI v u/\(b=true->bF u (ar T)+cR u kind<=dh u)/\(b=false->dh u<bF u (ar T)+cR u kind/\u.b.nodes=ar u.T)/\(u.recs=v.recs\/u.recs=[]):=by
 unfold oQ;by_cases h1:bF v (ar T)+cR v kind<=dh v
 ·rw[atP h1];exact⟨true,v,rfl,iI.refl h,fun _=>h1,fun e=>(by cases e),.inl rfl⟩
 ·rw[atR h1];by_cases h2:ar v.T=v.b.nodes
  ·rw[atP h2];exact⟨false,v,by simp[Except.map,h1],iI.refl h,fun e=>(by cases e),fun _=>⟨by omega,h2.symm⟩,.inl rfl⟩
  ·rw[atR h2];obtain⟨u,hu,hs,hn,hr,_⟩:=hZ h;rw[hu];refine⟨decide (bF u (ar T)+cR u kind<=dh u),u,rfl,hs,fun e=>by simpa using e,fun e=>⟨by simpa using e,by rw[hn,hs.T]⟩,.inr hr⟩
theorem Ig {v:Vs}{s:ay}{i:Nat}(h:dw v s=some i):∃ x,v.b.list[i]?=some x/\x.name=s:=by
 unfold dw at h;rw[List.findIdx?_eq_some_iff_getElem]at h;obtain⟨hi,h1,_⟩:=h;exact⟨_,atI hi,by simpa using h1⟩
theorem xA {v:Vs}{s:ay}(h:dw v s=none):∀ x∈v.b.list,x.name≠s:=by
 unfold dw at h;rw[List.findIdx?_eq_none_iff]at h;intro x hx;have:=h x hx;simpa using this
theorem QO {v u:Vs}(h:u.b.list=v.b.list)(s:ay):dw u s=dw v s:=by unfold dw;rw[h]
theorem Ih {v:Vs}(h:ma v){T:Tr}(hn:iz (ar T)){recs:List ay}(hr:bF v (ar T)<=dh v):ma { v with T:=T,recs:=recs }:=
 ⟨h.many,h.next,h.eight,h.planes,h.list,h.clear,h.snaps,h.here,h.nodes,hn,hr⟩
def dJ (rd:Rd)(blocks num half:Nat)(T:Tr):Vs:=⟨rd,blocks,num,⟨⟨0,0⟩,⟨0,0⟩,⟨0,0⟩,1,1,[],[],List.replicate 8 [],[]⟩,T,[],half⟩
theorem xB (p:Nat):(List.replicate 8 ([]:ay)).getD p []=[]:=by
 rw[List.getD,List.getElem?_replicate];split<;>rfl
theorem Mr (rd:Rd)(blocks num half:Nat)(T:Tr):dh (dJ rd blocks num half T)=blocks-1:=by
 unfold dh dJ kK;simp only;rw[List.filter_eq_self.2,List.length_range'];intro n _;have:¬ ak (cV (List.replicate 8 [])) n=true:=by
  rw[oZ (by simp)];rintro⟨p,_,hp⟩;rw[xB]at hp;cases hp
 simpa using this
theorem Ms {b:Nat}(h:b<=4096):aQ b<=b/240+2:=by
 unfold aQ;have h1:bN b 240<=b/240+1:=(aJ (by decide)).2 (by omega);have h2:bN b 240<=18:=(aJ (by decide)).2 (by omega);rcases aK b with⟨_,e⟩|⟨_,_,e⟩|⟨_,_,e⟩|⟨_,e⟩<;>rw[e]<;>simp only[atG,List.sum_nil]<;>omega
theorem xC (rd:Rd){blocks:Nat}(num half:Nat)(T:Tr)(hb:32<=blocks/\blocks<=4096)(hn:iz (ar T))(h1:(ar T).length=1)(hd:∀ x∈ar T,x.data.length<=240):mF (dJ rd blocks num half T):=by
 have uh:bF (dJ rd blocks num half T) (ar T)+bL (dJ rd blocks num half T)+1<=dh (dJ rd blocks num half T):=by
  rw[Mr];unfold bF bL;have e1:((ar T).map fun x=>da (cF (dJ rd blocks num half T).b.nodes x.num) x.data).sum<=1:=by
   have:=Wj (l:=ar T) (f:=fun x=>da (cF (dJ rd blocks num half T).b.nodes x.num) x.data) (k:=1) fun x hx=>atE (gt _ _) (mG (hd x hx));omega
  have e2:(if ar T=(dJ rd blocks num half T).b.nodes then 0 else aQ (2+12*(ar T).length))<=1:=by
   split
   ·omega
   ·exact mG (by omega)
  have e3:aQ (dJ rd blocks num half T).blocks<=blocks/240+2:=Ms hb.2;have e4:blocks<240->aQ blocks<=1:=fun h=>mG (by omega);have e5:(dJ rd blocks num half T).blocks=blocks:=rfl;rw[e5]at e3 ⊢;omega
 refine⟨hb,⟨atL _,by show 1<=blocks;omega⟩,by simp[dJ],?_,?_,fun x hx=>by simp[dJ]at hx,?_,?_,hn,?_⟩
 ·intro p _;show eT ((List.replicate 8 []).getD p [])/\∀ n,ak ((List.replicate 8 []).getD p []) n=true->_;rw[xB];exact⟨by simp[eT],fun n hn=>by cases hn⟩
 ·exact⟨by simp[dJ],fun x hx=>by simp[dJ]at hx,by simp[dJ],fun x hx=>by simp[dJ]at hx,by simp[dJ],by simp[dJ],fun x hx=>by simp[dJ]at hx,by simp[dJ]⟩
 ·refine⟨fun _=>False,fun _=>False,fun _=>False,[],[],[],fun _ h=>h,iY rd,?_,iY rd,by simp,?_,?_,fun _ h=>h.elim,.inr uh⟩
  ·intro he;have:ar T=[]:=he;rw[this]at h1;cases h1
  ·intro n;show ak ((List.replicate 8 []).getD 0 []) n=true↔_;rw[xB];simp[fK]
  ·rintro n (h|h)
   ·exact h.elim
   ·cases h
 ·exact⟨by simp[dJ],rfl,fun x hx=>by simp[dJ]at hx,fun x hx=>by simp[dJ]at hx⟩
 ·show bF _ _<=_;have:=uh;have e:(dJ rd blocks num half T).T=T:=rfl;rw[e];omega
section
open Go.RowKit
attribute [local go_sem] atC
structure ei (w:World)(p:Nat)(v:Vs)(a:eX)(u:Vs)(a':eX)(w':World):Prop where
 at_:ls w' p u a'
 role:a'.role=a.role
 foot:∀ g,a'.foot p g->a.foot p g\/w.heap.size<=g
 mod:ah (a.foot p) w w'
 still:fy (fun b=>a.role b≠.none) w w'
 text:a.text=fU v.b->a'.text=fU u.b
theorem ei.refl {w:World}{p:Nat}{v:Vs}{a:eX}(h:ls w p v a):ei w p v a v a w:=⟨h,rfl,fun _ h=>.inl h,ah.refl _ _,fun _ _ _=>rfl,id⟩
theorem ei.keep {w w1 w2:World}{p:Nat}{v u:Vs}{a a':eX}(h:ei w p v a u a' w1)(k:af w1 w2):ei w p v a u a' w2:=
 ⟨h.at_.keep k,h.role,h.foot,h.mod.trans (k.mono (T:=a.foot p) (fun _ _ h=>h.elim)) (fun _ _ h=>h),fun b hb hl=>(k.block b (atS hl h.mod.size) id).trans (h.still b hb hl),h.text⟩
theorem ei.trans {w w1 w2:World}{p:Nat}{v u x:Vs}{a a1 a2:eX}(h:ei w p v a u a1 w1)(k:ei w1 p u a1 x a2 w2):ei w p v a x a2 w2:=
 ⟨k.at_,k.role.trans h.role,fun g hg=>(k.foot g hg).elim (h.foot g) (fun h1=>.inr (atE h.mod.size h1)),h.mod.trans k.mod fun g hl hs=>(h.foot g hs).elim id (fun h1=>absurd h1 (by omega)),
  fun b hb hl=>(k.still b (by rw[h.role];exact hb) (atS hl h.mod.size)).trans (h.still b hb hl),fun e=>k.text (h.text e)⟩
theorem ei.ahead {w0 w w1:World}{p:Nat}{u v:Vs}{a a1:eX}(k:af w0 w)(h:ei w p v a u a1 w1):ei w0 p v a u a1 w1:=
 ⟨h.at_,h.role,fun g hg=>(h.foot g hg).imp id (fun h1=>atE k.size h1),(k.mono (T:=a.foot p) (fun _ _ h=>h.elim)).trans h.mod (fun _ _ h=>h),fun b hb hl=>(h.still b hb (atS hl k.size)).trans (k.block b hl id),h.text⟩
theorem UE {v:Vs}(h:mF v):∀ k,ak (cV v.b.planes) k=true->1<=k/\k<v.blocks:=by
 intro k hk;rw[oZ h.eight]at hk;obtain⟨p,hp,hq⟩:=hk;exact(h.planes p hp).2 k hq
theorem th {w:World}{p:Nat}{v:Vs}{a:eX}(h:ls w p v a):zY w p v a a.sv v.b.list:=
 ⟨h,h.list,fun g hg=>(h.stays g (.inr (.inr (.inr (.inl hg))))) ⟩
theorem ud {w:World}{p:Nat}{v:Vs}{a:eX}{lv:Value}{list:List Sn}(h:zY w p v a lv list){more:ay}(hv:mF v)(hm:fG v list more)(hid:v.b.id<=1099511627777)(dy:v.num<1099511627776):
  Calls prog 64 #[aq p,lv,aB more] w fun e w'=>e=.returned (.int .i64 0)/\∃ u a',bB v list more=.ok u/\a'.text=fU u.b/\ei w p v a u a' w':=by
 obtain⟨r,hr⟩:=DW hv hm;refine(H8 h hr hv hm hid dy).mono ?_;rintro e w' ⟨rfl,a',h1,h2,h3,h4⟩;exact⟨rfl,_,a',hr.run,h2.1,h1,h2.2,h3,h4.mono (fun g _ h=>by rcases h with h|h|h;exact .inl h;exact .inr (.inl h);exact .inr (.inr (.inl h))),fun b hb hl=>h4.block b hl (fun hh=>by
  have hs:=h.st.stays b (.inr (.inl hb));rcases hh with hh|hh|hh
  ·exact hs.2.2 hh
  ·exact hs.1 hh
  ·exact hs.2.1 hh),fun _=>h2.1⟩
theorem j0 {w:World}{p:Nat}{v:Vs}{a:eX}{lv:Value}{list:List Sn}(h:zY w p v a lv list){more:ay}(hv:mF v)(hm:fG v list more)(hid:v.b.id<=1099511627777)(dy:v.num<1099511627776):
  Calls prog 64 #[aq p,lv,aB more] w fun e w'=>e=.returned (.int .i64 0)/\∃ u a',bB v list more=.ok u/\ei w p v a u a' w':=by
 refine(ud h hv hm hid dy).mono ?_;rintro e w' ⟨rfl,u,a',h1,_,h2⟩;exact⟨rfl,u,a',h1,h2⟩
end
section
open Go.RowKit
attribute [local go_sem] atC
theorem ei.tree {w w':World}{p:Nat}{v u:Vs}{a a':eX}(k:ei w p v a u a' w'){q tb:Nat}{A M:Int->Nat}{role:Nat->cU}{T:Tr}(ht:aI w q T tb A M role)(nJ:∀ b,role b≠.none->a.role b≠.none\/¬ a.foot p b):aI w' q T tb A M role:=
 ht.same (fun b hb hl=>(nJ b hb).elim (fun h1=>k.still b h1 hl) (fun h1=>k.mod.block b hl h1)) k.mod.size
theorem Aa {v:Vs}(hb:v.blocks<=4096){l:List Nt}(h:xz l):bF v l<=7000:=by
 have h1:=tg v.b.nodes l h.data;have h2:bL v<=100:=fH (by omega);have h3:=h.many;have h4:(if l=v.b.nodes then 0 else aQ (2+12*l.length))<=100:=by
  split
  ·omega
  ·exact fH (by omega)
 show bL v+1+gM v.b.nodes l+_<=_;omega
theorem xD {v:Vs}(hb:v.blocks<=4096)(kind:Int):cR v kind<=300:=by
 have h2:bL v<=100:=fH (by omega);unfold cR;split
 ·omega
 ·split<;>omega
theorem Eo {v:Vs}(hb:v.blocks<=4096):dh v<=4096:=by
 unfold dh kK;refine atE (atU _ _) ?_;rw[List.length_range'];omega
structure pf (w:World)(p:Nat)(v:Vs)(a:eX)(q:Nat)(T:Tr):Prop where
 vol:ls w p v a
 ready:mF v
 tree:∃(tb:Nat) (A M:Int->Nat) (role:Nat->cU) (d:Int->Nat),aI w q T tb A M role/\WF T d
 nodes:jZ (ar T)
theorem pf.keep {w w':World}{p:Nat}{v:Vs}{a:eX}{q:Nat}{T:Tr}(h:pf w p v a q T)(k:af w w'):pf w' p v a q T:=by
 obtain⟨tb,A,M,role,d,ht,hw⟩:=h.tree;exact⟨h.vol.keep k,h.ready,⟨tb,A,M,role,d,ht.keep k,hw⟩,h.nodes⟩
theorem pf.needs {w:World}{p:Nat}{v:Vs}{a:eX}{q:Nat}{T:Tr}(h:pf w p v a q T):Calls prog 144 #[aq p,aq q] w fun e w'=>e=.returned (.int .i64 ((bF v (ar T):Nat):Int))/\af w w':=by
 obtain⟨tb,A,M,role,d,ht,hw⟩:=h.tree;exact Mp h.vol h.ready.many.2 ht hw (pN h.ready.nodes) (pN h.nodes)
theorem pf.spares {w:World}{p:Nat}{v:Vs}{a:eX}{q:Nat}{T:Tr}(h:pf w p v a q T)(kind:Int):Calls prog 145 #[aq p,.int .i64 kind] w fun e w'=>e=.returned (.int .i64 ((cR v kind:Nat):Int))/\af w w':=
 Ie h.vol h.ready.many.2 kind
theorem pf.free {w:World}{p:Nat}{v:Vs}{a:eX}{q:Nat}{T:Tr}(h:pf w p v a q T):Calls prog 146 #[aq p] w fun e w'=>e=.returned (.int .i64 ((dh v:Nat):Int))/\af w w':=
 Mo h.vol (by have:=h.ready.many;omega) (by have:=Eh h.ready;omega) (UE h.ready)
theorem Mt {w:World}{p:Nat}{v:Vs}{a:eX}(h:ls w p v a)(hg:ma v)(hid:v.b.id<=1099511627777)(dy:v.num<1099511627776){q tb:Nat}{A M:Int->Nat}{role:Nat->cU}{T:Tr}{d:Int->Nat}(ht:aI w q T tb A M role)(hw:WF T d)(hn:jZ (ar T))(nJ:∀ b,role b≠.none->a.role b≠.none\/¬ a.foot p b)(kind:Int):
  Calls prog 65 #[aq p,aq q,.int .i64 kind] w fun e w'=>∃ b u a',oQ v T kind=.ok (b,u)/\e=.returned (.int .i64 (if b=true then 0 else 151))/\ei w p v a u a' w':=by
 have HF:=hd0 (pf.mk h hg.ready ⟨tb,A,M,role,d,ht,hw⟩ hn);have H:=hd0 h;have HG:=hd0 hg;have HT:=hd0 (And.intro ht nJ);have HWF:=hd0 hw;have HN:=hd0 hn;have HI:=hd0 (And.intro hid dy);have hb:=hg.many.2;have n1:((bF v (ar T):Nat):Int)<=7000:=by have:=Aa hb (pN hn);omega
 have n2:((cR v kind:Nat):Int)<=300:=by have:=xD hb kind;omega
 have n3:((dh v:Nat):Int)<=4096:=by have:=Eo hb;omega
 have N1:=hd0 HF.out.needs;have HFT:Hid (oQ v T kind=if bF v (ar T)+cR v kind<=dh v then .ok (true,v)else
  (if ar v.T=v.b.nodes then .ok v else bB v v.b.list []).map fun u=>(decide (bF u (ar T)+cR u kind<=dh u),u)):=hd0 rfl
 clear h hg hid dy ht hw hn nJ hb;go_enter func65,ntmps65;go_wp2_with fail;refine N1.out.mono ?_;rintro e w1 ⟨rfl,k1⟩;have bU:=hd0 k1;have N2:=hd0 ((HF.out.keep k1).spares kind);clear k1 N1;go_wp2_with fail;refine N2.out.mono ?_;rintro e w2 ⟨rfl,k2⟩;have bu:=hd0 (bU.out.keep k2);have N3:=hd0 (HF.out.keep bu.out).free;clear k2 N2 bU;go_wp2_with fail;refine N3.out.mono ?_;rintro e w3 ⟨rfl,k3⟩;have dT:=hd0 (bu.out.keep k3);clear k3 N3 bu;by_cases hq:bF v (ar T)+cR v kind<=dh v
 ·have XF:((bF v (ar T):Nat):Int)+((cR v kind:Nat):Int)<=((dh v:Nat):Int):=by omega
  have HR:Hid (oQ v T kind=.ok (true,v)):=hd0 (by rw[HFT.out,atP hq]);clear hq;go_wp2;go_ret;exact⟨true,v,a,HR.out,rfl,(ei.refl H.out).keep dT.out⟩
 ·have XF:¬((bF v (ar T):Nat):Int)+((cR v kind:Nat):Int)<=((dh v:Nat):Int):=by omega
  have HR:Hid (oQ v T kind=(if ar v.T=v.b.nodes then .ok v else bB v v.b.list []).map fun u=>(decide (bF u (ar T)+cR u kind<=dh u),u)):=hd0 (by rw[HFT.out,atR hq]);clear hq HFT
  go_upto_region 3 with fail
  clear n1 n2 n3 XF;obtain⟨bq,hbq⟩:∃ bq,decide (ar v.T=v.b.nodes)=bq:=⟨_,rfl⟩
  have Hbq:=hd0 hbq;clear hbq;have SX:=hd0 (H.out.keep dT.out);go_cut [29]from 8 to 49 (fun x wx=>x=.bool (!bq)/\af w3 wx)
  case first=>
   have NO:Hid (∀ W,af w3 W->Calls prog 125 #[aq a.pt] W fun e w'=>∃(sa:Option Addr) (cap:Nat),e=.returned (.slice sa (ar v.T).length cap)/\jY gx 4 w' (.slice sa (ar v.T).length cap) (ar v.T)/\af W w'):=hd0 (fun W k=>by
    obtain⟨tb,A,M,ht⟩:=SX.out.tree;obtain⟨d,hw⟩:=SX.out.wf;refine(sU (ht.keep k) hw).mono ?_;rintro e w' ⟨x,rfl,ho,k'⟩;obtain⟨sa,cap,rfl,hx⟩:=cf fP ho;exact⟨sa,cap,rfl,⟨sa,cap,rfl,hx⟩,k'⟩)
   obtain⟨na,EI,env,sj⟩:=cf fP SX.out.nodes;have HXN:Hid (jY gx 4 w3 (.slice na v.b.nodes.length EI) v.b.nodes):=hd0 ⟨na,EI,rfl,sj⟩;have c14:w3.cell? ⟨p,14,none⟩=some (aq a.pt):=aa SX.out.own 14;have c13:w3.cell? ⟨p,13,none⟩=some (.slice na v.b.nodes.length EI):=by rw[<-env];exact aa SX.out.own 13
   have nI:=ai SX.out.own;have VC:Hid (∀ W,af w3 W->W.cell? ⟨p,13,none⟩=some (.slice na v.b.nodes.length EI)):=hd0 (fun W k=>(k.cell (p:=⟨p,13,none⟩) nI id).trans c13);have HLN:Hid ((ar v.T).length<=1000000/\v.b.nodes.length<=1000000):=hd0 ⟨by have:=HG.out.told.tojZ.many;omega,by have:=HG.out.nodes.many;omega⟩;clear env sj nI
   go_region_with (first
    |(go_at_call 125;refine atV (NO.out _ ((ah.refl _ w3).drew)) ?_;rintro e wN ⟨sa,cap,rfl,hr,kN⟩;have HKN:=hd0 (((ah.refl (fun _=>False) w3).drew).keep kN);have HRN:=hd0 hr;have d13:=VC.out _ HKN.out;clear hr kN)
    |(go_at_call 147;refine atV (uc _ _ _ _ _ HRN.out (eO HXN.out HKN.out) HLN.out.1 HLN.out.2) ?_;rintro e wE ⟨rfl,kE⟩;have BR:=hd0 (HKN.out.keep kE);rw[Hbq.out];clear kE))
   all_goals (go_wp2_with fail;go_meet)
   all_goals (case rel=>exact⟨rfl,BR.out⟩)
  case rest=>
   obtain⟨rfl,hkc⟩:=hcut;have IO:=hd0 (dT.out.keep hkc);clear hkc dT SX
   go_upto_if 29 with fail
   go_cut []from 8 to 49 (fun wx=>∃ u a',(if ar v.T=v.b.nodes then .ok v else bB v v.b.list [])=.ok u/\ma u/\ei w p v a u a' wx)
   case first=>
    cases bq with
    |true=>
     have he:ar v.T=v.b.nodes:=of_decide_eq_true Hbq.out;have HE:Hid ((if ar v.T=v.b.nodes then .ok v else bB v v.b.list [])=.ok v):=hd0 (atP he);clear he;go_wp2_with fail;go_meet
     case rel=>exact⟨v,a,HE.out,HG.out,(ei.refl H.out).keep IO.out⟩
    |false=>
     have he:¬ ar v.T=v.b.nodes:=of_decide_eq_false Hbq.out;have HE:Hid ((if ar v.T=v.b.nodes then .ok v else bB v v.b.list [])=bB v v.b.list []):=hd0 (atR he);have HVC:=hd0 (H.out.keep IO.out);have Xd:wc.cell? ⟨p,11,none⟩=some a.sv:=aa HVC.out.own 11;have PO:=hd0 (j0 (th HVC.out) HG.out.ready (nB v) HI.out.1 HI.out.2);clear he;go_wp2_with fail;refine PO.out.mono ?_;rintro e wP ⟨rfl,u,a',hu,jj⟩;have HU:Hid (ma u):=hd0 (by
      obtain⟨u',h1,h2,_⟩:=hZ HG.out;rw[h1]at hu;injection hu with hu;rw[<-hu];exact h2.good)
     have HPT:=hd0 hu;have yF:=hd0 (ei.ahead IO.out jj);clear hu jj PO Xd;go_wp2_with fail;go_meet
     case rel=>exact⟨u,a',HE.out.trans HPT.out,HU.out,yF.out⟩
   case rest=>
    obtain⟨u,a',hu,hgu,jj⟩:=hcut;have rj:Hid (oQ v T kind=.ok (decide (bF u (ar T)+cR u kind<=dh u),u)):=hd0 (by rw[HR.out,hu];rfl);have Sc:Hid (pf wc p u a' q T):=hd0 ⟨jj.at_,hgu.ready,⟨tb,A,M,role,d,jj.tree HT.out.1 HT.out.2,HWF.out⟩,HN.out⟩;have hb:=hgu.many.2;have n1:((bF u (ar T):Nat):Int)<=7000:=by have:=Aa hb (pN HN.out);omega
    have n2:((cR u kind:Nat):Int)<=300:=by have:=xD hb kind;omega
    have n3:((dh u:Nat):Int)<=4096:=by have:=Eo hb;omega
    have yF:=hd0 jj;have N1:=hd0 Sc.out.needs;clear hu hgu jj hb IO HF HR;go_wp2_with fail;refine N1.out.mono ?_;rintro e w4 ⟨rfl,k1⟩;have bU:=hd0 k1;have N2:=hd0 ((Sc.out.keep k1).spares kind);clear k1 N1;go_wp2_with fail;refine N2.out.mono ?_;rintro e w5 ⟨rfl,k2⟩;have bu:=hd0 (bU.out.keep k2);have N3:=hd0 (Sc.out.keep bu.out).free;clear k2 N2 bU;go_wp2_with fail;refine N3.out.mono ?_;rintro e w6 ⟨rfl,k3⟩;have dT:=hd0 (bu.out.keep k3);clear k3 N3 bu;by_cases hq:bF u (ar T)+cR u kind<=dh u
    ·have XF:((bF u (ar T):Nat):Int)+((cR u kind:Nat):Int)<=((dh u:Nat):Int):=by omega
     rw[decide_eq_true hq]at rj;clear hq;go_wp2;go_ret;exact⟨true,u,a',rj.out,rfl,yF.out.keep dT.out⟩
    ·have XF:¬((bF u (ar T):Nat):Int)+((cR u kind:Nat):Int)<=((dh u:Nat):Int):=by omega
     rw[atQ hq]at rj;clear hq;go_wp2;go_ret;exact⟨false,u,a',rj.out,rfl,yF.out.keep dT.out⟩
end
end Go.Proofs.YtkghpdcloaiflaaGreatDoor
