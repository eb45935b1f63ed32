import Derived.Test.YtkghpdcloaiflaaGreatDoorE42
import Derived.ProofKit
import Derived.SizedLaws
import Derived.SliceStrings
import Derived.Test.YtkghpdcloaiflaaGreatDoorCards
import Derived.Test.YtkghpdcloaiflaaGreatDoorTie
import Derived.OpenShut
import Derived.Lay
import Derived.Deep.DeepHandedRow
import Derived.Deep.DeepWitnessRowRef
import Derived.LaidHandle
import Derived.LaidLaws
import Derived.Deep.Slices
import Derived.Deep.Fields
import Derived.ChangeSame
import Derived.Deep.RegionLaw
set_option maxHeartbeats 8000000
set_option maxRecDepth 1000000
namespace Go.Proofs.YtkghpdcloaiflaaGreatDoor
open _root_.Go.Proofs.Tryz
section
open Go.RowKit
attribute [local go_sem] auv
def oE (c:bP):List Value:=[.int .i64 c.kind,.string ⟨c.path.toArray⟩,.string ⟨c.dest.toArray⟩,.int .i64 c.pos,.string ⟨c.data.toArray⟩]
def pD (m:Nat):Vs:=dM (iw (ib (4*m))) m 1 (bG (ib 100)*64) Tr.new
theorem Rt {m:Nat}(h:48<=m/\m<=300){v:Vs}(hv:bB (pD m) [] []=.ok v):Lv v 0/\v.blocks=m:=by
 have hr:mM (pD m):=xT _ _ _ _ (by omega) xW (by rw[jG];rfl) (fun x hx=>by rw[jG]at hx;simp at hx;subst hx;decide);obtain⟨u,hu⟩:=uw hr (list:=[]) (more:=[]) ⟨List.Sublist.refl _,.inl rfl⟩;have e:u=v:=by have:=hu.run.symm.trans hv;injection this
 subst e;have hh:u.half=bG (ib 100)*64:=hu.half;have hid:u.b.id=1:=by rw[hu.id,auI rfl];rfl
 have dC:u.num=1+1:=hu.num;refine⟨⟨hu.good,⟨_,by rw[hu.T];exact Gz⟩,by omega,by omega,?_⟩,hu.blocks⟩;rw[hh];unfold bG;rw[iY];decide
structure E4 (w:World)(p:Nat)(v:Vs)(a:eF)(w':World):Prop where
 at_:kg w' p v a
 text:a.text=ge v.b
 foot:∀ g,a.foot p g->w.heap.size<=g
 keep:af w w'
theorem E4.did {w w1 w2:World}{p:Nat}{v u:Vs}{a a':eF}(h:E4 w p v a w1)(k:Ve w1 p v a u a' w2):E4 w p u a' w2:=
 ⟨k.at_,k.text h.text,fun g hg=>(k.foot g hg).elim (h.foot g) (fun h1=>aux h.keep.size h1),h.keep.trans k.mod (fun g hl hg=>by have:=h.foot g hg;omega)⟩
def yb (w:World)(m:Nat)(cs:List bP)(e:Ending)(w':World):Prop:=
 ∃ p v0 v a,e=.returned (aq p)/\bB (pD m) [] []=.ok v0/\uL v0 (cs.take 60)=.ok v/\Lv v (min cs.length 60)/\v.blocks=m/\E4 w p v a w'
theorem yb.intro {w w':World}{m:Nat}{cs:List bP}{p:Nat}{v0 v:Vs}{a:eF}(h1:bB (pD m) [] []=.ok v0)(h2:uL v0 (cs.take 60)=.ok v)(h3:Lv v (min cs.length 60))(h4:v.blocks=m)(h5:E4 w p v a w'):yb w m cs (.returned (aq p)) w':=
 ⟨p,v0,v,a,rfl,h1,h2,h3,h4,h5⟩
theorem Au {w:World}(he:tr w)(blocks:Int)(hb:-9223372036854775808<=blocks/\blocks<=9223372036854775807)(cs:List bP)(cv:Value)(hr:jS oE 5 w cv cs)(hs:∀ c∈cs,c.Small)(hl:cs.length<=1048576)(RP:(∃ c∈cs,c.kind=8)->Rj)(nR:∀ c∈cs,QD c):
  Calls prog 14 #[.int .i64 blocks,cv] w (yb w (max 48 (min blocks 300)).toNat cs):=by
 obtain⟨m,hm⟩:∃ m:Nat,max 48 (min blocks 300)=(m:Int):=⟨(max 48 (min blocks 300)).toNat,by omega⟩
 have ze:48<=m/\m<=300:=by omega
 have hmt:(max 48 (min blocks 300)).toNat=m:=by omega
 obtain⟨n4,VG⟩:∃ n4:Nat,(4:Int)*(m:Int)=(n4:Int):=⟨4*m,by omega⟩
 have aeY:n4=4*m:=by omega
 have D1:=hd0 (C7 w n4 (by omega));have HM:=hd0 (And.intro ze (And.intro hmt aeY));have HE:=hd0 he;have HS:=hd0 hs;have HD:=hd0 RP;have HDO:=hd0 nR;obtain⟨ca,cap,rfl,hx⟩:=hr;have HX:=hd0 hx;have E9:(cs.length:Int)<=1048576:=by omega
 have w4:IntKind.i64.wrap ((4:Int)*(m:Int))=(n4:Int):=by rw[VG];exact fA (by omega)
 clear he hs RP nR hx ze hmt aeY;go_enter func14,ntmps14;go_wp2_with fail;refine D1.out.mono ?_;rintro e w1 ⟨d1,rfl,k1,F1,IZ,hF1⟩;have bU:=hd0 k1;have D2:=hd0 (C7 w1 100 (by omega));have HD1:=hd0 (And.intro IZ hF1);clear k1 IZ hF1 D1 w4;go_wp2_with fail;refine D2.out.mono ?_;rintro e w2 ⟨d2,rfl,k2,F2,Kh,Yd⟩;have bu:=hd0 (bU.out.keep k2);have IZ:bC w2 d1 (ib n4) F1:=HD1.out.1.mod k2 (fun b _=>id);have FO:=M9 IZ Kh (fun b h1 h2=>by have:=HD1.out.1.lt b h1;have:=Yd b h2;omega) (by rw[iY];have:=HM.out.1;have:=HM.out.2.2;omega) (by rw[iY];decide);have e1:(ib n4).size/4=m:=by rw[iY,HM.out.2.2];omega
 rw[e1,HM.out.2.2]at FO;have FO:=hd0 FO;have HFF:Hid (∀ b,F1 b\/F2 b->w.heap.size<=b):=hd0 (fun b h=>h.elim (HD1.out.2 b) (fun h2=>aux bU.out.size (Yd b h2)));clear k2 IZ Kh Yd D2 e1 HD1 VG hm;go_wp2_with fail;refine FO.out.mono ?_;rintro e w3 ⟨p,v0,a0,rfl,Jl,OB,AA,hft,vx⟩;have HPT:Hid (bB (pD m) [] []=.ok v0):=hd0 OB;have HLV:=hd0 (Rt HM.out.1 HPT.out);have HL0:Hid (E4 w p v0 a0 w3):=hd0 ⟨Jl,AA,fun g hg=>by
  rcases hft g hg with h|h|h
  ·exact HFF.out g (.inl h)
  ·exact HFF.out g (.inr h)
  ·exact aux bu.out.size h,bu.out.trans vx (fun g hl hg=>by have:=HFF.out g hg;omega)⟩
 clear Jl OB AA hft vx FO HFF;go_wp2_with fail
 go_loopw [10] (fun y wr=>∃ k:Nat,k<=cs.length/\k<=60/\y=.int .i64 (k:Int)/\Hid (∃ v a,uL v0 (cs.take k)=.ok v/\Lv v k/\v.blocks=m/\E4 w p v a wr)) (fun y _=>60-(intOf y).toNat)
 case atStart=>exact⟨0,by omega,by omega,rfl,hd0 ⟨v0,a0,rfl,HLV.out.1,HLV.out.2,HL0.out⟩⟩
 case round=>
  clear HL0 HLV;obtain⟨k,hk,rD,rfl,HR⟩:=hrel;obtain⟨v,a,bi,eU,oG,ni⟩:=HR.out;have HRU:=hd0 (And.intro bi (And.intro eU (And.intro oG ni)));clear bi eU oG ni HR;by_cases aL:k<cs.length
  ·have dN:(k:Int)<(cs.length:Int):=by omega
   by_cases sW:k<60
   ·have ahG:(k:Int)<60:=by omega
    obtain⟨c,hc⟩:∃ c,cs[k]?=some c:=⟨_,auB aL⟩
    obtain⟨rb,o,rfl,RH⟩:=HX.out k c hc;have HAT:=HRU.out.2.2.2;have cx:∀ i u,(oE c)[i]?=some u->wr.cell? ⟨rb,o+k*5+i,none⟩=some u:=fun i u hi=>by
     have h1:=RH i u hi;rw[HAT.keep.cell (p:=⟨rb,o+k*5+i,none⟩) (ak h1) id];exact h1
    have c0:wr.cell? ⟨rb,o+k*5,none⟩=some (.int .i64 c.kind):=cx 0 _ rfl;have c1:wr.cell? ⟨rb,o+k*5+1,none⟩=some (.string ⟨c.path.toArray⟩):=cx 1 _ rfl;have c2:wr.cell? ⟨rb,o+k*5+2,none⟩=some (.string ⟨c.dest.toArray⟩):=cx 2 _ rfl;have c3:wr.cell? ⟨rb,o+k*5+3,none⟩=some (.int .i64 c.pos):=cx 3 _ rfl;have c4:wr.cell? ⟨rb,o+k*5+4,none⟩=some (.string ⟨c.data.toArray⟩):=cx 4 _ rfl;have Cq:=auC hc;have hda:Y1 v c:=by
     obtain⟨_,eU,_,_⟩:=HRU.out;obtain⟨d,hw⟩:=eU.wf;obtain⟨d',cf⟩:=JR hw c;exact⟨eU.good,by have:=eU.id;omega,by have:=eU.num;omega,HS.out c Cq,fun cq=>⟨by have:=pC cq;have:=eU.half;omega,pC cq⟩,tR cf,qe⟩
    have DO:=hd0 (Kd HAT.at_ (HE.out.keep HAT.keep) hda (fun h8=>HD.out ⟨c,Cq,h8⟩) (HDO.out c Cq));have HC:=hd0 hc;clear cx RH HAT Cq hda hc;go_wp2_with fail;unfold gt bL at DO;refine DO.out.mono ?_;rintro e w4 ⟨r,u,a',nR,rfl,hvd⟩;have HN:Hid (∃ v a,uL v0 (cs.take (k+1))=.ok v/\Lv v (k+1)/\v.blocks=m/\E4 w p v a w4):=hd0 (by
     obtain⟨bi,eU,oG,ni⟩:=HRU.out;obtain⟨r',u',q1,q2,q3,_⟩:=eU.step c;rw[q1]at nR;injection nR with nR;injection nR with h1 h2;subst h1 h2;refine⟨u',a',?_,q2,q3.trans oG,ni.did hvd⟩;rw[auD,HC.out];exact Nk bi q1)
    clear nR hvd DO c0 c1 c2 c3 c4;go_wp2_with fail;exact⟨⟨k+1,by omega,by omega,by go_num,HN⟩,by simp[intOf];omega⟩
   ·have ahG:¬(k:Int)<60:=by omega
    have akj:k=60:=by omega
    go_wp2;go_ret;obtain⟨bi,eU,oG,ni⟩:=HRU.out;rw[HM.out.2.1];exact yb.intro HPT.out (by rw[<-akj];exact bi) (by rw[show min cs.length 60=k by omega];exact eU) oG ni
  ·have dN:¬(k:Int)<(cs.length:Int):=by omega
   go_wp2;go_ret;obtain⟨bi,eU,oG,ni⟩:=HRU.out;rw[HM.out.2.1];exact yb.intro HPT.out (by rw[avl (show cs.length<=60 by omega)];rw[avl (show cs.length<=k by omega)]at bi;exact bi) (by rw[show min cs.length 60=k by omega];exact eU) oG ni
end
def cmA:bP:=⟨0,[47,97],[],0,[]⟩
def Tz (c:UInt8):bP:=⟨7,[c],[],0,[]⟩
def Y9 (rd:Rd):Except Int Vs:=match bB (dM rd 100 1 3136 Tr.new) [] []with
 | .ok u=>uL u [cmA,Tz 97,Tz 98]
 | .error e=>.error e
def Za (v:Vs):=(iS v [] [97],iS v [98] [97],iS v [] [120],v.b.planes.getD 1 [],v.rd 5,v.rd 6,((aK v.b.list [97]).getD dY).id)
def Zb:Except Int (Hd×List Nat)×Except Int (Hd×List Nat)×Except Int (Hd×List Nat)×az×Except Int az×Except Int az×Int:=
 (.ok (⟨1,0,[97],⟨6,11⟩,2,[]⟩,[5,6]),.error 190,.error 162,[96],.ok [1,1,97,2],.ok [2,1,1,1,5,4,2,0,1,0,0],1)
theorem Vn (rd:Rd):(match Y9 rd with | .ok v=>Za v | .error _=>(.error 0,.error 0,.error 0,[],.error 0,.error 0,0))=Zb:=by kernel_rfl
theorem acx {v0 v:Vs}(h0:bB (pD 100) [] []=.ok v0)(h1:uL v0 [cmA,Tz 97,Tz 98]=.ok v):Za v=Zb:=by
 have e:pD 100=dM (iw (ib (4*100))) 100 1 3136 Tr.new:=by
  unfold pD;rw[show bG (ib 100)*64=3136 by unfold bG;rw[iY]]
 have ho:Y9 (iw (ib (4*100)))=.ok v:=by
  unfold Y9;rw[<-e,h0];exact h1
 have:=Vn (iw (ib (4*100)));rw[ho]at this;exact this
section
open Go.ChangeShapes Go.WideShapes Go.ChangeAt Go.RowKit
section
variable {H:Type}{enc:TypeId×Value->H}{P:Program}
theorem sE (hl:laidOutB P=true){W W':World}(hb:Below W.heap.size W W'):∀(ts:List TypeId) (vs:List Value) (ds:List (DataW H)) (ps:List MemPlace),
  (ts.all fun t=>P.readableRec t&&decide (t<P.types.size))=true->DataW.TrodAll enc P W 0 (fun _=>true) true ts vs ds ps->(∀ x∈ps,x.block<W.heap.size)->
  DataW.TrodAll enc P W' 0 (fun b=>decide (b<W.heap.size)) true ts vs ds ps
 |[],[],[],_,_,h,_=>h
 |t::ts,v::vs,d::ds,ps,hr,h,aL=>by
  obtain⟨p,q,h1,h2,rfl⟩:=h;simp only[List.all_cons,auT,auY]at hr;exact⟨p,q,Below.trod hl hr.1.1 hr.1.2 h1 hb (fun x hx=>aL x (by simp[hx])),sE hl hb ts vs ds q hr.2 h2 (fun x hx=>aL x (by simp[hx])),rfl⟩
 |[],_::_,_,_,_,h,_=>h.elim
 |[],[],_::_,_,_,h,_=>h.elim
 |_::_,[],_,_,_,h,_=>h.elim
 |_::_,_::_,[],_,_,h,_=>h.elim
theorem Nl {fn:Func}{s:ChangeSpec}{W W':World}{args:Array Value}{ds gs:List (DataW H)}{before:List MemPlace}{tb:TypeId}
  (hl:laidOutB P=true) (hr:(fn.params.toList.all fun t=>P.readableRec t&&decide (t<P.types.size))=true) (hv:s.vars=[]) (hrt:fn.resultTypes=#[tb]) (hb:P.underlying tb=some .bool)
  (RJ:s.fn H (ds++gs)={ results:=[.lit (.bool true)],args:=ds }) (hW:DataW.Whole enc P fn.params.toList s.vars false W args.toList ds gs before) (hk:af W W'):
  s.post enc P fn false true false false W args (.bool true) W':=by
 have aL:∀ x∈before,x.block<W.heap.size:=fun x hx=>by simpa using hW.lt x hx
 have hW':=hW;obtain⟨p,q,hA,hV,rfl,_,_⟩:=hW;rw[hv]at hV;obtain⟨_,rfl⟩:=trodVars_none hV;refine⟨ds,gs,p++[],[],p,[],hW',?_,?_,?_,hk.below.frame _,fun h=>by cases h⟩
 ·rw[RJ,hrt];exact trodAll_mk1 (shut_bool hb _)
 ·rw[RJ];exact sE hl hk.below _ _ _ _ hr hA (fun x hx=>aL x (by simp[hx]))
 ·rw[RJ,hv];rfl
end
end
section
open Go.RowKit
attribute [local go_sem] auv
theorem Zc:IL 5 [97,98]=.tuple #[aC [5,2,97,98],.int .i64 0]:=by
 rw[show IL 5 [97,98]=.tuple #[aC (eE 5 [97,98]),.int .i64 0]from auI (by decide)];rw[show eE 5 [97,98]=[5,2,97,98] by kernel_rfl]
theorem fN {v:Vs}(h:io v){x:Sn}(hx:x∈v.b.list):(co v x).length<=600:=by
 obtain⟨h1,h2⟩:=h.list.plane x hx;have:=h.planes x.plane.toNat (by omega);have h3:=pZ (k:=512) this.1 fun n hn=>by have:=(this.2 n hn).2;have:=h.many;omega
 unfold co;omega
theorem Nn {w:World}(he:tr w):Calls prog 13 #[] w fun e w'=>e=.returned (.bool true)/\af w w':=by
 obtain⟨W,hW⟩:∃ W,w.alloc (.cells #[.int .i64 0,.string ⟨#[47,97]⟩,.string ⟨#[]⟩,.int .i64 0,.string ⟨#[]⟩,.int .i64 7,.string ⟨#[97]⟩,.string ⟨#[]⟩,.int .i64 0,.string ⟨#[]⟩,.int .i64 7,.string ⟨#[98]⟩,.string ⟨#[]⟩,.int .i64 0,.string ⟨#[]⟩] 55)=W:=⟨_,rfl⟩
 have hk:af w W:=by rw[<-hW];exact(ah.refl _ w).alloc _
 have hb:World.blk W w.heap.size #[.int .i64 0,.string ⟨#[47,97]⟩,.string ⟨#[]⟩,.int .i64 0,.string ⟨#[]⟩,.int .i64 7,.string ⟨#[97]⟩,.string ⟨#[]⟩,.int .i64 0,.string ⟨#[]⟩,.int .i64 7,.string ⟨#[98]⟩,.string ⟨#[]⟩,.int .i64 0,.string ⟨#[]⟩] 55:=by rw[<-hW];exact aw _ _ _
 have cJ:jS oE 5 W (.slice (some ⟨w.heap.size,0,none⟩) 3 3) [cmA,Tz 97,Tz 98]:=by
  refine⟨_,_,rfl,fun j x hx=>⟨w.heap.size,0,rfl,fun i c hc=>?_⟩⟩;rcases j with _|_|_|j
  ·simp at hx;subst hx;rcases i with _|_|_|_|_|i<;>first|(simp[oE,cmA]at hc;subst hc;exact aa hb _)|(simp[oE]at hc)
  ·simp at hx;subst hx;rcases i with _|_|_|_|_|i<;>first|(simp[oE,Tz]at hc;subst hc;exact aa hb _)|(simp[oE]at hc)
  ·simp at hx;subst hx;rcases i with _|_|_|_|_|i<;>first|(simp[oE,Tz]at hc;subst hc;exact aa hb _)|(simp[oE]at hc)
  ·simp at hx
 have LD:=Au (he.keep hk) 100 (by omega) [cmA,Tz 97,Tz 98] _ cJ (fun c hc=>by
  simp at hc;rcases hc with rfl|rfl|rfl<;>exact⟨by decide,by decide,by decide,by decide⟩) (by simp) (fun⟨c,hc,h8⟩=>by
  simp at hc;rcases hc with rfl|rfl|rfl<;>exact absurd h8 (by decide)) (fun c hc=>by
  simp at hc;rcases hc with rfl|rfl|rfl<;>exact⟨fun h=>absurd h (by decide),fun h=>absurd h (by decide),fun h=>absurd h (by decide),fun h=>absurd h (by decide)⟩)
 rw[show(max 48 (min (100:Int) 300)).toNat=100 by decide]at LD;have LD:=hd0 LD;have HK:=hd0 hk;clear hb cJ hk he;go_enter func13,ntmps13;go_wp2_with fail
 try rw[hW]
 refine LD.out.mono ?_;rintro e w1 ⟨p,v0,v,a,rfl,h0,h1,eU,oG,ni⟩;have hq:=acx h0 h1;unfold Za Zb at hq;injection hq with q1 hq;injection hq with q2 hq;injection hq with q3 hq;injection hq with q4 hq;injection hq with q5 hq;injection hq with q6 q7;have HG:=hd0 eU.good;have HQ:=hd0 (And.intro q1 (And.intro q2 (And.intro q3 (And.intro q4 (And.intro q5 (And.intro q6 q7))))));have HB:=hd0 oG;have HA:=hd0 ni;have NW:=fun(b t:az) (W:World) (hk:af w1 W) (h1:b.length<=1000) (h2:t.length<=1000)=>As (ni.at_.keep hk) (by have:=eU.good.list.many;omega) eU.good.list.plane (fun x y hx hy=>⟨fN eU.good hx,aux (ji _ _) (Nat.max_le.2 ⟨fN eU.good hx,fN eU.good hy⟩)⟩) b t (by omega) (by omega);have N1:=hd0 (NW [] [97] w1 (ah.refl _ _) (by simp) (by simp));have NW:=hd0 NW;clear q1 q2 q3 q4 q5 q6 q7 eU oG ni h0 h1 LD hW;go_wp2_with fail;refine N1.out.mono ?_;rintro e w2 ⟨k2,hp⟩;rw[HQ.out.1]at hp;simp only at hp;obtain⟨q,lv,rfl,Ff⟩:=hp;have bu:=hd0 k2;have Xb:=hd0 Ff;have N2:=hd0 (NW.out [98] [97] w2 k2 (by simp) (by simp));clear k2 Ff N1;go_wp2_with fail;refine N2.out.mono ?_;rintro e w3 ⟨k3,hp⟩;rw[HQ.out.2.1]at hp;simp only at hp;subst hp;have dZ:=hd0 (bu.out.keep k3);have adu:=hd0 (Xb.out.keep k3);have N3:=hd0 (NW.out [] [120] w3 dZ.out (by simp) (by simp));clear k3 N2;go_wp2_with fail;refine N3.out.mono ?_;rintro e w4 ⟨k4,hp⟩;rw[HQ.out.2.2.1]at hp;simp only at hp;subst hp;have ou:=hd0 (dZ.out.keep k4);have aaL:=adu.out.keep k4;have PH:=hd0 (tP aaL);have aeG:=hd0 aaL;clear k4 N3 aaL;go_wp2_with fail;refine PH.out.mono ?_;rintro e w5 ⟨rfl,k5⟩;have lZ:=hd0 (ou.out.keep k5);have Sk:=hd0 (aeG.out.keep k5);have k6:af w5 (w5.alloc (.cells #[.int .i64 1,.int .i64 0,.string ⟨#[97]⟩,.int .i64 6,.int .i64 11,.int .i64 2,.string ⟨#[]⟩] 44)):=(ah.refl _ w5).alloc _;have b6:World.blk (w5.alloc (.cells #[.int .i64 1,.int .i64 0,.string ⟨#[97]⟩,.int .i64 6,.int .i64 11,.int .i64 2,.string ⟨#[]⟩] 44)) w5.heap.size #[.int .i64 1,.int .i64 0,.string ⟨#[97]⟩,.int .i64 6,.int .i64 11,.int .i64 2,.string ⟨#[]⟩] 44:=aw _ _ _;have rz:=hd0 (lZ.out.keep k6);have FM:=hd0 b6;have HHB:Hid (w1.heap.size<=w5.heap.size):=hd0 lZ.out.size;have MP:=hd0 (xX (HA.out.at_.keep rz.out));have Js:=hd0 (Sk.out.keep k6);clear k5 PH k6 b6;go_wp2_with fail;generalize w5.alloc (.cells #[.int .i64 1,.int .i64 0,.string ⟨#[97]⟩,.int .i64 6,.int .i64 11,.int .i64 2,.string ⟨#[]⟩] 44)=w6 at*;generalize w5.heap.size=hb at*;refine MP.out.mono ?_;rintro e w7 ⟨m,rfl,hm,KS,k7⟩;have yR:=hd0 (rz.out.keep k7);have KK:=hd0 (ab k7 FM.out id);have aeg:=hd0 (Js.out.keep k7);have PL:=xc KS 1 (by decide);rw[HQ.out.2.2.2.1]at PL;have PL:=hd0 PL;clear k7 hm KS MP rz FM Js Sk aeG adu;go_wp2_with fail;refine PL.out.mono ?_;rintro e w8 ⟨rfl,k8⟩;have ql:=hd0 (yR.out.keep k8);have BH:=hd0 (ab k8 KK.out id);have adA:=hd0 (aeg.out.keep k8);have DR:=xZ 5 [97,98] w8 (by decide);rw[Zc]at DR;have DR:=hd0 DR;clear k8 PL yR KK aeg;go_wp2_with fail;refine DR.out.mono ?_;rintro e w9 ⟨rfl,k9⟩;have BR:=hd0 (ql.out.keep k9);have OC:=hd0 (ab k9 BH.out id);have acW:=hd0 (adA.out.keep k9);have DP:=Ni 5 [97,98] (by decide) w9;rw[show eE ((5:Nat):Int) [97,98]=[5,2,97,98] by kernel_rfl]at DP;have DP:=hd0 DP;clear k9 DR ql BH adA;go_wp2_with fail;refine DP.out.mono ?_;rintro e mV ⟨rfl,Su⟩;have aaA:=hd0 (BR.out.keep Su);have aaf:=ab Su OC.out id;have c5:mV.cell? ⟨hb,5,none⟩=some (.int .i64 2):=aa aaf 5;have ajS:=hd0 aaf;have HPI:Hid (eT mV p a q ⟨1,0,[97],⟨6,11⟩,2,[]⟩ [5,6] lv):=hd0 (by
  have jJ:=acW.out.keep Su;exact⟨⟨_,jJ⟩,fun hf=>by have h1:=HA.out.at_.lt hf;have h2:=jJ.new;omega,fun g hg hf=>by have h1:=HA.out.at_.lt hf;have h2:=(jJ.row.lt g hg).1;omega⟩)
 have PO:=hd0 (BE HPI.out 2 (.inr (by decide)));clear Su DP BR OC acW aaf;go_wp2_with fail;refine PO.out.mono ?_;rintro e w11 ⟨rfl,k11⟩;have afm:=hd0 (aaA.out.keep k11);have akC:=hd0 (ab k11 ajS.out id);have aeU:=hd0 (HPI.out.keep k11);have SU:=sD (HA.out.at_.keep afm.out) (by have:=HG.out.list.many;omega) aeU.out (fun _=>HQ.out.2.2.2.2.2.2) (by decide) HG.out.many.2 (fun n=>if n=5 then [1,1,97,2]else [2,1,1,1,5,4,2,0,1,0,0]) (fun n hn=>by
  simp at hn;rcases hn with rfl|rfl
  ·exact⟨by decide,by rw[HB.out];decide,HQ.out.2.2.2.2.1,by decide⟩
  ·exact⟨by decide,by rw[HB.out];decide,HQ.out.2.2.2.2.2.1,by decide⟩)
 obtain⟨sm,Kw⟩:∃ sm,KX fX (fY (fun n=>if n=5 then [1,1,97,2]else [2,1,1,1,5,4,2,0,1,0,0]) [5,6])=sm:=⟨_,rfl⟩
 have uW:sm.length=8:=by rw[<-Kw];rfl
 rw[Kw]at SU;have SU:=hd0 SU;clear k11 PO c5 Kw;go_wp2_with fail;refine SU.out.mono ?_;rintro e Cy ⟨rfl,a2,gW,_,_⟩;have NZ:=ab gW.mod akC.out (fun hf=>by have h1:=HA.out.at_.lt hf;have h2:=HHB.out;omega);have CA:Hid (af w Cy):=hd0 (HK.out.keep ((HA.out.keep.keep afm.out).trans gW.mod (fun g hl hg=>by have h1:=HA.out.foot g hg;omega)));have c0:∀ X,(Cy.ext X).cell? ⟨hb,0,none⟩=some (.int .i64 1):=fun X=>aa (ab (ay Cy X) NZ id) 0;have c1:∀ X,(Cy.ext X).cell? ⟨hb,1,none⟩=some (.int .i64 0):=fun X=>aa (ab (ay Cy X) NZ id) 1;have c2:∀ X,(Cy.ext X).cell? ⟨hb,2,none⟩=some (.string ⟨#[97]⟩):=fun X=>aa (ab (ay Cy X) NZ id) 2;have c5:∀ X,(Cy.ext X).cell? ⟨hb,5,none⟩=some (.int .i64 2):=fun X=>aa (ab (ay Cy X) NZ id) 5;have c6:∀ X,(Cy.ext X).cell? ⟨hb,6,none⟩=some (.string ⟨#[]⟩):=fun X=>aa (ab (ay Cy X) NZ id) 6;have CN:∀ X,Calls prog 47 #[.string ⟨#[96]⟩] (Cy.ext X) fun e w'=>e=.returned (.int .i64 2)/\af (Cy.ext X) w':=fun X=>by
  have:=zM [96] (by decide) (Cy.ext X)
  rwa [show jK [96]=2 by decide]at this
 have CN:=hd0 CN;have asH:(sm.length:Int)=8:=by omega
 clear gW SU NZ;go_wp2_with fail;refine bA (by kernel_rfl) (by kernel_rfl) ?_
 repeat (quiet_step (with_reducible exact aZ (CN.out _)))
 refine avt ?_;intro _ cf;obtain⟨xq,rfl⟩:=cf;go_wp2;go_ret;exact⟨by simp,CA.out.keep (ay _ _)⟩
end
section
open Go.RowKit
attribute [local go_sem] auv
end
section
section
open Go.ChangeShapes Go.WideShapes Go.ChangeAt Go.RowKit
theorem tS {n:Int}(h:(Lit.int .i64 n).wf=true):-9223372036854775808<=n/\n<=9223372036854775807:=bounds_i64 h
noncomputable def BF (os:Os):World:=
 let w0:=World.laidAll prog os (Rows.differRecordsRow.laid.filter fun x=>x.2.handleName?.isNone)
 { w0 with heap:=w0.heap.modify 0 fun
   | .cells _ t frozen=>.cells #[.iface 365 (.agg #[typeHandle prog 137])] t frozen
   |o=>o }
theorem No (os:Os):(BF os).os=os:=by kernel_rfl
theorem Ru (os:Os)(args:Array Value):laidMetH prog Rows.differRecordsRow.laid ((BF os).forCall (fun _ _=>0) ⟨#[],args,[]⟩).memory:=
 laidMetH_of_parts (laidMet_of_run' 8 (by kernel_rfl) (by kernel_rfl)) (by kernel_rfl)
end
section
open Go.RowKit
end
end
section
open Go.RowKit
attribute [local go_sem] auv
end
section
open Go.RowKit
end
section
open Go.RowKit
section
variable {α β:Type}{f:α->List β}{sz:Nat}
def rk (l:List β)(o:Nat)(vs:List β):List β:=l.take o++(vs++l.drop (o+vs.length))
theorem Rv (l:List β)(o:Nat):rk l o []=l:=by simp[rk]
theorem Np (l:List β)(o:Nat)(v:β)(r:List β)(h:o<l.length):rk (l.set o v) (o+1) r=rk l o (v::r):=by
 unfold rk;apply List.ext_getElem?;intro k;simp only[List.getElem?_append,List.getElem?_take,avJ,auH,List.length_set,List.getElem?_set,auA,List.getElem?_cons,Nat.min_eq_left (Nat.le_of_lt h),Nat.min_eq_left (show o+1<=l.length from h)];by_cases h1:k<o
 ·simp[h1,show k<o+1 by omega,show ¬ o=k by omega]
 ·by_cases h2:k=o
  ·subst h2;simp[h]
  ·obtain⟨j,rfl⟩:∃ j,k=o+1+j:=⟨k-o-1,by omega⟩
   rw[auK (show ¬ o+1+j<o+1 by omega),auK h1,show o+1+j-(o+1)=j by omega,show o+1+j-o=j+1 by omega];by_cases h3:j<r.length
   ·simp[h3]
   ·rw[auK h3,auK (show ¬ j+1<r.length+1 by omega),auK (by omega)]
    congr 1;omega
theorem E5 (l:List β)(o:Nat)(vs:List β)(h:o+vs.length<=l.length):(rk l o vs).length=l.length:=by
 simp[rk];omega
theorem Nq (l:List β)(o:Nat)(vs:List β)(h:o<=l.length):(rk l o vs).take o=l.take o:=by
 unfold rk;rw[List.take_append,List.take_take,auH,Nat.min_self,Nat.min_eq_left h,Nat.sub_self,avo,List.append_nil]
theorem IO (l:List β)(o:Nat)(vs:List β)(h:o<=l.length):(rk l o vs).take (o+vs.length)=l.take o++vs:=by
 unfold rk;rw[<-avi,List.take_append,avl (by simp;omega),auS,auH,Nat.min_eq_left h,Nat.sub_self,avo,List.append_nil]
theorem Nr (hf:∀ a,(f a).length=sz)(l:List α)(i:Nat):(l.take i).flatMap f=(l.flatMap f).take (i*sz):=by
 induction l generalizing i with
 |nil=>simp
 |cons x r ih=>
  cases i with
  |zero=>simp
  |succ i=>
   rw[avn,avg,avg,ih,List.take_append,hf,avl (l:=f x) (by rw[hf,Nat.succ_mul];omega),show(i+1)*sz-sz=i*sz by rw[Nat.succ_mul];omega]
end
theorem nQ {g:Nat}{t:TypeId}:∀(vs:List Value) (o:Nat) (w:World) (dz:Array Value),World.blk w g dz t->o+vs.length<=dz.size->World.blk (w.setCells g o vs) g (rk dz.toList o vs).toArray t/\ah (·=g) w (w.setCells g o vs)
 |[],o,w,dz,h,_=>by
  rw[World.setCells,Rv];exact⟨h,ah.refl _ _⟩
 |v::r,o,w,dz,h,hl=>by
  rw[World.setCells];have h1:=ag h o v;rw[auA]at hl;obtain⟨h2,m2⟩:=nQ r (o+1) _ _ h1 (by simp;omega);refine⟨?_,((ah.refl (·=g) w).setCell (p:=⟨g,o,none⟩) (.inl rfl) v).trans m2 (fun _ _ h=>h)⟩;rw[Array.toList_setIfInBounds,Np _ _ _ _ (by simp;omega)]at h2;exact h2
theorem yQ {P:Program}(w:World)(t e ty:TypeId)(z:Value)(ht:P.underlying t=some (.slice e))(hv:∀ w,(zeroValue e).run P w=.ok z w)(h1:∀ u∈z.cells.toList,u.oneCell'=true)(b o c:Nat)
  (hc:∀ j,j<z.cells.size->(w.cell? ⟨b,o+j,none⟩).isSome=true) (hf:∀ j,j<z.cells.size->w.frozen? ⟨b,o+j,none⟩=false):
  (Builtin.clear_ #[t] ty #[.slice (some ⟨b,o,none⟩) 1 c]).run P w=.ok (.tuple #[]) (w.setCells b o z.cells.toList):=by
 have hzc:(Builtin.zeroCells z.cells 1).toList=z.cells.toList:=by
  unfold Builtin.zeroCells;apply List.ext_getElem
  ·simp
  ·intro i h1 h2;have hi:i<z.cells.size:=by simpa using h2
   simp[avZ hi,getElem!_pos z.cells i hi]
 have dg:=run_storeCells_cells (P:=P) b o z.cells.toList 0 w (by simpa using hc) (by simpa using hf) h1;simp only[Nat.add_zero]at dg;simp[Builtin.clear_,run_underlying ht,hv,hzc,dg]
theorem Ns (l:List Sn)(i:Nat)(_hi:i<l.length):(l.eraseIdx i).flatMap oC=(l.flatMap oC).take (i*5)++(l.drop (i+1)).flatMap oC:=by
 rw[List.eraseIdx_eq_take_drop_succ,auR,Nr eQ]
def WZ:Value:=.agg #[.string .empty,.int .i64 0,.int .i64 0,.int .i64 0,.int .i64 0]
theorem Vo (l:List Sn)(i:Nat)(v:Value)(w:World)(base:Nat)(h:dU oC 5 85 w base v l)(hi:i<l.length)(hl:l.length<=1000):
  Calls prog 67 #[v,.int .i64 (i:Int),.int .i64 ((i:Int)+1)] w fun e w'=>∃ v',e=.returned v'/\dU oC 5 85 w' base v' (l.eraseIdx i)/\ah (fun g=>v.ownBlock=some g) w w':=by
 rcases h.2 with⟨rfl,h3⟩|⟨g,cap,dz,rfl,hb,hg,Kk,hm,cK,vt⟩
 ·omega
 ·obtain⟨i0,hi0,nX,mZ,oH⟩:=auO tI;have yY:cap<=9223372036854775807:=hm;have hH:World.blk w g dz 85:=hg;have hHd:World.blk w.drew g dz 85:=hg;obtain⟨news,yf⟩:∃ news,(l.drop (i+1)).flatMap oC=news:=⟨_,rfl⟩
  have aV:news.length=(l.length-(i+1))*5:=by rw[<-yf,sj eQ,List.length_drop]
  have hcu:dz.toList.length=cap*5:=by simpa using cK
  have ru:∀ t,t<news.length->news[t]?=dz[(i+1)*5+t]?:=by
   intro t ht;have e:l.flatMap oC=(l.take (i+1)).flatMap oC++news:=by rw[<-yf,<-auR,List.take_append_drop]
   have vw:((l.take (i+1)).flatMap oC).length=(i+1)*5:=by rw[sj eQ,auH,Nat.min_eq_left (by omega)]
   rw[e]at vt;have h1:(dz.toList.take (l.length*5))[(i+1)*5+t]?=((l.take (i+1)).flatMap oC++news)[(i+1)*5+t]?:=by rw[vt]
   rw[List.getElem?_append_right (by omega),vw,Nat.add_sub_cancel_left,List.getElem?_take,auI (by omega)]at h1;rw[<-h1,Array.getElem?_toList]
  obtain⟨A,hA,aiK⟩:∃ A:Addr,(if cap=i+1 then some (⟨g,0,none⟩:Addr)else some ⟨g,(i+1)*5,none⟩)=some A/\Hid (∀ t u,news[t]?=some u->w.drew.cell? (A.add t)=some u):=by
   by_cases h:cap=i+1
   ·refine⟨⟨g,0,none⟩,by simp[h],hd0 fun t u hu=>?_⟩;have h0:news.length=0:=by rw[aV];omega
    rw[au8.1 h0]at hu;simp at hu
   ·refine⟨⟨g,(i+1)*5,none⟩,by simp[h],hd0 fun t u hu=>?_⟩;have ht:=(auP.1 hu).1;rw[ru t ht]at hu;rw[Addr.add_lit,aa hHd];exact hu
  have s1:Hid (news.length=(l.length-(i+1))*5):=hd0 aV;have s2:Hid (∀ u∈news,u.oneCell'=true):=hd0 (by
   intro u hu;rw[<-yf,List.mem_flatMap]at hu;obtain⟨x,_,hx⟩:=hu;exact Bq x u hx)
  have s3:Hid (∀ t,t<news.length->(w.drew.cell? ⟨g,0+i*5+t,none⟩).isSome=true/\w.drew.frozen? ⟨g,0+i*5+t,none⟩=false):=hd0 (by
   intro t ht;rw[aV]at ht;refine⟨?_,ae hHd _ rfl⟩;rw[aa hHd,Array.getElem?_eq_getElem (by rw[cK];omega)];rfl)
  obtain⟨W1,Kg⟩:∃ W1,W1=w.drew.setCells g (0+i*5) news:=⟨_,rfl⟩
  obtain⟨Kq,hM1⟩:=nQ news (0+i*5) w.drew dz hHd (by rw[aV,cK];omega);rw[<-Kg]at Kq hM1;have Cl:i+(l.length-(i+1))=l.length-1:=by omega
  have Nz:(rk dz.toList (0+i*5) news).length=cap*5:=by rw[E5 _ _ _ (by rw[hcu,aV];omega),hcu]
  have sH:∀ ty,(Builtin.clear_ #[92] ty #[.slice (some ⟨g,(i+(l.length-(i+1)))*5,none⟩) 1 (cap-(i+(l.length-(i+1))))]).run prog W1=.ok (.tuple #[]) (W1.setCells g ((i+(l.length-(i+1)))*5) WZ.cells.toList):=
   fun ty=>yQ W1 _ _ ty WZ underlying92 zeroValue85 (by
    intro u hu;simp[WZ,Value.cells]at hu;rcases hu with rfl|rfl<;>rfl) g _ _ (fun t ht=>by
     rw[aa Kq];have:t<5:=ht;rw[Array.getElem?_eq_getElem (by rw[avU,Nz];omega)];rfl) (fun t ht=>ae Kq _ rfl)
  obtain⟨hB2,Ox⟩:=nQ WZ.cells.toList ((i+(l.length-(i+1)))*5) W1 _ Kq (by
   show _+5<=_;simp only[avU,Nz];omega)
  have aft:(rk (rk dz.toList (0+i*5) news) ((i+(l.length-(i+1)))*5) WZ.cells.toList).length=cap*5:=by
   rw[E5 _ _ _ (by rw[Nz];show _+5<=_;omega),Nz]
  have sV:dU oC 5 85 (W1.setCells g ((i+(l.length-(i+1)))*5) WZ.cells.toList) base (.slice (some ⟨g,0,none⟩) (l.length-1) cap) (l.eraseIdx i):=by
   have hel:(l.eraseIdx i).length=l.length-1:=by rw[List.length_eraseIdx,auI hi]
   refine⟨by rw[sj eQ],.inr ⟨g,cap,_,by rw[hel],hb,hB2,by omega,hm,by simpa using aft,?_⟩⟩;rw[hel,<-Cl,Nq _ _ _ (by rw[Nz];omega),show(i+(l.length-(i+1)))*5=0+i*5+news.length by rw[aV];omega,IO _ _ _ (by rw[hcu];omega),Ns l i hi,yf,<-vt,List.take_take,Nat.min_eq_left (by omega),avm]
  have dh:ah (fun g'=>(Value.slice (some ⟨g,0,none⟩) l.length cap).ownBlock=some g') w (W1.setCells g ((i+(l.length-(i+1)))*5) WZ.cells.toList):=((((ah.refl (·=g) w).drew).trans hM1 (fun _ _ h=>h)).trans Ox (fun _ _ h=>h)).mono (fun k _ h=>by subst h;rfl);obtain⟨zs,hzs⟩:∃ zs,WZ.cells.toList=zs:=⟨_,rfl⟩
  rw[hzs]at sV dh;simp only[hzs]at sH;have HF:=hd0 (And.intro sV dh);have HW:=hd0 Kg;have HC:=hd0 sH;have hic:i<=cap:=by omega
  have hjc:i+1<=cap:=by omega
  have hij:¬ i=i+1:=by omega
  have dW:((i:Int)==(i:Int)+1)=false:=by rw[avj];omega
  have E9:(l.length:Int)<=1000:=by omega
  have Jh:(0:Int)<=(i:Int)+1:=by omega
  have Ce:(i:Int)+1<=(l.length:Int):=by omega
  have BP:((i:Int)+1).toNat=i+1:=by omega
  clear sV dh sH Kq hB2 hM1 Ox Nz aft ru yf hH hHd vt cK hg h aV hcu Cl Kg hzs;go_enter func67,ntmps67;go_wp2_with fail
  go_region_law (refine step_append_room rfl (.tmp 22) (.tmp 25) 92 rfl 85 i0 5 underlying92 hi0 mZ g 0 i cap (by simp[Act.eval,Act.put]) A (l.length-(i+1)) (cap-(i+1)) news (by simp[Act.eval,Act.put]) s1.out aiK.out s2.out (by omega) s3.out ?_;rw[<-HW.out])
  have hq1:¬ cap=i+(l.length-(i+1)):=by omega
  have KN:(i+(l.length-(i+1)))<=l.length:=by omega
  have hq3:¬ l.length<i+(l.length-(i+1)):=by omega
  have hq4:l.length<=cap:=by omega
  have hcz:∀ ty,(Builtin.clear_ #[92] ty #[.slice (some ⟨g,(i+(l.length-(i+1)))*5,none⟩) (l.length-(i+(l.length-(i+1)))) (cap-(i+(l.length-(i+1))))]).run prog W1=.ok (.tuple #[]) (W1.setCells g ((i+(l.length-(i+1)))*5) zs):=fun ty=>by
   rw[show l.length-(i+(l.length-(i+1)))=1 by omega];exact HC.out ty
  go_wp2;go_ret;refine⟨.slice (some ⟨g,0,none⟩) (l.length-1) cap,?_,HF.out.1,HF.out.2⟩;rw[show l.length-1=i+(l.length-(i+1)) by omega];rfl
end
theorem E6 {rd:Rd}{data:az}{nums:List (List Int)}(h:ez rd data nums){n:Int}(hn:n∈nums.flatten):∃ s,rd n=.ok s/\s.length<=240:=by
 obtain⟨row,hr,hm⟩:=List.mem_flatten.1 hn;obtain⟨l,hl,e⟩:=List.mem_iff_getElem.1 hr;obtain⟨i,hi,e2⟩:=List.mem_iff_getElem.1 hm;have hg:(nums.getD l [])[i]?=some n:=by
  rw[List.getD,auB hl,avb,e,auB hi,e2]
 cases l with
 |zero=>exact⟨_,h.chunk i n hg,by rw[jd];omega⟩
 |succ l=>exact⟨_,h.ptr l i n hg,by rw[rW,je];omega⟩
theorem aR.read {rd:Rd}{data:az}{b:fP}{S:Nat->Prop}(h:aR rd data b S){n:Nat}(hn:S n):∃ s,rd n=.ok s/\s.length<=240:=by
 obtain⟨_,nums,_,ht,hS⟩:=h;exact E6 ht ((hS n).1 hn)
theorem lC.read {rd:Rd}:∀ {ys:List fC} {xs:List Nt} {S:Nat->Prop},lC rd ys xs S->∀ n:Nat,S n->∃ s,rd n=.ok s/\s.length<=240
 |[],[],_,h,n,hn=>absurd hn (h n)
 |y::ys,x::xs,S,⟨_,A,B,h2,h3,h4⟩,n,hn=>by
  rcases(h4 n).1 hn with h|h
  ·exact h2.read h
  ·exact h3.read n h
 |[],_::_,_,h,_,_=>h.elim
 |_::_,[],_,h,_,_=>h.elim
theorem j0.read {rd:Rd}{inos:List fC}{nodes:List Nt}{t:fP}{S:Nat->Prop}(h:j0 rd inos nodes t S)(n:Nat)(hn:S n):∃ s,rd n=.ok s/\s.length<=240:=by
 obtain⟨A,B,hA,hB,hS⟩:=h;rcases(hS n).1 hn with h|h
 ·exact hA.read n h
 ·exact hB.read h
theorem Av {v:Vs}(h:io v){x:Sn}(hx:x∈v.b.list)(n:Nat)(hn:am (v.b.planes.getD x.plane.toNat []) n=true):1<=n/\n<v.blocks/\∃ s,v.rd n=.ok s/\s.length<=240:=by
 obtain⟨inos,nodes,_,hT⟩:=h.snaps x hx;obtain⟨h1,h2⟩:=h.list.plane x hx;have:=(h.planes x.plane.toNat (by omega)).2 n hn;exact⟨this.1,this.2,hT.read n hn⟩
theorem nM.refl (v:Vs)(x:Sn):nM v v x:=⟨rfl,fun _ _=>rfl⟩
theorem nM.trans {a b c:Vs}{x:Sn}(h:nM a b x)(k:nM b c x):nM a c x:=⟨k.1.trans h.1,fun n hn=>(k.2 n (by rw[h.1];exact hn)).trans (h.2 n hn)⟩
structure dS (v u:Vs):Prop where
 kept:∀ x∈v.b.list,x∈u.b.list->nM v u x
 old:∀ x∈u.b.list,x∈v.b.list\/(v.b.id:Int)<=x.id
 id:v.b.id<=u.b.id
theorem dS.refl (v:Vs):dS v v:=⟨fun x _ _=>nM.refl v x,fun _ h=>.inl h,auE _⟩
theorem dS.of_point {v u:Vs}{list:List Sn}{more:az}(hm:dX v list more)(h:Bt v list more u)(hid:∀ x∈v.b.list,x.id<v.b.id):dS v u:=by
 obtain⟨y,_,hy,_,hl,_⟩:=h.sns;have eG:∀ x∈u.b.list,x∈list\/x=y:=by
  intro x hx;rw[hl]at hx;split at hx
  ·exact .inl hx
  ·rcases avE.1 hx with hx|hx
   ·exact .inl hx
   ·exact .inr (by simpa using hx)
 refine⟨fun x hx hu=>?_,fun x hx=>?_,by rw[h.id];split<;>omega⟩
 ·rcases eG x hu with h1|rfl
  ·exact h.kept x h1
  ·have:=hid x hx;omega
 ·rcases eG x hx with h1|rfl
  ·exact .inl (hm.sub.subset h1)
  ·exact .inr (by omega)
theorem dS.trans {a b c:Vs}(ha:∀ x∈a.b.list,x.id<a.b.id)(h:dS a b)(k:dS b c):dS a c where
 kept x hx hc:=by
  have hb:x∈b.b.list:=by
   rcases k.old x hc with h1|h1
   ·exact h1
   ·have:=ha x hx;have:=h.id;omega
  exact(h.kept x hx hb).trans (k.kept x hb hc)
 old x hc:=by
  rcases k.old x hc with h1|h1
  ·exact h.old x h1
  ·exact .inr (by have:=h.id;omega)
 id:=aux h.id k.id
theorem dS.same {v u:Vs}(hr:u.rd=v.rd)(hp:u.b=v.b):dS v u:=⟨fun x _ _=>⟨by rw[hp],fun n _=>by rw[hr]⟩,fun x hx=>.inl (by rw[hp]at hx;exact hx),by rw[hp];exact auE _⟩
theorem iK {v:Vs}(h:io v):∀ x∈v.b.list,x.id<v.b.id:=fun x hx=>(h.list.idlo x hx).2
theorem IP {v:Vs}(h:io v){T:Tr}{kind:Int}{b:Bool}{u:Vs}(hf:mG v T kind=.ok (b,u)):dS v u:=by
 unfold mG at hf;split at hf
 ·injection hf with hf;injection hf with _ hf;subst hf;exact dS.refl v
 ·split at hf
  ·simp[Except.map]at hf;obtain⟨_,rfl⟩:=hf;exact dS.refl v
  ·obtain⟨w,hw⟩:=ls h (eS v);rw[hw.run]at hf;simp[Except.map]at hf;obtain⟨_,rfl⟩:=hf;exact dS.of_point (eS v) hw (iK h)
theorem Rw {v:Vs}(h:io v){c:bP}{r:Int}{u:Vs}(hd:yP v c=.ok (r,u)):dS v u:=by
 unfold yP at hd;by_cases cq:c.ok=false
 ·rw[auI cq]at hd;injection hd with hd;injection hd with _ hd;subst hd;exact dS.refl v
 ·rw[auK cq]at hd;have aj9:c.ok=true:=by simpa using cq
  cases hm:nB v c with
  |error e=>rw[hm]at hd;injection hd with hd;injection hd with _ hd;subst hd;exact dS.refl v
  |ok T=>
   rw[hm]at hd;simp only at hd;obtain⟨v1,e1,sQ,aiF⟩:∃ v1,(if(c.kind=7\/c.kind=8)\/c.line.length+2<=cl v then(.ok v:Except Int Vs)else bB v v.b.list [])=.ok v1/\im v v1/\dS v v1:=by
    by_cases hr:(c.kind=7\/c.kind=8)\/c.line.length+2<=cl v
    ·exact⟨v,by rw[auI hr],im.refl h,dS.refl v⟩
    ·obtain⟨w,hw,hs,_⟩:=fM h;obtain⟨w',cf⟩:=ls h (eS v);have:w'=w:=by have:=cf.run.symm.trans hw;injection this
     subst this;exact⟨w',by rw[auK hr,hw],hs,dS.of_point (eS v) cf (iK h)⟩
   rw[e1]at hd;simp only at hd;obtain⟨b,v2,e2,kp,_⟩:=Ka sQ.good T c.kind;have Si:=aiF.trans (iK h) (IP sQ.good e2);have hs:=sQ.trans kp;rw[e2]at hd
   cases b with
   |false=>injection hd with hd;injection hd with _ hd;subst hd;exact Si
   |true=>
    simp only at hd;by_cases h7:c.kind=7
    ·rw[auI h7]at hd;obtain⟨g1,g2,g3⟩:=xV hm h7;obtain⟨k1,k2,_⟩:=qe aj9 h7;have BZ:dX v2 v2.b.list c.path:=⟨List.Sublist.refl _,.inr ⟨k1,k2,fun x hx=>by rw[hs.list]at hx;exact re g1 x hx,by rw[hs.list];exact g2,by rw[hs.id];omega⟩⟩
     obtain⟨w,hw⟩:=ls hs.good BZ;rw[hw.run]at hd;injection hd with hd;injection hd with _ hd;subst hd;exact Si.trans (iK h) (dS.of_point BZ hw (iK hs.good))
    ·rw[auK h7]at hd;by_cases h8:c.kind=8
     ·rw[auI h8]at hd;have BZ:dX v2 (v2.b.list.eraseIdx ((du v2 c.path).getD 0)) []:=⟨List.eraseIdx_sublist _ _,.inl rfl⟩
      obtain⟨w,hw⟩:=ls hs.good BZ;rw[hw.run]at hd;injection hd with hd;injection hd with _ hd;subst hd;exact Si.trans (iK h) (dS.of_point BZ hw (iK hs.good))
     ·rw[auK h8]at hd;split at hd
      ·injection hd with hd;injection hd with _ hd;subst hd;exact Si
      ·injection hd with hd;injection hd with _ hd;subst hd;exact Si.trans (iK h) (dS.same rfl rfl)
end Go.Proofs.YtkghpdcloaiflaaGreatDoor
