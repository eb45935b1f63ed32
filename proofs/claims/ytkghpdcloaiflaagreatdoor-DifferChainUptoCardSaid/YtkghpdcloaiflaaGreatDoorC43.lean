import Derived.Test.YtkghpdcloaiflaaGreatDoorC42
import Derived.ProofKit
import Derived.SizedLaws
import Derived.SliceStrings
import Derived.Test.YtkghpdcloaiflaaGreatDoorCards
import Derived.Test.YtkghpdcloaiflaaGreatDoorTie
import Derived.OpenShut
import Derived.Lay
import Derived.Deep.DeepHandedRow
import Derived.Deep.DeepWitnessRowRef
import Derived.LaidHandle
import Derived.LaidLaws
import Derived.Deep.Slices
import Derived.Deep.Fields
import Derived.ChangeSame
import Derived.Deep.RegionLaw
set_option maxHeartbeats 8000000
set_option maxRecDepth 1000000
namespace Go.Proofs.YtkghpdcloaiflaaGreatDoor
open _root_.Go.Proofs.Tryz
section
open Go.RowKit
attribute [local go_sem] atC
def pT (c:bT):List Value:=[.int .i64 c.kind,.string ⟨c.path.toArray⟩,.string ⟨c.dest.toArray⟩,.int .i64 c.pos,.string ⟨c.data.toArray⟩]
def pj (m:Nat):Vs:=dJ (ik (gT (4*m))) m 1 (bE (gT 100)*64) Tr.new
theorem Q5 {m:Nat}(h:48<=m/\m<=300){v:Vs}(hv:bB (pj m) [] []=.ok v):Lv v 0/\v.blocks=m:=by
 have hr:mF (pj m):=xC _ _ _ _ (by omega) xE (by rw[jw];rfl) (fun x hx=>by rw[jw]at hx;simp at hx;subst hx;decide);obtain⟨u,hu⟩:=t8 hr (list:=[]) (more:=[]) ⟨List.Sublist.refl _,.inl rfl⟩;have e:u=v:=by have:=hu.run.symm.trans hv;injection this
 subst e;have hh:u.half=bE (gT 100)*64:=hu.half;have hid:u.b.id=1:=by rw[hu.id,atP rfl];rfl
 have dy:u.num=1+1:=hu.num;refine⟨⟨hu.good,⟨_,by rw[hu.T];exact Gb⟩,by omega,by omega,?_⟩,hu.blocks⟩;rw[hh];unfold bE;rw[iO];decide
structure Ex (w:World)(p:Nat)(v:Vs)(a:eX)(w':World):Prop where
 at_:ls w' p v a
 text:a.text=fU v.b
 foot:∀ g,a.foot p g->w.heap.size<=g
 keep:af w w'
theorem Ex.did {w w1 w2:World}{p:Nat}{v u:Vs}{a a':eX}(h:Ex w p v a w1)(k:Yw w1 p v a u a' w2):Ex w p u a' w2:=
 ⟨k.at_,k.text h.text,fun g hg=>(k.foot g hg).elim (h.foot g) (fun h1=>atE h.keep.size h1),h.keep.trans k.mod (fun g hl hg=>by have:=h.foot g hg;omega)⟩
def xL (w:World)(m:Nat)(cs:List bT)(e:Ending)(w':World):Prop:=
 ∃ p v0 v a,e=.returned (aq p)/\bB (pj m) [] []=.ok v0/\uo v0 (cs.take 60)=.ok v/\Lv v (min cs.length 60)/\v.blocks=m/\Ex w p v a w'
theorem xL.intro {w w':World}{m:Nat}{cs:List bT}{p:Nat}{v0 v:Vs}{a:eX}(h1:bB (pj m) [] []=.ok v0)(h2:uo v0 (cs.take 60)=.ok v)(h3:Lv v (min cs.length 60))(h4:v.blocks=m)(h5:Ex w p v a w'):xL w m cs (.returned (aq p)) w':=
 ⟨p,v0,v,a,rfl,h1,h2,h3,h4,h5⟩
theorem Af {w:World}(he:tL w)(blocks:Int)(hb:-9223372036854775808<=blocks/\blocks<=9223372036854775807)(cs:List bT)(cv:Value)(hr:jY pT 5 w cv cs)(hs:∀ c∈cs,c.Small)(hl:cs.length<=1048576)(So:(∃ c∈cs,c.kind=8)->QQ):
  Calls prog 14 #[.int .i64 blocks,cv] w (xL w (max 48 (min blocks 300)).toNat cs):=by
 obtain⟨m,hm⟩:∃ m:Nat,max 48 (min blocks 300)=(m:Int):=⟨(max 48 (min blocks 300)).toNat,by omega⟩
 have yU:48<=m/\m<=300:=by omega
 have hmt:(max 48 (min blocks 300)).toNat=m:=by omega
 obtain⟨n4,VE⟩:∃ n4:Nat,(4:Int)*(m:Int)=(n4:Int):=⟨4*m,by omega⟩
 have acA:n4=4*m:=by omega
 have D1:=hd0 (CA w n4 (by omega));have HM:=hd0 (And.intro yU (And.intro hmt acA));have HE:=hd0 he;have HS:=hd0 hs;have HD:=hd0 So;obtain⟨ca,cap,rfl,hx⟩:=hr;have HX:=hd0 hx;have Fw:(cs.length:Int)<=1048576:=by omega
 have w4:IntKind.i64.wrap ((4:Int)*(m:Int))=(n4:Int):=by rw[VE];exact fh (by omega)
 clear he hs So hx yU hmt acA;go_enter func14,ntmps14;go_wp2_with fail;refine D1.out.mono ?_;rintro e w1 ⟨d1,rfl,k1,F1,IM,hF1⟩;have bU:=hd0 k1;have D2:=hd0 (CA w1 100 (by omega));have HD1:=hd0 (And.intro IM hF1);clear k1 IM hF1 D1 w4;go_wp2_with fail;refine D2.out.mono ?_;rintro e w2 ⟨d2,rfl,k2,F2,J6,XB⟩;have bu:=hd0 (bU.out.keep k2);have IM:bA w2 d1 (gT n4) F1:=HD1.out.1.mod k2 (fun b _=>id);have FO:=Mv IM J6 (fun b h1 h2=>by have:=HD1.out.1.lt b h1;have:=XB b h2;omega) (by rw[iO];have:=HM.out.1;have:=HM.out.2.2;omega) (by rw[iO];decide);have e1:(gT n4).size/4=m:=by rw[iO,HM.out.2.2];omega
 rw[e1,HM.out.2.2]at FO;have FO:=hd0 FO;have HFF:Hid (∀ b,F1 b\/F2 b->w.heap.size<=b):=hd0 (fun b h=>h.elim (HD1.out.2 b) (fun h2=>atE bU.out.size (XB b h2)));clear k2 IM J6 XB D2 e1 HD1 VE hm;go_wp2_with fail;refine FO.out.mono ?_;rintro e w3 ⟨p,v0,a0,rfl,IY,Oi,Kj,hft,uT⟩;have HPT:Hid (bB (pj m) [] []=.ok v0):=hd0 Oi;have HLV:=hd0 (Q5 HM.out.1 HPT.out);have Z3:Hid (Ex w p v0 a0 w3):=hd0 ⟨IY,Kj,fun g hg=>by
  rcases hft g hg with h|h|h
  ·exact HFF.out g (.inl h)
  ·exact HFF.out g (.inr h)
  ·exact atE bu.out.size h,bu.out.trans uT (fun g hl hg=>by have:=HFF.out g hg;omega)⟩
 clear IY Oi Kj hft uT FO HFF;go_wp2_with fail
 go_loopw [10] (fun y wr=>∃ k:Nat,k<=cs.length/\k<=60/\y=.int .i64 (k:Int)/\Hid (∃ v a,uo v0 (cs.take k)=.ok v/\Lv v k/\v.blocks=m/\Ex w p v a wr)) (fun y _=>60-(intOf y).toNat)
 case atStart=>exact⟨0,by omega,by omega,rfl,hd0 ⟨v0,a0,rfl,HLV.out.1,HLV.out.2,Z3.out⟩⟩
 case round=>
  clear Z3 HLV;obtain⟨k,hk,re,rfl,HR⟩:=hrel;obtain⟨v,a,bh,ib,qZ,nE⟩:=HR.out;have HRU:=hd0 (And.intro bh (And.intro ib (And.intro qZ nE)));clear bh ib qZ nE HR;by_cases aM:k<cs.length
  ·have dS:(k:Int)<(cs.length:Int):=by omega
   by_cases sC:k<60
   ·have ag7:(k:Int)<60:=by omega
    obtain⟨c,hc⟩:∃ c,cs[k]?=some c:=⟨_,atI aM⟩
    obtain⟨rb,o,rfl,WO⟩:=HX.out k c hc;have HAT:=HRU.out.2.2.2;have cx:∀ i u,(pT c)[i]?=some u->wr.cell? ⟨rb,o+k*5+i,none⟩=some u:=fun i u hi=>by
     have h1:=WO i u hi;rw[HAT.keep.cell (p:=⟨rb,o+k*5+i,none⟩) (am h1) id];exact h1
    have c0:wr.cell? ⟨rb,o+k*5,none⟩=some (.int .i64 c.kind):=cx 0 _ rfl;have c1:wr.cell? ⟨rb,o+k*5+1,none⟩=some (.string ⟨c.path.toArray⟩):=cx 1 _ rfl;have c2:wr.cell? ⟨rb,o+k*5+2,none⟩=some (.string ⟨c.dest.toArray⟩):=cx 2 _ rfl;have c3:wr.cell? ⟨rb,o+k*5+3,none⟩=some (.int .i64 c.pos):=cx 3 _ rfl;have c4:wr.cell? ⟨rb,o+k*5+4,none⟩=some (.string ⟨c.data.toArray⟩):=cx 4 _ rfl;have EP:=atJ hc;have hda:abP v c:=by
     obtain⟨_,ib,_,_⟩:=HRU.out;obtain⟨d,hw⟩:=ib.wf;obtain⟨d',cJ⟩:=Pe hw c;exact⟨ib.good,by have:=ib.id;omega,by have:=ib.num;omega,HS.out c EP,fun cC=>⟨by have:=xK cC;have:=ib.half;omega,xK cC⟩,Ae cJ,Ad⟩
    have DO:=hd0 (UG HAT.at_ (HE.out.keep HAT.keep) hda (fun h8=>HD.out ⟨c,EP,h8⟩));have HC:=hd0 hc;clear cx WO HAT EP hda hc;go_wp2_with fail;unfold gJ bM at DO;refine DO.out.mono ?_;rintro e w4 ⟨r,u,a',uR,rfl,hvd⟩;have HN:Hid (∃ v a,uo v0 (cs.take (k+1))=.ok v/\Lv v (k+1)/\v.blocks=m/\Ex w p v a w4):=hd0 (by
     obtain⟨bh,ib,qZ,nE⟩:=HRU.out;obtain⟨r',u',q1,q2,q3,_⟩:=ib.step c;rw[q1]at uR;injection uR with uR;injection uR with h1 h2;subst h1 h2;refine⟨u',a',?_,q2,q3.trans qZ,nE.did hvd⟩;rw[atK,HC.out];exact MG bh q1)
    clear uR hvd DO c0 c1 c2 c3 c4;go_wp2_with fail;exact⟨⟨k+1,by omega,by omega,by go_num,HN⟩,by simp[intOf];omega⟩
   ·have ag7:¬(k:Int)<60:=by omega
    have agX:k=60:=by omega
    go_wp2;go_ret;obtain⟨bh,ib,qZ,nE⟩:=HRU.out;rw[HM.out.2.1];exact xL.intro HPT.out (by rw[<-agX];exact bh) (by rw[show min cs.length 60=k by omega];exact ib) qZ nE
  ·have dS:¬(k:Int)<(cs.length:Int):=by omega
   go_wp2;go_ret;obtain⟨bh,ib,qZ,nE⟩:=HRU.out;rw[HM.out.2.1];exact xL.intro HPT.out (by rw[aux (show cs.length<=60 by omega)];rw[aux (show cs.length<=k by omega)]at bh;exact bh) (by rw[show min cs.length 60=k by omega];exact ib) qZ nE
end
def cmA:bT:=⟨0,[47,97],[],0,[]⟩
def SJ (c:UInt8):bT:=⟨7,[c],[],0,[]⟩
def YE (rd:Rd):Except Int Vs:=match bB (dJ rd 100 1 3136 Tr.new) [] []with
 | .ok u=>uo u [cmA,SJ 97,SJ 98]
 | .error e=>.error e
def YF (v:Vs):=(qg v [] [97],qg v [98] [97],qg v [] [120],v.b.planes.getD 1 [],v.rd 5,v.rd 6,((bf v.b.list [97]).getD fi).id)
def YG:Except Int (Hd×List Nat)×Except Int (Hd×List Nat)×Except Int (Hd×List Nat)×ay×Except Int ay×Except Int ay×Int:=
 (.ok (⟨1,0,[97],⟨6,11⟩,2,[]⟩,[5,6]),.error 190,.error 162,[96],.ok [1,1,97,2],.ok [2,1,1,1,5,4,2,0,1,0,0],1)
theorem UO (rd:Rd):(match YE rd with | .ok v=>YF v | .error _=>(.error 0,.error 0,.error 0,[],.error 0,.error 0,0))=YG:=by kernel_rfl
theorem abT {v0 v:Vs}(h0:bB (pj 100) [] []=.ok v0)(h1:uo v0 [cmA,SJ 97,SJ 98]=.ok v):YF v=YG:=by
 have e:pj 100=dJ (ik (gT (4*100))) 100 1 3136 Tr.new:=by
  unfold pj;rw[show bE (gT 100)*64=3136 by unfold bE;rw[iO]]
 have ho:YE (ik (gT (4*100)))=.ok v:=by
  unfold YE;rw[<-e,h0];exact h1
 have:=UO (ik (gT (4*100)));rw[ho]at this;exact this
section
open Go.ChangeShapes Go.WideShapes Go.ChangeAt Go.RowKit
section
variable {H:Type}{enc:TypeId×Value->H}{P:Program}
theorem rP (hl:laidOutB P=true){W W':World}(hb:Below W.heap.size W W'):∀(ts:List TypeId) (vs:List Value) (ds:List (DataW H)) (ps:List MemPlace),
  (ts.all fun t=>P.readableRec t&&decide (t<P.types.size))=true->DataW.TrodAll enc P W 0 (fun _=>true) true ts vs ds ps->(∀ x∈ps,x.block<W.heap.size)->
  DataW.TrodAll enc P W' 0 (fun b=>decide (b<W.heap.size)) true ts vs ds ps
 |[],[],[],_,_,h,_=>h
 |t::ts,v::vs,d::ds,ps,hr,h,aM=>by
  obtain⟨p,q,h1,h2,rfl⟩:=h;simp only[List.all_cons,at2,aua]at hr;exact⟨p,q,Below.trod hl hr.1.1 hr.1.2 h1 hb (fun x hx=>aM x (by simp[hx])),rP hl hb ts vs ds q hr.2 h2 (fun x hx=>aM x (by simp[hx])),rfl⟩
 |[],_::_,_,_,_,h,_=>h.elim
 |[],[],_::_,_,_,h,_=>h.elim
 |_::_,[],_,_,_,h,_=>h.elim
 |_::_,_::_,[],_,_,h,_=>h.elim
theorem MH {fn:Func}{s:ChangeSpec}{W W':World}{args:Array Value}{ds gs:List (DataW H)}{before:List MemPlace}{tb:TypeId}
  (hl:laidOutB P=true) (hr:(fn.params.toList.all fun t=>P.readableRec t&&decide (t<P.types.size))=true) (hv:s.vars=[]) (hrt:fn.resultTypes=#[tb]) (hb:P.underlying tb=some .bool)
  (Rn:s.fn H (ds++gs)={ results:=[.lit (.bool true)],args:=ds }) (hW:DataW.Whole enc P fn.params.toList s.vars false W args.toList ds gs before) (hk:af W W'):
  s.post enc P fn false true false false W args (.bool true) W':=by
 have aM:∀ x∈before,x.block<W.heap.size:=fun x hx=>by simpa using hW.lt x hx
 have hW':=hW;obtain⟨p,q,hA,hV,rfl,_,_⟩:=hW;rw[hv]at hV;obtain⟨_,rfl⟩:=trodVars_none hV;refine⟨ds,gs,p++[],[],p,[],hW',?_,?_,?_,hk.below.frame _,fun h=>by cases h⟩
 ·rw[Rn,hrt];exact trodAll_mk1 (shut_bool hb _)
 ·rw[Rn];exact rP hl hk.below _ _ _ _ hr hA (fun x hx=>aM x (by simp[hx]))
 ·rw[Rn,hv];rfl
end
end
section
open Go.RowKit
attribute [local go_sem] atC
theorem YH:Ik 5 [97,98]=.tuple #[aB [5,2,97,98],.int .i64 0]:=by
 rw[show Ik 5 [97,98]=.tuple #[aB (el 5 [97,98]),.int .i64 0]from atP (by decide)];rw[show el 5 [97,98]=[5,2,97,98] by kernel_rfl]
theorem lg {v:Vs}(h:ma v){x:Sn}(hx:x∈v.b.list):(bR v x).length<=600:=by
 obtain⟨h1,h2⟩:=h.list.plane x hx;have:=h.planes x.plane.toNat (by omega);have h3:=pL (k:=512) this.1 fun n hn=>by have:=(this.2 n hn).2;have:=h.many;omega
 unfold bR;omega
theorem Ag {w:World}(he:tL w):Calls prog 13 #[] w fun e w'=>e=.returned (.bool true)/\af w w':=by
 obtain⟨W,hW⟩:∃ W,w.alloc (.cells #[.int .i64 0,.string ⟨#[47,97]⟩,.string ⟨#[]⟩,.int .i64 0,.string ⟨#[]⟩,.int .i64 7,.string ⟨#[97]⟩,.string ⟨#[]⟩,.int .i64 0,.string ⟨#[]⟩,.int .i64 7,.string ⟨#[98]⟩,.string ⟨#[]⟩,.int .i64 0,.string ⟨#[]⟩] 55)=W:=⟨_,rfl⟩
 have hk:af w W:=by rw[<-hW];exact(ah.refl _ w).alloc _
 have hb:World.blk W w.heap.size #[.int .i64 0,.string ⟨#[47,97]⟩,.string ⟨#[]⟩,.int .i64 0,.string ⟨#[]⟩,.int .i64 7,.string ⟨#[97]⟩,.string ⟨#[]⟩,.int .i64 0,.string ⟨#[]⟩,.int .i64 7,.string ⟨#[98]⟩,.string ⟨#[]⟩,.int .i64 0,.string ⟨#[]⟩] 55:=by rw[<-hW];exact aw _ _ _
 have cH:jY pT 5 W (.slice (some ⟨w.heap.size,0,none⟩) 3 3) [cmA,SJ 97,SJ 98]:=by
  refine⟨_,_,rfl,fun j x hx=>⟨w.heap.size,0,rfl,fun i c hc=>?_⟩⟩;rcases j with _|_|_|j
  ·simp at hx;subst hx;rcases i with _|_|_|_|_|i<;>first|(simp[pT,cmA]at hc;subst hc;exact aa hb _)|(simp[pT]at hc)
  ·simp at hx;subst hx;rcases i with _|_|_|_|_|i<;>first|(simp[pT,SJ]at hc;subst hc;exact aa hb _)|(simp[pT]at hc)
  ·simp at hx;subst hx;rcases i with _|_|_|_|_|i<;>first|(simp[pT,SJ]at hc;subst hc;exact aa hb _)|(simp[pT]at hc)
  ·simp at hx
 have LD:=Af (he.keep hk) 100 (by omega) [cmA,SJ 97,SJ 98] _ cH (fun c hc=>by
  simp at hc;rcases hc with rfl|rfl|rfl<;>exact⟨by decide,by decide,by decide,by decide⟩) (by simp) (fun⟨c,hc,h8⟩=>by
  simp at hc;rcases hc with rfl|rfl|rfl<;>exact absurd h8 (by decide))
 rw[show(max 48 (min (100:Int) 300)).toNat=100 by decide]at LD;have LD:=hd0 LD;have HK:=hd0 hk;clear hb cH hk he;go_enter func13,ntmps13;go_wp2_with fail
 try rw[hW]
 refine LD.out.mono ?_;rintro e w1 ⟨p,v0,v,a,rfl,h0,h1,ib,qZ,nE⟩;have hq:=abT h0 h1;unfold YF YG at hq;injection hq with q1 hq;injection hq with q2 hq;injection hq with q3 hq;injection hq with q4 hq;injection hq with q5 hq;injection hq with q6 q7;have HG:=hd0 ib.good;have HQ:=hd0 (And.intro q1 (And.intro q2 (And.intro q3 (And.intro q4 (And.intro q5 (And.intro q6 q7))))));have HB:=hd0 qZ;have HA:=hd0 nE;have NW:=fun(b t:ay) (W:World) (hk:af w1 W) (h1:b.length<=1000) (h2:t.length<=1000)=>My (nE.at_.keep hk) (by have:=ib.good.list.many;omega) ib.good.list.plane (fun x y hx hy=>⟨lg ib.good hx,atE (kO _ _) (Nat.max_le.2 ⟨lg ib.good hx,lg ib.good hy⟩)⟩) b t (by omega) (by omega);have N1:=hd0 (NW [] [97] w1 (ah.refl _ _) (by simp) (by simp));have NW:=hd0 NW;clear q1 q2 q3 q4 q5 q6 q7 ib qZ nE h0 h1 LD hW;go_wp2_with fail;refine N1.out.mono ?_;rintro e w2 ⟨k2,hp⟩;rw[HQ.out.1]at hp;simp only at hp;obtain⟨q,lv,rfl,Nb⟩:=hp;have bu:=hd0 k2;have HPA:=hd0 Nb;have N2:=hd0 (NW.out [98] [97] w2 k2 (by simp) (by simp));clear k2 Nb N1;go_wp2_with fail;refine N2.out.mono ?_;rintro e w3 ⟨k3,hp⟩;rw[HQ.out.2.1]at hp;simp only at hp;subst hp;have dT:=hd0 (bu.out.keep k3);have adC:=hd0 (HPA.out.keep k3);have N3:=hd0 (NW.out [] [120] w3 dT.out (by simp) (by simp));clear k3 N2;go_wp2_with fail;refine N3.out.mono ?_;rintro e w4 ⟨k4,hp⟩;rw[HQ.out.2.2.1]at hp;simp only at hp;subst hp;have lw:=hd0 (dT.out.keep k4);have Zt:=adC.out.keep k4;have PH:=hd0 (MD Zt);have aeP:=hd0 Zt;clear k4 N3 Zt;go_wp2_with fail;refine PH.out.mono ?_;rintro e w5 ⟨rfl,k5⟩;have j7:=hd0 (lw.out.keep k5);have ac7:=hd0 (aeP.out.keep k5);have k6:af w5 (w5.alloc (.cells #[.int .i64 1,.int .i64 0,.string ⟨#[97]⟩,.int .i64 6,.int .i64 11,.int .i64 2,.string ⟨#[]⟩] 44)):=(ah.refl _ w5).alloc _;have b6:World.blk (w5.alloc (.cells #[.int .i64 1,.int .i64 0,.string ⟨#[97]⟩,.int .i64 6,.int .i64 11,.int .i64 2,.string ⟨#[]⟩] 44)) w5.heap.size #[.int .i64 1,.int .i64 0,.string ⟨#[97]⟩,.int .i64 6,.int .i64 11,.int .i64 2,.string ⟨#[]⟩] 44:=aw _ _ _;have tD:=hd0 (j7.out.keep k6);have HB6:=hd0 b6;have HHB:Hid (w1.heap.size<=w5.heap.size):=hd0 j7.out.size;have MP:=hd0 (xG (HA.out.at_.keep tD.out));have ada:=hd0 (ac7.out.keep k6);clear k5 PH k6 b6;go_wp2_with fail;generalize w5.alloc (.cells #[.int .i64 1,.int .i64 0,.string ⟨#[97]⟩,.int .i64 6,.int .i64 11,.int .i64 2,.string ⟨#[]⟩] 44)=w6 at*;generalize w5.heap.size=hb at*;refine MP.out.mono ?_;rintro e w7 ⟨m,rfl,hm,JV,k7⟩;have yi:=hd0 (tD.out.keep k7);have Kg:=hd0 (ab k7 HB6.out id);have aeJ:=hd0 (ada.out.keep k7);have PL:=wn JV 1 (by decide);rw[HQ.out.2.2.2.1]at PL;have PL:=hd0 PL;clear k7 hm JV MP tD HB6 ada ac7 aeP adC;go_wp2_with fail;refine PL.out.mono ?_;rintro e w8 ⟨rfl,k8⟩;have rR:=hd0 (yi.out.keep k8);have Bn:=hd0 (ab k8 Kg.out id);have aeN:=hd0 (aeJ.out.keep k8);have DR:=xI 5 [97,98] w8 (by decide);rw[YH]at DR;have DR:=hd0 DR;clear k8 PL yi Kg aeJ;go_wp2_with fail;refine DR.out.mono ?_;rintro e w9 ⟨rfl,k9⟩;have Bu:=hd0 (rR.out.keep k9);have N9:=hd0 (ab k9 Bn.out id);have acm:=hd0 (aeN.out.keep k9);have DP:=ME 5 [97,98] (by decide) w9;rw[show el ((5:Nat):Int) [97,98]=[5,2,97,98] by kernel_rfl]at DP;have DP:=hd0 DP;clear k9 DR rR Bn aeN;go_wp2_with fail;refine DP.out.mono ?_;rintro e Kc ⟨rfl,XK⟩;have Zb:=hd0 (Bu.out.keep XK);have Z0:=ab XK N9.out id;have c5:Kc.cell? ⟨hb,5,none⟩=some (.int .i64 2):=aa Z0 5;have ajU:=hd0 Z0;have HPI:Hid (gg Kc p a q ⟨1,0,[97],⟨6,11⟩,2,[]⟩ [5,6] lv):=hd0 (by
  have nI:=acm.out.keep XK;exact⟨⟨_,nI⟩,fun hf=>by have h1:=HA.out.at_.lt hf;have h2:=nI.new;omega,fun g hg hf=>by have h1:=HA.out.at_.lt hf;have h2:=(nI.row.lt g hg).1;omega⟩)
 have PO:=hd0 (Bg HPI.out 2 (.inr (by decide)));clear XK DP Bu N9 acm Z0;go_wp2_with fail;refine PO.out.mono ?_;rintro e w11 ⟨rfl,k11⟩;have acU:=hd0 (Zb.out.keep k11);have ajE:=hd0 (ab k11 ajU.out id);have aeA:=hd0 (HPI.out.keep k11);have SU:=QZ (HA.out.at_.keep acU.out) (by have:=HG.out.list.many;omega) aeA.out HQ.out.2.2.2.2.2.2 (by decide) HG.out.many.2 (fun n=>if n=5 then [1,1,97,2]else [2,1,1,1,5,4,2,0,1,0,0]) (fun n hn=>by
  simp at hn;rcases hn with rfl|rfl
  ·exact⟨by decide,by rw[HB.out];decide,HQ.out.2.2.2.2.1,by decide⟩
  ·exact⟨by decide,by rw[HB.out];decide,HQ.out.2.2.2.2.2.1,by decide⟩)
 obtain⟨sm,Se⟩:∃ sm,NL jc (gE (fun n=>if n=5 then [1,1,97,2]else [2,1,1,1,5,4,2,0,1,0,0]) [5,6])=sm:=⟨_,rfl⟩
 have uw:sm.length=8:=by rw[<-Se];rfl
 rw[Se]at SU;have SU:=hd0 SU;clear k11 PO c5 Se;go_wp2_with fail;refine SU.out.mono ?_;rintro e B3 ⟨rfl,a2,jj,_,_⟩;have Nw:=ab jj.mod ajE.out (fun hf=>by have h1:=HA.out.at_.lt hf;have h2:=HHB.out;omega);have BR:Hid (af w B3):=hd0 (HK.out.keep ((HA.out.keep.keep acU.out).trans jj.mod (fun g hl hg=>by have h1:=HA.out.foot g hg;omega)));have c0:∀ X,(B3.ext X).cell? ⟨hb,0,none⟩=some (.int .i64 1):=fun X=>aa (ab (aD B3 X) Nw id) 0;have c1:∀ X,(B3.ext X).cell? ⟨hb,1,none⟩=some (.int .i64 0):=fun X=>aa (ab (aD B3 X) Nw id) 1;have c2:∀ X,(B3.ext X).cell? ⟨hb,2,none⟩=some (.string ⟨#[97]⟩):=fun X=>aa (ab (aD B3 X) Nw id) 2;have c5:∀ X,(B3.ext X).cell? ⟨hb,5,none⟩=some (.int .i64 2):=fun X=>aa (ab (aD B3 X) Nw id) 5;have c6:∀ X,(B3.ext X).cell? ⟨hb,6,none⟩=some (.string ⟨#[]⟩):=fun X=>aa (ab (aD B3 X) Nw id) 6;have CN:∀ X,Calls prog 47 #[.string ⟨#[96]⟩] (B3.ext X) fun e w'=>e=.returned (.int .i64 2)/\af (B3.ext X) w':=fun X=>by
  have:=zu [96] (by decide) (B3.ext X)
  rwa [show jz [96]=2 by decide]at this
 have CN:=hd0 CN;have arD:(sm.length:Int)=8:=by omega
 clear jj SU Nw;go_wp2_with fail;refine cN (by kernel_rfl) (by kernel_rfl) ?_
 repeat (quiet_step (with_reducible exact bw (CN.out _)))
 refine auE ?_;intro _ cJ;obtain⟨xq,rfl⟩:=cJ;go_wp2;go_ret;exact⟨by simp,BR.out.keep (aD _ _)⟩
end
section
open Go.RowKit
attribute [local go_sem] atC
end
section
section
open Go.ChangeShapes Go.WideShapes Go.ChangeAt Go.RowKit
theorem tl {n:Int}(h:(Lit.int .i64 n).wf=true):-9223372036854775808<=n/\n<=9223372036854775807:=bounds_i64 h
noncomputable def Bh (os:Os):World:=
 let w0:=World.laidAll prog os (Rows.differRecordsRow.laid.filter fun x=>x.2.handleName?.isNone)
 { w0 with heap:=w0.heap.modify 0 fun
   | .cells _ t frozen=>.cells #[.iface 365 (.agg #[typeHandle prog 137])] t frozen
   |o=>o }
theorem MJ (os:Os):(Bh os).os=os:=by kernel_rfl
theorem Q6 (os:Os)(args:Array Value):laidMetH prog Rows.differRecordsRow.laid ((Bh os).forCall (fun _ _=>0) ⟨#[],args,[]⟩).memory:=
 laidMetH_of_parts (laidMet_of_run' 8 (by kernel_rfl) (by kernel_rfl)) (by kernel_rfl)
end
section
open Go.RowKit
end
end
section
open Go.RowKit
section
variable {α β:Type}{f:α->List β}{sz:Nat}
def qQ (l:List β)(o:Nat)(vs:List β):List β:=l.take o++(vs++l.drop (o+vs.length))
theorem Q7 (l:List β)(o:Nat):qQ l o []=l:=by simp[qQ]
theorem MK (l:List β)(o:Nat)(v:β)(r:List β)(h:o<l.length):qQ (l.set o v) (o+1) r=qQ l o (v::r):=by
 unfold qQ;apply List.ext_getElem?;intro k;simp only[List.getElem?_append,List.getElem?_take,auU,atO,List.length_set,List.getElem?_set,atH,List.getElem?_cons,Nat.min_eq_left (Nat.le_of_lt h),Nat.min_eq_left (show o+1<=l.length from h)];by_cases h1:k<o
 ·simp[h1,show k<o+1 by omega,show ¬ o=k by omega]
 ·by_cases h2:k=o
  ·subst h2;simp[h]
  ·obtain⟨j,rfl⟩:∃ j,k=o+1+j:=⟨k-o-1,by omega⟩
   rw[atR (show ¬ o+1+j<o+1 by omega),atR h1,show o+1+j-(o+1)=j by omega,show o+1+j-o=j+1 by omega];by_cases h3:j<r.length
   ·simp[h3]
   ·rw[atR h3,atR (show ¬ j+1<r.length+1 by omega),atR (by omega)]
    congr 1;omega
theorem Ey (l:List β)(o:Nat)(vs:List β)(h:o+vs.length<=l.length):(qQ l o vs).length=l.length:=by
 simp[qQ];omega
theorem ML (l:List β)(o:Nat)(vs:List β)(h:o<=l.length):(qQ l o vs).take o=l.take o:=by
 unfold qQ;rw[List.take_append,List.take_take,atO,Nat.min_self,Nat.min_eq_left h,Nat.sub_self,auA,List.append_nil]
theorem In (l:List β)(o:Nat)(vs:List β)(h:o<=l.length):(qQ l o vs).take (o+vs.length)=l.take o++vs:=by
 unfold qQ;rw[<-auu,List.take_append,aux (by simp;omega),at0,atO,Nat.min_eq_left h,Nat.sub_self,auA,List.append_nil]
theorem MM (hf:∀ a,(f a).length=sz)(l:List α)(i:Nat):(l.take i).flatMap f=(l.flatMap f).take (i*sz):=by
 induction l generalizing i with
 |nil=>simp
 |cons x r ih=>
  cases i with
  |zero=>simp
  |succ i=>
   rw[auz,aus,aus,ih,List.take_append,hf,aux (l:=f x) (by rw[hf,Nat.succ_mul];omega),show(i+1)*sz-sz=i*sz by rw[Nat.succ_mul];omega]
end
theorem nC {g:Nat}{t:TypeId}:∀(vs:List Value) (o:Nat) (w:World) (du:Array Value),World.blk w g du t->o+vs.length<=du.size->World.blk (w.setCells g o vs) g (qQ du.toList o vs).toArray t/\ah (·=g) w (w.setCells g o vs)
 |[],o,w,du,h,_=>by
  rw[World.setCells,Q7];exact⟨h,ah.refl _ _⟩
 |v::r,o,w,du,h,hl=>by
  rw[World.setCells];have h1:=ag h o v;rw[atH]at hl;obtain⟨h2,m2⟩:=nC r (o+1) _ _ h1 (by simp;omega);refine⟨?_,((ah.refl (·=g) w).setCell (p:=⟨g,o,none⟩) (.inl rfl) v).trans m2 (fun _ _ h=>h)⟩;rw[Array.toList_setIfInBounds,MK _ _ _ _ (by simp;omega)]at h2;exact h2
theorem yC {P:Program}(w:World)(t e ty:TypeId)(z:Value)(ht:P.underlying t=some (.slice e))(hv:∀ w,(zeroValue e).run P w=.ok z w)(h1:∀ u∈z.cells.toList,u.oneCell'=true)(b o c:Nat)
  (hc:∀ j,j<z.cells.size->(w.cell? ⟨b,o+j,none⟩).isSome=true) (hf:∀ j,j<z.cells.size->w.frozen? ⟨b,o+j,none⟩=false):
  (Builtin.clear_ #[t] ty #[.slice (some ⟨b,o,none⟩) 1 c]).run P w=.ok (.tuple #[]) (w.setCells b o z.cells.toList):=by
 have hzc:(Builtin.zeroCells z.cells 1).toList=z.cells.toList:=by
  unfold Builtin.zeroCells;apply List.ext_getElem
  ·simp
  ·intro i h1 h2;have hi:i<z.cells.size:=by simpa using h2
   simp[ava hi,getElem!_pos z.cells i hi]
 have dr:=run_storeCells_cells (P:=P) b o z.cells.toList 0 w (by simpa using hc) (by simpa using hf) h1;simp only[Nat.add_zero]at dr;simp[Builtin.clear_,run_underlying ht,hv,hzc,dr]
theorem MN (l:List Sn)(i:Nat)(_hi:i<l.length):(l.eraseIdx i).flatMap oe=(l.flatMap oe).take (i*5)++(l.drop (i+1)).flatMap oe:=by
 rw[List.eraseIdx_eq_take_drop_succ,atZ,MM eV]
def Wn:Value:=.agg #[.string .empty,.int .i64 0,.int .i64 0,.int .i64 0,.int .i64 0]
theorem UP (l:List Sn)(i:Nat)(v:Value)(w:World)(base:Nat)(h:dQ oe 5 85 w base v l)(hi:i<l.length)(hl:l.length<=1000):
  Calls prog 67 #[v,.int .i64 (i:Int),.int .i64 ((i:Int)+1)] w fun e w'=>∃ v',e=.returned v'/\dQ oe 5 85 w' base v' (l.eraseIdx i)/\ah (fun g=>v.ownBlock=some g) w w':=by
 rcases h.2 with⟨rfl,h3⟩|⟨g,cap,du,rfl,hb,hg,Ke,hm,cA,uS⟩
 ·omega
 ·obtain⟨i0,hi0,nD,mK,ol⟩:=atW sX;have yP:cap<=9223372036854775807:=hm;have hH:World.blk w g du 85:=hg;have hHd:World.blk w.drew g du 85:=hg;obtain⟨news,yb⟩:∃ news,(l.drop (i+1)).flatMap oe=news:=⟨_,rfl⟩
  have aU:news.length=(l.length-(i+1))*5:=by rw[<-yb,rF eV,List.length_drop]
  have hcu:du.toList.length=cap*5:=by simpa using cA
  have qV:∀ t,t<news.length->news[t]?=du[(i+1)*5+t]?:=by
   intro t ht;have e:l.flatMap oe=(l.take (i+1)).flatMap oe++news:=by rw[<-yb,<-atZ,List.take_append_drop]
   have uV:((l.take (i+1)).flatMap oe).length=(i+1)*5:=by rw[rF eV,atO,Nat.min_eq_left (by omega)]
   rw[e]at uS;have h1:(du.toList.take (l.length*5))[(i+1)*5+t]?=((l.take (i+1)).flatMap oe++news)[(i+1)*5+t]?:=by rw[uS]
   rw[List.getElem?_append_right (by omega),uV,Nat.add_sub_cancel_left,List.getElem?_take,atP (by omega)]at h1;rw[<-h1,Array.getElem?_toList]
  obtain⟨A,hA,ahq⟩:∃ A:Addr,(if cap=i+1 then some (⟨g,0,none⟩:Addr)else some ⟨g,(i+1)*5,none⟩)=some A/\Hid (∀ t u,news[t]?=some u->w.drew.cell? (A.add t)=some u):=by
   by_cases h:cap=i+1
   ·refine⟨⟨g,0,none⟩,by simp[h],hd0 fun t u hu=>?_⟩;have h0:news.length=0:=by rw[aU];omega
    rw[auk.1 h0]at hu;simp at hu
   ·refine⟨⟨g,(i+1)*5,none⟩,by simp[h],hd0 fun t u hu=>?_⟩;have ht:=(atX.1 hu).1;rw[qV t ht]at hu;rw[Addr.add_lit,aa hHd];exact hu
  have s1:Hid (news.length=(l.length-(i+1))*5):=hd0 aU;have s2:Hid (∀ u∈news,u.oneCell'=true):=hd0 (by
   intro u hu;rw[<-yb,List.mem_flatMap]at hu;obtain⟨x,_,hx⟩:=hu;exact A5 x u hx)
  have s3:Hid (∀ t,t<news.length->(w.drew.cell? ⟨g,0+i*5+t,none⟩).isSome=true/\w.drew.frozen? ⟨g,0+i*5+t,none⟩=false):=hd0 (by
   intro t ht;rw[aU]at ht;refine⟨?_,ae hHd _ rfl⟩;rw[aa hHd,Array.getElem?_eq_getElem (by rw[cA];omega)];rfl)
  obtain⟨W1,Kl⟩:∃ W1,W1=w.drew.setCells g (0+i*5) news:=⟨_,rfl⟩
  obtain⟨J7,hM1⟩:=nC news (0+i*5) w.drew du hHd (by rw[aU,cA];omega);rw[<-Kl]at J7 hM1;have By:i+(l.length-(i+1))=l.length-1:=by omega
  have MZ:(qQ du.toList (0+i*5) news).length=cap*5:=by rw[Ey _ _ _ (by rw[hcu,aU];omega),hcu]
  have sr:∀ ty,(Builtin.clear_ #[92] ty #[.slice (some ⟨g,(i+(l.length-(i+1)))*5,none⟩) 1 (cap-(i+(l.length-(i+1))))]).run prog W1=.ok (.tuple #[]) (W1.setCells g ((i+(l.length-(i+1)))*5) Wn.cells.toList):=
   fun ty=>yC W1 _ _ ty Wn underlying92 zeroValue85 (by
    intro u hu;simp[Wn,Value.cells]at hu;rcases hu with rfl|rfl<;>rfl) g _ _ (fun t ht=>by
     rw[aa J7];have:t<5:=ht;rw[Array.getElem?_eq_getElem (by rw[au5,MZ];omega)];rfl) (fun t ht=>ae J7 _ rfl)
  obtain⟨hB2,Od⟩:=nC Wn.cells.toList ((i+(l.length-(i+1)))*5) W1 _ J7 (by
   show _+5<=_;simp only[au5,MZ];omega)
  have aeM:(qQ (qQ du.toList (0+i*5) news) ((i+(l.length-(i+1)))*5) Wn.cells.toList).length=cap*5:=by
   rw[Ey _ _ _ (by rw[MZ];show _+5<=_;omega),MZ]
  have sq:dQ oe 5 85 (W1.setCells g ((i+(l.length-(i+1)))*5) Wn.cells.toList) base (.slice (some ⟨g,0,none⟩) (l.length-1) cap) (l.eraseIdx i):=by
   have hel:(l.eraseIdx i).length=l.length-1:=by rw[List.length_eraseIdx,atP hi]
   refine⟨by rw[rF eV],.inr ⟨g,cap,_,by rw[hel],hb,hB2,by omega,hm,by simpa using aeM,?_⟩⟩;rw[hel,<-By,ML _ _ _ (by rw[MZ];omega),show(i+(l.length-(i+1)))*5=0+i*5+news.length by rw[aU];omega,In _ _ _ (by rw[hcu];omega),MN l i hi,yb,<-uS,List.take_take,Nat.min_eq_left (by omega),auy]
  have de:ah (fun g'=>(Value.slice (some ⟨g,0,none⟩) l.length cap).ownBlock=some g') w (W1.setCells g ((i+(l.length-(i+1)))*5) Wn.cells.toList):=((((ah.refl (·=g) w).drew).trans hM1 (fun _ _ h=>h)).trans Od (fun _ _ h=>h)).mono (fun k _ h=>by subst h;rfl);obtain⟨zs,hzs⟩:∃ zs,Wn.cells.toList=zs:=⟨_,rfl⟩
  rw[hzs]at sq de;simp only[hzs]at sr;have HF:=hd0 (And.intro sq de);have HW:=hd0 Kl;have HC:=hd0 sr;have hic:i<=cap:=by omega
  have hjc:i+1<=cap:=by omega
  have hij:¬ i=i+1:=by omega
  have dZ:((i:Int)==(i:Int)+1)=false:=by rw[auv];omega
  have Fw:(l.length:Int)<=1000:=by omega
  have Iv:(0:Int)<=(i:Int)+1:=by omega
  have BA:(i:Int)+1<=(l.length:Int):=by omega
  have BG:((i:Int)+1).toNat=i+1:=by omega
  clear sq de sr J7 hB2 hM1 Od MZ aeM qV yb hH hHd uS cA hg h aU hcu By Kl hzs;go_enter func67,ntmps67;go_wp2_with fail
  go_region_law (refine step_append_room rfl (.tmp 22) (.tmp 25) 92 rfl 85 i0 5 underlying92 hi0 mK g 0 i cap (by simp[Act.eval,Act.put]) A (l.length-(i+1)) (cap-(i+1)) news (by simp[Act.eval,Act.put]) s1.out ahq.out s2.out (by omega) s3.out ?_;rw[<-HW.out])
  have hq1:¬ cap=i+(l.length-(i+1)):=by omega
  have J0:(i+(l.length-(i+1)))<=l.length:=by omega
  have hq3:¬ l.length<i+(l.length-(i+1)):=by omega
  have hq4:l.length<=cap:=by omega
  have hcz:∀ ty,(Builtin.clear_ #[92] ty #[.slice (some ⟨g,(i+(l.length-(i+1)))*5,none⟩) (l.length-(i+(l.length-(i+1)))) (cap-(i+(l.length-(i+1))))]).run prog W1=.ok (.tuple #[]) (W1.setCells g ((i+(l.length-(i+1)))*5) zs):=fun ty=>by
   rw[show l.length-(i+(l.length-(i+1)))=1 by omega];exact HC.out ty
  go_wp2;go_ret;refine⟨.slice (some ⟨g,0,none⟩) (l.length-1) cap,?_,HF.out.1,HF.out.2⟩;rw[show l.length-1=i+(l.length-(i+1)) by omega];rfl
end
section
open Go.RowKit
attribute [local go_sem] atC
end
section
open Go.RowKit
attribute [local go_sem] atC
theorem MO:QQ:=fun l i v w base h hi hl=>UP l i v w base h hi hl
def E8:Except Int (ay×ay)->ay
 | .error _=>[]
 | .ok x=>x.1
def dfB:Except Int (ay×ay)->ay
 | .error _=>[]
 | .ok x=>x.2
def MQ:Except Int (ay×ay)->Int
 | .error e=>e
 | .ok _=>0
theorem Ez (x:Except Int (ay×ay)):JP x=.tuple #[aB (E8 x),aB (dfB x),.int .i64 (MQ x)]:=by cases x<;>rfl
theorem MR {v:Vs}{b t:ay}{e:Int}(h:bZ v b t=.error e):e=160\/e=162:=by
 unfold bZ at h;split at h
 ·injection h with h;exact .inl h.symm
 ·split at h
  ·injection h with h;exact .inr h.symm
  ·split at h
   ·cases h
   ·split at h
    ·injection h with h;exact .inr h.symm
    ·cases h
theorem Io {v:Vs}{b t:ay}(h:MQ (bZ v b t)=0):∃ x,bZ v b t=.ok x:=by
 cases hx:bZ v b t with
 |error e=>rw[hx]at h;have:=MR hx;simp only[MQ]at h;omega
 |ok x=>exact⟨x,rfl⟩
theorem UQ {v:Vs}(hg:ma v)(b t:ay):(E8 (bZ v b t)).length<=600/\(dfB (bZ v b t)).length<=600:=by
 cases hx:bZ v b t with
 |error e=>exact⟨auw _,auw _⟩
 |ok x=>
  obtain⟨s,d⟩:=x;show s.length<=600/\d.length<=600;unfold bZ at hx;split at hx
  ·cases hx
  ·split at hx
   ·cases hx
   ·rename_i x hfx
    have h1:=lg hg (eJ hfx);split at hx
    ·injection hx with hx;injection hx with e1 e2;subst e1 e2;exact⟨h1,by simp⟩
    ·split at hx
     ·cases hx
     ·rename_i y hfy
      have h2:=lg hg (eJ hfy);injection hx with hx;injection hx with e1 e2;subst e1 e2;have h3:=kO (bR v x) (bR v y);have h4:=kO (bR v y) (bR v x);omega
theorem xM {v:Vs}{b t:ay}{x:ay×ay}(h:bZ v b t=.ok x):aH t=true/\∃ y,bf v.b.list t=some y/\((b=[]/\x=(bR v y,[]))\/(b≠[]/\∃ u,bf v.b.list b=some u/\x=(bK (bR v y) (bR v u),bK (bR v u) (bR v y)))):=by
 unfold bZ at h;split at h
 ·cases h
 ·rename_i c
  refine⟨by cases hn:aH t with|true=>rfl|false=>exact absurd (.inl hn) c,?_⟩;split at h
  ·cases h
  ·rename_i y hy
   refine⟨y,hy,?_⟩;split at h
   ·rename_i hb
    injection h with h;exact .inl ⟨hb,h.symm⟩
   ·rename_i hb
    split at h
    ·cases h
    ·rename_i u hu
     injection h with h;exact .inr ⟨hb,u,hu,h.symm⟩
theorem EA {v:Vs}{b t m:ay}(h1:MQ (bZ v b t)=0)(h2:MQ (bZ v b m)=0)(h3:MQ (bZ v m t)=0):bK (E8 (bZ v b t)) (d6 (E8 (bZ v b m)) (E8 (bZ v m t)))=[]:=by
 refine Cm (gF _ _ _) fun n=>?_;obtain⟨x1,e1⟩:=Io h1;obtain⟨x2,e2⟩:=Io h2;obtain⟨x3,e3⟩:=Io h3;rw[e1,e2,e3,iM,iL];obtain⟨_,y,hy,q1⟩:=xM e1;obtain⟨hm,z,hz,q2⟩:=xM e2;obtain⟨_,y',Tc,q3⟩:=xM e3;rw[hy]at Tc;injection Tc with Tc;subst Tc;have Ff:m≠[]:=by rintro rfl;cases hm
 obtain⟨z',hz',rfl⟩:=(q3.resolve_left (fun h=>Ff h.1)).2;rw[hz]at hz';injection hz' with hz';subst hz';simp only[E8];rcases q1 with⟨hb,rfl⟩|⟨hb,u,hu,rfl⟩
 ·obtain⟨_,rfl⟩:=q2.resolve_right (fun h=>h.1 hb);simp only[iM]
  cases ak (bR v y) n<;>cases ak (bR v z) n<;>rfl
 ·obtain⟨_,u',Vi,rfl⟩:=q2.resolve_left (fun h=>hb h.1);rw[hu]at Vi;injection Vi with Vi;subst Vi;simp only[iM]
  cases ak (bR v y) n<;>cases ak (bR v z) n<;>cases ak (bR v u) n<;>rfl
abbrev abU (blocks:Int)(av bv:Value)(base target:ay):Value:=.agg #[.int .i64 blocks,av,bv,.string ⟨base.toArray⟩,.string ⟨target.toArray⟩]
theorem tq {w:World}{b:Nat}{t:TypeId}{c0 c1 c2 c3 c4:Value}(h:World.blk w b #[c0,c1,c2,c3,c4] t):
  w.cell? ⟨b,0,none⟩=some c0/\w.cell? ⟨b,1,none⟩=some c1/\w.cell? ⟨b,2,none⟩=some c2/\w.cell? ⟨b,3,none⟩=some c3/\w.cell? ⟨b,4,none⟩=some c4:=
 ⟨aa h 0,aa h 1,aa h 2,aa h 3,aa h 4⟩
theorem MS (w:World)(he:tL w)(blocks:Int)(hb:-9223372036854775808<=blocks/\blocks<=9223372036854775807)(av bv:Value)(cs:List bT)(hr:jY pT 5 w av cs)(hs:∀ c∈cs,c.Small)(hl:cs.length<=1048576)
  (base target nK:ay) (h1:base.length<=140737488351232) (h2:target.length<=140737488351232) (h3:nK.length<=140737488351232):
  Calls prog 6 #[abU blocks av bv base target,aB nK] w fun e w'=>e=.returned (.bool true)/\af w w':=by
 have dN:Hid (af w (w.alloc (.cells #[.int .i64 blocks,av,bv,.string ⟨base.toArray⟩,.string ⟨target.toArray⟩] 31))):=hd0 ((ah.refl _ w).alloc _);have HZ0:Hid (World.blk (w.alloc (.cells #[.int .i64 blocks,av,bv,.string ⟨base.toArray⟩,.string ⟨target.toArray⟩] 31)) w.heap.size #[.int .i64 blocks,av,bv,.string ⟨base.toArray⟩,.string ⟨target.toArray⟩] 31):=hd0 (aw _ _ _);have LD:=hd0 (Af (he.keep dN.out) blocks hb cs av (eO hr dN.out) hs hl (fun _=>MO));have HE:=hd0 he;have EH:=hd0 (And.intro h1 (And.intro h2 h3));clear he hb hr hs hl h1 h2 h3;go_enter func6,ntmps6;go_wp2_with fail;refine LD.out.mono ?_;rintro e w1 ⟨p,v0,v,a,rfl,_,_,ib,_,nE⟩;have HG:=hd0 ib.good;have HA:=hd0 nE;have bU:Hid (af w w1):=hd0 (dN.out.keep nE.keep);have HZ1:=hd0 (ab nE.keep HZ0.out id);obtain⟨_,_,_,c3,c4⟩:=tq HZ1.out;have DF:Hid (∀(W:World) (b t:ay),af w1 W->b.length<=140737488351232->t.length<=140737488351232->Calls prog 16 #[aq p,aB b,aB t] W fun e w'=>e=.returned (.tuple #[aB (E8 (bZ v b t)),aB (dfB (bZ v b t)),.int .i64 (MQ (bZ v b t))])/\af W w'):=hd0 (fun W b t k hb ht=>by
  rw[<-Ez];exact Ab (HA.out.at_.keep k) (by have:=HG.out.list.many;omega) HG.out.list.plane b t (by omega) (by omega))
 have FA:=hd0 (fun b t=>UQ HG.out b t);have CP:=hd0 (fun h1 h2 h3=>EA (v:=v) (b:=base) (t:=target) (m:=nK) h1 h2 h3);clear ib nE LD;go_wp2_with fail;refine(DF.out w1 base target (ah.refl _ _) EH.out.1 EH.out.2.1).mono ?_;rintro e w2 ⟨rfl,k2⟩;have bu:=hd0 k2;obtain⟨_,_,_,d3,d4⟩:=tq (ab k2 HZ1.out id);clear k2 c3 c4;go_wp2_with fail;refine(DF.out w2 base nK bu.out EH.out.1 EH.out.2.2).mono ?_;rintro e w3 ⟨rfl,k3⟩;have dT:=hd0 (bu.out.keep k3);obtain⟨_,_,_,e3,e4⟩:=tq (ab (bu.out.keep k3) HZ1.out id);clear k3 d3 d4;go_wp2_with fail;refine(DF.out w3 nK target dT.out EH.out.2.2 EH.out.2.1).mono ?_;rintro e w4 ⟨rfl,k4⟩;have lw:=hd0 (dT.out.keep k4);have FX:=hd0 (Ag (HE.out.keep (bU.out.keep lw.out)));have F1:=FA.out base target;have F2:=FA.out base nK;have F3:=FA.out nK target;clear k4 e3 e4 DF FA;generalize bZ v base target=D1 at*;generalize bZ v base nK=D2 at*;generalize bZ v nK target=D3 at*;by_cases q1:MQ D1=0
 ·by_cases q2:MQ D2=0
  ·by_cases q3:MQ D3=0
   ·have Nq:=CP.out q1 q2 q3;have OR:=hd0 (fun W=>jW (E8 D2) (E8 D3) W (by omega) (by omega));have Td:(d6 (E8 D2) (E8 D3)).length<=600:=by have:=jV (E8 D2) (E8 D3);omega
    have MI:=fun W=>kP (E8 D1) (d6 (E8 D2) (E8 D3)) W (by omega) (by omega);rw[Nq]at MI;have MI:=hd0 MI;have HFF:Hid (∀ W,af w4 W->Calls prog 13 #[] W fun e w'=>e=.returned (.bool true)/\af W w'):=hd0 (fun W k=>Ag (HE.out.keep ((bU.out.keep lw.out).keep k)));clear Nq Td F1 F2 F3 CP FX;rw[q1,q2,q3];clear q1 q2 q3;go_wp2_with fail;refine(OR.out _).mono ?_;rintro e w5 ⟨rfl,k5⟩;have j7:=hd0 k5;clear k5 OR;go_wp2_with fail;refine(MI.out _).mono ?_;rintro e w6 ⟨rfl,k6⟩;have tD:=hd0 (j7.out.keep k6);clear k6 MI;go_wp2_with fail;refine(HFF.out _ tD.out).mono ?_;rintro e w7 ⟨rfl,k7⟩;have yi:=hd0 ((bU.out.keep lw.out).keep (tD.out.keep k7));clear k7 HFF;go_wp2;go_ret;exact⟨rfl,yi.out⟩
   ·have b3:(MQ D3 != 0)=true:=by simpa using q3
    rw[q1,q2];clear q1 q2 F1 F2 F3 CP;go_wp2_with fail;refine FX.out.mono ?_;rintro e w5 ⟨rfl,k5⟩;have j7:=hd0 ((bU.out.keep lw.out).keep k5);clear k5 FX;go_wp2;go_ret;exact⟨rfl,j7.out⟩
  ·have b2:(MQ D2 != 0)=true:=by simpa using q2
   rw[q1];clear q1 F1 F2 F3 CP;go_wp2_with fail;refine FX.out.mono ?_;rintro e w5 ⟨rfl,k5⟩;have j7:=hd0 ((bU.out.keep lw.out).keep k5);clear k5 FX;go_wp2;go_ret;exact⟨rfl,j7.out⟩
 ·have b1:(MQ D1 != 0)=true:=by simpa using q1
  clear F1 F2 F3 CP;go_wp2_with fail;refine FX.out.mono ?_;rintro e w5 ⟨rfl,k5⟩;have j7:=hd0 ((bU.out.keep lw.out).keep k5);clear k5 FX;go_wp2;go_ret;exact⟨rfl,j7.out⟩
end
end Go.Proofs.YtkghpdcloaiflaaGreatDoor
