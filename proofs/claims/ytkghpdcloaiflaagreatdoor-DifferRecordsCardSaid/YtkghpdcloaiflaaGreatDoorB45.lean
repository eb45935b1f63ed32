import Derived.Test.YtkghpdcloaiflaaGreatDoorB46
import Derived.Test.YtkghpdcloaiflaaGreatDoorB44
import Derived.ProofKit
import Derived.SizedLaws
import Derived.SliceStrings
import Derived.Test.YtkghpdcloaiflaaGreatDoorCards
import Derived.Test.YtkghpdcloaiflaaGreatDoorTie
import Derived.OpenShut
import Derived.Lay
import Derived.Deep.DeepHandedRow
import Derived.Deep.DeepWitnessRowRef
import Derived.LaidHandle
import Derived.LaidLaws
import Derived.Deep.Slices
import Derived.Deep.Fields
import Derived.ChangeSame
import Derived.JoinedCond
set_option maxHeartbeats 8000000
set_option maxRecDepth 100000
namespace Go.Proofs.YtkghpdcloaiflaaGreatDoor
open _root_.Go.Proofs.Tryz
section
open Go.RowKit
attribute [local go_sem] auV
def BD (c:co):List Value:=[.int .i64 c.kind,.string ⟨c.path.toArray⟩,.string ⟨c.dest.toArray⟩,.int .i64 c.pos,.string ⟨c.data.toArray⟩]
def px (m:Nat):Vs:=dL (iq (gV (4*m))) m 1 (bG (gV 100)*64) Tr.new
theorem Rz {m:Nat}(h:48<=m/\m<=300){v:Vs}(hv:bD (px m) [] []=.ok v):Lv v 0/\v.blocks=m:=by
 have hr:mM (px m):=xL _ _ _ _ (by omega) xN (by rw[jE];rfl) (fun x hx=>by rw[jE]at hx;simp at hx;subst hx;decide);obtain⟨u,hu⟩:=uj hr (list:=[]) (more:=[]) ⟨List.Sublist.refl _,.inl rfl⟩;have e:u=v:=by have:=hu.run.symm.trans hv;injection this
 subst e;have hh:u.half=bG (gV 100)*64:=hu.half;have hid:u.b.id=1:=by rw[hu.id,au8 rfl];rfl
 have dA:u.num=1+1:=hu.num;refine⟨⟨hu.good,⟨_,by rw[hu.T];exact GA⟩,by omega,by omega,?_⟩,hu.blocks⟩;rw[hh];unfold bG;rw[iT];decide
structure E5 (w:World)(p:Nat)(v:Vs)(a:eY)(w':World):Prop where
 at_:lz w' p v a
 text:a.text=fX v.b
 foot:∀ g,a.foot p g->w.heap.size<=g
 keep:af w w'
theorem E5.did {w w1 w2:World}{p:Nat}{v u:Vs}{a a':eY}(h:E5 w p v a w1)(k:Zf w1 p v a u a' w2):E5 w p u a' w2:=
 ⟨k.at_,k.text h.text,fun g hg=>(k.foot g hg).elim (h.foot g) (fun h1=>auX h.keep.size h1),h.keep.trans k.mod (fun g hl hg=>by have:=h.foot g hg;omega)⟩
def xX (w:World)(m:Nat)(cs:List co)(e:Ending)(w':World):Prop:=
 ∃ p v0 v a,e=.returned (aq p)/\bD (px m) [] []=.ok v0/\uC v0 (cs.take 60)=.ok v/\Lv v (min cs.length 60)/\v.blocks=m/\E5 w p v a w'
theorem xX.intro {w w':World}{m:Nat}{cs:List co}{p:Nat}{v0 v:Vs}{a:eY}(h1:bD (px m) [] []=.ok v0)(h2:uC v0 (cs.take 60)=.ok v)(h3:Lv v (min cs.length 60))(h4:v.blocks=m)(h5:E5 w p v a w'):xX w m cs (.returned (aq p)) w':=
 ⟨p,v0,v,a,rfl,h1,h2,h3,h4,h5⟩
theorem Nl {w:World}(he:tU w)(blocks:Int)(hb:-9223372036854775808<=blocks/\blocks<=9223372036854775807)(cs:List co)(cv:Value)(hr:mC BD 5 w cv cs)(hs:∀ c∈cs,c.Small)(hl:cs.length<=1048576)(SP:(∃ c∈cs,c.kind=8)->Xd):
  Calls prog 14 #[.int .i64 blocks,cv] w (xX w (max 48 (min blocks 300)).toNat cs):=by
 obtain⟨m,hm⟩:∃ m:Nat,max 48 (min blocks 300)=(m:Int):=⟨(max 48 (min blocks 300)).toNat,by omega⟩
 have yR:48<=m/\m<=300:=by omega
 have hmt:(max 48 (min blocks 300)).toNat=m:=by omega
 obtain⟨n4,Wj⟩:∃ n4:Nat,(4:Int)*(m:Int)=(n4:Int):=⟨4*m,by omega⟩
 have ad0:n4=4*m:=by omega
 have D1:=hd0 (CZ w n4 (by omega));have HM:=hd0 (And.intro yR (And.intro hmt ad0));have HE:=hd0 he;have HS:=hd0 hs;have HD:=hd0 SP;obtain⟨ca,cap,rfl,hx⟩:=hr;have HX:=hd0 hx;have FF:(cs.length:Int)<=1048576:=by omega
 have w4:IntKind.i64.wrap ((4:Int)*(m:Int))=(n4:Int):=by rw[Wj];exact fi (by omega)
 clear he hs SP hx yR hmt ad0;go_enter func14,ntmps14;go_wp2_with fail;refine D1.out.mono ?_;rintro e w1 ⟨d1,rfl,k1,F1,Js,hF1⟩;have bZ:=hd0 k1;have D2:=hd0 (CZ w1 100 (by omega));have HD1:=hd0 (And.intro Js hF1);clear k1 Js hF1 D1 w4;go_wp2_with fail;refine D2.out.mono ?_;rintro e w2 ⟨d2,rfl,k2,F2,Kv,Xs⟩;have bw:=hd0 (bZ.out.keep k2);have Js:bC w2 d1 (gV n4) F1:=HD1.out.1.mod k2 (fun b _=>id);have FO:=MT Js Kv (fun b h1 h2=>by have:=HD1.out.1.lt b h1;have:=Xs b h2;omega) (by rw[iT];have:=HM.out.1;have:=HM.out.2.2;omega) (by rw[iT];decide);have e1:(gV n4).size/4=m:=by rw[iT,HM.out.2.2];omega
 rw[e1,HM.out.2.2]at FO;have FO:=hd0 FO;have HFF:Hid (∀ b,F1 b\/F2 b->w.heap.size<=b):=hd0 (fun b h=>h.elim (HD1.out.2 b) (fun h2=>auX bZ.out.size (Xs b h2)));clear k2 Js Kv Xs D2 e1 HD1 Wj hm;go_wp2_with fail;refine FO.out.mono ?_;rintro e w3 ⟨p,v0,a0,rfl,FW,OB,Km,hft,uY⟩;have HPT:Hid (bD (px m) [] []=.ok v0):=hd0 OB;have HLV:=hd0 (Rz HM.out.1 HPT.out);have HL0:Hid (E5 w p v0 a0 w3):=hd0 ⟨FW,Km,fun g hg=>by
  rcases hft g hg with h|h|h
  ·exact HFF.out g (.inl h)
  ·exact HFF.out g (.inr h)
  ·exact auX bw.out.size h,bw.out.trans uY (fun g hl hg=>by have:=HFF.out g hg;omega)⟩
 clear FW OB Km hft uY FO HFF;go_wp2_with fail
 go_loopw [10] (fun y wr=>∃ k:Nat,k<=cs.length/\k<=60/\y=.int .i64 (k:Int)/\Hid (∃ v a,uC v0 (cs.take k)=.ok v/\Lv v k/\v.blocks=m/\E5 w p v a wr)) (fun y _=>60-(intOf y).toNat)
 case atStart=>exact⟨0,by omega,by omega,rfl,hd0 ⟨v0,a0,rfl,HLV.out.1,HLV.out.2,HL0.out⟩⟩
 case round=>
  clear HL0 HLV;obtain⟨k,hk,rz,rfl,HR⟩:=hrel;obtain⟨v,a,bh,iH,ro,qt⟩:=HR.out;have HRU:=hd0 (And.intro bh (And.intro iH (And.intro ro qt)));clear bh iH ro qt HR;by_cases aL:k<cs.length
  ·have dU:(k:Int)<(cs.length:Int):=by omega
   by_cases sK:k<60
   ·have ajF:(k:Int)<60:=by omega
    obtain⟨c,hc⟩:∃ c,cs[k]?=some c:=⟨_,au1 aL⟩
    obtain⟨rb,o,rfl,Yz⟩:=HX.out k c hc;have HAT:=HRU.out.2.2.2;have cx:∀ i u,(BD c)[i]?=some u->wr.cell? ⟨rb,o+k*5+i,none⟩=some u:=fun i u hi=>by
     have h1:=Yz i u hi;rw[HAT.keep.cell (p:=⟨rb,o+k*5+i,none⟩) (ai h1) id];exact h1
    have c0:wr.cell? ⟨rb,o+k*5,none⟩=some (.int .i64 c.kind):=cx 0 _ rfl;have c1:wr.cell? ⟨rb,o+k*5+1,none⟩=some (.string ⟨c.path.toArray⟩):=cx 1 _ rfl;have c2:wr.cell? ⟨rb,o+k*5+2,none⟩=some (.string ⟨c.dest.toArray⟩):=cx 2 _ rfl;have c3:wr.cell? ⟨rb,o+k*5+3,none⟩=some (.int .i64 c.pos):=cx 3 _ rfl;have c4:wr.cell? ⟨rb,o+k*5+4,none⟩=some (.string ⟨c.data.toArray⟩):=cx 4 _ rfl;have FC:=au2 hc;have hda:acH v c:=by
     obtain⟨_,iH,_,_⟩:=HRU.out;obtain⟨d,hw⟩:=iH.wf;obtain⟨d',bf⟩:=Py hw c;exact⟨iH.good,by have:=iH.id;omega,by have:=iH.num;omega,HS.out c FC,fun bQ=>⟨by have:=xW bQ;have:=iH.half;omega,xW bQ⟩,Ax bf,Aw⟩
    have DO:=hd0 (Vk HAT.at_ (HE.out.keep HAT.keep) hda (fun h8=>HD.out ⟨c,FC,h8⟩));have HC:=hd0 hc;clear cx Yz HAT FC hda hc;go_wp2_with fail;unfold gK bP at DO;refine DO.out.mono ?_;rintro e w4 ⟨r,u,a',vg,rfl,hvd⟩;have HN:Hid (∃ v a,uC v0 (cs.take (k+1))=.ok v/\Lv v (k+1)/\v.blocks=m/\E5 w p v a w4):=hd0 (by
     obtain⟨bh,iH,ro,qt⟩:=HRU.out;obtain⟨r',u',q1,q2,q3,_⟩:=iH.step c;rw[q1]at vg;injection vg with vg;injection vg with h1 h2;subst h1 h2;refine⟨u',a',?_,q2,q3.trans ro,qt.did hvd⟩;rw[au3,HC.out];exact Nk bh q1)
    clear vg hvd DO c0 c1 c2 c3 c4;go_wp2_with fail;exact⟨⟨k+1,by omega,by omega,by go_num,HN⟩,by simp[intOf];omega⟩
   ·have ajF:¬(k:Int)<60:=by omega
    have aj5:k=60:=by omega
    go_wp2;go_ret;obtain⟨bh,iH,ro,qt⟩:=HRU.out;rw[HM.out.2.1];exact xX.intro HPT.out (by rw[<-aj5];exact bh) (by rw[show min cs.length 60=k by omega];exact iH) ro qt
  ·have dU:¬(k:Int)<(cs.length:Int):=by omega
   go_wp2;go_ret;obtain⟨bh,iH,ro,qt⟩:=HRU.out;rw[HM.out.2.1];exact xX.intro HPT.out (by rw[avM (show cs.length<=60 by omega)];rw[avM (show cs.length<=k by omega)]at bh;exact bh) (by rw[show min cs.length 60=k by omega];exact iH) ro qt
end
def cmA:co:=⟨0,[47,97],[],0,[]⟩
def TC (c:UInt8):co:=⟨7,[c],[],0,[]⟩
def Zt (rd:Rd):Except Int Vs:=match bD (dL rd 100 1 3136 Tr.new) [] []with
 | .ok u=>uC u [cmA,TC 97,TC 98]
 | .error e=>.error e
def Zu (v:Vs):=(qp v [] [97],qp v [98] [97],qp v [] [120],v.b.planes.getD 1 [],v.rd 5,v.rd 6,((bt v.b.list [97]).getD fq).id)
def Zv:Except Int (Hd×List Nat)×Except Int (Hd×List Nat)×Except Int (Hd×List Nat)×ay×Except Int ay×Except Int ay×Int:=
 (.ok (⟨1,0,[97],⟨6,11⟩,2,[]⟩,[5,6]),.error 190,.error 162,[96],.ok [1,1,97,2],.ok [2,1,1,1,5,4,2,0,1,0,0],1)
theorem Vx (rd:Rd):(match Zt rd with | .ok v=>Zu v | .error _=>(.error 0,.error 0,.error 0,[],.error 0,.error 0,0))=Zv:=by kernel_rfl
theorem acQ {v0 v:Vs}(h0:bD (px 100) [] []=.ok v0)(h1:uC v0 [cmA,TC 97,TC 98]=.ok v):Zu v=Zv:=by
 have e:px 100=dL (iq (gV (4*100))) 100 1 3136 Tr.new:=by
  unfold px;rw[show bG (gV 100)*64=3136 by unfold bG;rw[iT]]
 have ho:Zt (iq (gV (4*100)))=.ok v:=by
  unfold Zt;rw[<-e,h0];exact h1
 have:=Vx (iq (gV (4*100)));rw[ho]at this;exact this
section
open Go.ChangeShapes Go.WideShapes Go.ChangeAt Go.RowKit
section
variable {H:Type}{enc:TypeId×Value->H}{P:Program}
theorem sj (hl:laidOutB P=true){W W':World}(hb:Below W.heap.size W W'):∀(ts:List TypeId) (vs:List Value) (ds:List (DataW H)) (ps:List MemPlace),
  (ts.all fun t=>P.readableRec t&&decide (t<P.types.size))=true->DataW.TrodAll enc P W 0 (fun _=>true) true ts vs ds ps->(∀ x∈ps,x.block<W.heap.size)->
  DataW.TrodAll enc P W' 0 (fun b=>decide (b<W.heap.size)) true ts vs ds ps
 |[],[],[],_,_,h,_=>h
 |t::ts,v::vs,d::ds,ps,hr,h,aL=>by
  obtain⟨p,q,h1,h2,rfl⟩:=h;simp only[List.all_cons,avj,avo]at hr;exact⟨p,q,Below.trod hl hr.1.1 hr.1.2 h1 hb (fun x hx=>aL x (by simp[hx])),sj hl hb ts vs ds q hr.2 h2 (fun x hx=>aL x (by simp[hx])),rfl⟩
 |[],_::_,_,_,_,h,_=>h.elim
 |[],[],_::_,_,_,h,_=>h.elim
 |_::_,[],_,_,_,h,_=>h.elim
 |_::_,_::_,[],_,_,h,_=>h.elim
theorem Nn {fn:Func}{s:ChangeSpec}{W W':World}{args:Array Value}{ds gs:List (DataW H)}{before:List MemPlace}{tb:TypeId}
  (hl:laidOutB P=true) (hr:(fn.params.toList.all fun t=>P.readableRec t&&decide (t<P.types.size))=true) (hv:s.vars=[]) (hrt:fn.resultTypes=#[tb]) (hb:P.underlying tb=some .bool)
  (RL:s.fn H (ds++gs)={ results:=[.lit (.bool true)],args:=ds }) (hW:DataW.Whole enc P fn.params.toList s.vars false W args.toList ds gs before) (hk:af W W'):
  s.post enc P fn false true false false W args (.bool true) W':=by
 have aL:∀ x∈before,x.block<W.heap.size:=fun x hx=>by simpa using hW.lt x hx
 have hW':=hW;obtain⟨p,q,hA,hV,rfl,_,_⟩:=hW;rw[hv]at hV;obtain⟨_,rfl⟩:=trodVars_none hV;refine⟨ds,gs,p++[],[],p,[],hW',?_,?_,?_,hk.below.frame _,fun h=>by cases h⟩
 ·rw[RL,hrt];exact trodAll_mk1 (shut_bool hb _)
 ·rw[RL];exact sj hl hk.below _ _ _ _ hr hA (fun x hx=>aL x (by simp[hx]))
 ·rw[RL,hv];rfl
end
end
section
open Go.RowKit
attribute [local go_sem] auV
theorem Zw:pr 5 [97,98]=.tuple #[ax [5,2,97,98],.int .i64 0]:=by
 rw[show pr 5 [97,98]=.tuple #[ax (bJ 5 [97,98]),.int .i64 0]from au8 (by decide)];rw[show bJ 5 [97,98]=[5,2,97,98] by kernel_rfl]
theorem rj {v:Vs}(h:mL v){x:Sn}(hx:x∈v.b.list):(d6 v x).length<=600:=by
 obtain⟨h1,h2⟩:=h.list.plane x hx;have:=h.planes x.plane.toNat (by omega);have h3:=pV (k:=512) this.1 fun n hn=>by have:=(this.2 n hn).2;have:=h.many;omega
 unfold d6;omega
theorem No {w:World}(he:tU w):Calls prog 13 #[] w fun e w'=>e=.returned (.bool true)/\af w w':=by
 obtain⟨W,hW⟩:∃ W,w.alloc (.cells #[.int .i64 0,.string ⟨#[47,97]⟩,.string ⟨#[]⟩,.int .i64 0,.string ⟨#[]⟩,.int .i64 7,.string ⟨#[97]⟩,.string ⟨#[]⟩,.int .i64 0,.string ⟨#[]⟩,.int .i64 7,.string ⟨#[98]⟩,.string ⟨#[]⟩,.int .i64 0,.string ⟨#[]⟩] 55)=W:=⟨_,rfl⟩
 have hk:af w W:=by rw[<-hW];exact(ah.refl _ w).alloc _
 have hb:World.blk W w.heap.size #[.int .i64 0,.string ⟨#[47,97]⟩,.string ⟨#[]⟩,.int .i64 0,.string ⟨#[]⟩,.int .i64 7,.string ⟨#[97]⟩,.string ⟨#[]⟩,.int .i64 0,.string ⟨#[]⟩,.int .i64 7,.string ⟨#[98]⟩,.string ⟨#[]⟩,.int .i64 0,.string ⟨#[]⟩] 55:=by rw[<-hW];exact av _ _ _
 have cI:mC BD 5 W (.slice (some ⟨w.heap.size,0,none⟩) 3 3) [cmA,TC 97,TC 98]:=by
  refine⟨_,_,rfl,fun j x hx=>⟨w.heap.size,0,rfl,fun i c hc=>?_⟩⟩;rcases j with _|_|_|j
  ·simp at hx;subst hx;rcases i with _|_|_|_|_|i<;>first|(simp[BD,cmA]at hc;subst hc;exact aa hb _)|(simp[BD]at hc)
  ·simp at hx;subst hx;rcases i with _|_|_|_|_|i<;>first|(simp[BD,TC]at hc;subst hc;exact aa hb _)|(simp[BD]at hc)
  ·simp at hx;subst hx;rcases i with _|_|_|_|_|i<;>first|(simp[BD,TC]at hc;subst hc;exact aa hb _)|(simp[BD]at hc)
  ·simp at hx
 have LD:=Nl (he.keep hk) 100 (by omega) [cmA,TC 97,TC 98] _ cI (fun c hc=>by
  simp at hc;rcases hc with rfl|rfl|rfl<;>exact⟨by decide,by decide,by decide,by decide⟩) (by simp) (fun⟨c,hc,h8⟩=>by
  simp at hc;rcases hc with rfl|rfl|rfl<;>exact absurd h8 (by decide))
 rw[show(max 48 (min (100:Int) 300)).toNat=100 by decide]at LD;have LD:=hd0 LD;have HK:=hd0 hk;clear hb cI hk he;go_enter func13,ntmps13;go_wp2_with fail
 try rw[hW]
 refine LD.out.mono ?_;rintro e w1 ⟨p,v0,v,a,rfl,h0,h1,iH,ro,qt⟩;have hq:=acQ h0 h1;unfold Zu Zv at hq;injection hq with q1 hq;injection hq with q2 hq;injection hq with q3 hq;injection hq with q4 hq;injection hq with q5 hq;injection hq with q6 q7;have HG:=hd0 iH.good;have HQ:=hd0 (And.intro q1 (And.intro q2 (And.intro q3 (And.intro q4 (And.intro q5 (And.intro q6 q7))))));have HB:=hd0 ro;have HA:=hd0 qt;have NW:=fun(b t:ay) (W:World) (hk:af w1 W) (h1:b.length<=1000) (h2:t.length<=1000)=>MZ (qt.at_.keep hk) (by have:=iH.good.list.many;omega) iH.good.list.plane (fun x y hx hy=>⟨rj iH.good hx,auX (qO _ _) (Nat.max_le.2 ⟨rj iH.good hx,rj iH.good hy⟩)⟩) b t (by omega) (by omega);have N1:=hd0 (NW [] [97] w1 (ah.refl _ _) (by simp) (by simp));have NW:=hd0 NW;clear q1 q2 q3 q4 q5 q6 q7 iH ro qt h0 h1 LD hW;go_wp2_with fail;refine N1.out.mono ?_;rintro e w2 ⟨k2,hp⟩;rw[HQ.out.1]at hp;simp only at hp;obtain⟨q,lv,rfl,NJ⟩:=hp;have bw:=hd0 k2;have HPA:=hd0 NJ;have N2:=hd0 (NW.out [98] [97] w2 k2 (by simp) (by simp));clear k2 NJ N1;go_wp2_with fail;refine N2.out.mono ?_;rintro e w3 ⟨k3,hp⟩;rw[HQ.out.2.1]at hp;simp only at hp;subst hp;have dR:=hd0 (bw.out.keep k3);have ac9:=hd0 (HPA.out.keep k3);have N3:=hd0 (NW.out [] [120] w3 dR.out (by simp) (by simp));clear k3 N2;go_wp2_with fail;refine N3.out.mono ?_;rintro e w4 ⟨k4,hp⟩;rw[HQ.out.2.2.1]at hp;simp only at hp;subst hp;have od:=hd0 (dR.out.keep k4);have aa0:=ac9.out.keep k4;have PH:=hd0 (Nc aa0);have adG:=hd0 aa0;clear k4 N3 aa0;go_wp2_with fail;refine PH.out.mono ?_;rintro e w5 ⟨rfl,k5⟩;have mT:=hd0 (od.out.keep k5);have adX:=hd0 (adG.out.keep k5);have k6:af w5 (w5.alloc (.cells #[.int .i64 1,.int .i64 0,.string ⟨#[97]⟩,.int .i64 6,.int .i64 11,.int .i64 2,.string ⟨#[]⟩] 44)):=(ah.refl _ w5).alloc _;have b6:World.blk (w5.alloc (.cells #[.int .i64 1,.int .i64 0,.string ⟨#[97]⟩,.int .i64 6,.int .i64 11,.int .i64 2,.string ⟨#[]⟩] 44)) w5.heap.size #[.int .i64 1,.int .i64 0,.string ⟨#[97]⟩,.int .i64 6,.int .i64 11,.int .i64 2,.string ⟨#[]⟩] 44:=av _ _ _;have u9:=hd0 (mT.out.keep k6);have HB6:=hd0 b6;have HHB:Hid (w1.heap.size<=w5.heap.size):=hd0 mT.out.size;have MP:=hd0 (xP (HA.out.at_.keep u9.out));have adn:=hd0 (adX.out.keep k6);clear k5 PH k6 b6;go_wp2_with fail;generalize w5.alloc (.cells #[.int .i64 1,.int .i64 0,.string ⟨#[97]⟩,.int .i64 6,.int .i64 11,.int .i64 2,.string ⟨#[]⟩] 44)=w6 at*;generalize w5.heap.size=hb at*;refine MP.out.mono ?_;rintro e w7 ⟨m,rfl,hm,KM,k7⟩;have zi:=hd0 (u9.out.keep k7);have KL:=hd0 (ab k7 HB6.out id);have aet:=hd0 (adn.out.keep k7);have PL:=wJ KM 1 (by decide);rw[HQ.out.2.2.2.1]at PL;have PL:=hd0 PL;clear k7 hm KM MP u9 HB6 adn adX adG ac9;go_wp2_with fail;refine PL.out.mono ?_;rintro e w8 ⟨rfl,k8⟩;have sF:=hd0 (zi.out.keep k8);have BN:=hd0 (ab k8 KL.out id);have aeV:=hd0 (aet.out.keep k8);have DR:=mR 5 [97,98] w8 (by decide);rw[Zw]at DR;have DR:=hd0 DR;clear k8 PL zi KL aet;go_wp2_with fail;refine DR.out.mono ?_;rintro e w9 ⟨rfl,k9⟩;have Cg:=hd0 (sF.out.keep k9);have OP:=hd0 (ab k9 BN.out id);have afO:=hd0 (aeV.out.keep k9);have DP:=tB 5 [97,98] (by decide) w9;rw[show bJ ((5:Nat):Int) [97,98]=[5,2,97,98] by kernel_rfl]at DP;have DP:=hd0 DP;clear k9 DR sF BN aeV;go_wp2_with fail;refine DP.out.mono ?_;rintro e KJ ⟨rfl,Yb⟩;have aa7:=hd0 (Cg.out.keep Yb);have aae:=ab Yb OP.out id;have c5:KJ.cell? ⟨hb,5,none⟩=some (.int .i64 2):=aa aae 5;have akQ:=hd0 aae;have HPI:Hid (gi KJ p a q ⟨1,0,[97],⟨6,11⟩,2,[]⟩ [5,6] lv):=hd0 (by
  have nQ:=afO.out.keep Yb;exact⟨⟨_,nQ⟩,fun hf=>by have h1:=HA.out.at_.lt hf;have h2:=nQ.new;omega,fun g hg hf=>by have h1:=HA.out.at_.lt hf;have h2:=(nQ.row.lt g hg).1;omega⟩)
 have PO:=hd0 (BB HPI.out 2 (.inr (by decide)));clear Yb DP Cg OP afO aae;go_wp2_with fail;refine PO.out.mono ?_;rintro e w11 ⟨rfl,k11⟩;have aee:=hd0 (aa7.out.keep k11);have ajY:=hd0 (ab k11 akQ.out id);have aed:=hd0 (HPI.out.keep k11);have SU:=Rx (HA.out.at_.keep aee.out) (by have:=HG.out.list.many;omega) aed.out HQ.out.2.2.2.2.2.2 (by decide) HG.out.many.2 (fun n=>if n=5 then [1,1,97,2]else [2,1,1,1,5,4,2,0,1,0,0]) (fun n hn=>by
  simp at hn;rcases hn with rfl|rfl
  ·exact⟨by decide,by rw[HB.out];decide,HQ.out.2.2.2.2.1,by decide⟩
  ·exact⟨by decide,by rw[HB.out];decide,HQ.out.2.2.2.2.2.1,by decide⟩)
 obtain⟨sm,Sg⟩:∃ sm,Og ji (gG (fun n=>if n=5 then [1,1,97,2]else [2,1,1,1,5,4,2,0,1,0,0]) [5,6])=sm:=⟨_,rfl⟩
 have su:sm.length=8:=by rw[<-Sg];rfl
 rw[Sg]at SU;have SU:=hd0 SU;clear k11 PO c5 Sg;go_wp2_with fail;refine SU.out.mono ?_;rintro e Cv ⟨rfl,a2,jq,_,_⟩;have Od:=ab jq.mod ajY.out (fun hf=>by have h1:=HA.out.at_.lt hf;have h2:=HHB.out;omega);have Cp:Hid (af w Cv):=hd0 (HK.out.keep ((HA.out.keep.keep aee.out).trans jq.mod (fun g hl hg=>by have h1:=HA.out.foot g hg;omega)));have c0:∀ X,(Cv.ext X).cell? ⟨hb,0,none⟩=some (.int .i64 1):=fun X=>aa (ab (aC Cv X) Od id) 0;have c1:∀ X,(Cv.ext X).cell? ⟨hb,1,none⟩=some (.int .i64 0):=fun X=>aa (ab (aC Cv X) Od id) 1;have c2:∀ X,(Cv.ext X).cell? ⟨hb,2,none⟩=some (.string ⟨#[97]⟩):=fun X=>aa (ab (aC Cv X) Od id) 2;have c5:∀ X,(Cv.ext X).cell? ⟨hb,5,none⟩=some (.int .i64 2):=fun X=>aa (ab (aC Cv X) Od id) 5;have c6:∀ X,(Cv.ext X).cell? ⟨hb,6,none⟩=some (.string ⟨#[]⟩):=fun X=>aa (ab (aC Cv X) Od id) 6;have CN:∀ X,Calls prog 47 #[.string ⟨#[96]⟩] (Cv.ext X) fun e w'=>e=.returned (.int .i64 2)/\af (Cv.ext X) w':=fun X=>by
  have:=zM [96] (by decide) (Cv.ext X)
  rwa [show jI [96]=2 by decide]at this
 have CN:=hd0 CN;have aq0:(sm.length:Int)=8:=by omega
 clear jq SU Od;go_wp2_with fail;refine cO (by kernel_rfl) (by kernel_rfl) ?_
 repeat (quiet_step (with_reducible exact bB (CN.out _)))
 refine avT ?_;intro _ bf;obtain⟨xq,rfl⟩:=bf;go_wp2;go_ret;exact⟨by simp,Cp.out.keep (aC _ _)⟩
end
section
open Go.RowKit
attribute [local go_sem] auV
theorem xY (S:ay)(hS:S.length<=140737488351232):∃(a:Int) (b:ay) (c:Int),
  (∀ w,nN w->Calls prog 11 #[ax S] w fun e w'=>e=.returned (.tuple #[.int .i64 a,ax b,.int .i64 c])/\af w w')/\
  (∀ w,Calls prog 12 #[ax S] w fun e w'=>e=.returned (.tuple #[.int .i64 a,ax b,.int .i64 c])/\af w w'):=by
 by_cases h:∃(n:Int) (s:ay),jZ n s/\bJ n s=S
 ·obtain⟨n,s,bQ,rfl⟩:=h;obtain⟨k,rfl⟩:∃ k:Nat,n=(k:Int):=⟨n.toNat,by have:=bQ.1;omega⟩
  exact⟨k,s,0,fun w _=>tB k s bQ w,fun w=>Ni k s bQ w⟩
 ·have yA:∀(n:Int) (s:ay),jZ n s->bJ n s≠S:=fun n s h1 h2=>h ⟨n,s,h1,h2⟩;exact⟨0,[],190,fun w hg=>IQ S hS yA w hg,fun w=>IW S hS yA w⟩
theorem E6 (n:Int)(s:ay)(hs:s.length<=140737488351232):∃(a:ay) (e:Int),a.length<=140737488351232/\
  (∀ w,Calls prog 9 #[.int .i64 n,ax s] w fun x w'=>x=.returned (.tuple #[ax a,.int .i64 e])/\af w w')/\
  (∀ w,Calls prog 10 #[.int .i64 n,ax s] w fun x w'=>x=.returned (.tuple #[ax a,.int .i64 e])/\af w w')/\
  ((e=0/\∀ w,Calls prog 11 #[ax a] w fun x w'=>x=.returned (.tuple #[.int .i64 n,ax s,.int .i64 0])/\af w w')\/e≠0):=by
 by_cases bQ:jZ n s
 ·have e:pr n s=.tuple #[ax (bJ n s),.int .i64 0]:=au8 bQ;refine⟨bJ n s,0,?_,fun w=>e▸mR n s w hs,fun w=>e▸rZ n s w hs,.inl ⟨rfl,fun w=>?_⟩⟩
  ·have h4:=aV (n:=s.length) (by have:=bQ.2.2;omega);have h5:=aV (n:=n.toNat) (by have:=bQ.2.1;omega);have:=bQ.2.2;unfold bJ;simp only[avi];omega
  ·obtain⟨k,rfl⟩:∃ k:Nat,n=(k:Int):=⟨n.toNat,by have:=bQ.1;omega⟩
   exact tB k s bQ w
 ·have e:pr n s=.tuple #[ax [],.int .i64 190]:=ava bQ;exact⟨[],190,by simp,fun w=>e▸mR n s w hs,fun w=>e▸rZ n s w hs,.inr (by decide)⟩
theorem E7 (n:Int)(s S:ay)(w:World)(he:tU w)(hg:nN w)(hs:s.length<=140737488351232)(hS:S.length<=140737488351232):
  Calls prog 3 #[.int .i64 n,ax s,ax S] w fun e w'=>e=.returned (.bool true)/\af w w':=by
 obtain⟨a,e,ha,r1,r2,r3⟩:=E6 n s hs;obtain⟨a2,b2,c2,p1,p2⟩:=xY S hS;obtain⟨a3,b3,c3,q1,_⟩:=xY a ha;have R1:=hd0 r1;have R2:=hd0 r2;have R3:=hd0 r3;have P1:=hd0 p1;have P2:=hd0 p2;have Q1:=hd0 q1;have HE:=hd0 he;have HG:=hd0 hg;clear r1 r2 r3 p1 p2 q1 he hg hs hS ha;go_enter func3,ntmps3;go_wp2_with fail;refine(R1.out _).mono ?_;rintro x w1 ⟨rfl,k1⟩;have K1:=hd0 k1;clear k1;go_wp2_with fail;refine(R2.out _).mono ?_;rintro x w2 ⟨rfl,k2⟩;have K2:Hid (af w w2):=hd0 (K1.out.keep k2);clear k2 K1;go_wp2_with fail;refine(P1.out _ (HG.out.keep K2.out)).mono ?_;rintro x w3 ⟨rfl,k3⟩;have K3:Hid (af w w3):=hd0 (K2.out.keep k3);clear k3 K2;go_wp2_with fail;refine(P2.out _).mono ?_;rintro x w4 ⟨rfl,k4⟩;have K4:Hid (af w w4):=hd0 (K3.out.keep k4);clear k4 K3;go_wp2_with fail;have last:∃ a4 b4 c4,(Calls prog 11 #[ax a] w4 fun x w'=>x=.returned (.tuple #[.int .i64 a4,ax b4,.int .i64 c4])/\af w4 w')/\(e=0->a4=n/\b4=s/\c4=0):=by
  rcases R3.out with⟨h0,h1⟩|h1
  ·exact⟨n,s,0,h1 w4,fun _=>⟨rfl,rfl,rfl⟩⟩
  ·exact⟨a3,b3,c3,Q1.out w4 (HG.out.keep K4.out),fun h=>absurd h h1⟩
 obtain⟨a4,b4,c4,hc,h4⟩:=last;have H4:=hd0 h4;clear h4;refine hc.mono ?_;rintro x w5 ⟨rfl,k5⟩;have K5:Hid (af w w5):=hd0 (K4.out.keep k5);clear k5 K4 hc;have FX:=hd0 (No (HE.out.keep K5.out));have vs1:ax a=.string ⟨a.toArray⟩:=rfl;have vs2:ax b2=.string ⟨b2.toArray⟩:=rfl;by_cases h0:e=0
 ·obtain⟨rfl,rfl,rfl⟩:=H4.out h0;have vs3:ax b4=.string ⟨b4.toArray⟩:=rfl;subst h0;clear H4 R1 R2 R3 P1 P2 Q1;go_wp2_with fail;refine FX.out.mono ?_;rintro x w6 ⟨rfl,k6⟩;have K6:Hid (af w w6):=hd0 (K5.out.keep k6);clear k6 FX;go_wp2;go_ret;exact⟨rfl,K6.out⟩
 ·clear H4 R1 R2 R3 P1 P2 Q1;go_wp2_with fail;refine FX.out.mono ?_;rintro x w6 ⟨rfl,k6⟩;have K6:Hid (af w w6):=hd0 (K5.out.keep k6);clear k6 FX;go_wp2;go_ret;exact⟨rfl,K6.out⟩
end
section
section
open Go.ChangeShapes Go.WideShapes Go.ChangeAt Go.RowKit
noncomputable def BE (os:Os):World:=
 let w0:=World.laidAll prog os (Rows.differRecordsRow.laid.filter fun x=>x.2.handleName?.isNone)
 { w0 with heap:=w0.heap.modify 0 fun
   | .cells _ t frozen=>.cells #[.iface 365 (.agg #[typeHandle prog 137])] t frozen
   |o=>o }
theorem Np (os:Os):(BE os).os=os:=by kernel_rfl
theorem RA (os:Os)(args:Array Value):laidMetH prog Rows.differRecordsRow.laid ((BE os).forCall (fun _ _=>0) ⟨#[],args,[]⟩).memory:=
 laidMetH_of_parts (laidMet_of_run' 8 (by kernel_rfl) (by kernel_rfl)) (by kernel_rfl)
end
section
open Go.RowKit
theorem RC:(prog.cutTypes.find? (·.1== "internal/reflectlite.rtype")).map (·.2)=some 365:=by kernel_rfl
theorem RF:((List.range 483).filter fun t=>prog.rowNamed t [101,114,114,111,114])=[137]:=by kernel_rfl
theorem Nq:prog.types.size=483:=by kernel_rfl
theorem Nr:prog.globalNamed "errors.errorType" = some 0:=by kernel_rfl
theorem BF {W:World}{l:List (String×DataW Unit)}(h:laidMetH prog l W)(e:(l.filter fun x=>x.2.handleName?.isSome)=[("errors.errorType",Rows.laid_errors_errorType)]):nN W:=by
 unfold laidMetH at h;rw[e]at h;obtain⟨name,u,ty,e1,e2,e3,e4,e5⟩:=h.2 _ (awu.2 rfl);have en:name=[101,114,114,111,114]:=(av6 e1).symm;subst en;obtain rfl:=av6 (RC.symm.trans e2);have hm:ty∈(List.range 483).filter fun t=>prog.rowNamed t [101,114,114,111,114]:=auW.2 ⟨avW.2 (by rw[<-Nq];exact e3),e4⟩;rw[RF]at hm;obtain rfl:=awu.1 hm;have hh:typeHandle prog 137=.pointer (some ⟨9,137,none⟩):=by kernel_rfl
 rw[hh]at e5;unfold nN;simpa using World.var?_cell Nr e5 0
end
end
end Go.Proofs.YtkghpdcloaiflaaGreatDoor
section
namespace Go.Proofs.YtkghpdcloaiflaaGreatDoor.lawRecords
open _root_.Go.Proofs.Tryz
open Go.ChangeShapes Go.WideShapes Go.ChangeAt Go.RowKit
open Go.ChangeMaps (open_string shut_string)
theorem own:ownKnob prog.godebug=none:=by kernel_rfl
theorem Vy:laidOutB prog=true:=by kernel_rfl
theorem acR (os:Os){H:Type}(enc:TypeId×Value->H):∃ places,DataW.whole enc prog ((BE os).forCall (fun _ _=>0) ⟨#[],#[.int .i64 0,.string .empty,.string .empty],[]⟩).memory Tryz.f3.params.toList Rows.differRecordsSpec.vars false (#[.int .i64 0,.string .empty,.string .empty]:Array Value).toList 8=some ([.lit (.int .i64 0),.lit (.string []),.lit (.string [])],[],places):=
 ⟨[],by kernel_rfl⟩
theorem lifted (os:Os)(started:os.Started)(H:Type)(enc:TypeId×Value->H)(F:Stop.Interp):
  ReturnsInHanded {} Tryz.checked os 3 .any ((OpenSpec.ofChange Rows.differRecordsSpec).preRow enc prog Tryz.f3 Rows.differRecordsRow.domain false Rows.differRecordsRow.laid) (((OpenSpec.ofChange Rows.differRecordsSpec).at F).post enc prog Tryz.f3 false true false false):=by
 obtain⟨places,hx⟩:=acR os enc;refine returnsInHanded_of_row (C:=Tryz.checked) (s:=OpenSpec.ofChange Rows.differRecordsSpec) own started (by kernel_rfl) func3
  (witness_row_atRef (enc:=enc) (C:=Tryz.checked) false (BE os) #[.int .i64 0,.string .empty,.string .empty] (Np _) (by kernel_rfl) (by kernel_rfl) (by kernel_rfl)
   (OpenSpec.preRow_of_cond 8 hx (by kernel_rfl) (fun k hk=>by cases hk) (by kernel_rfl) (RA os _))) ?_
 intro W base args ds gs before XE hW _ alK yZ hL aac _;have ajD:tU W:=YQ aac (CU hL (by kernel_rfl)) (CV hL (by kernel_rfl)) (CW hL (by kernel_rfl));have cV:(DataW.weightsEach prog (Tryz.f3.params.toList++Rows.differRecordsSpec.plain.varTypes prog) (ds++gs)).all (·<=reachBytes)=true:=yZ;have I5:∀(j:Nat) t v,Tryz.f3.params[j]?=some t->args[j]?=some v->Value.okWide prog W .any base t v:=XE;clear yZ XE;have hW':=hW;obtain⟨p,q,hA0,hV,rfl,_,_⟩:=hW;have hA:DataW.TrodAll enc prog W 0 (fun _=>true) true Tryz.f3.params.toList args.toList ds p:=hA0;clear hA0;rw[params3]at hA I5 cV;obtain⟨v0,vs0,d0,ds0,p0,q0,anm,rfl,rfl,h0,r0⟩:=trodAll_cons hA;obtain⟨v1,vs1,d1,ds1,p1,q1,rfl,rfl,rfl,h1,r1⟩:=trodAll_cons r0;obtain⟨v2,vs2,d2,ds2,p2,q2,rfl,rfl,rfl,h2,r2⟩:=trodAll_cons r1;obtain⟨rfl,rfl,rfl⟩:=trodAll_nil r2;obtain rfl:args=#[v0,v1,v2]:=by cases args;simp_all
 obtain⟨rfl,rfl⟩:=trodVars_none hV;obtain⟨i0,rfl,rfl,rfl,wf0⟩:=open_int underlying3 (I5 0 3 v0 rfl rfl) h0;obtain⟨b1,rfl,rfl,rfl,_⟩:=open_string underlying9 (I5 1 9 v1 rfl rfl) h1;have z1:b1.data.toList.length<=140737488351232:=sized_string cV (j:=1) (t:=9) rfl rfl;obtain⟨l1,rfl⟩:∃ l:List UInt8,b1=⟨l.toArray⟩:=⟨b1.data.toList,rfl⟩
 obtain⟨b2,rfl,rfl,rfl,_⟩:=open_string underlying9 (I5 2 9 v2 rfl rfl) h2;have z2:b2.data.toList.length<=140737488351232:=sized_string cV (j:=2) (t:=9) rfl rfl;obtain⟨l2,rfl⟩:∃ l:List UInt8,b2=⟨l.toArray⟩:=⟨b2.data.toList,rfl⟩
 refine(E7 i0 l1 l2 W ajD (BF (show laidMetH prog Rows.differRecordsRow.laid W from hL) (by kernel_rfl)) z1 z2).mono fun e W' ⟨he,hk⟩=>?_;subst he;exact⟨_,rfl,Nn Vy (by kernel_rfl) rfl rfl underlying4 rfl hW' hk⟩
end Go.Proofs.YtkghpdcloaiflaaGreatDoor.lawRecords
end
section
namespace Go.Proofs.YtkghpdcloaiflaaGreatDoor.lawRecords
open _root_.Go.Proofs.Tryz
open Go.ChangeShapes Go.WideShapes Go.ChangeAt Go.RowKit
open Go.ChangeMaps (open_string shut_string)
theorem ahQ:Rows.DifferRecordsSaid:=
 OpenClaim.holds_of_cond 3 Tryz.f3 rfl rfl rfl rfl rfl rfl rfl ⟨rfl,rfl,rfl,rfl,rfl⟩ rfl rfl rfl rfl rfl ac3 func3 ac2
  ac4 ac5
  (fun os started H enc _ F=>by rw[OpenClaim.pre_eq_preRow];exact lifted os started H enc F)
theorem plain (f:FuncId)(fn:Func)(hf:Tryz.pinned.checked.prog.funcNamed Rows.differRecordsRow.func=some f)(RL:Tryz.pinned.checked.prog.funcs[f]?=some fn):
  true=Tryz.pinned.checked.prog.looks []/\∀(j:Nat) t,fn.params[j]?=some t->Tryz.pinned.checked.prog.wantsStandIn t=false:=by
 obtain rfl:f=3:=av6 ((show prog.funcNamed Rows.differRecordsRow.func=some 3 by kernel_rfl).symm.trans hf) |>.symm;obtain rfl:fn=Tryz.f3:=(av6 (func3.symm.trans RL)).symm;refine⟨by kernel_rfl,fun j t ht=>?_⟩;rw[params3]at ht;have hm:=Array.mem_of_getElem? ht;simp only[List.mem_toArray,avn,List.not_mem_nil,or_false]at hm;rcases hm with h|h|h
 ·subst h;exact(show prog.wantsStandIn 3=false by kernel_rfl)
 ·subst h;exact(show prog.wantsStandIn 9=false by kernel_rfl)
 ·subst h;exact(show prog.wantsStandIn 9=false by kernel_rfl)
theorem differRecords_card:Rows.DifferRecordsCardSaid:=
 Claim7.holds_tied_plain_at .later [] _ _ _ _ ahQ (fun _ h=>by cases h) ac6 (fun _ h=>by cases h) differRecords_row_tie rfl ⟨rfl,rfl⟩ ac7 rfl plain ac8
end Go.Proofs.YtkghpdcloaiflaaGreatDoor.lawRecords
end
