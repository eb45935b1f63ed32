import Derived.Test.YtkghpdcloaiflaaGreatDoorH42
import Derived.Test.YtkghpdcloaiflaaGreatDoorH43
import Derived.Test.YtkghpdcloaiflaaGreatDoorCards
import Derived.Test.YtkghpdcloaiflaaGreatDoorTie
import Derived.OpenShut
import Derived.Lay
import Derived.Deep.DeepHandedRow
import Derived.Deep.DeepWitnessRowRef
import Derived.LaidHandle
import Derived.LaidLaws
import Derived.Deep.Slices
import Derived.Deep.Fields
import Derived.ChangeSame
set_option maxHeartbeats 8000000
set_option maxRecDepth 100000
namespace Go.Proofs.YtkghpdcloaiflaaGreatDoor
open _root_.Go.Proofs.Tryz
variable {a k:Nat}{s:List UInt8}{w:World}{x:UInt8}
section
open Go.RowKit
attribute [local go_sem] av0
theorem aah:I3 5 [97,98]=.tuple #[az [5,2,97,98],.int .i64 0]:=by
 rw[show I3 5 [97,98]=.tuple #[az (ey 5 [97,98]),.int .i64 0]from awd dc7];rw[show ey 5 [97,98]=[5,2,97,98] by kernel_rfl]
theorem re {v:Vs}(h:mu v){x:Sn}(hx:x∈v.b.list):(dT v x).length<=600:=by
 obtain⟨h1,h2⟩:=h.list.plane x hx;have:=h.planes x.plane.toNat J;have h3:=pK (k:=512) this.1 λn hn=>by have:=(this.2 n hn).2;have:=h.many;omega
 unfold dT;omega
theorem Nu (he:yK w):Calls prog 13 #[] w λe w'=>e=.returned (.bool true)/\af w w':=by
 obtain⟨W,hW⟩:∃ W,w.alloc (.cells #[.int .i64 0,.string ⟨#[47,97]⟩,.string ⟨#[]⟩,.int .i64 0,.string ⟨#[]⟩,.int .i64 7,.string ⟨#[97]⟩,.string ⟨#[]⟩,.int .i64 0,.string ⟨#[]⟩,.int .i64 7,.string ⟨#[98]⟩,.string ⟨#[]⟩,.int .i64 0,.string ⟨#[]⟩] 55)=W:=⟨_,rfl⟩
 have hk:af w W:=by rw[<-hW];exact(ai.refl _ w).alloc _
 have hb:World.blk W w.heap.size #[.int .i64 0,.string ⟨#[47,97]⟩,.string ⟨#[]⟩,.int .i64 0,.string ⟨#[]⟩,.int .i64 7,.string ⟨#[97]⟩,.string ⟨#[]⟩,.int .i64 0,.string ⟨#[]⟩,.int .i64 7,.string ⟨#[98]⟩,.string ⟨#[]⟩,.int .i64 0,.string ⟨#[]⟩] 55:=by rw[<-hW];exact av _ _ _
 have cq:ms BN 5 W (.slice (some ⟨w.heap.size,0,none⟩) 3 3) [cmA,Ul 97,Ul 98]:=by
  refine⟨_,_,rfl,λj x hx=>⟨w.heap.size,0,rfl,λi c hc=>?_⟩⟩;rcases j with _|_|_|j
  ·simp at hx;subst hx;rcases i with _|_|_|_|_|i<;>first|(simp[BN,cmA]at hc;subst hc;exact aa hb _)|(simp[BN]at hc)
  ·simp at hx;subst hx;rcases i with _|_|_|_|_|i<;>first|(simp[BN,Ul]at hc;subst hc;exact aa hb _)|(simp[BN]at hc)
  ·simp at hx;subst hx;rcases i with _|_|_|_|_|i<;>first|(simp[BN,Ul]at hc;subst hc;exact aa hb _)|(simp[BN]at hc)
  ·simp at hx
 have LD:=Nr (he.keep hk) 100 J [cmA,Ul 97,Ul 98] _ cq (λc hc=>by
  simp at hc;rcases hc with rfl|rfl|rfl<;>exact⟨by decide,by decide,by decide,by decide⟩) sp7 (λ⟨c,hc,h8⟩=>by
  simp at hc;rcases hc with rfl|rfl|rfl<;>exact absurd h8 dc7) (λc hc=>by
  simp at hc;rcases hc with rfl|rfl|rfl<;>exact⟨λh=>absurd h dc7,λh=>absurd h dc7,λh=>absurd h dc7,λh=>absurd h dc7⟩)
 rw[show(max 48 (min (100:Int) 300)).toNat=100 by decide]at LD;obtain⟨LD,HK⟩:=K2 LD hk;clear hb cq hk he;go_enter func13,ntmps13;go_wp2_with fail
 try rw[hW]
 refine LD.mono ?_;rintro e w1 ⟨p,v0,v,a,rfl,h0,h1,iA,mL,uE⟩;have hq:=adt h0 h1;unfold aaf aag at hq;injection hq with q1 hq;injection hq with q2 hq;injection hq with q3 hq;injection hq with q4 hq;injection hq with q5 hq;injection hq with q6 q7;obtain⟨HG,HQ,HB,HA⟩:=K4 iA.good (And.intro q1 (And.intro q2 (And.intro q3 (And.intro q4 (And.intro q5 (And.intro q6 q7)))))) mL uE;have NW:=λ(b t:ay) (W:World) (hk:af w1 W) (h1:b.length<=1000) (h2:t.length<=1000)=>Ni (uE.at_.keep hk) (by have:=iA.good.list.many;omega) iA.good.list.plane (λx y hx hy=>⟨re iA.good hx,av2 (qK _ _) (Nat.max_le.2 ⟨re iA.good hx,re iA.good hy⟩)⟩) b t J J;obtain⟨N1,NW⟩:=K2 (NW [] [97] w1 (ai.refl _ _) sp7 sp7) NW;clear q1 q2 q3 q4 q5 q6 q7 iA mL uE h0 h1 LD hW;go_wp2_with fail;refine N1.mono ?_;rintro e w2 ⟨k2,hp⟩;rw[HQ.1]at hp;simp only at hp;obtain⟨q,lv,rfl,N7⟩:=hp;obtain⟨bJ,HPA,N2⟩:=K3 k2 N7 (NW.o [98] [97] w2 k2 sp7 sp7);clear k2 N7 N1;go_wp2_with fail;refine N2.mono ?_;rintro e w3 ⟨k3,hp⟩;rw[HQ.2.1]at hp;simp only at hp;subst hp;obtain⟨ez,ae8⟩:=K2 (bJ.keep k3) (HPA.keep k3);have N3:=Z (NW.o [] [120] w3 ez.o sp7 sp7);clear k3 N2;go_wp2_with fail;refine N3.mono ?_;rintro e w4 ⟨k4,hp⟩;rw[HQ.2.2.1]at hp;simp only at hp;subst hp;have pO:=Z (ez.keep k4);have abf:=ae8.keep k4;obtain⟨PH,ae0⟩:=K2 (Nl abf) abf;clear k4 N3 abf;go_wp2_with fail;refine PH.mono ?_;rintro e w5 ⟨rfl,k5⟩;obtain⟨nD,agH⟩:=K2 (pO.keep k5) (ae0.keep k5);have k6:af w5 (w5.alloc (.cells #[.int .i64 1,.int .i64 0,.string ⟨#[97]⟩,.int .i64 6,.int .i64 11,.int .i64 2,.string ⟨#[]⟩] 44)):=(ai.refl _ w5).alloc _;have b6:World.blk (w5.alloc (.cells #[.int .i64 1,.int .i64 0,.string ⟨#[97]⟩,.int .i64 6,.int .i64 11,.int .i64 2,.string ⟨#[]⟩] 44)) w5.heap.size #[.int .i64 1,.int .i64 0,.string ⟨#[97]⟩,.int .i64 6,.int .i64 11,.int .i64 2,.string ⟨#[]⟩] 44:=av _ _ _;obtain⟨vf,HB6⟩:=K2 (nD.keep k6) b6;have HHB:Hid (w1.heap.size<=w5.heap.size):=Z nD.size;obtain⟨MP,af2⟩:=K2 (xQ (HA.at_.keep vf.o)) (agH.keep k6);clear k5 PH k6 b6;go_wp2_with fail;generalize w5.alloc (.cells #[.int .i64 1,.int .i64 0,.string ⟨#[97]⟩,.int .i64 6,.int .i64 11,.int .i64 2,.string ⟨#[]⟩] 44)=w6 at*;generalize w5.heap.size=hb at*;refine MP.mono ?_;rintro e w7 ⟨m,rfl,hm,KK,k7⟩;obtain⟨yY,Kx,aeo⟩:=K3 (vf.keep k7) (ab k7 HB6.o id) (af2.keep k7);have PL:=wQ KK 1 dc7;rw[HQ.2.2.2.1]at PL;have PL:=Z PL;clear k7 hm KK MP vf HB6 af2 agH ae0 ae8;go_wp2_with fail;refine PL.mono ?_;rintro e w8 ⟨rfl,k8⟩;obtain⟨sr,BX,af4⟩:=K3 (yY.keep k8) (ab k8 Kx.o id) (aeo.keep k8);have DR:=xS 5 [97,98] w8 dc7;rw[aah]at DR;have DR:=Z DR;clear k8 PL yY Kx aeo;go_wp2_with fail;refine DR.mono ?_;rintro e w9 ⟨rfl,k9⟩;obtain⟨Cg,OT,aeQ⟩:=K3 (sr.keep k9) (ab k9 BX.o id) (af4.keep k9);have DP:=Nn 5 [97,98] dc7 w9;rw[show ey ((5:Nat):Int) [97,98]=[5,2,97,98] by kernel_rfl]at DP;have DP:=Z DP;clear k9 DR sr BX af4;go_wp2_with fail;refine DP.mono ?_;rintro e sH ⟨rfl,CD⟩;have abv:=Z (Cg.keep CD);have abZ:=ab CD OT.o id;have c5:sH.cell? ⟨hb,5,none⟩=some (.int .i64 2):=aa abZ 5;have alO:=Z abZ;have HPI:Hid (gc sH p a q ⟨1,0,[97],⟨6,11⟩,2,[]⟩ [5,6] lv):=Z (by
  have nR:=aeQ.keep CD;exact⟨⟨_,nR⟩,λhf=>by have h1:=HA.at_.lt hf;have h2:=nR.new;omega,λg hg hf=>by have h1:=HA.at_.lt hf;have h2:=(nR.row.lt g hg).1;omega⟩)
 have PO:=Z (BK HPI.o 2 (.inr dc7));clear CD DP Cg OT aeQ abZ;go_wp2_with fail;refine PO.mono ?_;rintro e Zh ⟨rfl,KG⟩;obtain⟨agk,ajP,agy⟩:=K3 (abv.keep KG) (ab KG alO.o id) (HPI.keep KG);have SU:=RW (HA.at_.keep agk.o) (by have:=HG.list.many;omega) agy.o (λ_=>HQ.2.2.2.2.2.2) dc7 HG.many.2 (λn=>if n=5 then [1,1,97,2]else [2,1,1,1,5,4,2,0,1,0,0]) (λn hn=>by
  simp at hn;rcases hn with rfl|rfl
  ·exact⟨by decide,by rw[HB.o];decide,HQ.2.2.2.2.1,by decide⟩
  ·exact⟨by decide,by rw[HB.o];decide,HQ.2.2.2.2.2.1,by decide⟩)
 obtain⟨sm,Sr⟩:∃ sm,Oz je (gD (λn=>if n=5 then [1,1,97,2]else [2,1,1,1,5,4,2,0,1,0,0]) [5,6])=sm:=⟨_,rfl⟩
 have CG:sm.length=8:=by rw[<-Sr];rfl
 rw[Sr]at SU;have SU:=Z SU;clear KG PO c5 Sr;go_wp2_with fail;refine SU.mono ?_;rintro e ve ⟨rfl,a2,jm,_,_⟩;have NS:=ab jm.mod ajP.o (λhf=>by have h1:=HA.at_.lt hf;have h2:=HHB.o;omega);have od:Hid (af w ve):=Z (HK.keep ((HA.keep.keep agk.o).trans jm.mod (λg hl hg=>by have h1:=HA.foot g hg;omega)));have c0:∀ X,(ve.ext X).cell? ⟨hb,0,none⟩=some (.int .i64 1):=λX=>aa (ab (aC ve X) NS id) 0;have c1:∀ X,(ve.ext X).cell? ⟨hb,1,none⟩=some (.int .i64 0):=λX=>aa (ab (aC ve X) NS id) 1;have c2:∀ X,(ve.ext X).cell? ⟨hb,2,none⟩=some (.string ⟨#[97]⟩):=λX=>aa (ab (aC ve X) NS id) 2;have c5:∀ X,(ve.ext X).cell? ⟨hb,5,none⟩=some (.int .i64 2):=λX=>aa (ab (aC ve X) NS id) 5;have c6:∀ X,(ve.ext X).cell? ⟨hb,6,none⟩=some (.string ⟨#[]⟩):=λX=>aa (ab (aC ve X) NS id) 6;have CN:∀ X,Calls prog 47 #[.string ⟨#[96]⟩] (ve.ext X) λe w'=>e=.returned (.int .i64 2)/\af (ve.ext X) w':=λX=>by
  have:=zK [96] dc7 (ve.ext X)
  rwa [show jF [96]=2 by decide]at this
 have CN:=Z CN;have asJ:(sm.length:Int)=8:=J
 clear jm SU NS;go_wp2_with fail;refine cl kr7 kr7 ?_
 repeat (quiet_step (with_reducible exact ar (CN.o _)))
 refine awX ?_;intro _ bD;obtain⟨xq,rfl⟩:=bD;go_wp2;go_ret;exact⟨by simp,od.keep (aC _ _)⟩
end
section
section
open Go.ChangeShapes Go.WideShapes Go.ChangeAt Go.RowKit
noncomputable def BO (os:Os):World:=
 let w0:=World.laidAll prog os (Rows.differRecordsRow.laid.filter λx=>x.2.handleName?.isNone)
 { w0 with heap:=w0.heap.modify 0 fun
   | .cells _ t frozen=>.cells #[.iface 365 (.agg #[typeHandle prog 137])] t frozen
   |o=>o }
theorem Nv (os:Os):(BO os).os=os:=kr7
theorem RZ (os:Os)(args:Array Value):laidMetH prog Rows.differRecordsRow.laid ((BO os).forCall (λ_ _=>0) ⟨#[],args,[]⟩).memory:=
 laidMetH_of_parts (laidMet_of_run' 8 kr7 kr7) kr7
end
section
open Go.RowKit
theorem R4:(prog.cutTypes.find? (·.1== "internal/reflectlite.rtype")).map (·.2)=some 365:=kr7
theorem R5:((List.range 483).filter λt=>prog.rowNamed t [101,114,114,111,114])=[137]:=kr7
theorem Nw:prog.types.size=483:=kr7
theorem Nx:prog.globalNamed "errors.errorType" = some 0:=kr7
theorem BP {W:World}{l:List (String×DataW Unit)}(h:laidMetH prog l W)(e:(l.filter λx=>x.2.handleName?.isSome)=[("errors.errorType",Rows.laid_errors_errorType)]):o6 W:=by
 unfold laidMetH at h;rw[e]at h;obtain⟨name,u,ty,e1,e2,e3,e4,e5⟩:=h.2 _ (axy.2 rfl);have en:name=[101,114,114,111,114]:=(axa e1).symm;subst en;obtain rfl:=axa (R4.symm.trans e2);have hm:ty∈(List.range 483).filter λt=>prog.rowNamed t [101,114,114,111,114]:=av1.2 ⟨aw0.2 (by rw[<-Nw];exact e3),e4⟩;rw[R5]at hm;obtain rfl:=axy.1 hm;have hh:typeHandle prog 137=.pointer (some ⟨9,137,none⟩):=kr7
 rw[hh]at e5;unfold o6;simpa using World.var?_cell Nx e5 0
end
end
theorem aai (d:List UInt8):dZ d []=least d:=JQ (gE _ _ _) (jp _) λn=>by rw[iN,fJ,Bool.or_false,mP]
def gd (d:List UInt8):Bool:=(least d==d)&&decide (d.length<=512)&&!aq d 0
theorem Ny {d:List UInt8}(h:eP d)(hl:512<d.length):∃ n,4096<=n/\aq d n=true:=by
 rcases List.eq_nil_or_concat d with rfl|⟨r,b,rfl⟩
 ·simp at hl
 ·rw[List.concat_eq_append]at h hl ⊢;have hb:b≠0:=by simpa[eP]using h
  obtain⟨k,hk,hb⟩:=vx hb;refine⟨8*r.length+k,by simp at hl;omega,?_⟩;rw[dw hk];simpa using hb
theorem BQ (h:∀ n,a<=n->aq s n=false):gm s a=none:=by
 unfold gm;rw[aw4];intro n hn;rw[List.mem_range']at hn;obtain⟨i,_,rfl⟩:=hn;simp[h (a+i) J]
theorem BR {n:Nat}(h:a<=n)(hn:aq s n=true):(gm s a).isSome=true:=by
 unfold gm;rw[List.find?_isSome];exact⟨n,by rw[List.mem_range'];exact⟨n-a,by have:=AO hn;omega,J⟩,hn⟩
theorem Fq (d:List UInt8):((gm d 4096).isNone&&!aq d 0&&(dZ d []==d))=gd d:=by
 rw[aai];unfold gd;by_cases h:least d=d
 ·have hL:eP d:=by rw[<-h];exact jp _
  have e:(gm d 4096).isNone=decide (d.length<=512):=by
   by_cases hl:d.length<=512
   ·rw[BQ (λn hn=>l9 J),decide_eq_true hl];rfl
   ·obtain⟨n,h1,h2⟩:=Ny hL J;rw[awe hl];have:=BR h1 h2
    cases hx:gm d 4096 with
    |none=>rw[hx]at this;cases this
    |some _=>rfl
  rw[e,h];simp[Bool.and_comm]
 ·have e:(least d==d)=false:=by simpa using h
  simp[e]
section
open Go.RowKit
attribute [local go_sem] av0
theorem aiI (b:UInt8)(k:Nat):((b.toNat:Int)/2 ^ k%2==1)=b.toNat.testBit k:=by
 rw[Nat.testBit_eq_decide_div_mod_eq];have e:((b.toNat:Int)/2 ^ k%2)=((b.toNat/2 ^ k%2:Nat):Int):=by simp
 rw[e,awM];simp;omega
theorem R6 (s:List UInt8)(n:Int)(w:World)(hs:s.length<=140737488351232)(hn:-9223372036854775808<=n/\n<=9223372036854775807):
  Calls prog 56 #[.string ⟨s.toArray⟩,.int .i64 n] w λe w'=>e=.returned (.bool (mr s n))/\w=w':=by
 by_cases h0:0<=n
 ·obtain⟨m,rfl⟩:=Int.eq_ofNat_of_zero_le h0;by_cases h:m/8<s.length
  ·have aP:¬(s.length:Int)<=(m:Int)/8:=J
   obtain⟨b,hb⟩:∃ b,s[m/8]?=some b:=⟨_,av6 h⟩
   have hx:=aM (P:=prog) underlying9 s .i64 ((m:Int)/8) b J (by rw[show((m:Int)/8).toNat=m/8 by omega];exact hb);have Hv:Hid (mr s m=b.toNat.testBit (m%8)):=Z (by simp[mr,aq,hb]);have Sc:=b.toNat_lt;obtain⟨r,hr⟩:∃ r,m%8=r:=⟨_,rfl⟩
   have OD:r<8:=J
   have e2:(m:Int)%8=(r:Int):=J
   rw[hr]at Hv;obtain⟨q,hq⟩:∃ q:Nat,b.toNat/2 ^ r=q:=⟨_,rfl⟩
   have hq8:q<256:=by rw[<-hq];exact Nat.lt_of_le_of_lt (Nat.div_le_self _ _) Sc
   have e3:(b.toNat:Int)/2 ^ r=(q:Int):=by rw[<-hq];simp
   have Hq:Hid (((q:Int)%2==1)=b.toNat.testBit r):=Z (by rw[<-e3];exact aiI b r);clear hb hr hq;go_enter func56,ntmps56;go_wp2;go_ret;exact⟨by rw[Hv.o,<-Hq.o];rfl,rfl⟩
  ·have aP:(s.length:Int)<=(m:Int)/8:=J
   have Hv:Hid (mr s m=false):=Z (by unfold mr;rw[awH,l9 J];simp);go_enter func56,ntmps56;go_wp2;go_ret;exact⟨by rw[Hv.o];rfl,rfl⟩
 ·have Hv:Hid (mr s n=false):=Z (by simp[mr,h0]);have h1:n<0:=J
  go_enter func56,ntmps56;go_wp2;go_ret;exact⟨by rw[Hv.o];rfl,rfl⟩
theorem Jd (s:List UInt8)(w:World)(hs:s.length<=140737488351232):
  Calls prog 75 #[.string ⟨s.toArray⟩] w λe w'=>e=.returned (.string ⟨(least s).toArray⟩)/\w=w':=by
 have HS:=Z hs;clear hs;go_enter func75,ntmps75;go_wp2_with fail
 go_loop [0] (λx=>∃ t:List UInt8,x=.string ⟨t.toArray⟩/\Hid (least t=least s/\t.length<=s.length)) (λx=>match x with | .string b=>b.data.size|_=>0)
 case atStart=>exact⟨s,rfl,Z ⟨rfl,av9 _⟩⟩
 case round=>
  obtain⟨t,rfl,HT⟩:=hrel;have sJ:t.length<=140737488351232:=av2 HT.2 HS.o;rcases List.eq_nil_or_concat t with rfl|⟨u,c,rfl⟩
  ·have HL:=Z HT.1;go_wp2;go_ret;exact⟨by rw[<-HL.o];rfl,rfl⟩
  ·rw[List.concat_eq_append]at HT sJ ⊢;have hx:=aM (P:=prog) underlying9 (u++[c]) .i64 (u.length:Int) c J sp7;have bt:(u++[c]).length=u.length+1:=by simp
   have FK:(u.length:Int)<=140737488351232:=J
   by_cases h0:c=0
   ·have HL:Hid (least u=least s/\u.length<=s.length):=Z ⟨by rw[<-HT.1,mO,awd h0],by have:=HT.2;omega⟩;have hc:((c.toNat:Int)==0)=true:=by rw[h0];rfl
    clear h0;go_wp2_with fail;exact⟨⟨u,rfl,HL⟩,by simp⟩
   ·have HL:Hid (u++[c]=least s):=Z (by rw[<-HT.1,mO,awf h0]);have hc:((c.toNat:Int)==0)=false:=by
     rw[awO];intro e;exact h0 (by apply UInt8.toNat_inj.1;simpa using e)
    clear h0;go_wp2;go_ret;exact⟨by rw[HL.o];rfl,rfl⟩
end
section
open Go.RowKit
theorem R7 (h:s[k]?=some x)(h1:(s.take k).all bU=true)(h2:bU x=true):(s.take (k+1)).all bU=true:=by
 rw[av8,h,Option.toList_some,List.all_append,h1];simp[h2]
theorem aaj (h:s[k]?=some x)(h2:bU x=false):s.all bU=false:=by
 rw[Bool.eq_false_iff];intro h3;have:=awp.1 h3 x (av7 h);rw[h2]at this;cases this
theorem Nz (s:List UInt8)(w:World)(hs:s.length<=140737488355328):
  Calls prog 20 #[.string ⟨s.toArray⟩] w λe w'=>e=.returned (.bool (aJ s))/\w=w':=by
 go_enter func20,ntmps20;go_wp2_with fail
 go_loop [3] (λi=>∃(k:Nat),k<=s.length/\i=.int .i64 (k:Int)/\Hid ((s.take k).all bU=true)) (λi=>s.length-(intOf i).toNat)
 case atStart=>exact⟨0,J,rfl,Z sp7⟩
 case round=>
  obtain⟨k,hk,rfl,Hd⟩:=hrel;by_cases aP:k<s.length
  ·obtain⟨x,hx⟩:∃ x,s[k]?=some x:=⟨_,av6 aP⟩
   have Hx:=Z hx;have OZ:∀ W,(Instr.index 9 (.string ⟨s.toArray⟩) (.int .i64 (k:Int))).run prog W=.ok (.int .u8 (x.toNat:Int)) W:=λW=>aM underlying9 s .i64 (k:Int) x J (by rw[awH];exact hx) W;clear hx;by_cases hb:bU x=true
   ·have Sd:=Z (R7 Hx.o Hd.o hb);have hc:(97<=x.toNat/\x.toNat<=122)\/(48<=x.toNat/\x.toNat<=57)\/x.toNat=46\/x.toNat=45\/x.toNat=95:=by
     apply Decidable.byContradiction;intro h;rw[Bo h]at hb;cases hb
    clear hb Hd Hx;generalize hn:x.toNat=n at*;clear hn;rcases hc with⟨h1,h2⟩|⟨h1,h2⟩|rfl|rfl|rfl
    ·have a1:(97:Int)<=n:=J
     have a2:(n:Int)<=122:=J
     go_wp2_with fail
     go_round
     case rel=>exact⟨k+1,J,by go_num,Sd⟩
     case measure=>simp[intOf];omega
    ·have a0:¬(97:Int)<=n:=J
     have a1:(48:Int)<=n:=J
     have a2:(n:Int)<=57:=J
     go_wp2_with fail
     go_round
     case rel=>exact⟨k+1,J,by go_num,Sd⟩
     case measure=>simp[intOf];omega
    all_goals
     go_wp2_with fail
     go_round
     case rel=>exact⟨k+1,J,by go_num,Sd⟩
     case measure=>simp[intOf];omega
   ·have fh:bU x=false:=by simpa using hb
    have Hv:Hid (aJ s=false):=Z (by simp[aJ,aaj Hx.o fh]);have hc:¬((97<=x.toNat/\x.toNat<=122)\/(48<=x.toNat/\x.toNat<=57)\/x.toNat=46\/x.toNat=45\/x.toNat=95):=by
     intro h;rw[Bn h]at fh;cases fh
    clear hb fh Hx Hd;generalize hn:x.toNat=n at*;clear hn;have e1:((n:Int)==46)=false:=axl J;have e2:((n:Int)==45)=false:=axl J;have e3:((n:Int)==95)=false:=axl J;have hn:(¬(97:Int)<=n/\¬(48:Int)<=n)\/(¬(97:Int)<=n/\(48:Int)<=n/\¬(n:Int)<=57)\/((97:Int)<=n/\¬(n:Int)<=122/\(48:Int)<=n/\¬(n:Int)<=57):=J
    clear hc;rcases hn with⟨h1,h2⟩|⟨h1,h2,h3⟩|⟨h1,h2,h3,h4⟩
    all_goals
     go_wp2;go_ret;exact⟨by rw[Hv.o];rfl,rfl⟩
  ·have yA:k=s.length:=J
   subst yA;have NV:Hid (s.all bU=true):=Z (by have h:=Hd.o;rwa [awa]at h);clear Hd;by_cases h1:1<=s.length
   ·by_cases h2:s.length<=16
    ·have h1':(1:Int)<=s.length:=J
     have h2':(s.length:Int)<=16:=J
     by_cases e1:s=[46]
     ·subst e1;clear NV;go_wp2;go_ret;exact⟨rfl,rfl⟩
     ·by_cases e2:s=[46,46]
      ·subst e2;clear NV;go_wp2;go_ret;exact⟨rfl,rfl⟩
      ·have b1:(s==[46])=false:=axl e1;have b2:(s==[46,46])=false:=axl e2;have Hv:Hid (aJ s=true):=Z (by simp[aJ,NV.o,h1,h2,b1,b2]);clear e1 e2 NV;go_wp2;go_ret;exact⟨by rw[Hv.o];rfl,rfl⟩
    ·have Hv:Hid (aJ s=false):=Z (by simp[aJ,h2]);have h1':(1:Int)<=s.length:=J
     have h2':¬(s.length:Int)<=16:=J
     clear NV;go_wp2;go_ret;exact⟨by rw[Hv.o];rfl,rfl⟩
   ·have Hv:Hid (aJ s=false):=Z (by simp[aJ,h1]);have h1':¬(1:Int)<=s.length:=J
    clear NV;go_wp2;go_ret;exact⟨by rw[Hv.o];rfl,rfl⟩
end
section
open Go.RowKit
attribute [local go_sem] av0
theorem Az (d:ay):mr d 0=aq d 0:=by simp[mr]
theorem Fr (d:ay)(w:World)(hd:d.length<=140737488351232):
  Calls prog 158 #[az d] w λe w'=>e=.returned (.bool (gd d))/\af w w':=by
 have NX:=DQ d 4096 w hd J;have HS:=Bc d 0 w hd J;rw[Az]at HS;have OR:=jX d [] w hd sp7;have IN:=Fq d
 cases hn:gm d 4096 with
 |some n=>
  rw[hn]at NX IN;have HD:Hid (gd d=false):=Z (by rw[<-IN];rfl);have NX:=Z NX;clear hd HS OR IN hn;unfold Bd at NX;go_enter func158,ntmps158;go_wp2_with fail;refine NX.mono ?_;rintro e w' ⟨rfl,rfl⟩;go_wp2;go_ret;exact⟨by rw[HD.o];rfl,ai.refl _ _⟩
 |none=>
  rw[hn]at NX IN;have NX:=Z NX
  cases h0:aq d 0 with
  |true=>
   rw[h0]at HS IN;have HS:=Z HS;have HD:Hid (gd d=false):=Z (by rw[<-IN];rfl);clear hd OR IN hn h0;unfold Bd at NX;go_enter func158,ntmps158;go_wp2_with fail;refine NX.mono ?_;rintro e w' ⟨rfl,rfl⟩;go_wp2_with fail;refine HS.mono ?_;rintro e w' ⟨rfl,rfl⟩;go_wp2;go_ret;exact⟨by rw[HD.o];rfl,ai.refl _ _⟩
  |false=>
   rw[h0]at HS IN;have HS:=Z HS;have HD:Hid ((dZ d []==d)=gd d):=Z (by rw[<-IN];rfl);have OR:=Z OR;clear hd IN hn h0;unfold Bd at NX;go_enter func158,ntmps158;go_wp2_with fail;refine NX.mono ?_;rintro e w' ⟨rfl,rfl⟩;go_wp2_with fail;refine HS.mono ?_;rintro e w' ⟨rfl,rfl⟩;go_wp2_with fail;refine OR.mono ?_;rintro e w' ⟨rfl,hk⟩;have HK:=Z hk;clear hk OR HS NX;go_wp2;go_ret;exact⟨by rw[<-HD.o];rfl,HK.o⟩
end
section
open Go.RowKit
def kU (h:Hd):Bool:=decide (1<=h.id)&&decide (h.id<=1099511627776)&&decide (0<=h.base)&&decide (h.base<h.id)&&aJ h.name&&decide (1<=h.table.root)&&decide (h.table.root<=4095)&&decide (1<=h.table.size)&&decide (h.table.size<=16384)&&decide (0<=h.count)&&decide (h.count<=4095)&&gd h.drop&&(decide (0<h.base)||h.drop==[])
def nA (h:Hd):List Pc:=[.num h.id.toNat,.num h.base.toNat,.text h.name,.num h.table.root.toNat,.num h.table.size.toNat,.num h.count.toNat,.text h.drop]
def eQ (h:Hd):ay:=(nA h).flatMap Pc.bytes
theorem rZ (h:Hd):eQ h=aD h.id.toNat++(aD h.base.toNat++(aD h.name.length++(h.name++(aD h.table.root.toNat++(aD h.table.size.toNat++(aD h.count.toNat++(aD h.drop.length++(h.drop++[])))))))):=by
 simp[eQ,nA,Pc.bytes]
def lF (h:Hd):Value:=if kU h=true then .tuple #[az (eQ h),.int .i64 0]else .tuple #[.string ⟨#[]⟩,.int .i64 190]
structure ge (h:Hd):Prop where
 id:1<=h.id/\h.id<=1099511627776
 base:0<=h.base/\h.base<h.id
 name:aJ h.name=true/\h.name.length<=16
 root:1<=h.table.root/\h.table.root<=4095
 size:1<=h.table.size/\h.table.size<=16384
 count:0<=h.count/\h.count<=4095
 drop:gd h.drop=true/\h.drop.length<=512
 none:0<h.base\/h.drop=[]
theorem dU (h:Hd):kU h=true↔ge h:=by
 unfold kU;simp only[awo,awq,awt,awJ]
 constructor
 ·rintro⟨⟨⟨⟨⟨⟨⟨⟨⟨⟨⟨⟨a1,a2⟩,a3⟩,a4⟩,a5⟩,a6⟩,a7⟩,a8⟩,a9⟩,b1⟩,b2⟩,b3⟩,b4⟩;have hn:h.name.length<=16:=by
   have:=a5;unfold aJ at this;simp only[awo,awt]at this;exact this.1.1.2
  have hd:h.drop.length<=512:=by
   have:=b3;unfold gd at this;simp only[awo,awt]at this;exact this.1.2
  exact⟨⟨a1,a2⟩,⟨a3,a4⟩,⟨a5,hn⟩,⟨a6,a7⟩,⟨a8,a9⟩,⟨b1,b2⟩,⟨b3,hd⟩,b4⟩
 ·rintro⟨⟨a1,a2⟩,⟨a3,a4⟩,⟨a5,_⟩,⟨a6,a7⟩,⟨a8,a9⟩,⟨b1,b2⟩,⟨b3,_⟩,b4⟩;exact⟨⟨⟨⟨⟨⟨⟨⟨⟨⟨⟨⟨a1,a2⟩,a3⟩,a4⟩,a5⟩,a6⟩,a7⟩,a8⟩,a9⟩,b1⟩,b2⟩,b3⟩,b4⟩
theorem ge.pcs {h:Hd}(k:ge h):∀ x∈nA h,x.ok:=by
 obtain⟨a1,a2,a3,a4,a5,a6,a7,_⟩:=k;intro x hx;simp only[nA,aws,List.not_mem_nil,or_false]at hx;rcases hx with rfl|rfl|rfl|rfl|rfl|rfl|rfl<;>simp only[Pc.ok]<;>omega
theorem ge.nums {h:Hd}(k:ge h):((h.id.toNat:Nat):Int)=h.id/\((h.base.toNat:Nat):Int)=h.base/\((h.table.root.toNat:Nat):Int)=h.table.root/\((h.table.size.toNat:Nat):Int)=h.table.size/\((h.count.toNat:Nat):Int)=h.count:=by
 obtain⟨a1,a2,a3,a4,a5,a6,a7,_⟩:=k;omega
theorem ge.few {h:Hd}(k:ge h):(eQ h).length<=1000:=by
 obtain⟨a1,a2,a3,a4,a5,a6,a7,_⟩:=k;rw[rZ];have e1:=aK (n:=h.id.toNat) J;have e2:=aK (n:=h.base.toNat) J;have e3:=aK (n:=h.name.length) J;have e4:=aK (n:=h.table.root.toNat) J;have e5:=aK (n:=h.table.size.toNat) J;have e6:=aK (n:=h.count.toNat) J;have e7:=aK (n:=h.drop.length) J;simp only[awn,axe];omega
end
section
open Go.RowKit
attribute [local go_sem] av0
theorem Ks {h:Hd}(k:¬ ge h):kU h=false:=Bool.eq_false_iff.2 (λe=>k ((dU h).1 e))
theorem bg {b:Nat}{t:TypeId}{c0 c1 c2 c3 c4 c5 c6:Value}(h:World.blk w b #[c0,c1,c2,c3,c4,c5,c6] t):
  w.cell? ⟨b,0,none⟩=some c0/\w.cell? ⟨b,1,none⟩=some c1/\w.cell? ⟨b,2,none⟩=some c2/\w.cell? ⟨b,3,none⟩=some c3/\w.cell? ⟨b,4,none⟩=some c4/\w.cell? ⟨b,5,none⟩=some c5/\w.cell? ⟨b,6,none⟩=some c6:=
 ⟨aa h 0,aa h 1,aa h 2,aa h 3,aa h 4,aa h 5,aa h 6⟩
theorem R8 (h:Hd)(w:World)(hn:h.name.length<=140737488355328)(hd:h.drop.length<=140737488351232):
  Calls prog 73 #[sF h] w λe w'=>e=.returned (.bool (kU h))/\af w w':=by
 obtain⟨ID,NM,NO,YES⟩:=K4 (λW=>Fr h.drop W hd) (λW=>oO h.name W hn) (λk=>Ks (h:=h) k) (λk=>(dU h).2 k);obtain⟨po,base,name,⟨root,size⟩,count,drop⟩:=h;simp only at hn hd ID NM;have HK:Hid (af w (w.alloc (.cells #[.int .i64 po,.int .i64 base,.string ⟨name.toArray⟩,.int .i64 root,.int .i64 size,.int .i64 count,.string ⟨drop.toArray⟩] 44))):=Z ((ai.refl _ w).alloc _);have HZ:Hid (World.blk (w.alloc (.cells #[.int .i64 po,.int .i64 base,.string ⟨name.toArray⟩,.int .i64 root,.int .i64 size,.int .i64 count,.string ⟨drop.toArray⟩] 44)) w.heap.size #[.int .i64 po,.int .i64 base,.string ⟨name.toArray⟩,.int .i64 root,.int .i64 size,.int .i64 count,.string ⟨drop.toArray⟩] 44):=Z (av _ _ _);clear hn hd;go_enter func73,ntmps73;by_cases q1:1<=po
 case neg=>
  have Q:=Z q1;go_wp2_with fail
  all_goals (go_ret;exact⟨by rw[NO.o (λk=>by have h:1<=po:=k.id.1;have q:=Q.o;omega)];rfl,HK.o⟩)
 have Pq1:=Z q1;by_cases q2:po<=1099511627776
 case neg=>
  have Q:=Z q2;go_wp2_with fail
  all_goals (go_ret;exact⟨by rw[NO.o (λk=>by have h:po<=1099511627776:=k.id.2;have q:=Q.o;omega)];rfl,HK.o⟩)
 have Pq2:=Z q2;by_cases q3:0<=base
 case neg=>
  have Q:=Z q3;go_wp2_with fail
  all_goals (go_ret;exact⟨by rw[NO.o (λk=>by have h:0<=base:=k.base.1;have q:=Q.o;omega)];rfl,HK.o⟩)
 have Pq3:=Z q3;by_cases q4:base<po
 case neg=>
  have Q:=Z q4;go_wp2_with fail
  all_goals (go_ret;exact⟨by rw[NO.o (λk=>by have h:base<po:=k.base.2;have q:=Q.o;omega)];rfl,HK.o⟩)
 have Pq4:=Z q4;go_wp2_with fail;refine(NM.o _).mono ?_;rintro e w1 ⟨rfl,k1⟩;have cC:=Z (HK.keep k1);have lX:=ab k1 HZ.o id;have HZ1:=Z lX;have d1:w1.cell? ⟨w.heap.size,1,none⟩=some (.int .i64 base):=aa lX 1;have d3:w1.cell? ⟨w.heap.size,3,none⟩=some (.int .i64 root):=aa lX 3;have d4:w1.cell? ⟨w.heap.size,4,none⟩=some (.int .i64 size):=aa lX 4;have d5:w1.cell? ⟨w.heap.size,5,none⟩=some (.int .i64 count):=aa lX 5;have d6:w1.cell? ⟨w.heap.size,6,none⟩=some (.string ⟨drop.toArray⟩):=aa lX 6;clear k1 lX NM
 cases qn:aJ name
 case false=>
  have Qn:=Z qn;go_wp2_with fail
  all_goals (go_ret;exact⟨by rw[NO.o (λk=>by have:=k.name.1;rw[Qn.o]at this;cases this)];rfl,cC.o⟩)
 by_cases q5:1<=root
 case neg=>
  have Q:=Z q5;go_wp2_with fail
  all_goals (go_ret;exact⟨by rw[NO.o (λk=>by have h:1<=root:=k.root.1;have q:=Q.o;omega)];rfl,cC.o⟩)
 have Pq5:=Z q5;by_cases q6:root<=4095
 case neg=>
  have Q:=Z q6;go_wp2_with fail
  all_goals (go_ret;exact⟨by rw[NO.o (λk=>by have h:root<=4095:=k.root.2;have q:=Q.o;omega)];rfl,cC.o⟩)
 have Pq6:=Z q6;by_cases q7:1<=size
 case neg=>
  have Q:=Z q7;go_wp2_with fail
  all_goals (go_ret;exact⟨by rw[NO.o (λk=>by have h:1<=size:=k.size.1;have q:=Q.o;omega)];rfl,cC.o⟩)
 have Pq7:=Z q7;by_cases q8:size<=16384
 case neg=>
  have Q:=Z q8;go_wp2_with fail
  all_goals (go_ret;exact⟨by rw[NO.o (λk=>by have h:size<=16384:=k.size.2;have q:=Q.o;omega)];rfl,cC.o⟩)
 have Pq8:=Z q8;by_cases q9:0<=count
 case neg=>
  have Q:=Z q9;go_wp2_with fail
  all_goals (go_ret;exact⟨by rw[NO.o (λk=>by have h:0<=count:=k.count.1;have q:=Q.o;omega)];rfl,cC.o⟩)
 have Pq9:=Z q9;by_cases r1:count<=4095
 case neg=>
  have Q:=Z r1;go_wp2_with fail
  all_goals (go_ret;exact⟨by rw[NO.o (λk=>by have h:count<=4095:=k.count.2;have q:=Q.o;omega)];rfl,cC.o⟩)
 have Pr1:=Z r1;go_wp2_with fail;refine(ID.o _).mono ?_;rintro e w2 ⟨rfl,k2⟩;have bJ:=Z (cC.keep k2);have mJ:=ab k2 HZ1.o id;have e1:w2.cell? ⟨w.heap.size,1,none⟩=some (.int .i64 base):=aa mJ 1;have e6:w2.cell? ⟨w.heap.size,6,none⟩=some (.string ⟨drop.toArray⟩):=aa mJ 6;clear k2 mJ ID d1 d3 d4 d5 d6
 cases qd:gd drop
 case false=>
  have Qd:=Z qd;go_wp2_with fail
  all_goals (go_ret;exact⟨by rw[NO.o (λk=>by have:=k.drop.1;rw[Qd.o]at this;cases this)];rfl,bJ.o⟩)
 have Td:name.length<=16:=by have:=qn;unfold aJ at this;simp only[awo,awt]at this;exact this.1.1.2
 have Zg:drop.length<=512:=by have:=qd;unfold gd at this;simp only[awo,awt]at this;exact this.1.2
 have OK:=Z (λhn=>YES.o ⟨⟨Pq1.o,Pq2.o⟩,⟨Pq3.o,Pq4.o⟩,⟨qn,Td⟩,⟨Pq5.o,Pq6.o⟩,⟨Pq7.o,Pq8.o⟩,⟨Pq9.o,Pr1.o⟩,⟨qd,Zg⟩,hn⟩);clear Td Zg;by_cases r2:0<base
 case pos=>
  have R:=Z r2;go_wp2;go_ret;exact⟨by rw[OK.o (.inl R.o)];rfl,bJ.o⟩
 by_cases r3:drop=[]
 case pos=>
  subst r3;go_wp2;go_ret;exact⟨by rw[OK.o (.inr trivial)];rfl,bJ.o⟩
 have r4:(drop==[])=false:=by simpa using r3
 have R:=Z (And.intro r2 r3);go_wp2;go_ret;exact⟨by rw[NO.o (λk=>k.none.elim (λh=>by have h1:0<base:=h;have q:=R.1;omega) (λh=>R.2 h))];show Ending.returned (.bool (decide (0<base)))=_;rw[awe (by have q:=R.1;omega)],bJ.o⟩
theorem tF (h:Hd)(w:World)(hn:h.name.length<=140737488355328)(hd:h.drop.length<=140737488351232):
  Calls prog 28 #[sF h] w λe w'=>e=.returned (lF h)/\af w w':=by
 have MY:=Z (λW=>R8 h W hn hd);by_cases qk:kU h=true
 ·have k:=(dU h).1 qk;have hv:lF h=.tuple #[az (eQ h),.int .i64 0]:=awd qk;have Oy:=k.pcs;have bt:(nA h).length=7:=rfl;have Jw:eQ h=(nA h).flatMap Pc.bytes:=rfl;have CB:=k.nums;rw[qk]at MY;unfold nA at Oy bt Jw;obtain⟨po,base,name,⟨root,size⟩,count,drop⟩:=h;simp only at CB Oy bt Jw MY;obtain⟨i,hi⟩:∃ i,po.toNat=i:=⟨_,rfl⟩
  obtain⟨j,hj⟩:∃ i,base.toNat=i:=⟨_,rfl⟩
  obtain⟨r,hr⟩:∃ i,root.toNat=i:=⟨_,rfl⟩
  obtain⟨z,hz⟩:∃ i,size.toNat=i:=⟨_,rfl⟩
  obtain⟨c,hc⟩:∃ i,count.toNat=i:=⟨_,rfl⟩
  rw[hi,hj,hr,hz,hc]at Oy bt Jw;rw[hi,hj,hr,hz,hc]at CB;obtain⟨rfl,rfl,rfl,rfl,rfl⟩:=CB;have LA:Hid (∀ W:World,Calls prog 35 #[.slice (some ⟨W.heap.size,0,none⟩) 7 7] (W.alloc (.cells #[.iface 3 (.int .i64 (i:Int)),.iface 3 (.int .i64 (j:Int)),.iface 9 (.string ⟨name.toArray⟩),.iface 3 (.int .i64 (r:Int)),.iface 3 (.int .i64 (z:Int)),.iface 3 (.int .i64 (c:Int)),.iface 9 (.string ⟨drop.toArray⟩)] 20)) λe w'=>e=.returned (az ([Pc.num i,.num j,.text name,.num r,.num z,.num c,.text drop].flatMap Pc.bytes))/\af W w'):=Z (λW=>by
   have hb:=av W #[.iface 3 (.int .i64 (i:Int)),.iface 3 (.int .i64 (j:Int)),.iface 9 (.string ⟨name.toArray⟩),.iface 3 (.int .i64 (r:Int)),.iface 3 (.int .i64 (z:Int)),.iface 3 (.int .i64 (c:Int)),.iface 9 (.string ⟨drop.toArray⟩)] 20;have cq:eg (W.alloc (.cells #[.iface 3 (.int .i64 (i:Int)),.iface 3 (.int .i64 (j:Int)),.iface 9 (.string ⟨name.toArray⟩),.iface 3 (.int .i64 (r:Int)),.iface 3 (.int .i64 (z:Int)),.iface 3 (.int .i64 (c:Int)),.iface 9 (.string ⟨drop.toArray⟩)] 20)) (.slice (some ⟨W.heap.size,0,none⟩) 7 7) ([Pc.num i,.num j,.text name,.num r,.num z,.num c,.text drop].map Pc.val):=by
    refine⟨_,_,rfl,λk x hx=>⟨W.heap.size,0,rfl,?_⟩⟩;rw[awR,aa hb k];rcases k with _|_|_|_|_|_|_|k
    ·exact hx
    ·exact hx
    ·exact hx
    ·exact hx
    ·exact hx
    ·exact hx
    ·exact hx
    ·simp at hx
   exact(Ar _ _ _ cq sp7 Oy).mono λe w' ⟨h1,h2⟩=>⟨h1,cZ h2⟩)
  rw[<-Jw]at LA;have HV:=Z hv;have HK:Hid (af w (w.alloc (.cells #[.int .i64 (i:Int),.int .i64 (j:Int),.string ⟨name.toArray⟩,.int .i64 (r:Int),.int .i64 (z:Int),.int .i64 (c:Int),.string ⟨drop.toArray⟩] 44))):=Z ((ai.refl _ w).alloc _);have HZ:Hid (World.blk (w.alloc (.cells #[.int .i64 (i:Int),.int .i64 (j:Int),.string ⟨name.toArray⟩,.int .i64 (r:Int),.int .i64 (z:Int),.int .i64 (c:Int),.string ⟨drop.toArray⟩] 44)) w.heap.size #[.int .i64 (i:Int),.int .i64 (j:Int),.string ⟨name.toArray⟩,.int .i64 (r:Int),.int .i64 (z:Int),.int .i64 (c:Int),.string ⟨drop.toArray⟩] 44):=Z (av _ _ _);clear hn hd Oy bt Jw hv qk k hi hj hr hz hc;go_enter func28,ntmps28;go_wp2_with fail;refine(MY.o _).mono ?_;rintro e w1 ⟨rfl,k1⟩;have cC:=Z (HK.keep k1);obtain⟨d0,d1,d2,d3,d4,d5,d6⟩:=bg (ab k1 HZ.o id);clear k1 MY;go_wp2_with fail;refine(LA.o _).mono ?_;rintro e w2 ⟨rfl,k2⟩;have bJ:=Z (cC.keep k2);clear k2 LA d0 d1 d2 d3 d4 d5 d6;go_wp2;go_ret2;exact⟨by rw[HV.o];rfl,bJ.o⟩
 ·have hv:lF h=.tuple #[.string ⟨#[]⟩,.int .i64 190]:=awf qk;have hf:kU h=false:=by simpa using qk
  rw[hf]at MY;have HV:=Z hv;obtain⟨po,base,name,⟨root,size⟩,count,drop⟩:=h;have HK:Hid (af w (w.alloc (.cells #[.int .i64 po,.int .i64 base,.string ⟨name.toArray⟩,.int .i64 root,.int .i64 size,.int .i64 count,.string ⟨drop.toArray⟩] 44))):=Z ((ai.refl _ w).alloc _);have HZ:Hid (World.blk (w.alloc (.cells #[.int .i64 po,.int .i64 base,.string ⟨name.toArray⟩,.int .i64 root,.int .i64 size,.int .i64 count,.string ⟨drop.toArray⟩] 44)) w.heap.size #[.int .i64 po,.int .i64 base,.string ⟨name.toArray⟩,.int .i64 root,.int .i64 size,.int .i64 count,.string ⟨drop.toArray⟩] 44):=Z (av _ _ _);clear hn hd hv qk hf;go_enter func28,ntmps28;go_wp2_with fail;refine(MY.o _).mono ?_;rintro e w1 ⟨rfl,k1⟩;have cC:=Z (HK.keep k1);clear k1 MY;go_wp2;go_ret2;exact⟨by rw[HV.o];rfl,cC.o⟩
end
end Go.Proofs.YtkghpdcloaiflaaGreatDoor
