import Derived.Test.YtkghpdcloaiflaaGreatDoorD42
import Derived.ProofKit
import Derived.SizedLaws
import Derived.SliceStrings
import Derived.Test.YtkghpdcloaiflaaGreatDoorCards
import Derived.Test.YtkghpdcloaiflaaGreatDoorTie
import Derived.OpenShut
import Derived.Lay
import Derived.Deep.DeepHandedRow
import Derived.Deep.DeepWitnessRowRef
import Derived.LaidHandle
import Derived.LaidLaws
import Derived.Deep.Slices
import Derived.Deep.Fields
import Derived.ChangeSame
set_option maxHeartbeats 8000000
set_option maxRecDepth 100000
namespace Go.Proofs.YtkghpdcloaiflaaGreatDoor
open _root_.Go.Proofs.Tryz
theorem Kc (c:UInt8)(l:List UInt8):l.length+1=((j4 c l).map fun x=>x.length+1).sum:=by
 induction l with
 |nil=>simp[j4]
 |cons b r ih=>
  by_cases h:b=c
  ·subst h;rw[j4,auT rfl];simp only[auJ,auK,avV,auL];omega
  ·rw[vN c b r h]
   cases hs:j4 c r with
   |nil=>exact absurd hs (vM c r)
   |cons x y=>
    rw[hs]at ih;simp only[auJ,auK,auL]at ih ⊢;omega
theorem Vz (l:List (List UInt8))(h:∀ x∈l,x.length<=16):(l.map fun x=>x.length+1).sum<=17*l.length:=by
 induction l with
 |nil=>simp
 |cons x r ih=>
  have h1:=h x (by simp);have h2:=ih fun y hy=>h y (by simp[hy]);simp only[auJ,auK,auL];omega
theorem ku {s:List UInt8}(h:aG s=true):s.length<=16:=by
 unfold aG at h;simp only[au4,au9]at h;exact h.1.1.2
theorem E4 {s:List UInt8}(h:(bo s).isSome=true):s.length<=137:=by
 obtain⟨l,hl⟩:=Option.isSome_iff_exists.1 h;obtain⟨r,rfl,hr⟩:=i7 hl;rcases hr with⟨rfl,_⟩|⟨_,lw,h8,hn⟩
 ·simp
 ·have h1:=Kc 47 r;rw[<-lw]at h1;have h2:=Vz l (fun x hx=>ku (au5.1 hn x hx));simp only[auL];omega
theorem tJ:∀(k u:Nat),u<10 ^ k->1<=k->Lib.nDigits u<=k
 |0,_,_,h=>by omega
 |k+1,u,h,_=>by
  by_cases h1:u<10
  ·rw[Lib.nDigits_small h1];omega
  ·rw[Lib.nDigits_big h1];rw[ave]at h;by_cases hk:1<=k
   ·have:=tJ k (u/10) (by omega) hk;omega
   ·obtain rfl:k=0:=by omega
    simp at h;omega
theorem dI {c:bU}{f:Nat}(h:c.fieldOk f=true):(c.fieldText f).length<=1024/\(f≠4->(c.fieldText f).length<=137):=by
 unfold bU.fieldOk at h;unfold bU.fieldText;split at h
 ·have:=E4 h;exact⟨by show c.path.length<=_;omega,fun _=>this⟩
 ·have:=E4 h;exact⟨by show c.dest.length<=_;omega,fun _=>this⟩
 ·simp only[au4,au9]at h;have:(Lib.itoa c.pos).length<=10:=by
   obtain⟨u,hu⟩:∃ u:Nat,c.pos=u:=⟨c.pos.toNat,by omega⟩
   rw[hu,Lib.itoa_nonneg,Lib.decDigits_length];exact tJ 10 u (by omega) (by omega)
  exact⟨by show(Lib.itoa c.pos).length<=_;omega,fun _=>by show(Lib.itoa c.pos).length<=_;omega⟩
 ·have hd:c.data.length<=512:=by simpa using h
  refine⟨?_,fun hh=>absurd rfl hh⟩;show(rP c.data).length<=_;unfold rP;split
  ·simp
  ·rw[tg];omega
 ·rename_i h2 h3 h4 h5
  have:=ku h;split
  ·exact absurd rfl h3
  ·exact absurd rfl h4
  ·exact absurd rfl h5
  ·exact⟨by omega,fun _=>by omega⟩
theorem VE {c:bU}(h:c.fieldOk 3=true):(c.fieldText 3).length<=10:=by
 have h':(decide (0<=c.pos)&&decide (c.pos<=16384))=true:=h;simp only[au4,au9]at h';show(Lib.itoa c.pos).length<=10;obtain⟨u,hu⟩:∃ u:Nat,c.pos=u:=⟨c.pos.toNat,by omega⟩
 rw[hu,Lib.itoa_nonneg,Lib.decDigits_length];exact tJ 10 u (by omega) (by omega)
theorem ya {c:bU}(h:c.ok=true):c.line.length<=1300:=by
 have hw:=GB h;have h1:=Kc 32 c.line;rw[hw]at h1;obtain⟨hk,hf⟩:=oU h;have hk9:c.k<9:=hk;have ff:∀ f∈fieldsOf c.k,c.fieldOk f=true:=by
  intro f hf';unfold bU.ok at h;simp only[au4]at h;exact au5.1 h.2.1 f hf'
 rcases(by omega:c.k=0\/c.k=1\/c.k=2\/c.k=3\/c.k=4\/c.k=5\/c.k=6\/c.k=7\/c.k=8)with e|e|e|e|e|e|e|e|e<;>rw[e]at h1 ff<;>simp only[fieldsOf,cQ,auJ,List.map_nil,auK,List.sum_nil,auL,avV]at h1
 ·have:=(dI (ff 1 (by simp[fieldsOf]))).2 (by decide);omega
 ·have:=(dI (ff 1 (by simp[fieldsOf]))).2 (by decide);omega
 ·have a1:=(dI (ff 1 (by simp[fieldsOf]))).2 (by decide);have a2:=VE (ff 3 (by simp[fieldsOf]));have a3:=(dI (ff 4 (by simp[fieldsOf]))).1;omega
 ·have a1:=(dI (ff 1 (by simp[fieldsOf]))).2 (by decide);have a2:=(dI (ff 3 (by simp[fieldsOf]))).2 (by decide);omega
 ·have a1:=(dI (ff 1 (by simp[fieldsOf]))).2 (by decide);have a2:=(dI (ff 2 (by simp[fieldsOf]))).2 (by decide);omega
 ·have a1:=(dI (ff 1 (by simp[fieldsOf]))).2 (by decide);have a2:=(dI (ff 2 (by simp[fieldsOf]))).2 (by decide);omega
 ·have:=(dI (ff 1 (by simp[fieldsOf]))).2 (by decide);omega
 ·have:=(dI (ff 5 (by simp[fieldsOf]))).2 (by decide);omega
 ·have:=(dI (ff 5 (by simp[fieldsOf]))).2 (by decide);omega
theorem Aw {c:bU}(h:c.ok=true)(h7:c.kind=7):aG c.path=true/\c.path.length<=16/\c.path≠[]:=by
 have hk:c.k=7:=by unfold bU.k;rw[h7];decide
 unfold bU.ok at h;simp only[au4]at h;have h5:=au5.1 h.2.1 5 (by rw[hk];simp[fieldsOf]);have hn:aG c.path=true:=h5;refine⟨hn,ku hn,?_⟩;intro e;rw[e]at hn
 cases hn
theorem Ry {l:Nm}(hl:l.length<=60)(hn:∀ p∈l,aG p.1=true)(hp:∀ p∈l,0<=p.2/\p.2<=65535):(mg l).length<=16384:=by
 have nine:∀ n:Nat,n<=65535->(aM n).length<=3:=by
  intro n hn;rw[aM];split
  ·simp
  ·rw[aM];split
   ·simp
   ·rw[aM,dif_pos (by omega)];simp
 have key:∀ m:Nm,(∀ p∈m,aG p.1=true/\0<=p.2/\p.2<=65535)->(m.flatMap lQ).length<=30*m.length:=by
  intro m
  induction m with
  |nil=>intro _;simp
  |cons p r ih=>
   intro hm;obtain⟨a1,a2,a3⟩:=hm p (by simp);have h2:=ih fun q hq=>hm q (by simp[hq]);have h3:=ku a1;have h4:=nine p.1.length (by omega);have h5:=nine p.2.toNat (by omega);have h6:(lQ p).length<=30:=by unfold lQ;simp only[au3];omega
   simp only[avs,au3,auL];omega
 unfold mg;have h1:=nine l.length (by omega);have h2:=key l fun p CA=>⟨hn p CA,hp p CA⟩
 rw[au3];omega
theorem Zm {l:List Nat}{k:Nat}(h:∀ x∈l,x<=k):l.sum<=k*l.length:=by
 induction l with
 |nil=>simp
 |cons x r ih=>
  have h1:=h x (by simp);have h2:=ih fun y hy=>h y (by simp[hy]);simp only[auK,auL,Nat.mul_succ];omega
theorem VG {T:Tr}(h1:T.length<=60)(h2:∀ n∈T,n.names.length<=60)(j:Int):kg T j<=3600:=by
 unfold kg;have h3:=Zm (l:=T.map fun n=>gC n.names j) (k:=60) (fun x hx=>by
  obtain⟨n,hn,rfl⟩:=avh.1 hx;exact auI List.countP_le_length (h2 n hn))
 rw[avf]at h3;omega
theorem Ax {T:Tr}{d:Int->Nat}(h:WF T d):iH (ar T):=by
 have dC:∀(was:Int) (S:Tr),S.Pairwise (fun a b=>a.num<b.num)->(∀ n∈S,was<n.num/\n.num<=65535)->lW was (ar S)=true:=by
  intro was S
  induction S generalizing was with
  |nil=>intro _ _;rfl
  |cons x r ih=>
   intro hp hm;rw[avQ]at hp;have h1:=hm x (by simp);have h2:=ih x.num hp.2 (fun n hn=>⟨hp.1 n hn,(hm n (by simp[hn])).2⟩);show(decide (was<x.num)&&decide (x.num<=65535)&&lW x.num (ar r))=true;rw[decide_eq_true h1.1,decide_eq_true h1.2,h2];rfl
 refine⟨⟨by unfold ar;rw[avf];exact h.many,dC 0 T h.sorted (fun n hn=>by have:=h.nums n hn;omega),?_,?_⟩,T,d,h,rfl⟩
 ·intro x hx;obtain⟨n,hn,rfl⟩:=avh.1 hx;show 1<=n.links/\n.links<=3600;by_cases h1:n.num=1
  ·obtain⟨r,hr,yt,_,Ki⟩:=h.root;have e:n=r:=by
    have g1:=(ax h.sorted).2 ⟨hn,h1⟩;have g2:=(ax h.sorted).2 ⟨hr,yt⟩;rw[g1]at g2;injection g2
   rw[e,Ki];decide
  ·obtain⟨h2,h3,_⟩:=h.count n hn h1;have h4:=VG h.many (fun m hm=>(h.names m hm).1) n.num;have h2':(kg T n.num:Int)+0=n.links:=h2;omega
 ·intro x hx;obtain⟨n,hn,rfl⟩:=avh.1 hx;show(if n.dir=true then mg n.names else n.data).length<=16384;split
  ·refine Ry (h.names n hn).1 (h.names n hn).2 (fun p hp=>?_);obtain⟨_,m,hm,e⟩:=h.closed n hn p hp;have:=h.nums m hm;omega
  ·rename_i hd
   exact(h.file n hn (by simpa using hd)).2
structure acF (v:Vs)(c:bU)(r:Int)(u:Vs):Prop where
 run:BG v c=.ok (r,u)
 good:jY u
 blocks:u.blocks=v.blocks
 half:u.half=v.half
 num:v.num<=u.num/\u.num<=v.num+3
 id:u.b.id<=v.b.id+1
 T:u.T=v.T\/u.T=(qM v.T c).1
theorem Zn {v:Vs}(h:jY v)(c:bU)(XE:c.ok=true->c.line.length+2<=v.half)(hn:iH (ar (qM v.T c).1)):∃ r u,acF v c r u:=by
 cases hX:lu v c with
 |error x=>
  exact⟨x,v,(EP hX).2,h,rfl,rfl,by omega,by omega,.inl rfl⟩
 |ok T=>
  obtain⟨cg,hm,hT⟩:=J8 hX;have hTM:iH (ar T):=by
   rcases hT with rfl|rfl
   ·exact h.told
   ·exact hn
  obtain⟨v1,e1,sT,Cg,yt⟩:∃ v1,(if(c.kind=7\/c.kind=8)\/c.line.length+2<=cI v then(.ok v:Except Int Vs)else bC v v.b.list [])=.ok v1/\iR v v1/\v1.num<=v.num+1/\((c.kind=7\/c.kind=8)\/c.line.length+2<=cI v1):=by
   by_cases hr:(c.kind=7\/c.kind=8)\/c.line.length+2<=cI v
   ·exact⟨v,by rw[auT hr],iR.refl h,by omega,hr⟩
   ·obtain⟨u,hu,hs,_,aj6,dC⟩:=ip h;refine⟨u,by rw[auV hr,hu],hs,by omega,.inr ?_⟩;unfold cI;rw[aj6,hs.half];have:=XE cg;simp[lB];omega
  obtain⟨b,v2,e2,jv,hb1,eL,aff⟩:=Vq sT.good T c.kind;have hs:=sT.trans jv;have AB:=(ES sT.good e2).2.1;have hd:=J9 cg hm e1 e2;have dC:v.num<=v2.num/\v2.num<=v.num+2:=⟨hs.num,by omega⟩
  cases b with
  |false=>exact⟨151,v2,by rw[hd,auT rfl],hs.good,hs.blocks,hs.half,by omega,by rw[hs.id];omega,.inl hs.T⟩
  |true=>
   rw[auV (by decide)]at hd;have akt:=hb1 rfl;by_cases h7:c.kind=7
   ·obtain⟨g1,g2,g3⟩:=ER hm h7;obtain⟨k1,k2,_⟩:=Aw cg h7;have N0:fL v2 v2.b.list c.path:=⟨List.Sublist.refl _,.inr ⟨k1,k2,fun x hx=>by rw[hs.list]at hx;exact xP g1 x hx,by rw[hs.list];exact g2,by rw[hs.id];omega⟩⟩
    obtain⟨u,hu⟩:=xC hs.good N0;refine⟨0,u,by rw[hd,auT h7,hu.run];rfl,hu.good,hu.blocks.trans hs.blocks,hu.half.trans hs.half,by have:=hu.num;omega,?_,.inl (hu.T.trans hs.T)⟩;rw[hu.id];split
    ·rw[hs.id];omega
    ·rw[hs.id];exact auP _
   ·by_cases h8:c.kind=8
    ·have N0:fL v2 (v2.b.list.eraseIdx ((dA v2 c.path).getD 0)) []:=⟨List.eraseIdx_sublist _ _,.inl rfl⟩
     obtain⟨u,hu⟩:=xC hs.good N0;refine⟨0,u,by rw[hd,auV h7,auT h8,hu.run];rfl,hu.good,hu.blocks.trans hs.blocks,hu.half.trans hs.half,by have:=hu.num;omega,?_,.inl (hu.T.trans hs.T)⟩;rw[hu.id,auT rfl,hs.id];omega
    ·have lY:c.line.length+2<=cI v2:=by
      rcases yt with(hh|hh)|hh
      ·exact absurd hh h7
      ·exact absurd hh h8
      ·rcases aff with hh2|hh2
       ·unfold cI at hh ⊢;rw[jv.half,hh2];exact hh
       ·unfold cI;rw[hh2,hs.half];have:=XE cg;simp[lB];omega
     refine⟨0,{ v2 with T:=T,recs:=v2.recs++[c.line] },by rw[hd,auV h7,auV h8,auV (by omega)],IL hs.good hTM (by omega),hs.blocks,hs.half,by show v.num<=v2.num/\v2.num<=v.num+3;omega,by show v2.b.id<=v.b.id+1;rw[hs.id];omega,?_⟩;rcases hT with e|e
     ·exact .inl e
     ·exact .inr e
def uL:Vs->List bU->Except Int Vs
 |v,[]=>.ok v
 |v,c::r=>match BG v c with
  | .error e=>.error e
  | .ok o=>uL o.2 r
theorem Nj {v:Vs}{l:List bU}{u:Vs}(h:uL v l=.ok u){c:bU}{r:Int}{x:Vs}(hd:BG u c=.ok (r,x)):uL v (l++[c])=.ok x:=by
 induction l generalizing v with
 |nil=>
  injection h with h;subst h;show(match BG v c with | .error e=>(.error e:Except Int Vs) | .ok o=>uL o.2 [])=_;rw[hd];rfl
 |cons y l ih=>
  have h':(match BG v y with | .error e=>(.error e:Except Int Vs) | .ok o=>uL o.2 l)=.ok u:=h;show(match BG v y with | .error e=>(.error e:Except Int Vs) | .ok o=>uL o.2 (l++[c]))=_
  cases hy:BG v y with
  |error e=>rw[hy]at h';cases h'
  |ok o=>rw[hy]at h';exact ih h'
structure Lv (v:Vs)(k:Nat):Prop where
 good:jY v
 wf:∃ d,WF v.T d
 id:v.b.id<=k+1
 num:v.num<=2+3*k
 half:1302<=v.half
theorem Lv.step {v:Vs}{k:Nat}(h:Lv v k)(c:bU):∃ r u,BG v c=.ok (r,u)/\Lv u (k+1)/\u.blocks=v.blocks/\u.half=v.half:=by
 obtain⟨d,hw⟩:=h.wf;obtain⟨d',cL⟩:=PM hw c;obtain⟨r,u,hr⟩:=Zn h.good c (fun cg=>by have:=ya cg;have:=h.half;omega) (Ax cL);refine⟨r,u,hr.run,⟨hr.good,?_,by have:=hr.id;have:=h.id;omega,by have:=hr.num;have:=h.num;omega,by rw[hr.half];exact h.half⟩,hr.blocks,hr.half⟩;rcases hr.T with e|e
 ·exact⟨d,by rw[e];exact hw⟩
 ·exact⟨d',by rw[e];exact cL⟩
section
open Go.RowKit
attribute [local go_sem] auG
def qk (c:bU):List Value:=[.int .i64 c.kind,.string ⟨c.path.toArray⟩,.string ⟨c.dest.toArray⟩,.int .i64 c.pos,.string ⟨c.data.toArray⟩]
def pA (m:Nat):Vs:=dP (iy (ie (4*m))) m 1 (bF (ie 100)*64) Tr.new
theorem Rz {m:Nat}(h:48<=m/\m<=300){v:Vs}(hv:bC (pA m) [] []=.ok v):Lv v 0/\v.blocks=m:=by
 have hr:mN (pA m):=xR _ _ _ _ (by omega) xT (by rw[jH];rfl) (fun x hx=>by rw[jH]at hx;simp at hx;subst hx;decide);obtain⟨u,hu⟩:=ur hr (list:=[]) (more:=[]) ⟨List.Sublist.refl _,.inl rfl⟩;have e:u=v:=by have:=hu.run.symm.trans hv;injection this
 subst e;have hh:u.half=bF (ie 100)*64:=hu.half;have hid:u.b.id=1:=by rw[hu.id,auT rfl];rfl
 have dC:u.num=1+1:=hu.num;refine⟨⟨hu.good,⟨_,by rw[hu.T];exact GC⟩,by omega,by omega,?_⟩,hu.blocks⟩;rw[hh];unfold bF;rw[iX];decide
structure E5 (w:World)(p:Nat)(v:Vs)(a:eV)(w':World):Prop where
 at_:lp w' p v a
 text:a.text=ge v.b
 foot:∀ g,a.foot p g->w.heap.size<=g
 keep:af w w'
theorem E5.did {w w1 w2:World}{p:Nat}{v u:Vs}{a a':eV}(h:E5 w p v a w1)(k:Zg w1 p v a u a' w2):E5 w p u a' w2:=
 ⟨k.at_,k.text h.text,fun g hg=>(k.foot g hg).elim (h.foot g) (fun h1=>auI h.keep.size h1),h.keep.trans k.mod (fun g hl hg=>by have:=h.foot g hg;omega)⟩
def yb (w:World)(m:Nat)(cs:List bU)(e:Ending)(w':World):Prop:=
 ∃ p v0 v a,e=.returned (aq p)/\bC (pA m) [] []=.ok v0/\uL v0 (cs.take 60)=.ok v/\Lv v (min cs.length 60)/\v.blocks=m/\E5 w p v a w'
theorem yb.intro {w w':World}{m:Nat}{cs:List bU}{p:Nat}{v0 v:Vs}{a:eV}(h1:bC (pA m) [] []=.ok v0)(h2:uL v0 (cs.take 60)=.ok v)(h3:Lv v (min cs.length 60))(h4:v.blocks=m)(h5:E5 w p v a w'):yb w m cs (.returned (aq p)) w':=
 ⟨p,v0,v,a,rfl,h1,h2,h3,h4,h5⟩
theorem Ay {w:World}(he:t8 w)(blocks:Int)(hb:-9223372036854775808<=blocks/\blocks<=9223372036854775807)(cs:List bU)(cv:Value)(hr:ko qk 5 w cv cs)(hs:∀ c∈cs,c.Small)(hl:cs.length<=1048576)(RY:(∃ c∈cs,c.kind=8)->Rn):
  Calls prog 14 #[.int .i64 blocks,cv] w (yb w (max 48 (min blocks 300)).toNat cs):=by
 obtain⟨m,hm⟩:∃ m:Nat,max 48 (min blocks 300)=(m:Int):=⟨(max 48 (min blocks 300)).toNat,by omega⟩
 have zg:48<=m/\m<=300:=by omega
 have hmt:(max 48 (min blocks 300)).toNat=m:=by omega
 obtain⟨n4,VX⟩:∃ n4:Nat,(4:Int)*(m:Int)=(n4:Int):=⟨4*m,by omega⟩
 have afu:n4=4*m:=by omega
 have D1:=hd0 (C6 w n4 (by omega));have HM:=hd0 (And.intro zg (And.intro hmt afu));have HE:=hd0 he;have HS:=hd0 hs;have HD:=hd0 RY;obtain⟨ca,cap,rfl,hx⟩:=hr;have HX:=hd0 hx;have Cx:(cs.length:Int)<=1048576:=by omega
 have w4:IntKind.i64.wrap ((4:Int)*(m:Int))=(n4:Int):=by rw[VX];exact fA (by omega)
 clear he hs RY hx zg hmt afu;go_enter func14,ntmps14;go_wp2_with fail;refine D1.out.mono ?_;rintro e w1 ⟨d1,rfl,k1,F1,Jq,hF1⟩;have bS:=hd0 k1;have D2:=hd0 (C6 w1 100 (by omega));have HD1:=hd0 (And.intro Jq hF1);clear k1 Jq hF1 D1 w4;go_wp2_with fail;refine D2.out.mono ?_;rintro e w2 ⟨d2,rfl,k2,F2,Kw,Yn⟩;have bw:=hd0 (bS.out.keep k2);have Jq:bB w2 d1 (ie n4) F1:=HD1.out.1.mod k2 (fun b _=>id);have FO:=MZ Jq Kw (fun b h1 h2=>by have:=HD1.out.1.lt b h1;have:=Yn b h2;omega) (by rw[iX];have:=HM.out.1;have:=HM.out.2.2;omega) (by rw[iX];decide);have e1:(ie n4).size/4=m:=by rw[iX,HM.out.2.2];omega
 rw[e1,HM.out.2.2]at FO;have FO:=hd0 FO;have HFF:Hid (∀ b,F1 b\/F2 b->w.heap.size<=b):=hd0 (fun b h=>h.elim (HD1.out.2 b) (fun h2=>auI bS.out.size (Yn b h2)));clear k2 Jq Kw Yn D2 e1 HD1 VX hm;go_wp2_with fail;refine FO.out.mono ?_;rintro e w3 ⟨p,v0,a0,rfl,Jg,OI,AD,hft,vo⟩;have HPT:Hid (bC (pA m) [] []=.ok v0):=hd0 OI;have HLV:=hd0 (Rz HM.out.1 HPT.out);have HL0:Hid (E5 w p v0 a0 w3):=hd0 ⟨Jg,AD,fun g hg=>by
  rcases hft g hg with h|h|h
  ·exact HFF.out g (.inl h)
  ·exact HFF.out g (.inr h)
  ·exact auI bw.out.size h,bw.out.trans vo (fun g hl hg=>by have:=HFF.out g hg;omega)⟩
 clear Jg OI AD hft vo FO HFF;go_wp2_with fail
 go_loopw [10] (fun y wr=>∃ k:Nat,k<=cs.length/\k<=60/\y=.int .i64 (k:Int)/\Hid (∃ v a,uL v0 (cs.take k)=.ok v/\Lv v k/\v.blocks=m/\E5 w p v a wr)) (fun y _=>60-(intOf y).toNat)
 case atStart=>exact⟨0,by omega,by omega,rfl,hd0 ⟨v0,a0,rfl,HLV.out.1,HLV.out.2,HL0.out⟩⟩
 case round=>
  clear HL0 HLV;obtain⟨k,hk,rD,rfl,HR⟩:=hrel;obtain⟨v,a,bh,gy,ru,ni⟩:=HR.out;have HRU:=hd0 (And.intro bh (And.intro gy (And.intro ru ni)));clear bh gy ru ni HR;by_cases aK:k<cs.length
  ·have dR:(k:Int)<(cs.length:Int):=by omega
   by_cases sQ:k<60
   ·have akG:(k:Int)<60:=by omega
    obtain⟨c,hc⟩:∃ c,cs[k]?=some c:=⟨_,auM aK⟩
    obtain⟨rb,o,rfl,Yj⟩:=HX.out k c hc;have HAT:=HRU.out.2.2.2;have cx:∀ i u,(qk c)[i]?=some u->wr.cell? ⟨rb,o+k*5+i,none⟩=some u:=fun i u hi=>by
     have h1:=Yj i u hi;rw[HAT.keep.cell (p:=⟨rb,o+k*5+i,none⟩) (am h1) id];exact h1
    have c0:wr.cell? ⟨rb,o+k*5,none⟩=some (.int .i64 c.kind):=cx 0 _ rfl;have c1:wr.cell? ⟨rb,o+k*5+1,none⟩=some (.string ⟨c.path.toArray⟩):=cx 1 _ rfl;have c2:wr.cell? ⟨rb,o+k*5+2,none⟩=some (.string ⟨c.dest.toArray⟩):=cx 2 _ rfl;have c3:wr.cell? ⟨rb,o+k*5+3,none⟩=some (.int .i64 c.pos):=cx 3 _ rfl;have c4:wr.cell? ⟨rb,o+k*5+4,none⟩=some (.string ⟨c.data.toArray⟩):=cx 4 _ rfl;have Fe:=auN hc;have hda:acD v c:=by
     obtain⟨_,gy,_,_⟩:=HRU.out;obtain⟨d,hw⟩:=gy.wf;obtain⟨d',cL⟩:=PM hw c;exact⟨gy.good,by have:=gy.id;omega,by have:=gy.num;omega,HS.out c Fe,fun cg=>⟨by have:=ya cg;have:=gy.half;omega,ya cg⟩,Ax cL,Aw⟩
    have DO:=hd0 (Vu HAT.at_ (HE.out.keep HAT.keep) hda (fun h8=>HD.out ⟨c,Fe,h8⟩));have HC:=hd0 hc;clear cx Yj HAT Fe hda hc;go_wp2_with fail;unfold gQ bL at DO;refine DO.out.mono ?_;rintro e w4 ⟨r,u,a',tO,rfl,hvd⟩;have HN:Hid (∃ v a,uL v0 (cs.take (k+1))=.ok v/\Lv v (k+1)/\v.blocks=m/\E5 w p v a w4):=hd0 (by
     obtain⟨bh,gy,ru,ni⟩:=HRU.out;obtain⟨r',u',q1,q2,q3,_⟩:=gy.step c;rw[q1]at tO;injection tO with tO;injection tO with h1 h2;subst h1 h2;refine⟨u',a',?_,q2,q3.trans ru,ni.did hvd⟩;rw[auO,HC.out];exact Nj bh q1)
    clear tO hvd DO c0 c1 c2 c3 c4;go_wp2_with fail;exact⟨⟨k+1,by omega,by omega,by go_num,HN⟩,by simp[intOf];omega⟩
   ·have akG:¬(k:Int)<60:=by omega
    have ajp:k=60:=by omega
    go_wp2;go_ret;obtain⟨bh,gy,ru,ni⟩:=HRU.out;rw[HM.out.2.1];exact yb.intro HPT.out (by rw[<-ajp];exact bh) (by rw[show min cs.length 60=k by omega];exact gy) ru ni
  ·have dR:¬(k:Int)<(cs.length:Int):=by omega
   go_wp2;go_ret;obtain⟨bh,gy,ru,ni⟩:=HRU.out;rw[HM.out.2.1];exact yb.intro HPT.out (by rw[avx (show cs.length<=60 by omega)];rw[avx (show cs.length<=k by omega)]at bh;exact bh) (by rw[show min cs.length 60=k by omega];exact gy) ru ni
end
def cmA:bU:=⟨0,[47,97],[],0,[]⟩
def TL (c:UInt8):bU:=⟨7,[c],[],0,[]⟩
def Zo (rd:Rd):Except Int Vs:=match bC (dP rd 100 1 3136 Tr.new) [] []with
 | .ok u=>uL u [cmA,TL 97,TL 98]
 | .error e=>.error e
def Zp (v:Vs):=(jI v [] [97],jI v [98] [97],jI v [] [120],v.b.planes.getD 1 [],v.rd 5,v.rd 6,((aP v.b.list [97]).getD eS).id)
def Zq:Except Int (Hd×List Nat)×Except Int (Hd×List Nat)×Except Int (Hd×List Nat)×ay×Except Int ay×Except Int ay×Int:=
 (.ok (⟨1,0,[97],⟨6,11⟩,2,[]⟩,[5,6]),.error 190,.error 162,[96],.ok [1,1,97,2],.ok [2,1,1,1,5,4,2,0,1,0,0],1)
theorem VH (rd:Rd):(match Zo rd with | .ok v=>Zp v | .error _=>(.error 0,.error 0,.error 0,[],.error 0,.error 0,0))=Zq:=by kernel_rfl
theorem acH {v0 v:Vs}(h0:bC (pA 100) [] []=.ok v0)(h1:uL v0 [cmA,TL 97,TL 98]=.ok v):Zp v=Zq:=by
 have e:pA 100=dP (iy (ie (4*100))) 100 1 3136 Tr.new:=by
  unfold pA;rw[show bF (ie 100)*64=3136 by unfold bF;rw[iX]]
 have ho:Zo (iy (ie (4*100)))=.ok v:=by
  unfold Zo;rw[<-e,h0];exact h1
 have:=VH (iy (ie (4*100)));rw[ho]at this;exact this
section
open Go.ChangeShapes Go.WideShapes Go.ChangeAt Go.RowKit
section
variable {H:Type}{enc:TypeId×Value->H}{P:Program}
theorem sx (hl:laidOutB P=true){W W':World}(hb:Below W.heap.size W W'):∀(ts:List TypeId) (vs:List Value) (ds:List (DataW H)) (ps:List MemPlace),
  (ts.all fun t=>P.readableRec t&&decide (t<P.types.size))=true->DataW.TrodAll enc P W 0 (fun _=>true) true ts vs ds ps->(∀ x∈ps,x.block<W.heap.size)->
  DataW.TrodAll enc P W' 0 (fun b=>decide (b<W.heap.size)) true ts vs ds ps
 |[],[],[],_,_,h,_=>h
 |t::ts,v::vs,d::ds,ps,hr,h,aK=>by
  obtain⟨p,q,h1,h2,rfl⟩:=h;simp only[List.all_cons,au4,au9]at hr;exact⟨p,q,Below.trod hl hr.1.1 hr.1.2 h1 hb (fun x hx=>aK x (by simp[hx])),sx hl hb ts vs ds q hr.2 h2 (fun x hx=>aK x (by simp[hx])),rfl⟩
 |[],_::_,_,_,_,h,_=>h.elim
 |[],[],_::_,_,_,h,_=>h.elim
 |_::_,[],_,_,_,h,_=>h.elim
 |_::_,_::_,[],_,_,h,_=>h.elim
theorem Nk {fn:Func}{s:ChangeSpec}{W W':World}{args:Array Value}{ds gs:List (DataW H)}{before:List MemPlace}{tb:TypeId}
  (hl:laidOutB P=true) (hr:(fn.params.toList.all fun t=>P.readableRec t&&decide (t<P.types.size))=true) (hv:s.vars=[]) (hrt:fn.resultTypes=#[tb]) (hb:P.underlying tb=some .bool)
  (SJ:s.fn H (ds++gs)={ results:=[.lit (.bool true)],args:=ds }) (hW:DataW.Whole enc P fn.params.toList s.vars false W args.toList ds gs before) (hk:af W W'):
  s.post enc P fn false true false false W args (.bool true) W':=by
 have aK:∀ x∈before,x.block<W.heap.size:=fun x hx=>by simpa using hW.lt x hx
 have hW':=hW;obtain⟨p,q,hA,hV,rfl,_,_⟩:=hW;rw[hv]at hV;obtain⟨_,rfl⟩:=trodVars_none hV;refine⟨ds,gs,p++[],[],p,[],hW',?_,?_,?_,hk.below.frame _,fun h=>by cases h⟩
 ·rw[SJ,hrt];exact trodAll_mk1 (shut_bool hb _)
 ·rw[SJ];exact sx hl hk.below _ _ _ _ hr hA (fun x hx=>aK x (by simp[hx]))
 ·rw[SJ,hv];rfl
end
end
section
open Go.RowKit
attribute [local go_sem] auG
theorem Zr:xX 5 [97,98]=.tuple #[aB [5,2,97,98],.int .i64 0]:=by
 rw[show xX 5 [97,98]=.tuple #[aB (cX 5 [97,98]),.int .i64 0]from auT (by decide)];rw[show cX 5 [97,98]=[5,2,97,98] by kernel_rfl]
theorem fO {v:Vs}(h:jY v){x:Sn}(hx:x∈v.b.list):(dh v x).length<=600:=by
 obtain⟨h1,h2⟩:=h.list.plane x hx;have:=h.planes x.plane.toNat (by omega);have h3:=pY (k:=512) this.1 fun n hn=>by have:=(this.2 n hn).2;have:=h.many;omega
 unfold dh;omega
theorem Nl {w:World}(he:t8 w):Calls prog 13 #[] w fun e w'=>e=.returned (.bool true)/\af w w':=by
 obtain⟨W,hW⟩:∃ W,w.alloc (.cells #[.int .i64 0,.string ⟨#[47,97]⟩,.string ⟨#[]⟩,.int .i64 0,.string ⟨#[]⟩,.int .i64 7,.string ⟨#[97]⟩,.string ⟨#[]⟩,.int .i64 0,.string ⟨#[]⟩,.int .i64 7,.string ⟨#[98]⟩,.string ⟨#[]⟩,.int .i64 0,.string ⟨#[]⟩] 55)=W:=⟨_,rfl⟩
 have hk:af w W:=by rw[<-hW];exact(ah.refl _ w).alloc _
 have hb:World.blk W w.heap.size #[.int .i64 0,.string ⟨#[47,97]⟩,.string ⟨#[]⟩,.int .i64 0,.string ⟨#[]⟩,.int .i64 7,.string ⟨#[97]⟩,.string ⟨#[]⟩,.int .i64 0,.string ⟨#[]⟩,.int .i64 7,.string ⟨#[98]⟩,.string ⟨#[]⟩,.int .i64 0,.string ⟨#[]⟩] 55:=by rw[<-hW];exact aw _ _ _
 have co:ko qk 5 W (.slice (some ⟨w.heap.size,0,none⟩) 3 3) [cmA,TL 97,TL 98]:=by
  refine⟨_,_,rfl,fun j x hx=>⟨w.heap.size,0,rfl,fun i c hc=>?_⟩⟩;rcases j with _|_|_|j
  ·simp at hx;subst hx;rcases i with _|_|_|_|_|i<;>first|(simp[qk,cmA]at hc;subst hc;exact aa hb _)|(simp[qk]at hc)
  ·simp at hx;subst hx;rcases i with _|_|_|_|_|i<;>first|(simp[qk,TL]at hc;subst hc;exact aa hb _)|(simp[qk]at hc)
  ·simp at hx;subst hx;rcases i with _|_|_|_|_|i<;>first|(simp[qk,TL]at hc;subst hc;exact aa hb _)|(simp[qk]at hc)
  ·simp at hx
 have LD:=Ay (he.keep hk) 100 (by omega) [cmA,TL 97,TL 98] _ co (fun c hc=>by
  simp at hc;rcases hc with rfl|rfl|rfl<;>exact⟨by decide,by decide,by decide,by decide⟩) (by simp) (fun⟨c,hc,h8⟩=>by
  simp at hc;rcases hc with rfl|rfl|rfl<;>exact absurd h8 (by decide))
 rw[show(max 48 (min (100:Int) 300)).toNat=100 by decide]at LD;have LD:=hd0 LD;have HK:=hd0 hk;clear hb co hk he;go_enter func13,ntmps13;go_wp2_with fail
 try rw[hW]
 refine LD.out.mono ?_;rintro e w1 ⟨p,v0,v,a,rfl,h0,h1,gy,ru,ni⟩;have hq:=acH h0 h1;unfold Zp Zq at hq;injection hq with q1 hq;injection hq with q2 hq;injection hq with q3 hq;injection hq with q4 hq;injection hq with q5 hq;injection hq with q6 q7;have HG:=hd0 gy.good;have HQ:=hd0 (And.intro q1 (And.intro q2 (And.intro q3 (And.intro q4 (And.intro q5 (And.intro q6 q7))))));have HB:=hd0 ru;have HA:=hd0 ni;have NW:=fun(b t:ay) (W:World) (hk:af w1 W) (h1:b.length<=1000) (h2:t.length<=1000)=>Au (ni.at_.keep hk) (by have:=gy.good.list.many;omega) gy.good.list.plane (fun x y hx hy=>⟨fO gy.good hx,auI (jh _ _) (Nat.max_le.2 ⟨fO gy.good hx,fO gy.good hy⟩)⟩) b t (by omega) (by omega);have N1:=hd0 (NW [] [97] w1 (ah.refl _ _) (by simp) (by simp));have NW:=hd0 NW;clear q1 q2 q3 q4 q5 q6 q7 gy ru ni h0 h1 LD hW;go_wp2_with fail;refine N1.out.mono ?_;rintro e w2 ⟨k2,hp⟩;rw[HQ.out.1]at hp;simp only at hp;obtain⟨q,lv,rfl,FL⟩:=hp;have bw:=hd0 k2;have XF:=hd0 FL;have N2:=hd0 (NW.out [98] [97] w2 k2 (by simp) (by simp));clear k2 FL N1;go_wp2_with fail;refine N2.out.mono ?_;rintro e w3 ⟨k3,hp⟩;rw[HQ.out.2.1]at hp;simp only at hp;subst hp;have dJ:=hd0 (bw.out.keep k3);have Tk:=hd0 (XF.out.keep k3);have N3:=hd0 (NW.out [] [120] w3 dJ.out (by simp) (by simp));clear k3 N2;go_wp2_with fail;refine N3.out.mono ?_;rintro e w4 ⟨k4,hp⟩;rw[HQ.out.2.2.1]at hp;simp only at hp;subst hp;have lZ:=hd0 (dJ.out.keep k4);have aaW:=Tk.out.keep k4;have PH:=hd0 (Av aaW);have N8:=hd0 aaW;clear k4 N3 aaW;go_wp2_with fail;refine PH.out.mono ?_;rintro e w5 ⟨rfl,k5⟩;have lz:=hd0 (lZ.out.keep k5);have SR:=hd0 (N8.out.keep k5);have k6:af w5 (w5.alloc (.cells #[.int .i64 1,.int .i64 0,.string ⟨#[97]⟩,.int .i64 6,.int .i64 11,.int .i64 2,.string ⟨#[]⟩] 44)):=(ah.refl _ w5).alloc _;have b6:World.blk (w5.alloc (.cells #[.int .i64 1,.int .i64 0,.string ⟨#[97]⟩,.int .i64 6,.int .i64 11,.int .i64 2,.string ⟨#[]⟩] 44)) w5.heap.size #[.int .i64 1,.int .i64 0,.string ⟨#[97]⟩,.int .i64 6,.int .i64 11,.int .i64 2,.string ⟨#[]⟩] 44:=aw _ _ _;have tL:=hd0 (lz.out.keep k6);have YJ:=hd0 b6;have HHB:Hid (w1.heap.size<=w5.heap.size):=hd0 lz.out.size;have MP:=hd0 (xU (HA.out.at_.keep tL.out));have Tg:=hd0 (SR.out.keep k6);clear k5 PH k6 b6;go_wp2_with fail;generalize w5.alloc (.cells #[.int .i64 1,.int .i64 0,.string ⟨#[97]⟩,.int .i64 6,.int .i64 11,.int .i64 2,.string ⟨#[]⟩] 44)=w6 at*;generalize w5.heap.size=hb at*;refine MP.out.mono ?_;rintro e w7 ⟨m,rfl,hm,KC,k7⟩;have uD:=hd0 (tL.out.keep k7);have KG:=hd0 (ab k7 YJ.out id);have adP:=hd0 (Tg.out.keep k7);have PL:=wT KC 1 (by decide);rw[HQ.out.2.2.2.1]at PL;have PL:=hd0 PL;clear k7 hm KC MP tL YJ Tg SR N8 Tk;go_wp2_with fail;refine PL.out.mono ?_;rintro e w8 ⟨rfl,k8⟩;have sM:=hd0 (uD.out.keep k8);have BN:=hd0 (ab k8 KG.out id);have afa:=hd0 (adP.out.keep k8);have DR:=xY 5 [97,98] w8 (by decide);rw[Zr]at DR;have DR:=hd0 DR;clear k8 PL uD KG adP;go_wp2_with fail;refine DR.out.mono ?_;rintro e w9 ⟨rfl,k9⟩;have Ch:=hd0 (sM.out.keep k9);have OO:=hd0 (ab k9 BN.out id);have ae6:=hd0 (afa.out.keep k9);have DP:=Nf 5 [97,98] (by decide) w9;rw[show cX ((5:Nat):Int) [97,98]=[5,2,97,98] by kernel_rfl]at DP;have DP:=hd0 DP;clear k9 DR sM BN afa;go_wp2_with fail;refine DP.out.mono ?_;rintro e CB ⟨rfl,SC⟩;have aad:=hd0 (Ch.out.keep SC);have abi:=ab SC OO.out id;have c5:CB.cell? ⟨hb,5,none⟩=some (.int .i64 2):=aa abi 5;have akA:=hd0 abi;have HPI:Hid (fN CB p a q ⟨1,0,[97],⟨6,11⟩,2,[]⟩ [5,6] lv):=hd0 (by
  have j8:=ae6.out.keep SC;exact⟨⟨_,j8⟩,fun hf=>by have h1:=HA.out.at_.lt hf;have h2:=j8.new;omega,fun g hg hf=>by have h1:=HA.out.at_.lt hf;have h2:=(j8.row.lt g hg).1;omega⟩)
 have PO:=hd0 (nP HPI.out 2 (.inr (by decide)));clear SC DP Ch OO ae6 abi;go_wp2_with fail;refine PO.out.mono ?_;rintro e w11 ⟨rfl,T9⟩;have aeI:=hd0 (aad.out.keep T9);have ajD:=hd0 (ab T9 akA.out id);have afJ:=hd0 (HPI.out.keep T9);have SU:=EZ (HA.out.at_.keep aeI.out) (by have:=HG.out.list.many;omega) afJ.out HQ.out.2.2.2.2.2.2 (by decide) HG.out.many.2 (fun n=>if n=5 then [1,1,97,2]else [2,1,1,1,5,4,2,0,1,0,0]) (fun n hn=>by
  simp at hn;rcases hn with rfl|rfl
  ·exact⟨by decide,by rw[HB.out];decide,HQ.out.2.2.2.2.1,by decide⟩
  ·exact⟨by decide,by rw[HB.out];decide,HQ.out.2.2.2.2.2.1,by decide⟩)
 obtain⟨sm,N4⟩:∃ sm,KV fY (cZ (fun n=>if n=5 then [1,1,97,2]else [2,1,1,1,5,4,2,0,1,0,0]) [5,6])=sm:=⟨_,rfl⟩
 have rC:sm.length=8:=by rw[<-N4];rfl
 rw[N4]at SU;have SU:=hd0 SU;clear T9 PO c5 N4;go_wp2_with fail;refine SU.out.mono ?_;rintro e AM ⟨rfl,a2,gW,_,_⟩;have Oa:=ab gW.mod ajD.out (fun hf=>by have h1:=HA.out.at_.lt hf;have h2:=HHB.out;omega);have Cw:Hid (af w AM):=hd0 (HK.out.keep ((HA.out.keep.keep aeI.out).trans gW.mod (fun g hl hg=>by have h1:=HA.out.foot g hg;omega)));have c0:∀ X,(AM.ext X).cell? ⟨hb,0,none⟩=some (.int .i64 1):=fun X=>aa (ab (aD AM X) Oa id) 0;have c1:∀ X,(AM.ext X).cell? ⟨hb,1,none⟩=some (.int .i64 0):=fun X=>aa (ab (aD AM X) Oa id) 1;have c2:∀ X,(AM.ext X).cell? ⟨hb,2,none⟩=some (.string ⟨#[97]⟩):=fun X=>aa (ab (aD AM X) Oa id) 2;have c5:∀ X,(AM.ext X).cell? ⟨hb,5,none⟩=some (.int .i64 2):=fun X=>aa (ab (aD AM X) Oa id) 5;have c6:∀ X,(AM.ext X).cell? ⟨hb,6,none⟩=some (.string ⟨#[]⟩):=fun X=>aa (ab (aD AM X) Oa id) 6;have CN:∀ X,Calls prog 47 #[.string ⟨#[96]⟩] (AM.ext X) fun e w'=>e=.returned (.int .i64 2)/\af (AM.ext X) w':=fun X=>by
  have:=zN [96] (by decide) (AM.ext X)
  rwa [show jM [96]=2 by decide]at this
 have CN:=hd0 CN;have ap1:(sm.length:Int)=8:=by omega
 clear gW SU Oa;go_wp2_with fail;refine cO (by kernel_rfl) (by kernel_rfl) ?_
 repeat (quiet_step (with_reducible exact bA (CN.out _)))
 refine avE ?_;intro _ cL;obtain⟨xq,rfl⟩:=cL;go_wp2;go_ret;exact⟨by simp,Cw.out.keep (aD _ _)⟩
end
section
open Go.RowKit
attribute [local go_sem] auG
end
section
section
open Go.ChangeShapes Go.WideShapes Go.ChangeAt Go.RowKit
theorem tK {n:Int}(h:(Lit.int .i64 n).wf=true):-9223372036854775808<=n/\n<=9223372036854775807:=bounds_i64 h
noncomputable def BJ (os:Os):World:=
 let w0:=World.laidAll prog os (Rows.differRecordsRow.laid.filter fun x=>x.2.handleName?.isNone)
 { w0 with heap:=w0.heap.modify 0 fun
   | .cells _ t frozen=>.cells #[.iface 365 (.agg #[typeHandle prog 137])] t frozen
   |o=>o }
theorem Nn (os:Os):(BJ os).os=os:=by kernel_rfl
theorem RA (os:Os)(args:Array Value):laidMetH prog Rows.differRecordsRow.laid ((BJ os).forCall (fun _ _=>0) ⟨#[],args,[]⟩).memory:=
 laidMetH_of_parts (laidMet_of_run' 8 (by kernel_rfl) (by kernel_rfl)) (by kernel_rfl)
end
section
open Go.RowKit
end
end
section
open Go.RowKit
attribute [local go_sem] auG
theorem ahM (b:UInt8)(k:Nat):((b.toNat:Int)/2 ^ k%2==1)=b.toNat.testBit k:=by
 rw[Nat.testBit_eq_decide_div_mod_eq];have e:((b.toNat:Int)/2 ^ k%2)=((b.toNat/2 ^ k%2:Nat):Int):=by simp
 rw[e,avt];simp;omega
theorem RC (s:List UInt8)(n:Int)(w:World)(hs:s.length<=140737488351232)(hn:-9223372036854775808<=n/\n<=9223372036854775807):
  Calls prog 56 #[.string ⟨s.toArray⟩,.int .i64 n] w fun e w'=>e=.returned (.bool (mH s n))/\w=w':=by
 by_cases h0:0<=n
 ·obtain⟨m,rfl⟩:=Int.eq_ofNat_of_zero_le h0;by_cases h:m/8<s.length
  ·have aK:¬(s.length:Int)<=(m:Int)/8:=by omega
   obtain⟨b,hb⟩:∃ b,s[m/8]?=some b:=⟨_,auM h⟩
   have hx:=aS (P:=prog) underlying9 s .i64 ((m:Int)/8) b (by omega) (by rw[show((m:Int)/8).toNat=m/8 by omega];exact hb);have Hv:Hid (mH s m=b.toNat.testBit (m%8)):=hd0 (by simp[mH,ai,hb]);have Tp:=b.toNat_lt;obtain⟨r,hr⟩:∃ r,m%8=r:=⟨_,rfl⟩
   have hr8:r<8:=by omega
   have e2:(m:Int)%8=(r:Int):=by omega
   rw[hr]at Hv;obtain⟨q,hq⟩:∃ q:Nat,b.toNat/2 ^ r=q:=⟨_,rfl⟩
   have hq8:q<256:=by rw[<-hq];exact Nat.lt_of_le_of_lt (Nat.div_le_self _ _) Tp
   have e3:(b.toNat:Int)/2 ^ r=(q:Int):=by rw[<-hq];simp
   have Hq:Hid (((q:Int)%2==1)=b.toNat.testBit r):=hd0 (by rw[<-e3];exact ahM b r);clear hb hr hq;go_enter func56,ntmps56;go_wp2;go_ret;exact⟨by rw[Hv.out,<-Hq.out];rfl,rfl⟩
  ·have aK:(s.length:Int)<=(m:Int)/8:=by omega
   have Hv:Hid (mH s m=false):=hd0 (by unfold mH;rw[avn,pI (by omega)];simp);go_enter func56,ntmps56;go_wp2;go_ret;exact⟨by rw[Hv.out];rfl,rfl⟩
 ·have Hv:Hid (mH s n=false):=hd0 (by simp[mH,h0]);have h1:n<0:=by omega
  go_enter func56,ntmps56;go_wp2;go_ret;exact⟨by rw[Hv.out];rfl,rfl⟩
theorem RF (s:List UInt8)(k:Nat):mH s (k:Int)=ai s k:=by simp[mH]
theorem No (s:List UInt8)(w:World)(hs:s.length<=100000):
  Calls prog 19 #[.string ⟨s.toArray⟩] w fun e w'=>∃ v,e=.returned v/\aI w' w.heap.size v (eU (cq s))/\af w w':=by
 have HS:=hd0 hs;have Wb:(s.length:Int)<=100000:=by omega
 have w8:IntKind.i64.wrap ((8:Int)*(s.length:Int))=8*(s.length:Int):=by rw[IntKind.wrap_i64];omega
 have HO0:Hid (aI (w.alloc (.cells #[] 3)) w.heap.size (.slice (some ⟨w.heap.size,0,none⟩) 0 0) (eU ((List.range 0).filter fun n=>ai s n))):=hd0 ⟨rfl,.inr ⟨w.heap.size,0,#[],rfl,auP _,aw _ _ _,auP _,by decide,rfl,rfl⟩⟩;have dF:Hid (af w (w.alloc (.cells #[] 3))):=hd0 ((ah.refl _ w).alloc _);clear hs;go_enter func19,ntmps19;go_wp2_with fail
 go_loopw [3,4] (fun v i wr=>∃ k:Nat,k<=8*s.length/\i=.int .i64 (k:Int)/\Hid (aI wr w.heap.size v (eU ((List.range k).filter fun n=>ai s n)))/\Hid (af w wr)) (fun _ i _=>8*s.length-(intOf i).toNat)
 case atStart=>exact⟨0,by omega,rfl,HO0,dF⟩
 case round=>
  clear HO0 dF;obtain⟨k,hk,rfl,HO,HK⟩:=hrel;by_cases aK:k<8*s.length
  ·have dR:(k:Int)<8*(s.length:Int):=by omega
   have CH:=RC s (k:Int) wr (by have:=HS.out;omega) (by omega);rw[RF]at CH;have hlf:((List.range k).filter fun n=>ai s n).length<=k:=by have:=auX (fun n=>ai s n) (List.range k);rwa [List.length_range]at this
   have aev:((List.range k).filter fun n=>ai s n).length<=800000:=by omega
   have yt:(List.range (k+1)).filter (fun n=>ai s n)=(List.range k).filter (fun n=>ai s n)++(if ai s k=true then [k]else []):=by
    rw[List.range_succ,List.filter_append];simp[avY]
   cases hb:ai s k with
   |true=>
    rw[hb]at CH yt;rw[auT rfl]at yt;have CH:=hd0 CH;have Ha:=iV (P:=prog) underlying46 ib rfl w.heap.size u3 _ _ wr w HO.out [.int .i64 (k:Int)] (by simp[Value.oneCell']) (by unfold maxLen;simp[eU];omega) (by simp[eU];omega) HK.out.size HK.out (auP _);obtain⟨v',w3',bh,aZ,dm,_⟩:=Ha;have HR:=hd0 bh;have Fx:Hid (aI w3' w.heap.size v' (eU ((List.range (k+1)).filter fun n=>ai s n))):=hd0 (by
     have:=iW aZ;rw[yt];simpa[eU]using this)
    have dJ:=hd0 dm;clear bh aZ dm yt hb hlf aev;go_wp2_with fail;refine CH.out.mono ?_;rintro e w' ⟨rfl,rfl⟩;go_wp2_with (at_builtin;refine az HR.out rfl rfl rfl rfl ?_);exact⟨⟨k+1,by omega,by go_num,Fx,dJ⟩,by simp[intOf];omega⟩
   |false=>
    rw[hb]at CH yt;rw[auV (by decide),List.append_nil]at yt;have CH:=hd0 CH;have Fx:Hid (aI wr w.heap.size u3 (eU ((List.range (k+1)).filter fun n=>ai s n))):=hd0 (by rw[yt];exact HO.out);clear yt hb hlf aev;go_wp2_with fail;refine CH.out.mono ?_;rintro e w' ⟨rfl,rfl⟩;go_wp2_with fail;exact⟨⟨k+1,by omega,by go_num,Fx,HK⟩,by simp[intOf];omega⟩
  ·obtain rfl:k=8*s.length:=by omega
   go_wp2;go_ret;exact⟨_,rfl,HO.out,HK.out⟩
end
end Go.Proofs.YtkghpdcloaiflaaGreatDoor
