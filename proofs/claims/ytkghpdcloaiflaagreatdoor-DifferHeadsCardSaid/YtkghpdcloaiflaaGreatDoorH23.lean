import Derived.Test.YtkghpdcloaiflaaGreatDoorH10
import Derived.Test.YtkghpdcloaiflaaGreatDoorH22
import Derived.Lib.ItoaLen
import Derived.Shelf.SlGeneric
import Derived.Shelf.SlIterI.Nil
import Derived.Ground.GgzProg
import Derived.Shelf.SlIter.Nil
import Derived.Ground.SlmcProg
import Derived.Shelf.SlMaps.Clone
set_option maxHeartbeats 2000000
set_option maxRecDepth 100000
namespace Go.Proofs.YtkghpdcloaiflaaGreatDoor
open _root_.Go.Proofs.Tryz
variable {A M:Int->Nat}{a:Option Addr}{cap f n p tb:Nat}{k:Int}{s:List UInt8}{w w':World}{xs:List Value}
section
open Go.RowKit
def kM (c:cm):Value:=if c.ok=true then .tuple #[.string ⟨c.line.toArray⟩,.int .i64 0]else .tuple #[.string ⟨#[]⟩,.int .i64 130]
theorem Mo {k:Nat}(h:f∈fieldsOf k):1<=f/\f<=5:=by
 rcases(by omega:k=0\/k=1\/k=2\/k=3\/k=4\/k=5\/k=6\/k=7\/k=8\/9<=k)with e|e|e|e|e|e|e|e|e|e
 all_goals first|(subst e;simp[fieldsOf]at h;omega)|skip
 rw[show fieldsOf k=[]from by unfold fieldsOf;split<;>first|omega|rfl]at h
 cases h
theorem xj (k:Nat):(fieldsOf k).length<=3:=by unfold fieldsOf;split<;>simp
theorem ZP (kind:Int):XQ kind<=9:=by unfold XQ;split<;>omega
theorem kj {c:cm}(hc:c.Small)(f:Nat):(c.fieldText f).length<=2199023255553:=by
 unfold cm.fieldText;split
 ·have:=hc.dest;omega
 ·have:=Lib.itoa_length_le c.pos hc.pos.1 hc.pos.2;omega
 ·have:=hc.data;unfold rL;split
  ·simp
  ·rw[sT];omega
 ·have:=hc.path;omega
def eU (c:cm)(fs:List Nat)(k:Nat):cm:=(fs.take k).foldl (λb f=>b.take f (c.fieldText f)) ⟨c.kind,[],[],0,[]⟩
theorem Is (c:cm)(fs:List Nat):eU c fs fs.length=c.bare fs:=by rw[eU,awa];rfl
theorem El (c:cm)(fs:List Nat){k:Nat}(h:fs[k]?=some f):eU c fs (k+1)=(eU c fs k).take f (c.fieldText f):=by
 rw[eU,eU,av8,h,Option.toList_some,List.foldl_append];rfl
theorem QC (k:Nat):(cP k).length<=6:=by unfold cP;split<;>simp
theorem QD {c:cm}(hc:c.Small)(K:Nat):(Lib.join (cP K::(fieldsOf K).map c.fieldText) [32]).length<=8796093022208:=by
 have hw:=QC K;have h1:=kj hc 1;have h2:=kj hc 2;have h3:=kj hc 3;have h4:=kj hc 4;have h5:=kj hc 5;rw[Lib.join_length];unfold fieldsOf;split<;>simp[Lib.lens]<;>omega
theorem tf (c:cm)(w:World)(he:yK w)(hc:c.Small):
  Calls prog 62 #[kZ c] w λe w'=>e=.returned (kM c)/\af w w':=by
 obtain⟨He,Hc⟩:=K2 he hc;clear he hc;go_enter func62,ntmps62;unfold kZ dq;go_wp2_with fail;refine(Qy c.kind _).mono ?_;rintro e w1 ⟨v,rfl,hr,hk⟩;have Yf:World.blk w1 w.heap.size (dq c) 55:=ab hk (av w (dq c) _) id;have jg:=Z Yf;have cC:Hid (af w w1):=Z (((ai.refl _ _).alloc (.cells (dq c) 55)).keep hk);obtain⟨c0,c1,c2,c3,c4⟩:=cw Yf;obtain⟨fa,ato,rfl,hF⟩:=hr;obtain⟨HF,YN⟩:=K2 hF (adf c);obtain⟨K,hK⟩:∃ K,XQ c.kind=K:=⟨_,rfl⟩
 have hK9:=ZP c.kind;rw[hK]at YN HF hK9 ⊢;have HKK:=Z hK;obtain⟨N,hN⟩:∃ N,(fieldsOf K).length=N:=⟨_,rfl⟩
 have hN3:=xj K;rw[Qv,show(pH K).length=N from by simp[pH,hN]];rw[hN]at hN3;have HN:=Z hN;clear hk hF Yf hK hN
 go_upto_region 4 with(fail)
 have lJ:Hid (World.blk ((w1.alloc (.cells (dq (eU c (fieldsOf K) 0)) 55)).alloc (.cells (aI [cP K]) 9)) w.heap.size (dq c) 55):=Z (aE (aE jg.o _) _);have lg:Hid (World.blk ((w1.alloc (.cells (dq (eU c (fieldsOf K) 0)) 55)).alloc (.cells (aI [cP K]) 9)) w1.heap.size (dq (eU c (fieldsOf K) 0)) 55):=Z (aE (av _ _ _) _);have Kz:Hid (io ((w1.alloc (.cells (dq (eU c (fieldsOf K) 0)) 55)).alloc (.cells (aI [cP K]) 9)) (w1.heap.size+1) (.slice (some ⟨w1.heap.size+1,0,none⟩) 1 1) [cP K]):=Z (Ei (l:=[cP K]) (aV sp7 _ _) (av9 _) (by simp[maxLen]));have bJ:Hid (af w ((w1.alloc (.cells (dq (eU c (fieldsOf K) 0)) 55)).alloc (.cells (aI [cP K]) 9))):=Z ((cC.alloc _).alloc _);have ez:Hid (ai (λb=>w1.heap.size<=b) w1 ((w1.alloc (.cells (dq (eU c (fieldsOf K) 0)) 55)).alloc (.cells (aI [cP K]) 9))):=Z (((ai.refl _ _).alloc _).alloc _);have Hs:Hid (w1.heap.size+1<((w1.alloc (.cells (dq (eU c (fieldsOf K) 0)) 55)).alloc (.cells (aI [cP K]) 9)).heap.size):=Z sp7;have aby:w.heap.size<w1.heap.size:=ak jg.o;have HFl:Hid (∀ j x,(Mj (pH K))[j]?=some x->∃ b o,fa=some ⟨b,o,none⟩/\b<w1.heap.size/\w1.cell? ⟨b,o+j,none⟩=some x):=Z (λj x hx=>by
  obtain⟨b,o,e,hc⟩:=HF.o j x hx;exact⟨b,o,e,am hc,hc⟩)
 clear c0 c1 c2 c3 c4 jg cC HF;go_wp2_with fail;change Code.wp _ _ _ _ ((w1.alloc (.cells (dq (eU c (fieldsOf K) 0)) 55)).alloc (.cells (aI [cP K]) 9));generalize (w1.alloc (.cells (dq (eU c (fieldsOf K) 0)) 55)).alloc (.cells (aI [cP K]) 9)=w2 at*;generalize w1.heap.size=B1 at*
 go_loopw [7,25] (λv i wr=>∃ k:Nat,k<=N/\i=.int .i64 (k:Int)/\World.blk wr w.heap.size (dq c) 55/\World.blk wr B1 (dq (eU c (fieldsOf K) k)) 55/\io wr (B1+1) v (cP K::((fieldsOf K).take k).map c.fieldText)/\af w wr/\ai (λb=>B1<=b) w1 wr/\B1+1<wr.heap.size/\(∀ f∈(fieldsOf K).take k,c.fieldOk f=true)) (λ_ i _=>N-(intOf i).toNat)
 case atStart=>exact⟨0,J,rfl,lJ.o,lg.o,by simpa using Kz.o,bJ.o,ez.o,Hs.o,by simp⟩
 case round=>
  clear lJ lg Kz bJ ez Hs;obtain⟨k,hk,rfl,hB,hX,hV,hK,hM,hs,hA⟩:=hrel;obtain⟨HB,HX,HV,HK,HM,HA,Hs⟩:=K7 hB hX hV hK hM hA hs;clear hB hX hV hK hM hA hs;by_cases aP:k<N
  ·obtain⟨f,hf⟩:∃ f,(fieldsOf K)[k]?=some f:=⟨_,av6 (by rw[HN.o];exact aP)⟩
   obtain⟨Hf,Hf5⟩:=K2 hf (Mo (av7 hf));obtain⟨b,o,rfl,SD,hc⟩:=HFl.o k (.int .i64 (f:Int)) (by simp[Mj,pH,hf]);have Ch:wr.cell? ⟨b,o+k,none⟩=some (.int .i64 (f:Int)):=by rw[HM.cell (p:=⟨b,o+k,none⟩) (am hc) (by simp;omega)];exact hc
   clear hf hc SD;go_wp2_with fail;refine(Mn c f Hf5.o w.heap.size wr (He.keep HK.o) Hc.o HB.o).mono ?_;rintro e w3 ⟨rfl,dr⟩;obtain⟨qv,qt,Un,ez,pU,Hs3⟩:=K6 (ab dr HB.o id) (ab dr HX.o id) (ip HV.o dr) (HK.keep dr) (HM.keep dr) (awg Hs.o dr.size);clear dr HB HX HV HK HM Hs Ch;rcases bZ:c.fieldOk f with _|_
   ·have Hn:Hid (c.ok=false):=Z (by
     rw[cm.ok,YN.o];have:(fieldsOf K).all c.fieldOk=false:=by
      rw[Bool.eq_false_iff];intro h;have:=awp.1 h f (av7 Hf.o);rw[bZ]at this;cases this
     rw[this];simp)
    clear bZ;go_wp2;go_ret2;exact⟨by rw[kM,Hn.o];rfl,ez.o⟩
   ·have KD:Hid (∀ g∈(fieldsOf K).take (k+1),c.fieldOk g=true):=Z (λg hg=>by
     rw[av8,Hf.o]at hg;rcases aw8.1 hg with h|h
     ·exact HA.o g h
     ·simp at h;subst h;exact bZ)
    clear bZ;have Htl:=Z (kj Hc.o f);have Hmp:Hid (cP K::((fieldsOf K).take (k+1)).map c.fieldText=(cP K::((fieldsOf K).take k).map c.fieldText)++[c.fieldText f]):=Z (by
     rw[av8,Hf.o];simp)
    have Hbs:=Z (El c (fieldsOf K) Hf.o);generalize yf:cP K::((fieldsOf K).take k).map c.fieldText=dm at*;have OX:dm.length<=4:=by rw[<-yf];simp;omega
    clear yf;obtain⟨v2,w4,hr,ho,dK,db⟩:=kv (P:=prog) underlying149 vM rfl (B1+1) u7 _ _ w3 w Un.o [.string ⟨(c.fieldText f).toArray⟩] (by intro u hu;simp at hu;subst hu;rfl) (by simp[maxLen];omega) (by simp;omega) (by have:=Hs3.o;omega) ez.o J;obtain⟨Hr1,HV4,pO,Gd,Cp,sG,Hs4⟩:=K7 hr (yL (ys:=[c.fieldText f]) ho) dK (ab db qv.o (by simp;omega)) (ab db qt.o sp7) (pU.trans db (λi _ h=>J)) (awg Hs3.o db.size);clear hr ho dK db Un qv qt pU ez Hs3;go_wp2_with ((at_builtin;refine aB Hr1.o rfl rfl rfl rfl ?_));refine(QB (eU c (fieldsOf K) k) f Hf5.o (c.fieldText f) B1 w4 (He.keep pO.o) (by have:=Htl.o;omega) Cp.o).mono ?_;rintro e w5 ⟨rfl,CC,hx5⟩;obtain⟨tK,F0,HV5,nD,Gk,Hs5⟩:=K6 hx5 (ab CC Gd.o J) (JW HV4.o CC (λb hb e=>J)) (pO.new CC J) (sG.trans CC (λi _ h=>J)) (awg Hs4.o CC.size);clear CC hx5;go_wp2_with fail;exact⟨⟨k+1,J,by go_num,F0.o,by rw[Hbs.o];exact tK.o,by rw[Hmp.o];exact HV5.o,nD.o,Gk.o,Hs5.o,KD.o⟩,by simp[intOf];omega⟩
  ·obtain rfl:k=N:=J
   have e1:eU c (fieldsOf K) k=c.bare (fieldsOf K):=by rw[<-HN.o];exact Is _ _
   have e2:(fieldsOf K).take k=fieldsOf K:=awQ (by rw[HN.o];exact av9 _);rw[e1]at HX;rw[e2]at HV HA;clear e1 e2;by_cases Xi:K=9
   ·have Hn:Hid (c.ok=false):=Z (by rw[cm.ok,YN.o,Xi];rfl);have hw:cP K=[]:=by rw[Xi];rfl
    rw[hw];clear hw Xi;go_wp2;go_ret2;exact⟨by rw[kM,Hn.o];rfl,HK.o⟩
   ·have sr:Hid (K<9):=Z J;have Cy:(cP K==[])=false:=by
     rcases(by omega:K=0\/K=1\/K=2\/K=3\/K=4\/K=5\/K=6\/K=7\/K=8)with e|e|e|e|e|e|e|e|e<;>rw[e]<;>rfl
    have UI:(cP K).isEmpty=false:=by
     rcases(by omega:K=0\/K=1\/K=2\/K=3\/K=4\/K=5\/K=6\/K=7\/K=8)with e|e|e|e|e|e|e|e|e<;>rw[e]<;>rfl
    obtain⟨c0,c1,c2,c3,c4⟩:=cw HB.o;clear Xi;by_cases hbc:c.bare (fieldsOf K)=c
    ·have Hn:Hid (c.ok=true):=Z (by
      rw[cm.ok,YN.o];simp only[awo,awt];exact⟨sr.o,awp.2 HA.o,cm.eqB_iff.2 hbc⟩)
     have Hl:Hid (c.line=Lib.join (cP K::(fieldsOf K).map c.fieldText) [32]):=Z (by rw[cm.line,YN.o];rfl);rw[hbc]at HX;obtain⟨d0,d1,d2,d3,d4⟩:=cw HX.o;clear hbc;go_wp2_with fail;refine(Pn 32 (cP K::(fieldsOf K).map c.fieldText) (B1+1) _ wr HV.o (by have:=xj K;simp;omega) (av2 (QD Hc.o K) dc7)).mono ?_;rintro e w3 ⟨rfl,dr⟩;have ez:=Z (HK.keep dr);clear dr c0 c1 c2 c3 c4 d0 d1 d2 d3 d4;go_wp2;go_ret2;exact⟨by rw[kM,Hn.o,Hl.o];rfl,ez.o⟩
    ·have Hn:Hid (c.ok=false):=Z (by
      rw[cm.ok,YN.o,Bool.eq_false_iff];intro h;simp only[awo]at h;exact hbc (cm.eqB_iff.1 h.2.2))
     obtain⟨d0,d1,d2,d3,d4⟩:=cw HX.o;have Hbc:=Z hbc;clear hbc
     go_upto_region 14 with(fail)
     all_goals first
      |(go_wp2;go_ret2;exact⟨by rw[kM,Hn.o];rfl,HK.o⟩)
      |(exfalso;exact Hbc.o (cm.ext' (by assumption) (by assumption) (by assumption) (by assumption) (by assumption)))
inductive dE
 |none
 |tree
 |of
 |node (k:Int)
 |names (k:Int)
def kO (n:Nd)(m:Nat):Array Value:=#[.int .i64 n.num,.bool n.dir,.int .i64 n.links,.string ⟨n.data.toArray⟩,.map (if n.dir=true then some m else none)]
abbrev It (w:World)(b:Nat)(l:Nm):Prop:=iC prog 9 3 w b l
abbrev QE (w:World)(b:Nat)(l:List (Int×Nat)):Prop:=dJ prog 3 w b l
def da (T:Tr)(A:Int->Nat):List (Int×Nat):=T.map λn=>(n.num,A n.num)
structure aS (w:World)(p:Nat)(T:Tr)(tb:Nat)(A M:Int->Nat)(role:Nat->dE):Prop where
 tree:World.blk w p #[.map (some tb)] 249
 rtree:role p=.tree
 of:QE w tb (da T A)
 rof:role tb=.of
 node:∀ n∈T,World.blk w (A n.num) (kO n (M n.num)) 246
 rnode:∀ n∈T,role (A n.num)=.node n.num
 names:∀ n∈T,n.dir=true->It w (M n.num) n.names
 rnames:∀ n∈T,n.dir=true->role (M n.num)=.names n.num
 lt:∀ b,role b≠.none->b<w.heap.size
theorem aS.mod {T:Tr}{role:Nat->dE}{S:Nat->Prop}(h:aS w p T tb A M role)(m:ai S w w')(hS:∀ b,role b≠.none->¬ S b):aS w' p T tb A M role where
 tree:=ab m h.tree (hS p (by rw[h.rtree];exact dE.noConfusion))
 rtree:=h.rtree
 of:=h.of.mod m (hS tb (by rw[h.rof];exact dE.noConfusion))
 rof:=h.rof
 node n hn:=ab m (h.node n hn) (hS _ (by rw[h.rnode n hn];exact dE.noConfusion))
 rnode:=h.rnode
 names n hn hd:=(h.names n hn hd).mod m (hS _ (by rw[h.rnames n hn hd];exact dE.noConfusion))
 rnames:=h.rnames
 lt b hb:=awg (h.lt b hb) m.size
theorem aS.keep {T:Tr}{role:Nat->dE}(h:aS w p T tb A M role)(m:af w w'):aS w' p T tb A M role:=h.mod m λ_ _=>id
theorem pJ (T:Tr)(A:Int->Nat)(k:Int):bM k (da T A)=(T.get k).map λn=>A n.num:=by
 unfold bM da Tr.get;rw[List.find?_map,Option.map_map];rfl
theorem QF {T:Tr}{n:Nd}(h:T.get k=some n)(hs:dQ T):bM k (da T A)=some (A k):=by
 rw[pJ,h];have:=((aG hs).1 h).2;simp[this]
theorem z8 (W:World):(zeroValue 243).run prog W=.ok (.pointer none) W:=kr7
theorem Em (W:World):(zeroValue 3).run prog W=.ok (.int .i64 0) W:=kr7
section
variable {w:World}{p tb:Nat}{T:Tr}{A M:Int->Nat}{role:Nat->dE}{d:Int->Nat}{off:Int->Int}
theorem aS.look1 (h:aS w p T tb A M role)(hs:dQ T){n:Nd}(hg:T.get k=some n)(hk:-9223372036854775808<=k/\k<=9223372036854775807):
  (Instr.lookup 247 (.map (some tb)) (.int .i64 k) false).run prog w=.ok (.pointer (some ⟨A k,0,none⟩)) w:=by
 have:=dJ.look1 h.of underlying247 underlying3 (z8 w) k hk;rw[this,QF hg hs];rfl
theorem aS.cell (h:aS w p T tb A M role)(hs:dQ T){n:Nd}(hg:T.get k=some n)(i:Nat):w.cell? ⟨A k,i,none⟩=(kO n (M k))[i]?:=by
 obtain⟨hm,hk⟩:=(aG hs).1 hg;have:=h.node n hm;rw[hk]at this;exact aa this i
theorem aS.lookN (h:aS w p T tb A M role)(hs:dQ T){n:Nd}(hg:T.get k=some n)(hd:n.dir=true)(s:List UInt8)(hl:s.length<=140737488355328):
  (Instr.lookup 244 (.map (some (M k))) (.string ⟨s.toArray⟩) true).run prog w=.ok (.tuple #[.int .i64 ((jU s n.names).getD 0),.bool (jU s n.names).isSome]) w:=by
 obtain⟨hm,hk⟩:=(aG hs).1 hg;have:=h.names n hm hd;rw[hk]at this;exact iC.look this underlying244 underlying9 underlying3 (Em w) s hl
def QG (A:Int->Nat):Except Int Int->Value
 | .ok k=>.tuple #[.pointer (some ⟨A k,0,none⟩),.int .i64 0]
 | .error e=>.tuple #[.pointer none,.int .i64 e]
theorem QH (h:aS w p T tb A M role)(hw:mU T d off)(v:Value)(l:List (List UInt8))(hv:eg w v (uG l))(hl:l.length<=1000000)(hs:∀ s∈l,s.length<=1000000):
  Calls prog 289 #[.pointer (some ⟨p,0,none⟩),v] w λe w'=>e=.returned (QG A (bi T 1 l))/\af w w':=by
 obtain⟨a,cap,rfl,hx⟩:=hv;rw[oq];obtain⟨r,hr,_⟩:=hw.get1;obtain⟨HT,HW,HX,HS⟩:=K4 h hw hx hs;have c0:w.cell? ⟨p,0,none⟩=some (.map (some tb)):=aa h.tree 0;have r0:=h.look1 hw.sorted hr dc7;have Hr:=Z hr;have kX:(l.length:Int)<=9223372036854775807:=J
 clear h hw hx hs hr hl;go_enter func289,ntmps289;go_wp2_with fail
 go_loop [6,18] (λn i=>∃(i0:Nat) (k:Int) (nd:Nd),i0<=l.length/\i=.int .i64 (i0:Int)/\n=.pointer (some ⟨A k,0,none⟩)/\Hid (T.get k=some nd/\bi T 1 l=bi T k (l.drop i0))) (λ_ i=>l.length-(intOf i).toNat)
 case atStart=>exact⟨0,1,r,J,rfl,rfl,Z ⟨Hr.o,rfl⟩⟩
 case round=>
  clear r0 Hr;obtain⟨i0,k,nd,hi,rfl,rfl,Hk⟩:=hrel;by_cases aP:i0<l.length
  ·obtain⟨s,hs⟩:∃ s,l[i0]?=some s:=⟨_,av6 aP⟩
   have Hs:=Z hs;have Cc:Hid (bi T 1 l=bi T k (s::l.drop (i0+1))):=Z (by
    rw[Hk.2];congr 1;rw[List.drop_eq_getElem_cons aP]
    congr 1
    exact axa ((av6 aP).symm.trans hs))
   obtain⟨b,o,rfl,cs⟩:=HX.o i0 (.string ⟨s.toArray⟩) (by simp[uG,hs]);clear hs;have c1:w.cell? ⟨A k,1,none⟩=some (.bool nd.dir):=HT.cell HW.sorted Hk.1 1;have c4:w.cell? ⟨A k,4,none⟩=some (.map (if nd.dir=true then some (M k)else none)):=HT.cell HW.sorted Hk.1 4
   cases hd:nd.dir with
   |false=>
    rw[hd]at c1;have Hv:Hid (bi T 1 l=.error 143):=Z (by rw[Cc.o,j8,Hk.1];simp[hd]);clear hd c4;go_wp2;go_ret2;exact⟨by rw[Hv.o];rfl,ai.refl _ _⟩
   |true=>
    rw[hd]at c1 c4;rw[awd rfl]at c4;have r1:=HT.lookN HW.sorted Hk.1 hd s (by have:=HS.o s (av7 Hs.o);omega)
    cases hg:jU s nd.names with
    |none=>
     rw[hg]at r1;have Hv:Hid (bi T 1 l=.error 141):=Z (by rw[Cc.o,j8,Hk.1];simp[hd,hg]);clear hd hg;go_wp2;go_ret2;exact⟨by rw[Hv.o];rfl,ai.refl _ _⟩
    |some j=>
     rw[hg]at r1;have Hv:Hid (bi T 1 l=bi T j (l.drop (i0+1))):=Z (by rw[Cc.o,j8,Hk.1];simp[hd,hg]);obtain⟨hm,_⟩:=(aG HW.sorted).1 Hk.1;obtain⟨_,nj,KP,FC⟩:=HW.closed nd hm _ ((cV (HW.snames nd hm)).1 hg);have hgj:=(aG HW.sorted).2 ⟨KP,FC⟩;have hjb:-9223372036854775808<=j/\j<=9223372036854775807:=by
      have:=HW.nums nj KP;simp only at FC;omega
     have r2:=HT.look1 HW.sorted hgj hjb;have Hgj:=Z hgj;clear hd hg hm KP FC hgj;go_wp2_with fail;exact⟨⟨i0+1,j,nj,J,by go_num,rfl,Z ⟨Hgj.o,Hv.o⟩⟩,by simp[intOf];omega⟩
  ·have Hv:Hid (bi T 1 l=.ok k):=Z (by
    rw[Hk.2,List.drop_of_length_le J];rfl)
   go_wp2;go_ret2;exact⟨by rw[Hv.o];rfl,ai.refl _ _⟩
end
theorem ba {P:Program}{id:Nat}{Q:Exit->Act->World->Prop}{a:Act}{l:List Oper}(hm:P.follows .mixedOrders=true)(hB:Region.lexB .any l.toArray=true)
  (h:wpQuiet P l.toArray (λw'=>∃ m,w'=w.drewN m) (λa'=>∀ w',(∃ m,w'=w.drewN m)->Q .normal a' w') l a):(Code.region id l.toArray true).wp P Q a w:=
 wp_region_quiet (C:=λw'=>∃ m,w'=w.drewN m) hm hB ⟨1,rfl⟩ (by simpa using h)
theorem QI {M:Nat}{p:List (List UInt8)}(h:eg w (.slice a (M+1) cap) (uG (p++[s])))(hM:p.length=M):eg w (.slice a M cap) (uG p)/\∃ b o,a=some ⟨b,o,none⟩/\w.cell? ⟨b,o+M,none⟩=some (.string ⟨s.toArray⟩):=by
 obtain⟨a',WP,hv,hx⟩:=h;injection hv with e1 _ _;subst e1;refine⟨⟨a,cap,by rw[oq,hM],λj x hj=>hx j x ?_⟩,?_⟩
 ·have aP:=(awk.1 hj).1;rw[oq]at aP;simp only[uG,List.map_append]at hj ⊢;rw[List.getElem?_append_left (by simpa using aP)];exact hj
 ·obtain⟨b,o,e,hc⟩:=hx M (.string ⟨s.toArray⟩) (by simp[uG,<-hM]);exact⟨b,o,e,hc⟩
theorem QJ (h:eg w (.slice a n cap) xs){j:Nat}{x:Value}(hx:xs[j]?=some x):∃ b o,a=some ⟨b,o,none⟩/\w.cell? ⟨b,o+j,none⟩=some x:=by
 obtain⟨a',WP,hv,hc⟩:=h;injection hv with e1 _ _;subst e1;exact hc j x hx
theorem tg {v:Value}(h:eg w v xs):∃ a cap,v=.slice a xs.length cap:=by
 obtain⟨a,cap,hv,_⟩:=h;exact⟨a,cap,hv⟩
theorem VJ {base m sz:Nat}{t:TypeId}(h:w.ownsRow base t sz (.slice a n cap) m xs):n<=cap:=by
 rcases h.2 with⟨hv,_⟩|⟨g,cp,dW,hv,_,_,hc,_⟩
 ·injection hv with _ h1 h2;omega
 ·injection hv with _ h1 h2;omega
theorem En {l:List (List UInt8)}(h:bA s=some l):l.length<=8/\∀ x∈l,x.length<=16:=by
 obtain⟨h1,h2⟩:=wg h;refine⟨h1,λx hx=>?_⟩;have:=h2 x hx;simp only[aJ,awo,awt]at this;exact this.1.1.2
def QK (A:Int->Nat):Except Int (Int×List UInt8)->Value
 | .ok (k,s)=>.tuple #[.pointer (some ⟨A k,0,none⟩),.string ⟨s.toArray⟩,.int .i64 0]
 | .error e=>.tuple #[.pointer none,.string ⟨#[]⟩,.int .i64 e]
section
variable {w:World}{p tb:Nat}{T:Tr}{A M:Int->Nat}{role:Nat->dE}{d:Int->Nat}{off:Int->Int}
theorem QL (h:aS w p T tb A M role)(hw:mU T d off)(he:yK w)(path:List UInt8)(hp:path.length<4294967281):
  Calls prog 244 #[.pointer (some ⟨p,0,none⟩),.string ⟨path.toArray⟩] w λe w'=>e=.returned (QK A (iG T path))/\af w w':=by
 obtain⟨HT,HW,He,Hp⟩:=K4 h hw he hp;clear h hw he hp;go_enter func244,ntmps244;go_wp2_with fail;refine(xf path w He.o Hp.o).mono ?_;rintro e w1 ⟨v,rfl,ho,hk⟩;obtain⟨HR,sE,HK⟩:=K3 (Db ho) (HT.keep hk) hk;obtain⟨a,cap,hv⟩:=tg HR.o;rw[oq]at hv;have On:(eT path).length<=cap:=by rw[hv]at ho;exact VJ ho
 clear ho hk;obtain⟨L,hL⟩:∃ L,eT path=L:=⟨_,rfl⟩
 obtain⟨pe,yD⟩:∃ pe,jZ path=pe:=⟨_,rfl⟩
 rw[yD];clear yD;rcases fA L with rfl|⟨q,s,rfl⟩
 ·rw[hL]at hv;subst hv;have Hv:Hid (iG T path=.error 142):=Z (by unfold iG;rw[show(bA path).getD []=[]from hL];rfl);clear hL;go_wp2;go_ret3;exact⟨by rw[Hv.o];rfl,HK.o⟩
 ·rw[hL]at hv HR On;obtain⟨N,hN⟩:∃ N,q.length=N:=⟨_,rfl⟩
  have UG:v=.slice a (N+1) cap:=by rw[hv];simp[hN]
  subst UG;obtain⟨hR0,b,o,rfl,c0⟩:=QI HR.o hN;have Zl:=Z hR0;have hpo:bA path=some (q++[s]):=by
   cases h:bA path with
   |none=>rw[eT,h]at hL;simp at hL
   |some l=>rw[eT,h]at hL;exact axi some hL
  have hcp:N+1<=cap:=by simp[hN]at On;omega
  clear On;have Hl:=Z (En hpo);have Hv:Hid (iG T path=match bi T 1 q with
    | .error e=>.error e
    | .ok k=>match T.get k with
     |none=>.error 141
     |some up=>if up.dir=false then .error 143 else if(jU s up.names).isSome=true then .error 142 else if 60<=up.names.length then .error 145 else .ok (k,s)):=Z (by
   unfold iG;rw[hpo];simp only[awG,List.dropLast_concat,List.getLastD_concat];rw[awf sp7]
   cases bi T 1 q with
   |error e=>rfl
   |ok k=>cases T.get k<;>rfl)
  have Hq:Hid (q.length=N):=Z hN;have hN8:N<=7:=by have:=Hl.1;simp at this;omega
  have Hfo:Hid (∀ k,bi T 1 q=.ok k->∃ n,T.get k=some n):=Z (λk hk=>by
   obtain⟨r,hr,h1,_⟩:=HW.root;obtain⟨n,hn,hk⟩:=(uT HW.o q 1 k ⟨r,hr,h1⟩ hk).1;exact⟨n,(aG HW.sorted).2 ⟨hn,hk⟩⟩)
  clear hL hv hR0 hpo hN HR;go_wp2_with fail;refine(QH sE.o HW.o _ q Zl.o (by have:=Hq.o;omega) (λx hx=>by have:=Hl.2 x (by simp[hx]);omega)).mono ?_;rintro e w2 ⟨rfl,dK⟩;have c1:w2.cell? ⟨b,o+N,none⟩=some (.string ⟨s.toArray⟩):=by rw[dK.cell (p:=⟨b,o+N,none⟩) (am c0) id];exact c0
  obtain⟨bJ,sC⟩:=K2 (HK.keep dK) (sE.keep dK);clear dK c0
  cases hf:bi T 1 q with
  |error e=>
   rw[hf]at Hv;have eG:e=141\/e=143:=wj _ _ _ hf;have hq:(e==0)=false:=by rw[awO];omega
   clear hf eG c1;unfold QG;go_wp2;go_ret3;exact⟨by rw[Hv.o];rfl,bJ.o⟩
  |ok k=>
   obtain⟨up,yo⟩:=Hfo.o k hf;rw[hf]at Hv;have d1:w2.cell? ⟨A k,1,none⟩=some (.bool up.dir):=sC.cell HW.sorted yo 1;have d4:w2.cell? ⟨A k,4,none⟩=some (.map (if up.dir=true then some (M k)else none)):=sC.cell HW.sorted yo 4;obtain⟨hm,rx⟩:=(aG HW.sorted).1 yo;unfold QG
   cases hd:up.dir with
   |false=>
    rw[hd]at d1;have Om:Hid (iG T path=.error 143):=Z (by rw[Hv.o];simp only[yo];rw[awd hd]);clear hd d4 yo hf hm rx c1;go_wp2;go_ret3;exact⟨by rw[Om.o];rfl,bJ.o⟩
   |true=>
    rw[hd]at d1 d4;rw[awd rfl]at d4;have r1:=sC.lookN HW.sorted yo hd s (by have:=Hl.2 s sp7;omega);have eA:=sC.names up hm hd;rw[rx]at eA;have r2:=λty=>iC.len eA underlying244 ty;have AE:=(HW.names up hm).1
    cases hg:jU s up.names with
    |some j=>
     rw[hg]at r1;have Om:Hid (iG T path=.error 142):=Z (by rw[Hv.o];simp[yo,hd,hg]);clear hd hg yo hf hm rx eA r2 AE;go_wp2;go_ret3;exact⟨by rw[Om.o];rfl,bJ.o⟩
    |none=>
     rw[hg]at r1;by_cases hb:60<=up.names.length
     ·have Om:Hid (iG T path=.error 145):=Z (by rw[Hv.o];simp[yo,hd,hg,hb]);have fh:(60:Int)<=up.names.length:=J
      clear hd hg yo hf hm rx eA hb;go_wp2;go_ret3;exact⟨by rw[Om.o];rfl,bJ.o⟩
     ·have Om:Hid (iG T path=.ok (k,s)):=Z (by rw[Hv.o];simp[yo,hd,hg,hb]);have fh:¬(60:Int)<=up.names.length:=J
      clear hd hg yo hf hm rx eA hb;go_wp2;go_ret3;exact⟨by rw[Om.o];rfl,bJ.o⟩
end
end
end Go.Proofs.YtkghpdcloaiflaaGreatDoor
section
namespace Go.Proofs
open Go.Proofs.YtkghpdcloaiflaaGreatDoor (kr7 ck7 ak7 J sp7 dc7 Z)
open Go.Shelf
def Tryz.keysI_ren:Go.Shelf.Ren:=⟨λ|7=>204|10=>256|n=>n,λ|23=>247|26=>3|3=>243|28=>147|0=>0|27=>146|33=>130|4=>4|n=>n,λ|n=>n⟩
theorem Tryz.keysI:Go.Proofs.SlLaysZI.n7 prog Tryz.keysI_ren:={
 mixed:=kr7
 f7:=⟨Tryz.f204.name,by decide,func204.trans ck7⟩
 f10:=⟨Tryz.f256.name,by decide,func256.trans ck7⟩
 t0:=underlying0
 a0:=Tryz.isAgg0
 z0:=Tryz.sizeOf0
 v0:=zeroValue0
 t4:=underlying4
 a4:=Tryz.isAgg4
 z4:=Tryz.sizeOf4
 v4:=zeroValue4
 t23:=underlying247
 a23:=Tryz.isAgg247
 z23:=Tryz.sizeOf247
 v23:=zeroValue247
 t26:=underlying3
 a26:=Tryz.isAgg3
 z26:=Tryz.sizeOf3
 v26:=zeroValue3
 t27:=underlying146
 a27:=Tryz.isAgg146
 z27:=Tryz.sizeOf146
 v27:=zeroValue146
 t28:=underlying147
 a28:=Tryz.isAgg147
 z28:=Tryz.sizeOf147
 v28:=zeroValue147
 t33:=underlying130
 a33:=Tryz.isAgg130
 z33:=Tryz.sizeOf130
 v33:=zeroValue130 }
def Tryz.sortedI_ren:Go.Shelf.Ren:=⟨λ|6=>203|8=>103|9=>255|11=>175|13=>300|12=>299|23=>330|24=>331|14=>321|15=>322|16=>323|17=>324|18=>325|19=>326|20=>327|21=>328|22=>329|25=>347|26=>348|27=>349|28=>350|29=>351|30=>352|31=>358|n=>n,λ|26=>3|28=>147|24=>46|0=>0|3=>3|37=>188|48=>322|50=>181|4=>4|40=>421|39=>420|45=>179|5=>5|9=>9|51=>434|55=>438|57=>442|58=>39|33=>130|n=>n,λ|n=>n⟩
theorem Tryz.sortedI:Go.Proofs.SlLaysZI.n6 prog Tryz.sortedI_ren:={
 mixed:=kr7
 f6:=⟨Tryz.f203.name,by decide,func203.trans ck7⟩
 f8:=⟨Tryz.f103.name,by decide,func103.trans ck7⟩
 f11:=⟨Tryz.f175.name,by decide,func175.trans ck7⟩
 t0:=underlying0
 a0:=Tryz.isAgg0
 z0:=Tryz.sizeOf0
 v0:=zeroValue0
 t24:=underlying46
 a24:=Tryz.isAgg46
 z24:=Tryz.sizeOf46
 v24:=zeroValue46
 t26:=underlying3
 a26:=Tryz.isAgg3
 z26:=Tryz.sizeOf3
 v26:=zeroValue3
 t28:=underlying147
 a28:=Tryz.isAgg147
 z28:=Tryz.sizeOf147
 v28:=zeroValue147
 i26:=by kernel_rfl }
def Tryz.sortI_ren:Go.Shelf.Ren:=⟨λ|5=>255|8=>300|7=>299|19=>330|20=>331|10=>321|11=>322|12=>323|13=>324|14=>325|15=>326|16=>327|17=>328|18=>329|30=>347|31=>348|32=>349|33=>350|34=>351|35=>352|40=>358|n=>n,λ|23=>46|25=>3|3=>3|32=>188|22=>46|0=>0|44=>322|46=>181|4=>4|36=>421|35=>420|41=>179|5=>5|9=>9|53=>434|57=>438|63=>442|64=>39|n=>n,λ|n=>n⟩
theorem Tryz.sortI:Go.Proofs.SlLaysM.n5 prog Tryz.sortI_ren:={
 mixed:=kr7
 f5:=⟨Tryz.f255.name,by decide,func255.trans ck7⟩
 f7:=⟨Tryz.f299.name,by decide,func299.trans ck7⟩
 f8:=func300.trans ck7
 f10:=⟨Tryz.f321.name,by decide,func321.trans ck7⟩
 f11:=⟨Tryz.f322.name,by decide,func322.trans ck7⟩
 f12:=⟨Tryz.f323.name,by decide,func323.trans ck7⟩
 f13:=⟨Tryz.f324.name,by decide,func324.trans ck7⟩
 f14:=⟨Tryz.f325.name,by decide,func325.trans ck7⟩
 f15:=⟨Tryz.f326.name,by decide,func326.trans ck7⟩
 f16:=⟨Tryz.f327.name,by decide,func327.trans ck7⟩
 f17:=⟨Tryz.f328.name,by decide,func328.trans ck7⟩
 f18:=⟨Tryz.f329.name,by decide,func329.trans ck7⟩
 f19:=func330.trans ck7
 f20:=func331.trans ck7
 f30:=⟨Tryz.f347.name,by decide,func347.trans ck7⟩
 f31:=func348.trans ck7
 f32:=func349.trans ck7
 f33:=⟨Tryz.f350.name,by decide,func350.trans ck7⟩
 f34:=⟨Tryz.f351.name,by decide,func351.trans ck7⟩
 f35:=⟨Tryz.f352.name,by decide,func352.trans ck7⟩
 f40:=⟨Tryz.f358.name,by decide,func358.trans ck7⟩
 t0:=underlying0
 a0:=Tryz.isAgg0
 z0:=Tryz.sizeOf0
 v0:=zeroValue0
 t3:=underlying3
 a3:=Tryz.isAgg3
 z3:=Tryz.sizeOf3
 v3:=zeroValue3
 t4:=underlying4
 a4:=Tryz.isAgg4
 z4:=Tryz.sizeOf4
 v4:=zeroValue4
 t5:=underlying5
 a5:=Tryz.isAgg5
 z5:=Tryz.sizeOf5
 v5:=zeroValue5
 t9:=underlying9
 a9:=Tryz.isAgg9
 z9:=Tryz.sizeOf9
 v9:=zeroValue9
 t22:=underlying46
 a22:=Tryz.isAgg46
 z22:=Tryz.sizeOf46
 v22:=zeroValue46
 t23:=underlying46
 a23:=Tryz.isAgg46
 z23:=Tryz.sizeOf46
 v23:=zeroValue46
 t25:=underlying3
 a25:=Tryz.isAgg3
 z25:=Tryz.sizeOf3
 v25:=zeroValue3
 t32:=underlying188
 a32:=Tryz.isAgg188
 z32:=Tryz.sizeOf188
 v32:=zeroValue188
 t35:=underlying420
 a35:=Tryz.isAgg420
 z35:=Tryz.sizeOf420
 v35:=zeroValue420
 t36:=underlying421
 a36:=Tryz.isAgg421
 z36:=Tryz.sizeOf421
 v36:=zeroValue421
 t41:=underlying179
 a41:=Tryz.isAgg179
 z41:=Tryz.sizeOf179
 v41:=zeroValue179
 t44:=underlying322
 a44:=Tryz.isAgg322
 z44:=Tryz.sizeOf322
 v44:=zeroValue322
 t46:=underlying181
 a46:=Tryz.isAgg181
 z46:=Tryz.sizeOf181
 v46:=zeroValue181
 t53:=underlying434
 a53:=Tryz.isAgg434
 z53:=Tryz.sizeOf434
 v53:=zeroValue434
 t57:=underlying438
 a57:=Tryz.isAgg438
 z57:=Tryz.sizeOf438
 v57:=zeroValue438
 t63:=underlying442
 a63:=Tryz.isAgg442
 z63:=Tryz.sizeOf442
 v63:=zeroValue442
 t64:=underlying39
 a64:=Tryz.isAgg39
 z64:=Tryz.sizeOf39
 v64:=zeroValue39 }
def Tryz.keysS_ren:Go.Shelf.Ren:=⟨λ|7=>302|10=>334|n=>n,λ|23=>244|26=>9|3=>3|28=>393|0=>0|27=>392|33=>48|4=>4|n=>n,λ|n=>n⟩
theorem Tryz.keysS:Go.Proofs.SlLaysZ.n7 prog Tryz.keysS_ren:={
 mixed:=kr7
 f7:=⟨Tryz.f302.name,by decide,func302.trans ck7⟩
 f10:=⟨Tryz.f334.name,by decide,func334.trans ck7⟩
 t0:=underlying0
 a0:=Tryz.isAgg0
 z0:=Tryz.sizeOf0
 v0:=zeroValue0
 t4:=underlying4
 a4:=Tryz.isAgg4
 z4:=Tryz.sizeOf4
 v4:=zeroValue4
 t23:=underlying244
 a23:=Tryz.isAgg244
 z23:=Tryz.sizeOf244
 v23:=zeroValue244
 t26:=underlying9
 a26:=Tryz.isAgg9
 z26:=Tryz.sizeOf9
 v26:=zeroValue9
 t27:=underlying392
 a27:=Tryz.isAgg392
 z27:=Tryz.sizeOf392
 v27:=zeroValue392
 t28:=underlying393
 a28:=Tryz.isAgg393
 z28:=Tryz.sizeOf393
 v28:=zeroValue393
 t33:=underlying48
 a33:=Tryz.isAgg48
 z33:=Tryz.sizeOf48
 v33:=zeroValue48 }
def Tryz.sortedS_ren:Go.Shelf.Ren:=⟨λ|6=>301|8=>332|9=>333|11=>353|13=>300|12=>354|23=>330|24=>331|14=>359|15=>360|16=>361|17=>362|18=>363|19=>364|20=>365|21=>366|22=>367|25=>369|26=>348|27=>349|28=>370|29=>371|30=>372|31=>373|n=>n,λ|26=>9|28=>393|24=>149|0=>0|3=>3|37=>188|48=>322|50=>181|4=>4|40=>421|39=>420|45=>179|5=>5|9=>9|51=>434|55=>438|57=>442|58=>39|33=>48|n=>n,λ|n=>n⟩
theorem Tryz.sortedS:Go.Proofs.SlLaysZ.n6 prog Tryz.sortedS_ren:={
 mixed:=kr7
 f6:=⟨Tryz.f301.name,by decide,func301.trans ck7⟩
 f8:=⟨Tryz.f332.name,by decide,func332.trans ck7⟩
 f11:=⟨Tryz.f353.name,by decide,func353.trans ck7⟩
 t0:=underlying0
 a0:=Tryz.isAgg0
 z0:=Tryz.sizeOf0
 v0:=zeroValue0
 t24:=underlying149
 a24:=Tryz.isAgg149
 z24:=Tryz.sizeOf149
 v24:=zeroValue149
 t26:=underlying9
 a26:=Tryz.isAgg9
 z26:=Tryz.sizeOf9
 v26:=zeroValue9
 t28:=underlying393
 a28:=Tryz.isAgg393
 z28:=Tryz.sizeOf393
 v28:=zeroValue393
 i26:=by kernel_rfl }
def Tryz.sortS_ren:Go.Shelf.Ren:=⟨λ|6=>333|8=>300|9=>354|19=>330|20=>331|21=>359|22=>360|23=>361|24=>362|25=>363|26=>364|27=>365|28=>366|29=>367|36=>369|31=>348|32=>349|37=>370|38=>371|39=>372|41=>373|n=>n,λ|27=>149|29=>9|3=>3|32=>188|26=>149|0=>0|44=>322|46=>181|4=>4|36=>421|35=>420|41=>179|5=>5|9=>9|53=>434|57=>438|63=>442|64=>39|n=>n,λ|n=>n⟩
theorem Tryz.sortS:Go.Proofs.SlLaysM.n6 prog Tryz.sortS_ren:={
 mixed:=kr7
 f6:=⟨Tryz.f333.name,by decide,func333.trans ck7⟩
 f8:=func300.trans ck7
 f9:=⟨Tryz.f354.name,by decide,func354.trans ck7⟩
 f19:=func330.trans ck7
 f20:=func331.trans ck7
 f21:=⟨Tryz.f359.name,by decide,func359.trans ck7⟩
 f22:=⟨Tryz.f360.name,by decide,func360.trans ck7⟩
 f23:=⟨Tryz.f361.name,by decide,func361.trans ck7⟩
 f24:=⟨Tryz.f362.name,by decide,func362.trans ck7⟩
 f25:=⟨Tryz.f363.name,by decide,func363.trans ck7⟩
 f26:=⟨Tryz.f364.name,by decide,func364.trans ck7⟩
 f27:=⟨Tryz.f365.name,by decide,func365.trans ck7⟩
 f28:=⟨Tryz.f366.name,by decide,func366.trans ck7⟩
 f29:=⟨Tryz.f367.name,by decide,func367.trans ck7⟩
 f31:=func348.trans ck7
 f32:=func349.trans ck7
 f36:=⟨Tryz.f369.name,by decide,func369.trans ck7⟩
 f37:=⟨Tryz.f370.name,by decide,func370.trans ck7⟩
 f38:=⟨Tryz.f371.name,by decide,func371.trans ck7⟩
 f39:=⟨Tryz.f372.name,by decide,func372.trans ck7⟩
 f41:=⟨Tryz.f373.name,by decide,func373.trans ck7⟩
 t0:=underlying0
 a0:=Tryz.isAgg0
 z0:=Tryz.sizeOf0
 v0:=zeroValue0
 t3:=underlying3
 a3:=Tryz.isAgg3
 z3:=Tryz.sizeOf3
 v3:=zeroValue3
 t4:=underlying4
 a4:=Tryz.isAgg4
 z4:=Tryz.sizeOf4
 v4:=zeroValue4
 t5:=underlying5
 a5:=Tryz.isAgg5
 z5:=Tryz.sizeOf5
 v5:=zeroValue5
 t9:=underlying9
 a9:=Tryz.isAgg9
 z9:=Tryz.sizeOf9
 v9:=zeroValue9
 t26:=underlying149
 a26:=Tryz.isAgg149
 z26:=Tryz.sizeOf149
 v26:=zeroValue149
 t27:=underlying149
 a27:=Tryz.isAgg149
 z27:=Tryz.sizeOf149
 v27:=zeroValue149
 t29:=underlying9
 a29:=Tryz.isAgg9
 z29:=Tryz.sizeOf9
 v29:=zeroValue9
 t32:=underlying188
 a32:=Tryz.isAgg188
 z32:=Tryz.sizeOf188
 v32:=zeroValue188
 t35:=underlying420
 a35:=Tryz.isAgg420
 z35:=Tryz.sizeOf420
 v35:=zeroValue420
 t36:=underlying421
 a36:=Tryz.isAgg421
 z36:=Tryz.sizeOf421
 v36:=zeroValue421
 t41:=underlying179
 a41:=Tryz.isAgg179
 z41:=Tryz.sizeOf179
 v41:=zeroValue179
 t44:=underlying322
 a44:=Tryz.isAgg322
 z44:=Tryz.sizeOf322
 v44:=zeroValue322
 t46:=underlying181
 a46:=Tryz.isAgg181
 z46:=Tryz.sizeOf181
 v46:=zeroValue181
 t53:=underlying434
 a53:=Tryz.isAgg434
 z53:=Tryz.sizeOf434
 v53:=zeroValue434
 t57:=underlying438
 a57:=Tryz.isAgg438
 z57:=Tryz.sizeOf438
 v57:=zeroValue438
 t63:=underlying442
 a63:=Tryz.isAgg442
 z63:=Tryz.sizeOf442
 v63:=zeroValue442
 t64:=underlying39
 a64:=Tryz.isAgg39
 z64:=Tryz.sizeOf39
 v64:=zeroValue39 }
def Tryz.cloneN_ren:Go.Shelf.Ren:=⟨λ|5=>191|7=>243|n=>n,λ|23=>244|25=>9|3=>3|4=>4|20=>20|n=>n,λ|n=>n⟩
theorem Tryz.cloneN:Go.Proofs.SlLaysW.n5 prog Tryz.cloneN_ren:={
 mixed:=kr7
 f5:=⟨Tryz.f191.name,by decide,func191.trans ck7⟩
 f7:=func243.trans ck7
 t4:=underlying4
 a4:=Tryz.isAgg4
 z4:=Tryz.sizeOf4
 v4:=zeroValue4
 t20:=underlying20
 a20:=Tryz.isAgg20
 z20:=Tryz.sizeOf20
 v20:=zeroValue20
 t23:=underlying244
 a23:=Tryz.isAgg244
 z23:=Tryz.sizeOf244
 v23:=zeroValue244 }
end Go.Proofs
end
