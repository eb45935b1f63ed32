import Derived.Test.YtkghpdcloaiflaaGreatDoorE10
import Derived.Test.YtkghpdcloaiflaaGreatDoorE22
import Derived.Lib.ItoaLen
import Derived.Shelf.SlGeneric
import Derived.Shelf.SlIterI.Nil
import Derived.Ground.GgzProg
import Derived.Shelf.SlIter.Nil
import Derived.Ground.SlmcProg
import Derived.Shelf.SlMaps.Clone
set_option maxHeartbeats 2000000
set_option maxRecDepth 100000
namespace Go.Proofs.YtkghpdcloaiflaaGreatDoor
open _root_.Go.Proofs.Tryz
section
open Go.RowKit
def lh (c:bP):Value:=if c.ok=true then .tuple #[.string ⟨c.line.toArray⟩,.int .i64 0]else .tuple #[.string ⟨#[]⟩,.int .i64 130]
theorem Mi {k f:Nat}(h:f∈fieldsOf k):1<=f/\f<=5:=by
 rcases(by omega:k=0\/k=1\/k=2\/k=3\/k=4\/k=5\/k=6\/k=7\/k=8\/9<=k)with e|e|e|e|e|e|e|e|e|e
 all_goals first|(subst e;simp[fieldsOf]at h;omega)|skip
 rw[show fieldsOf k=[]from by unfold fieldsOf;split<;>first|omega|rfl]at h
 cases h
theorem xp (k:Nat):(fieldsOf k).length<=3:=by unfold fieldsOf;split<;>simp
theorem YR (kind:Int):WU kind<=9:=by unfold WU;split<;>omega
theorem kF {c:bP}(hc:c.Small)(f:Nat):(c.fieldText f).length<=2199023255553:=by
 unfold bP.fieldText;split
 ·have:=hc.dest;omega
 ·have:=Lib.itoa_length_le c.pos hc.pos.1 hc.pos.2;omega
 ·have:=hc.data;unfold rU;split
  ·simp
  ·rw[tu];omega
 ·have:=hc.path;omega
def fh (c:bP)(fs:List Nat)(k:Nat):bP:=(fs.take k).foldl (fun b f=>b.take f (c.fieldText f)) ⟨c.kind,[],[],0,[]⟩
theorem Ib (c:bP)(fs:List Nat):fh c fs fs.length=c.bare fs:=by rw[fh,auF];rfl
theorem D8 (c:bP)(fs:List Nat){k f:Nat}(h:fs[k]?=some f):fh c fs (k+1)=(fh c fs k).take f (c.fieldText f):=by
 rw[fh,fh,auD,h,Option.toList_some,List.foldl_append];rfl
theorem Qm (k:Nat):(cP k).length<=6:=by unfold cP;split<;>simp
theorem Qn {c:bP}(hc:c.Small)(K:Nat):(Lib.join (cP K::(fieldsOf K).map c.fieldText) [32]).length<=8796093022208:=by
 have hw:=Qm K;have h1:=kF hc 1;have h2:=kF hc 2;have h3:=kF hc 3;have h4:=kF hc 4;have h5:=kF hc 5;rw[Lib.join_length];unfold fieldsOf;split<;>simp[Lib.lens]<;>omega
theorem tD (c:bP)(w:World)(he:tr w)(hc:c.Small):
  Calls prog 62 #[gt c] w fun e w'=>e=.returned (lh c)/\af w w':=by
 have He:=hd0 he;have Hc:=hd0 hc;clear he hc;go_enter func62,ntmps62;unfold gt bL;go_wp2_with fail;refine(Qi c.kind _).mono ?_;rintro e w1 ⟨v,rfl,hr,hk⟩;have Kq:World.blk w1 w.heap.size (bL c) 55:=ab hk (aw w (bL c) _) id;have jp:=hd0 Kq;have bU:Hid (af w w1):=hd0 (((ah.refl _ _).alloc (.cells (bL c) 55)).keep hk);obtain⟨c0,c1,c2,c3,c4⟩:=cE Kq;obtain⟨fa,arj,rfl,hF⟩:=hr;have HF:=hd0 hF;have XY:=hd0 (aco c);obtain⟨K,hK⟩:∃ K,WU c.kind=K:=⟨_,rfl⟩
 have hK9:=YR c.kind;rw[hK]at XY HF hK9 ⊢;have HKK:=hd0 hK;obtain⟨N,hN⟩:∃ N,(fieldsOf K).length=N:=⟨_,rfl⟩
 have hN3:=xp K;rw[Qg,show(pW K).length=N from by simp[pW,hN]];rw[hN]at hN3;have HN:=hd0 hN;clear hk hF Kq hK hN
 go_upto_region 4 with(fail)
 have jI:Hid (World.blk ((w1.alloc (.cells (bL (fh c (fieldsOf K) 0)) 55)).alloc (.cells (aF [cP K]) 9)) w.heap.size (bL c) 55):=hd0 (aH (aH jp.out _) _);have lE:Hid (World.blk ((w1.alloc (.cells (bL (fh c (fieldsOf K) 0)) 55)).alloc (.cells (aF [cP K]) 9)) w1.heap.size (bL (fh c (fieldsOf K) 0)) 55):=hd0 (aH (aw _ _ _) _);have KI:Hid (iz ((w1.alloc (.cells (bL (fh c (fieldsOf K) 0)) 55)).alloc (.cells (aF [cP K]) 9)) (w1.heap.size+1) (.slice (some ⟨w1.heap.size+1,0,none⟩) 1 1) [cP K]):=hd0 (D0 (l:=[cP K]) (ba (by simp) _ _) (auE _) (by simp[maxLen]));have bu:Hid (af w ((w1.alloc (.cells (bL (fh c (fieldsOf K) 0)) 55)).alloc (.cells (aF [cP K]) 9))):=hd0 ((bU.out.alloc _).alloc _);have dZ:Hid (ah (fun b=>w1.heap.size<=b) w1 ((w1.alloc (.cells (bL (fh c (fieldsOf K) 0)) 55)).alloc (.cells (aF [cP K]) 9))):=hd0 (((ah.refl _ _).alloc _).alloc _);have Hs:Hid (w1.heap.size+1<((w1.alloc (.cells (bL (fh c (fieldsOf K) 0)) 55)).alloc (.cells (aF [cP K]) 9)).heap.size):=hd0 (by simp);have aaW:w.heap.size<w1.heap.size:=ai jp.out;have HFl:Hid (∀ j x,(Md (pW K))[j]?=some x->∃ b o,fa=some ⟨b,o,none⟩/\b<w1.heap.size/\w1.cell? ⟨b,o+j,none⟩=some x):=hd0 (fun j x hx=>by
  obtain⟨b,o,e,hc⟩:=HF.out j x hx;exact⟨b,o,e,ak hc,hc⟩)
 clear c0 c1 c2 c3 c4 jp bU HF;go_wp2_with fail;change Code.wp _ _ _ _ ((w1.alloc (.cells (bL (fh c (fieldsOf K) 0)) 55)).alloc (.cells (aF [cP K]) 9));generalize (w1.alloc (.cells (bL (fh c (fieldsOf K) 0)) 55)).alloc (.cells (aF [cP K]) 9)=w2 at*;generalize w1.heap.size=B1 at*
 go_loopw [7,25] (fun v i wr=>∃ k:Nat,k<=N/\i=.int .i64 (k:Int)/\World.blk wr w.heap.size (bL c) 55/\World.blk wr B1 (bL (fh c (fieldsOf K) k)) 55/\iz wr (B1+1) v (cP K::((fieldsOf K).take k).map c.fieldText)/\af w wr/\ah (fun b=>B1<=b) w1 wr/\B1+1<wr.heap.size/\(∀ f∈(fieldsOf K).take k,c.fieldOk f=true)) (fun _ i _=>N-(intOf i).toNat)
 case atStart=>exact⟨0,by omega,rfl,jI.out,lE.out,by simpa using KI.out,bu.out,dZ.out,Hs.out,by simp⟩
 case round=>
  clear jI lE KI bu dZ Hs;obtain⟨k,hk,rfl,hB,hX,hV,hK,hM,hs,hA⟩:=hrel;have HB:=hd0 hB;have HX:=hd0 hX;have HV:=hd0 hV;have HK:=hd0 hK;have HM:=hd0 hM;have HA:=hd0 hA;have Hs:=hd0 hs;clear hB hX hV hK hM hA hs;by_cases aL:k<N
  ·obtain⟨f,hf⟩:∃ f,(fieldsOf K)[k]?=some f:=⟨_,auB (by rw[HN.out];exact aL)⟩
   have Hf:=hd0 hf;have Hf5:=hd0 (Mi (auC hf));obtain⟨b,o,rfl,RL,hc⟩:=HFl.out k (.int .i64 (f:Int)) (by simp[Md,pW,hf]);have BM:wr.cell? ⟨b,o+k,none⟩=some (.int .i64 (f:Int)):=by rw[HM.out.cell (p:=⟨b,o+k,none⟩) (ak hc) (by simp;omega)];exact hc
   clear hf hc RL;go_wp2_with fail;refine(Mh c f Hf5.out w.heap.size wr (He.out.keep HK.out) Hc.out HB.out).mono ?_;rintro e w3 ⟨rfl,dw⟩;have ox:=hd0 (ab dw HB.out id);have qw:=hd0 (ab dw HX.out id);have TM:=hd0 (iA HV.out dw);have dZ:=hd0 (HK.out.keep dw);have nW:=hd0 (HM.out.keep dw);have Hs3:=hd0 (auL Hs.out dw.size);clear dw HB HX HV HK HM Hs BM;rcases cq:c.fieldOk f with _|_
   ·have Hn:Hid (c.ok=false):=hd0 (by
     rw[bP.ok,XY.out];have:(fieldsOf K).all c.fieldOk=false:=by
      rw[Bool.eq_false_iff];intro h;have:=auU.1 h f (auC Hf.out);rw[cq]at this;cases this
     rw[this];simp)
    clear cq;go_wp2;go_ret2;exact⟨by rw[lh,Hn.out];rfl,dZ.out⟩
   ·have VY:Hid (∀ g∈(fieldsOf K).take (k+1),c.fieldOk g=true):=hd0 (fun g hg=>by
     rw[auD,Hf.out]at hg;rcases avE.1 hg with h|h
     ·exact HA.out g h
     ·simp at h;subst h;exact cq)
    clear cq;have Htl:=hd0 (kF Hc.out f);have Hmp:Hid (cP K::((fieldsOf K).take (k+1)).map c.fieldText=(cP K::((fieldsOf K).take k).map c.fieldText)++[c.fieldText f]):=hd0 (by
     rw[auD,Hf.out];simp)
    have Hbs:=hd0 (D8 c (fieldsOf K) Hf.out);generalize NI:cP K::((fieldsOf K).take k).map c.fieldText=kn at*;have OO:kn.length<=4:=by rw[<-NI];simp;omega
    clear NI;obtain⟨v2,w4,hr,ho,de,gV⟩:=kM (P:=prog) underlying149 vU rfl (B1+1) u7 _ _ w3 w TM.out [.string ⟨(c.fieldText f).toArray⟩] (by intro u hu;simp at hu;subst hu;rfl) (by simp[maxLen];omega) (by simp;omega) (by have:=Hs3.out;omega) dZ.out (by omega);have Hr1:=hd0 hr;have HV4:=hd0 (yG (ys:=[c.fieldText f]) ho);have ou:=hd0 de;have FG:=hd0 (ab gV ox.out (by simp;omega));have B3:=hd0 (ab gV qw.out (by simp));have rH:=hd0 (nW.out.trans gV (fun i _ h=>by omega));have Hs4:=hd0 (auL Hs3.out gV.size);clear hr ho de gV TM ox qw nW dZ Hs3;go_wp2_with ((at_builtin;refine aB Hr1.out rfl rfl rfl rfl ?_));refine(Ql (fh c (fieldsOf K) k) f Hf5.out (c.fieldText f) B1 w4 (He.out.keep ou.out) (by have:=Htl.out;omega) B3.out).mono ?_;rintro e w5 ⟨rfl,zc,ZX⟩;have uP:=hd0 ZX;have F0:=hd0 (ab zc FG.out (by omega));have HV5:=hd0 (JG HV4.out zc (fun b hb e=>by omega));have lZ:=hd0 (ou.out.new zc (by omega));have Cr:=hd0 (rH.out.trans zc (fun i _ h=>by omega));have Hs5:=hd0 (auL Hs4.out zc.size);clear zc ZX;go_wp2_with fail;exact⟨⟨k+1,by omega,by go_num,F0.out,by rw[Hbs.out];exact uP.out,by rw[Hmp.out];exact HV5.out,lZ.out,Cr.out,Hs5.out,VY.out⟩,by simp[intOf];omega⟩
  ·obtain rfl:k=N:=by omega
   have e1:fh c (fieldsOf K) k=c.bare (fieldsOf K):=by rw[<-HN.out];exact Ib _ _
   have e2:(fieldsOf K).take k=fieldsOf K:=avl (by rw[HN.out];exact auE _);rw[e1]at HX;rw[e2]at HV HA;clear e1 e2;by_cases Wa:K=9
   ·have Hn:Hid (c.ok=false):=hd0 (by rw[bP.ok,XY.out,Wa];rfl);have hw:cP K=[]:=by rw[Wa];rfl
    rw[hw];clear hw Wa;go_wp2;go_ret2;exact⟨by rw[lh,Hn.out];rfl,HK.out⟩
   ·have ql:Hid (K<9):=hd0 (by omega);have FP:(cP K==[])=false:=by
     rcases(by omega:K=0\/K=1\/K=2\/K=3\/K=4\/K=5\/K=6\/K=7\/K=8)with e|e|e|e|e|e|e|e|e<;>rw[e]<;>rfl
    have Yt:(cP K).isEmpty=false:=by
     rcases(by omega:K=0\/K=1\/K=2\/K=3\/K=4\/K=5\/K=6\/K=7\/K=8)with e|e|e|e|e|e|e|e|e<;>rw[e]<;>rfl
    obtain⟨c0,c1,c2,c3,c4⟩:=cE HB.out;clear Wa;by_cases hbc:c.bare (fieldsOf K)=c
    ·have Hn:Hid (c.ok=true):=hd0 (by
      rw[bP.ok,XY.out];simp only[auT,auY];exact⟨ql.out,auU.2 HA.out,bP.eqB_iff.2 hbc⟩)
     have Hl:Hid (c.line=Lib.join (cP K::(fieldsOf K).map c.fieldText) [32]):=hd0 (by rw[bP.line,XY.out];rfl);rw[hbc]at HX;obtain⟨d0,d1,d2,d3,d4⟩:=cE HX.out;clear hbc;go_wp2_with fail;refine(O5 32 (cP K::(fieldsOf K).map c.fieldText) (B1+1) _ wr HV.out (by have:=xp K;simp;omega) (aux (Qn Hc.out K) (by decide))).mono ?_;rintro e w3 ⟨rfl,dw⟩;have dZ:=hd0 (HK.out.keep dw);clear dw c0 c1 c2 c3 c4 d0 d1 d2 d3 d4;go_wp2;go_ret2;exact⟨by rw[lh,Hn.out,Hl.out];rfl,dZ.out⟩
    ·have Hn:Hid (c.ok=false):=hd0 (by
      rw[bP.ok,XY.out,Bool.eq_false_iff];intro h;simp only[auT]at h;exact hbc (bP.eqB_iff.1 h.2.2))
     obtain⟨d0,d1,d2,d3,d4⟩:=cE HX.out;have Hbc:=hd0 hbc;clear hbc
     go_upto_region 14 with(fail)
     all_goals first
      |(go_wp2;go_ret2;exact⟨by rw[lh,Hn.out];rfl,HK.out⟩)
      |(exfalso;exact Hbc.out (bP.ext' (by assumption) (by assumption) (by assumption) (by assumption) (by assumption)))
end
section
open Go.RowKit
inductive cT
 |none
 |tree
 |of
 |node (k:Int)
 |names (k:Int)
def jT (n:Nd)(m:Nat):Array Value:=#[.int .i64 n.num,.bool n.dir,.int .i64 n.links,.string ⟨n.data.toArray⟩,.map (if n.dir=true then some m else none)]
abbrev Ic (w:World)(b:Nat)(l:Nm):Prop:=fu prog 9 3 w b l
abbrev Mj (w:World)(b:Nat)(l:List (Int×Nat)):Prop:=dG prog 3 w b l
def cm (T:Tr)(A:Int->Nat):List (Int×Nat):=T.map fun n=>(n.num,A n.num)
structure aI (w:World)(p:Nat)(T:Tr)(tb:Nat)(A M:Int->Nat)(role:Nat->cT):Prop where
 tree:World.blk w p #[.map (some tb)] 249
 rtree:role p=.tree
 of:Mj w tb (cm T A)
 rof:role tb=.of
 node:∀ n∈T,World.blk w (A n.num) (jT n (M n.num)) 246
 rnode:∀ n∈T,role (A n.num)=.node n.num
 names:∀ n∈T,n.dir=true->Ic w (M n.num) n.names
 rnames:∀ n∈T,n.dir=true->role (M n.num)=.names n.num
 lt:∀ b,role b≠.none->b<w.heap.size
theorem aI.mod {w w':World}{p:Nat}{T:Tr}{tb:Nat}{A M:Int->Nat}{role:Nat->cT}{S:Nat->Prop}(h:aI w p T tb A M role)(m:ah S w w')(hS:∀ b,role b≠.none->¬ S b):aI w' p T tb A M role where
 tree:=ab m h.tree (hS p (by rw[h.rtree];exact cT.noConfusion))
 rtree:=h.rtree
 of:=h.of.mod m (hS tb (by rw[h.rof];exact cT.noConfusion))
 rof:=h.rof
 node n hn:=ab m (h.node n hn) (hS _ (by rw[h.rnode n hn];exact cT.noConfusion))
 rnode:=h.rnode
 names n hn hd:=(h.names n hn hd).mod m (hS _ (by rw[h.rnames n hn hd];exact cT.noConfusion))
 rnames:=h.rnames
 lt b hb:=auL (h.lt b hb) m.size
theorem aI.keep {w w':World}{p:Nat}{T:Tr}{tb:Nat}{A M:Int->Nat}{role:Nat->cT}(h:aI w p T tb A M role)(m:af w w'):aI w' p T tb A M role:=h.mod m fun _ _=>id
theorem pY (T:Tr)(A:Int->Nat)(k:Int):bF k (cm T A)=(T.get k).map fun n=>A n.num:=by
 unfold bF cm Tr.get;rw[List.find?_map,Option.map_map];rfl
theorem Qo {T:Tr}{A:Int->Nat}{k:Int}{n:Nd}(h:T.get k=some n)(hs:df T):bF k (cm T A)=some (A k):=by
 rw[pY,h];have:=((ax hs).1 h).2;simp[this]
theorem Ab (W:World):(zeroValue 243).run prog W=.ok (.pointer none) W:=by kernel_rfl
theorem D9 (W:World):(zeroValue 3).run prog W=.ok (.int .i64 0) W:=by kernel_rfl
section
variable {w:World}{p tb:Nat}{T:Tr}{A M:Int->Nat}{role:Nat->cT}{d:Int->Nat}{off:Int->Int}
theorem aI.look1 (h:aI w p T tb A M role)(hs:df T){k:Int}{n:Nd}(hg:T.get k=some n)(hk:-9223372036854775808<=k/\k<=9223372036854775807):
  (Instr.lookup 247 (.map (some tb)) (.int .i64 k) false).run prog w=.ok (.pointer (some ⟨A k,0,none⟩)) w:=by
 have:=dG.look1 h.of underlying247 underlying3 (Ab w) k hk;rw[this,Qo hg hs];rfl
theorem aI.cell (h:aI w p T tb A M role)(hs:df T){k:Int}{n:Nd}(hg:T.get k=some n)(i:Nat):w.cell? ⟨A k,i,none⟩=(jT n (M k))[i]?:=by
 obtain⟨hm,hk⟩:=(ax hs).1 hg;have:=h.node n hm;rw[hk]at this;exact aa this i
theorem aI.lookN (h:aI w p T tb A M role)(hs:df T){k:Int}{n:Nd}(hg:T.get k=some n)(hd:n.dir=true)(s:List UInt8)(hl:s.length<=140737488355328):
  (Instr.lookup 244 (.map (some (M k))) (.string ⟨s.toArray⟩) true).run prog w=.ok (.tuple #[.int .i64 ((jP s n.names).getD 0),.bool (jP s n.names).isSome]) w:=by
 obtain⟨hm,hk⟩:=(ax hs).1 hg;have:=h.names n hm hd;rw[hk]at this;exact fu.look this underlying244 underlying9 underlying3 (D9 w) s hl
def lj (A:Int->Nat):Except Int Int->Value
 | .ok k=>.tuple #[.pointer (some ⟨A k,0,none⟩),.int .i64 0]
 | .error e=>.tuple #[.pointer none,.int .i64 e]
theorem xr (h:aI w p T tb A M role)(hw:ne T d off)(v:Value)(l:List (List UInt8))(hv:eJ w v (uI l))(hl:l.length<=1000000)(hs:∀ s∈l,s.length<=1000000):
  Calls prog 289 #[.pointer (some ⟨p,0,none⟩),v] w fun e w'=>e=.returned (lj A (aX T 1 l))/\af w w':=by
 obtain⟨a,cap,rfl,hx⟩:=hv;rw[kO];obtain⟨r,hr,_⟩:=hw.get1;have HT:=hd0 h;have HW:=hd0 hw;have HX:=hd0 hx;have HS:=hd0 hs;have c0:w.cell? ⟨p,0,none⟩=some (.map (some tb)):=aa h.tree 0;have r0:=h.look1 hw.sorted hr (by decide);have Hr:=hd0 hr;have lA:(l.length:Int)<=9223372036854775807:=by omega
 clear h hw hx hs hr hl;go_enter func289,ntmps289;go_wp2_with fail
 go_loop [6,18] (fun n i=>∃(i0:Nat) (k:Int) (nd:Nd),i0<=l.length/\i=.int .i64 (i0:Int)/\n=.pointer (some ⟨A k,0,none⟩)/\Hid (T.get k=some nd/\aX T 1 l=aX T k (l.drop i0))) (fun _ i=>l.length-(intOf i).toNat)
 case atStart=>exact⟨0,1,r,by omega,rfl,rfl,hd0 ⟨Hr.out,rfl⟩⟩
 case round=>
  clear r0 Hr;obtain⟨i0,k,nd,hi,rfl,rfl,Hk⟩:=hrel;by_cases aL:i0<l.length
  ·obtain⟨s,hs⟩:∃ s,l[i0]?=some s:=⟨_,auB aL⟩
   have Hs:=hd0 hs;have BX:Hid (aX T 1 l=aX T k (s::l.drop (i0+1))):=hd0 (by
    rw[Hk.out.2];congr 1;rw[List.drop_eq_getElem_cons aL]
    congr 1
    exact avG ((auB aL).symm.trans hs))
   obtain⟨b,o,rfl,cs⟩:=HX.out i0 (.string ⟨s.toArray⟩) (by simp[uI,hs]);clear hs;have c1:w.cell? ⟨A k,1,none⟩=some (.bool nd.dir):=HT.out.cell HW.out.sorted Hk.out.1 1;have c4:w.cell? ⟨A k,4,none⟩=some (.map (if nd.dir=true then some (M k)else none)):=HT.out.cell HW.out.sorted Hk.out.1 4
   cases hd:nd.dir with
   |false=>
    rw[hd]at c1;have Hv:Hid (aX T 1 l=.error 143):=hd0 (by rw[BX.out,kx,Hk.out.1];simp[hd]);clear hd c4;go_wp2;go_ret2;exact⟨by rw[Hv.out];rfl,ah.refl _ _⟩
   |true=>
    rw[hd]at c1 c4;rw[auI rfl]at c4;have r1:=HT.out.lookN HW.out.sorted Hk.out.1 hd s (by have:=HS.out s (auC Hs.out);omega)
    cases hg:jP s nd.names with
    |none=>
     rw[hg]at r1;have Hv:Hid (aX T 1 l=.error 141):=hd0 (by rw[BX.out,kx,Hk.out.1];simp[hd,hg]);clear hd hg;go_wp2;go_ret2;exact⟨by rw[Hv.out];rfl,ah.refl _ _⟩
    |some j=>
     rw[hg]at r1;have Hv:Hid (aX T 1 l=aX T j (l.drop (i0+1))):=hd0 (by rw[BX.out,kx,Hk.out.1];simp[hd,hg]);obtain⟨hm,_⟩:=(ax HW.out.sorted).1 Hk.out.1;obtain⟨_,nj,KJ,Fr⟩:=HW.out.closed nd hm _ ((cC (HW.out.snames nd hm)).1 hg);have hgj:=(ax HW.out.sorted).2 ⟨KJ,Fr⟩;have hjb:-9223372036854775808<=j/\j<=9223372036854775807:=by
      have:=HW.out.nums nj KJ;simp only at Fr;omega
     have r2:=HT.out.look1 HW.out.sorted hgj hjb;have Hgj:=hd0 hgj;clear hd hg hm KJ Fr hgj;go_wp2_with fail;exact⟨⟨i0+1,j,nj,by omega,by go_num,rfl,hd0 ⟨Hgj.out,Hv.out⟩⟩,by simp[intOf];omega⟩
  ·have Hv:Hid (aX T 1 l=.ok k):=hd0 (by
    rw[Hk.out.2,List.drop_of_length_le (by omega)];rfl)
   go_wp2;go_ret2;exact⟨by rw[Hv.out];rfl,ah.refl _ _⟩
end
end
section
open Go.RowKit
theorem gF {P:Program}{id:Nat}{Q:Exit->Act->World->Prop}{a:Act}{w:World}{l:List Oper}(hm:P.follows .mixedOrders=true)(hB:Region.lexB .any l.toArray=true)
  (h:wpQuiet P l.toArray (fun w'=>∃ m,w'=w.drewN m) (fun a'=>∀ w',(∃ m,w'=w.drewN m)->Q .normal a' w') l a):(Code.region id l.toArray true).wp P Q a w:=
 wp_region_quiet (C:=fun w'=>∃ m,w'=w.drewN m) hm hB ⟨1,rfl⟩ (by simpa using h)
theorem Ea {w:World}{a:Option Addr}{cap M:Nat}{p:List (List UInt8)}{s:List UInt8}(h:eJ w (.slice a (M+1) cap) (uI (p++[s])))(hM:p.length=M):eJ w (.slice a M cap) (uI p)/\∃ b o,a=some ⟨b,o,none⟩/\w.cell? ⟨b,o+M,none⟩=some (.string ⟨s.toArray⟩):=by
 obtain⟨a',WE,hv,hx⟩:=h;injection hv with e1 _ _;subst e1;refine⟨⟨a,cap,by rw[kO,hM],fun j x hj=>hx j x ?_⟩,?_⟩
 ·have aL:=(auP.1 hj).1;rw[kO]at aL;simp only[uI,List.map_append]at hj ⊢;rw[List.getElem?_append_left (by simpa using aL)];exact hj
 ·obtain⟨b,o,e,hc⟩:=hx M (.string ⟨s.toArray⟩) (by simp[uI,<-hM]);exact⟨b,o,e,hc⟩
theorem Qp {w:World}{a:Option Addr}{n cap:Nat}{xs:List Value}(h:eJ w (.slice a n cap) xs){j:Nat}{x:Value}(hx:xs[j]?=some x):∃ b o,a=some ⟨b,o,none⟩/\w.cell? ⟨b,o+j,none⟩=some x:=by
 obtain⟨a',WE,hv,hc⟩:=h;injection hv with e1 _ _;subst e1;exact hc j x hx
theorem mJ {w:World}{v:Value}{xs:List Value}(h:eJ w v xs):∃ a cap,v=.slice a xs.length cap:=by
 obtain⟨a,cap,hv,_⟩:=h;exact⟨a,cap,hv⟩
theorem J3 {w:World}{base m n sz:Nat}{t:TypeId}{a:Option Addr}{cap:Nat}{xs:List Value}(h:w.ownsRow base t sz (.slice a n cap) m xs):n<=cap:=by
 rcases h.2 with⟨hv,_⟩|⟨g,cp,dz,hv,_,_,hc,_⟩
 ·injection hv with _ h1 h2;omega
 ·injection hv with _ h1 h2;omega
theorem jE {s:List UInt8}{l:List (List UInt8)}(h:bg s=some l):l.length<=8/\∀ x∈l,x.length<=16:=by
 obtain⟨h1,h2⟩:=ww h;refine⟨h1,fun x hx=>?_⟩;have:=h2 x hx;simp only[aG,auT,auY]at this;exact this.1.1.2
def xt (A:Int->Nat):Except Int (Int×List UInt8)->Value
 | .ok (k,s)=>.tuple #[.pointer (some ⟨A k,0,none⟩),.string ⟨s.toArray⟩,.int .i64 0]
 | .error e=>.tuple #[.pointer none,.string ⟨#[]⟩,.int .i64 e]
section
variable {w:World}{p tb:Nat}{T:Tr}{A M:Int->Nat}{role:Nat->cT}{d:Int->Nat}{off:Int->Int}
theorem Bm (h:aI w p T tb A M role)(hw:ne T d off)(he:tr w)(path:List UInt8)(hp:path.length<4294967281):
  Calls prog 245 #[.pointer (some ⟨p,0,none⟩),.string ⟨path.toArray⟩] w fun e w'=>e=.returned (lj A (zE T path))/\af w w':=by
 have HT:=hd0 h;have HW:=hd0 hw;have He:=hd0 he;have Hp:=hd0 hp;clear h hw he hp;go_enter func245,ntmps245;go_wp2_with fail;refine(mI path w He.out Hp.out).mono ?_;rintro e w1 ⟨v,rfl,ho,hk⟩
 cases sM:bg path with
 |none=>
  have Hv:Hid (zE T path=.error 140):=hd0 (by rw[zE,sM]);have e1:eP path=130:=by rw[eP,sM];rfl
  have HK:=hd0 hk;rw[e1];clear ho hk sM e1;go_wp2;go_ret2;exact⟨by rw[Hv.out];rfl,HK.out⟩
 |some l=>
  have Hv:Hid (zE T path=aX T 1 l):=hd0 (by rw[zE,sM]);have e1:eP path=0:=by rw[eP,sM];rfl
  have e2:cU path=l:=by rw[cU,sM];rfl
  rw[e2]at ho;rw[e1];have HR:=hd0 (oO ho);have iN:=hd0 (HT.out.keep hk);have HK:=hd0 hk;have Hl:=hd0 (jE sM);clear ho hk sM e1 e2;go_wp2_with fail;refine(xr iN.out HW.out v l HR.out (by have:=Hl.out.1;omega) (fun s hs=>by have:=Hl.out.2 s hs;omega)).mono ?_;rintro e w2 ⟨rfl,de⟩;have bu:=hd0 (HK.out.keep de);clear de;rw[<-Hv.out]
  cases hx:zE T path with
  |ok k=>
   have Hx:=hd0 hx;clear hx;unfold lj;go_wp2;go_ret2;exact⟨by rw[Hx.out];rfl,bu.out⟩
  |error e=>
   have Hx:=hd0 hx;clear hx;unfold lj;go_wp2;go_ret2;exact⟨by rw[Hx.out];rfl,bu.out⟩
theorem xu (h:aI w p T tb A M role)(hw:ne T d off)(he:tr w)(path:List UInt8)(hp:path.length<4294967281):
  Calls prog 244 #[.pointer (some ⟨p,0,none⟩),.string ⟨path.toArray⟩] w fun e w'=>e=.returned (xt A (gC T path))/\af w w':=by
 have HT:=hd0 h;have HW:=hd0 hw;have He:=hd0 he;have Hp:=hd0 hp;clear h hw he hp;go_enter func244,ntmps244;go_wp2_with fail;refine(mI path w He.out Hp.out).mono ?_;rintro e w1 ⟨v,rfl,ho,hk⟩;have HR:=hd0 (oO ho);have iN:=hd0 (HT.out.keep hk);have HK:=hd0 hk;obtain⟨a,cap,hv⟩:=mJ HR.out;rw[kO]at hv;have yY:(cU path).length<=cap:=by rw[hv]at ho;exact J3 ho
 clear ho hk;obtain⟨L,hL⟩:∃ L,cU path=L:=⟨_,rfl⟩
 obtain⟨pe,sZ⟩:∃ pe,eP path=pe:=⟨_,rfl⟩
 rw[sZ];clear sZ;rcases fJ L with rfl|⟨q,s,rfl⟩
 ·rw[hL]at hv;subst hv;have Hv:Hid (gC T path=.error 142):=hd0 (by unfold gC;rw[show(bg path).getD []=[]from hL];rfl);clear hL;go_wp2;go_ret3;exact⟨by rw[Hv.out];rfl,HK.out⟩
 ·rw[hL]at hv HR yY;obtain⟨N,hN⟩:∃ N,q.length=N:=⟨_,rfl⟩
  have OP:v=.slice a (N+1) cap:=by rw[hv];simp[hN]
  subst OP;obtain⟨Ww,b,o,rfl,c0⟩:=Ea HR.out hN;have TR:=hd0 Ww;have sM:bg path=some (q++[s]):=by
   cases h:bg path with
   |none=>rw[cU,h]at hL;simp at hL
   |some l=>rw[cU,h]at hL;exact avO some hL
  have hcp:N+1<=cap:=by simp[hN]at yY;omega
  clear yY;have Hl:=hd0 (jE sM);have Hv:Hid (gC T path=match aX T 1 q with
    | .error e=>.error e
    | .ok k=>match T.get k with
     |none=>.error 141
     |some up=>if up.dir=false then .error 143 else if(jP s up.names).isSome=true then .error 142 else if 60<=up.names.length then .error 145 else .ok (k,s)):=hd0 (by
   unfold gC;rw[sM];simp only[avb,List.dropLast_concat,List.getLastD_concat];rw[auK (by simp)]
   cases aX T 1 q with
   |error e=>rfl
   |ok k=>cases T.get k<;>rfl)
  have Hq:Hid (q.length=N):=hd0 hN;have hN8:N<=7:=by have:=Hl.out.1;simp at this;omega
  have Hfo:Hid (∀ k,aX T 1 q=.ok k->∃ n,T.get k=some n):=hd0 (fun k hk=>by
   obtain⟨r,hr,h1,_⟩:=HW.out.root;obtain⟨n,hn,hk⟩:=(vh HW.out q 1 k ⟨r,hr,h1⟩ hk).1;exact⟨n,(ax HW.out.sorted).2 ⟨hn,hk⟩⟩)
  clear hL hv Ww sM hN HR;go_wp2_with fail;refine(xr iN.out HW.out _ q TR.out (by have:=Hq.out;omega) (fun x hx=>by have:=Hl.out.2 x (by simp[hx]);omega)).mono ?_;rintro e w2 ⟨rfl,de⟩;have c1:w2.cell? ⟨b,o+N,none⟩=some (.string ⟨s.toArray⟩):=by rw[de.cell (p:=⟨b,o+N,none⟩) (ak c0) id];exact c0
  have bu:=hd0 (HK.out.keep de);have mR:=hd0 (iN.out.keep de);clear de c0
  cases hf:aX T 1 q with
  |error e=>
   rw[hf]at Hv;have dW:e=141\/e=143:=wH _ _ _ hf;have hq:(e==0)=false:=by rw[avj];omega
   clear hf dW c1;unfold lj;go_wp2;go_ret3;exact⟨by rw[Hv.out];rfl,bu.out⟩
  |ok k=>
   obtain⟨up,yh⟩:=Hfo.out k hf;rw[hf]at Hv;have d1:w2.cell? ⟨A k,1,none⟩=some (.bool up.dir):=mR.out.cell HW.out.sorted yh 1;have d4:w2.cell? ⟨A k,4,none⟩=some (.map (if up.dir=true then some (M k)else none)):=mR.out.cell HW.out.sorted yh 4;obtain⟨hm,oz⟩:=(ax HW.out.sorted).1 yh;unfold lj
   cases hd:up.dir with
   |false=>
    rw[hd]at d1;have t6:Hid (gC T path=.error 143):=hd0 (by rw[Hv.out];simp only[yh];rw[auI hd]);clear hd d4 yh hf hm oz c1;go_wp2;go_ret3;exact⟨by rw[t6.out];rfl,bu.out⟩
   |true=>
    rw[hd]at d1 d4;rw[auI rfl]at d4;have r1:=mR.out.lookN HW.out.sorted yh hd s (by have:=Hl.out.2 s (by simp);omega);have cw:=mR.out.names up hm hd;rw[oz]at cw;have r2:=fun ty=>fu.len cw underlying244 ty;have sW:=(HW.out.names up hm).1
    cases hg:jP s up.names with
    |some j=>
     rw[hg]at r1;have t6:Hid (gC T path=.error 142):=hd0 (by rw[Hv.out];simp[yh,hd,hg]);clear hd hg yh hf hm oz cw r2 sW;go_wp2;go_ret3;exact⟨by rw[t6.out];rfl,bu.out⟩
    |none=>
     rw[hg]at r1;by_cases hb:60<=up.names.length
     ·have t6:Hid (gC T path=.error 145):=hd0 (by rw[Hv.out];simp[yh,hd,hg,hb]);have fi:(60:Int)<=up.names.length:=by omega
      clear hd hg yh hf hm oz cw hb;go_wp2;go_ret3;exact⟨by rw[t6.out];rfl,bu.out⟩
     ·have t6:Hid (gC T path=.ok (k,s)):=hd0 (by rw[Hv.out];simp[yh,hd,hg,hb]);have fi:¬(60:Int)<=up.names.length:=by omega
      clear hd hg yh hf hm oz cw hb;go_wp2;go_ret3;exact⟨by rw[t6.out];rfl,bu.out⟩
end
end
end Go.Proofs.YtkghpdcloaiflaaGreatDoor
section
namespace Go.Proofs
open Go.Shelf
def Tryz.keysI_ren:Go.Shelf.Ren:=⟨fun|7=>204|10=>256|n=>n,fun|23=>247|26=>3|3=>243|28=>147|0=>0|27=>146|33=>130|4=>4|n=>n,fun|n=>n⟩
theorem Tryz.keysI:Go.Proofs.SlLaysZI.n7 prog Tryz.keysI_ren:={
 mixed:=by kernel_rfl
 f7:=⟨Tryz.f204.name,by decide,func204.trans (congrArg some (by kernel_rfl))⟩
 f10:=⟨Tryz.f256.name,by decide,func256.trans (congrArg some (by kernel_rfl))⟩
 t0:=underlying0
 a0:=Tryz.isAgg0
 z0:=Tryz.sizeOf0
 v0:=zeroValue0
 t4:=underlying4
 a4:=Tryz.isAgg4
 z4:=Tryz.sizeOf4
 v4:=zeroValue4
 t23:=underlying247
 a23:=Tryz.isAgg247
 z23:=Tryz.sizeOf247
 v23:=zeroValue247
 t26:=underlying3
 a26:=Tryz.isAgg3
 z26:=Tryz.sizeOf3
 v26:=zeroValue3
 t27:=underlying146
 a27:=Tryz.isAgg146
 z27:=Tryz.sizeOf146
 v27:=zeroValue146
 t28:=underlying147
 a28:=Tryz.isAgg147
 z28:=Tryz.sizeOf147
 v28:=zeroValue147
 t33:=underlying130
 a33:=Tryz.isAgg130
 z33:=Tryz.sizeOf130
 v33:=zeroValue130 }
def Tryz.sortedI_ren:Go.Shelf.Ren:=⟨fun|6=>203|8=>103|9=>255|11=>175|13=>300|12=>299|23=>330|24=>331|14=>321|15=>322|16=>323|17=>324|18=>325|19=>326|20=>327|21=>328|22=>329|25=>347|26=>348|27=>349|28=>350|29=>351|30=>352|31=>358|n=>n,fun|26=>3|28=>147|24=>46|0=>0|3=>3|37=>188|48=>322|50=>181|4=>4|40=>421|39=>420|45=>179|5=>5|9=>9|51=>434|55=>438|57=>442|58=>39|33=>130|n=>n,fun|n=>n⟩
theorem Tryz.sortedI:Go.Proofs.SlLaysZI.n6 prog Tryz.sortedI_ren:={
 mixed:=by kernel_rfl
 f6:=⟨Tryz.f203.name,by decide,func203.trans (congrArg some (by kernel_rfl))⟩
 f8:=⟨Tryz.f103.name,by decide,func103.trans (congrArg some (by kernel_rfl))⟩
 f11:=⟨Tryz.f175.name,by decide,func175.trans (congrArg some (by kernel_rfl))⟩
 t0:=underlying0
 a0:=Tryz.isAgg0
 z0:=Tryz.sizeOf0
 v0:=zeroValue0
 t24:=underlying46
 a24:=Tryz.isAgg46
 z24:=Tryz.sizeOf46
 v24:=zeroValue46
 t26:=underlying3
 a26:=Tryz.isAgg3
 z26:=Tryz.sizeOf3
 v26:=zeroValue3
 t28:=underlying147
 a28:=Tryz.isAgg147
 z28:=Tryz.sizeOf147
 v28:=zeroValue147
 i26:=by kernel_rfl }
def Tryz.sortI_ren:Go.Shelf.Ren:=⟨fun|5=>255|8=>300|7=>299|19=>330|20=>331|10=>321|11=>322|12=>323|13=>324|14=>325|15=>326|16=>327|17=>328|18=>329|30=>347|31=>348|32=>349|33=>350|34=>351|35=>352|40=>358|n=>n,fun|23=>46|25=>3|3=>3|32=>188|22=>46|0=>0|44=>322|46=>181|4=>4|36=>421|35=>420|41=>179|5=>5|9=>9|53=>434|57=>438|63=>442|64=>39|n=>n,fun|n=>n⟩
theorem Tryz.sortI:Go.Proofs.SlLaysM.n5 prog Tryz.sortI_ren:={
 mixed:=by kernel_rfl
 f5:=⟨Tryz.f255.name,by decide,func255.trans (congrArg some (by kernel_rfl))⟩
 f7:=⟨Tryz.f299.name,by decide,func299.trans (congrArg some (by kernel_rfl))⟩
 f8:=func300.trans (congrArg some (by kernel_rfl))
 f10:=⟨Tryz.f321.name,by decide,func321.trans (congrArg some (by kernel_rfl))⟩
 f11:=⟨Tryz.f322.name,by decide,func322.trans (congrArg some (by kernel_rfl))⟩
 f12:=⟨Tryz.f323.name,by decide,func323.trans (congrArg some (by kernel_rfl))⟩
 f13:=⟨Tryz.f324.name,by decide,func324.trans (congrArg some (by kernel_rfl))⟩
 f14:=⟨Tryz.f325.name,by decide,func325.trans (congrArg some (by kernel_rfl))⟩
 f15:=⟨Tryz.f326.name,by decide,func326.trans (congrArg some (by kernel_rfl))⟩
 f16:=⟨Tryz.f327.name,by decide,func327.trans (congrArg some (by kernel_rfl))⟩
 f17:=⟨Tryz.f328.name,by decide,func328.trans (congrArg some (by kernel_rfl))⟩
 f18:=⟨Tryz.f329.name,by decide,func329.trans (congrArg some (by kernel_rfl))⟩
 f19:=func330.trans (congrArg some (by kernel_rfl))
 f20:=func331.trans (congrArg some (by kernel_rfl))
 f30:=⟨Tryz.f347.name,by decide,func347.trans (congrArg some (by kernel_rfl))⟩
 f31:=func348.trans (congrArg some (by kernel_rfl))
 f32:=func349.trans (congrArg some (by kernel_rfl))
 f33:=⟨Tryz.f350.name,by decide,func350.trans (congrArg some (by kernel_rfl))⟩
 f34:=⟨Tryz.f351.name,by decide,func351.trans (congrArg some (by kernel_rfl))⟩
 f35:=⟨Tryz.f352.name,by decide,func352.trans (congrArg some (by kernel_rfl))⟩
 f40:=⟨Tryz.f358.name,by decide,func358.trans (congrArg some (by kernel_rfl))⟩
 t0:=underlying0
 a0:=Tryz.isAgg0
 z0:=Tryz.sizeOf0
 v0:=zeroValue0
 t3:=underlying3
 a3:=Tryz.isAgg3
 z3:=Tryz.sizeOf3
 v3:=zeroValue3
 t4:=underlying4
 a4:=Tryz.isAgg4
 z4:=Tryz.sizeOf4
 v4:=zeroValue4
 t5:=underlying5
 a5:=Tryz.isAgg5
 z5:=Tryz.sizeOf5
 v5:=zeroValue5
 t9:=underlying9
 a9:=Tryz.isAgg9
 z9:=Tryz.sizeOf9
 v9:=zeroValue9
 t22:=underlying46
 a22:=Tryz.isAgg46
 z22:=Tryz.sizeOf46
 v22:=zeroValue46
 t23:=underlying46
 a23:=Tryz.isAgg46
 z23:=Tryz.sizeOf46
 v23:=zeroValue46
 t25:=underlying3
 a25:=Tryz.isAgg3
 z25:=Tryz.sizeOf3
 v25:=zeroValue3
 t32:=underlying188
 a32:=Tryz.isAgg188
 z32:=Tryz.sizeOf188
 v32:=zeroValue188
 t35:=underlying420
 a35:=Tryz.isAgg420
 z35:=Tryz.sizeOf420
 v35:=zeroValue420
 t36:=underlying421
 a36:=Tryz.isAgg421
 z36:=Tryz.sizeOf421
 v36:=zeroValue421
 t41:=underlying179
 a41:=Tryz.isAgg179
 z41:=Tryz.sizeOf179
 v41:=zeroValue179
 t44:=underlying322
 a44:=Tryz.isAgg322
 z44:=Tryz.sizeOf322
 v44:=zeroValue322
 t46:=underlying181
 a46:=Tryz.isAgg181
 z46:=Tryz.sizeOf181
 v46:=zeroValue181
 t53:=underlying434
 a53:=Tryz.isAgg434
 z53:=Tryz.sizeOf434
 v53:=zeroValue434
 t57:=underlying438
 a57:=Tryz.isAgg438
 z57:=Tryz.sizeOf438
 v57:=zeroValue438
 t63:=underlying442
 a63:=Tryz.isAgg442
 z63:=Tryz.sizeOf442
 v63:=zeroValue442
 t64:=underlying39
 a64:=Tryz.isAgg39
 z64:=Tryz.sizeOf39
 v64:=zeroValue39 }
def Tryz.keysS_ren:Go.Shelf.Ren:=⟨fun|7=>302|10=>334|n=>n,fun|23=>244|26=>9|3=>3|28=>393|0=>0|27=>392|33=>48|4=>4|n=>n,fun|n=>n⟩
theorem Tryz.keysS:Go.Proofs.SlLaysZ.n7 prog Tryz.keysS_ren:={
 mixed:=by kernel_rfl
 f7:=⟨Tryz.f302.name,by decide,func302.trans (congrArg some (by kernel_rfl))⟩
 f10:=⟨Tryz.f334.name,by decide,func334.trans (congrArg some (by kernel_rfl))⟩
 t0:=underlying0
 a0:=Tryz.isAgg0
 z0:=Tryz.sizeOf0
 v0:=zeroValue0
 t4:=underlying4
 a4:=Tryz.isAgg4
 z4:=Tryz.sizeOf4
 v4:=zeroValue4
 t23:=underlying244
 a23:=Tryz.isAgg244
 z23:=Tryz.sizeOf244
 v23:=zeroValue244
 t26:=underlying9
 a26:=Tryz.isAgg9
 z26:=Tryz.sizeOf9
 v26:=zeroValue9
 t27:=underlying392
 a27:=Tryz.isAgg392
 z27:=Tryz.sizeOf392
 v27:=zeroValue392
 t28:=underlying393
 a28:=Tryz.isAgg393
 z28:=Tryz.sizeOf393
 v28:=zeroValue393
 t33:=underlying48
 a33:=Tryz.isAgg48
 z33:=Tryz.sizeOf48
 v33:=zeroValue48 }
def Tryz.sortedS_ren:Go.Shelf.Ren:=⟨fun|6=>301|8=>332|9=>333|11=>353|13=>300|12=>354|23=>330|24=>331|14=>359|15=>360|16=>361|17=>362|18=>363|19=>364|20=>365|21=>366|22=>367|25=>369|26=>348|27=>349|28=>370|29=>371|30=>372|31=>373|n=>n,fun|26=>9|28=>393|24=>149|0=>0|3=>3|37=>188|48=>322|50=>181|4=>4|40=>421|39=>420|45=>179|5=>5|9=>9|51=>434|55=>438|57=>442|58=>39|33=>48|n=>n,fun|n=>n⟩
theorem Tryz.sortedS:Go.Proofs.SlLaysZ.n6 prog Tryz.sortedS_ren:={
 mixed:=by kernel_rfl
 f6:=⟨Tryz.f301.name,by decide,func301.trans (congrArg some (by kernel_rfl))⟩
 f8:=⟨Tryz.f332.name,by decide,func332.trans (congrArg some (by kernel_rfl))⟩
 f11:=⟨Tryz.f353.name,by decide,func353.trans (congrArg some (by kernel_rfl))⟩
 t0:=underlying0
 a0:=Tryz.isAgg0
 z0:=Tryz.sizeOf0
 v0:=zeroValue0
 t24:=underlying149
 a24:=Tryz.isAgg149
 z24:=Tryz.sizeOf149
 v24:=zeroValue149
 t26:=underlying9
 a26:=Tryz.isAgg9
 z26:=Tryz.sizeOf9
 v26:=zeroValue9
 t28:=underlying393
 a28:=Tryz.isAgg393
 z28:=Tryz.sizeOf393
 v28:=zeroValue393
 i26:=by kernel_rfl }
def Tryz.sortS_ren:Go.Shelf.Ren:=⟨fun|6=>333|8=>300|9=>354|19=>330|20=>331|21=>359|22=>360|23=>361|24=>362|25=>363|26=>364|27=>365|28=>366|29=>367|36=>369|31=>348|32=>349|37=>370|38=>371|39=>372|41=>373|n=>n,fun|27=>149|29=>9|3=>3|32=>188|26=>149|0=>0|44=>322|46=>181|4=>4|36=>421|35=>420|41=>179|5=>5|9=>9|53=>434|57=>438|63=>442|64=>39|n=>n,fun|n=>n⟩
theorem Tryz.sortS:Go.Proofs.SlLaysM.n6 prog Tryz.sortS_ren:={
 mixed:=by kernel_rfl
 f6:=⟨Tryz.f333.name,by decide,func333.trans (congrArg some (by kernel_rfl))⟩
 f8:=func300.trans (congrArg some (by kernel_rfl))
 f9:=⟨Tryz.f354.name,by decide,func354.trans (congrArg some (by kernel_rfl))⟩
 f19:=func330.trans (congrArg some (by kernel_rfl))
 f20:=func331.trans (congrArg some (by kernel_rfl))
 f21:=⟨Tryz.f359.name,by decide,func359.trans (congrArg some (by kernel_rfl))⟩
 f22:=⟨Tryz.f360.name,by decide,func360.trans (congrArg some (by kernel_rfl))⟩
 f23:=⟨Tryz.f361.name,by decide,func361.trans (congrArg some (by kernel_rfl))⟩
 f24:=⟨Tryz.f362.name,by decide,func362.trans (congrArg some (by kernel_rfl))⟩
 f25:=⟨Tryz.f363.name,by decide,func363.trans (congrArg some (by kernel_rfl))⟩
 f26:=⟨Tryz.f364.name,by decide,func364.trans (congrArg some (by kernel_rfl))⟩
 f27:=⟨Tryz.f365.name,by decide,func365.trans (congrArg some (by kernel_rfl))⟩
 f28:=⟨Tryz.f366.name,by decide,func366.trans (congrArg some (by kernel_rfl))⟩
 f29:=⟨Tryz.f367.name,by decide,func367.trans (congrArg some (by kernel_rfl))⟩
 f31:=func348.trans (congrArg some (by kernel_rfl))
 f32:=func349.trans (congrArg some (by kernel_rfl))
 f36:=⟨Tryz.f369.name,by decide,func369.trans (congrArg some (by kernel_rfl))⟩
 f37:=⟨Tryz.f370.name,by decide,func370.trans (congrArg some (by kernel_rfl))⟩
 f38:=⟨Tryz.f371.name,by decide,func371.trans (congrArg some (by kernel_rfl))⟩
 f39:=⟨Tryz.f372.name,by decide,func372.trans (congrArg some (by kernel_rfl))⟩
 f41:=⟨Tryz.f373.name,by decide,func373.trans (congrArg some (by kernel_rfl))⟩
 t0:=underlying0
 a0:=Tryz.isAgg0
 z0:=Tryz.sizeOf0
 v0:=zeroValue0
 t3:=underlying3
 a3:=Tryz.isAgg3
 z3:=Tryz.sizeOf3
 v3:=zeroValue3
 t4:=underlying4
 a4:=Tryz.isAgg4
 z4:=Tryz.sizeOf4
 v4:=zeroValue4
 t5:=underlying5
 a5:=Tryz.isAgg5
 z5:=Tryz.sizeOf5
 v5:=zeroValue5
 t9:=underlying9
 a9:=Tryz.isAgg9
 z9:=Tryz.sizeOf9
 v9:=zeroValue9
 t26:=underlying149
 a26:=Tryz.isAgg149
 z26:=Tryz.sizeOf149
 v26:=zeroValue149
 t27:=underlying149
 a27:=Tryz.isAgg149
 z27:=Tryz.sizeOf149
 v27:=zeroValue149
 t29:=underlying9
 a29:=Tryz.isAgg9
 z29:=Tryz.sizeOf9
 v29:=zeroValue9
 t32:=underlying188
 a32:=Tryz.isAgg188
 z32:=Tryz.sizeOf188
 v32:=zeroValue188
 t35:=underlying420
 a35:=Tryz.isAgg420
 z35:=Tryz.sizeOf420
 v35:=zeroValue420
 t36:=underlying421
 a36:=Tryz.isAgg421
 z36:=Tryz.sizeOf421
 v36:=zeroValue421
 t41:=underlying179
 a41:=Tryz.isAgg179
 z41:=Tryz.sizeOf179
 v41:=zeroValue179
 t44:=underlying322
 a44:=Tryz.isAgg322
 z44:=Tryz.sizeOf322
 v44:=zeroValue322
 t46:=underlying181
 a46:=Tryz.isAgg181
 z46:=Tryz.sizeOf181
 v46:=zeroValue181
 t53:=underlying434
 a53:=Tryz.isAgg434
 z53:=Tryz.sizeOf434
 v53:=zeroValue434
 t57:=underlying438
 a57:=Tryz.isAgg438
 z57:=Tryz.sizeOf438
 v57:=zeroValue438
 t63:=underlying442
 a63:=Tryz.isAgg442
 z63:=Tryz.sizeOf442
 v63:=zeroValue442
 t64:=underlying39
 a64:=Tryz.isAgg39
 z64:=Tryz.sizeOf39
 v64:=zeroValue39 }
def Tryz.cloneN_ren:Go.Shelf.Ren:=⟨fun|5=>191|7=>243|n=>n,fun|23=>244|25=>9|3=>3|4=>4|20=>20|n=>n,fun|n=>n⟩
theorem Tryz.cloneN:Go.Proofs.SlLaysW.n5 prog Tryz.cloneN_ren:={
 mixed:=by kernel_rfl
 f5:=⟨Tryz.f191.name,by decide,func191.trans (congrArg some (by kernel_rfl))⟩
 f7:=func243.trans (congrArg some (by kernel_rfl))
 t4:=underlying4
 a4:=Tryz.isAgg4
 z4:=Tryz.sizeOf4
 v4:=zeroValue4
 t20:=underlying20
 a20:=Tryz.isAgg20
 z20:=Tryz.sizeOf20
 v20:=zeroValue20
 t23:=underlying244
 a23:=Tryz.isAgg244
 z23:=Tryz.sizeOf244
 v23:=zeroValue244 }
end Go.Proofs
end
