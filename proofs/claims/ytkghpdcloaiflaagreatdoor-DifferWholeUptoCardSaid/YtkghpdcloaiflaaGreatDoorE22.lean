import Derived.Test.YtkghpdcloaiflaaGreatDoorE09
import Derived.Lib.SlTrimSet
import Derived.Deep.RegionWith
import Derived.IntWalk
import Derived.Deep.DeepCutAuto
set_option maxHeartbeats 2000000
set_option maxRecDepth 100000
namespace Go.Proofs.YtkghpdcloaiflaaGreatDoor
open _root_.Go.Proofs.Tryz
section
open Go.RowKit
section
variable {α:Type}{f:α->List Value}{sz:Nat}
theorem DW (hf:∀ a,(f a).length=sz)(l:List α):∀(j i:Nat),i<sz->(l.flatMap f)[j*sz+i]?=(l[j]?).bind fun a=>(f a)[i]?:=by
 induction l with
 |nil=>intro j i _;simp
 |cons x r ih=>
  intro j i hi;rw[avg]
  cases j with
  |zero=>
   rw[Nat.zero_mul,avm,List.getElem?_append_left (by rw[hf];exact hi)];simp
  |succ j=>
   rw[List.getElem?_append_right (by rw[hf,Nat.succ_mul];omega),hf,show(j+1)*sz+i-sz=j*sz+i by rw[Nat.succ_mul];omega,ih j i hi];simp
theorem sj (hf:∀ a,(f a).length=sz)(l:List α):(l.flatMap f).length=l.length*sz:=by
 induction l with
 |nil=>simp
 |cons x r ih=>rw[avg,auS,hf,ih,auA,Nat.succ_mul];omega
def jS (f:α->List Value)(sz:Nat)(w:World)(v:Value)(l:List α):Prop:=
 ∃ a cap,v=.slice a l.length cap/\∀ j x,l[j]?=some x->∃ b o,a=some ⟨b,o,none⟩/\∀ i c,(f x)[i]?=some c->w.cell? ⟨b,o+j*sz+i,none⟩=some c
abbrev dU (f:α->List Value)(sz:Nat)(t:TypeId)(w:World)(base:Nat)(v:Value)(l:List α):Prop:=w.ownsRow base t sz v l.length (l.flatMap f)
theorem bZ (hf:∀ a,(f a).length=sz){w:World}{base:Nat}{t:TypeId}{v:Value}{l:List α}(h:dU f sz t w base v l):jS f sz w v l:=by
 rcases h.2 with⟨rfl,h3⟩|⟨g,cap,dz,rfl,hb,hg,Kk,hm,cK,vt⟩
 ·have hl:l=[]:=au8.1 (by omega);subst hl;exact⟨none,0,rfl,fun j x h=>by simp at h⟩
 ·refine⟨some ⟨g,0,none⟩,cap,rfl,fun j x hx=>⟨g,0,rfl,fun i c hc=>?_⟩⟩;have aL:=(auP.1 hx).1;have hi:i<sz:=by have:=(auP.1 hc).1;rwa [hf]at this
  have h1:=DW hf l j i hi;rw[hx]at h1;simp only[Option.bind_some]at h1;rw[hc,<-vt,List.getElem?_take]at h1;rw[avm];split at h1
  ·simp[World.cell?,hg,<-Array.getElem?_toList,h1]
  ·cases h1
theorem eZ {w w':World}{v:Value}{l:List α}(h:jS f sz w v l)(k:af w w'):jS f sz w' v l:=by
 obtain⟨a,cap,hv,hx⟩:=h;refine⟨a,cap,hv,fun j x hj=>?_⟩;obtain⟨b,o,e,hc⟩:=hx j x hj;exact⟨b,o,e,fun i c hi=>by rw[k.cell (p:=⟨b,o+j*sz+i,none⟩) (ak (hc i c hi)) id];exact hc i c hi⟩
theorem il {t:TypeId}{w w':World}{base n:Nat}{v:Value}{xs:List Value}(h:w.ownsRow base t sz v n xs)(k:af w w'):w'.ownsRow base t sz v n xs:=by
 obtain⟨h1,h2⟩:=h;refine⟨h1,?_⟩;rcases h2 with h2|⟨g,cap,dz,a,b,c,d⟩
 ·exact .inl h2
 ·exact .inr ⟨g,cap,dz,a,b,k.obj c id,d⟩
theorem qs {P:Program}{ts te:TypeId}{z:Value}{bytes:Nat}(hs:P.underlying ts=some (.slice te))(hi:(P.info? te).map (fun i=>(i.zero,i.size,i.bytes))=some (some z,sz,bytes))(hz:z.cells.size=sz)(cK:0<sz)
  (hf:∀ a,(f a).length=sz) (base:Nat) (v:Value) (l:List α) (w w0:World) (bw:dU f sz te w base v l) (x:α) (h1:∀ u∈f x,u.oneCell'=true) (hn:l.length+1<=maxLen) (Cd:(l.length+1)*bytes<=140737488355328)
  (FC:base<=w.heap.size) (h0:af w0 w) (iM:w0.heap.size<=base):
  ∃ v' w',(Builtin.append_ #[ts,ts] ts #[v,.slice (some ⟨w.heap.size,0,none⟩) 1 1]).run P (w.alloc (.cells (f x).toArray te))=.ok v' w'/\dU f sz te w' base v' (l++[x])/\af w0 w'/\ah (fun b=>base<=b) w w':=by
 obtain⟨i0,hi,nX,mZ,oH⟩:=auO hi;obtain⟨v',w',r1,r2,r3,_⟩:=run_append_own (P:=P) (w.alloc (.cells (f x).toArray te)) base ts ts te i0 z sz bytes hs hi nX mZ oH hz cK v l.length (l.flatMap f) (bw.alloc _) ⟨w.heap.size,0,none⟩ 1 1 (f x) (by rw[hf];omega) (fun j u hu=>by
  rw[gA,avm,World.cell?_alloc_at _ _ _ _ rfl];simpa using hu) h1 (by exact hn) Cd (by simp;omega)
 refine⟨v',w',r1,?_,ah.grown (h0.alloc _) r3 (fun k hk=>.inr (aux iM (bw.lt k hk).1)),ah.grown ((ah.refl _ w).alloc _) r3 (fun k hk=>.inl (bw.lt k hk).1)⟩;unfold dU;rw[auR,auS];simpa using r2
end
theorem dQ {w w':World}{o:Obj}(h:af (w.alloc o) w'):af w w':=((ah.refl (fun _=>False) w).alloc o).keep h
theorem Bj {w w':World}(h:af w.drew w'):af w w':=((ah.refl (fun _=>False) w).drew).keep h
def H8 (p:List UInt8×Int):List Value:=[.string ⟨p.1.toArray⟩,.int .i64 p.2]
abbrev YQ (p:List UInt8×Int):Value:=.agg #[.string ⟨p.1.toArray⟩,.int .i64 p.2]
theorem DX:∀ p,(H8 p).length=2:=fun _=>rfl
theorem xl:∀(a b:List UInt8),(!(Op.bytesLess a b||a==b))=bytesBefore b a
 |[],[]=>by simp[bytesBefore]
 |[],_::_=>by simp[bytesBefore,Op.bytesLess]
 |_::_,[]=>by simp[bytesBefore,Op.bytesLess]
 |x::r,y::s=>by
  rw[bytesBefore,<-xl r s,Op.bytesLess,List.cons_beq_cons];by_cases h1:x<y
  ·have h2:¬ y<x:=fun h=>absurd (UInt8.lt_trans h1 h) (UInt8.lt_irrefl _);have h4:¬ y=x:=fun h=>by subst h;exact UInt8.lt_irrefl _ h1
   simp[h1,h2,h4]
  ·by_cases h2:x=y
   ·subst h2;simp[UInt8.lt_irrefl]
   ·have h3:y<x:=by
     rcases UInt8.lt_or_lt_of_ne h2 with h|h
     ·exact absurd h h1
     ·exact h
    simp[h1,h2,h3]
end
section
open Go.RowKit
def nI:List UInt8:=[97,98,99,100,101,102,103,104,105,106,107,108,109,110,111,112,113,114,115,116,117,118,119,120,121,122,48,49,50,51,52,53,54,55,56,57,46,45,95]
theorem DY:∀ n:Fin 256,nI.contains (UInt8.ofNat n.val)=iB (UInt8.ofNat n.val):=by decide +kernel
theorem DZ (c:UInt8):nI.contains c=iB c:=by
 have h:=DY ⟨c.toNat,c.toNat_lt⟩;simpa using h
theorem mj {α:Type}(p:α->Bool)(l:List α):l.dropWhile p=[]↔l.all p=true:=by
 induction l with
 |nil=>simp
 |cons a l ih=>
  rw[List.dropWhile_cons];split
  ·rename_i h;rw[ih,List.all_cons,h,Bool.true_and]
  ·rename_i h;simp[h]
theorem yM {α:Type}(p:α->Bool)(l:List α)(h:(l.dropWhile p).all p=true):l.dropWhile p=[]:=by
 rcases hl:l.dropWhile p with _|⟨a,r⟩
 ·rfl
 ·rw[hl]at h;have:p a=false:=by
   have:=List.head?_dropWhile_not p l;rw[hl]at this;simpa using this
  simp[this]at h
theorem L9 (l cs:List UInt8):Lib.trimS l cs=[]↔l.all (cs.contains ·)=true:=by
 unfold Lib.trimS Lib.trimLeftS Lib.trimRightS;rw[mj,List.all_reverse]
 constructor
 ·intro h;have:=(mj _ _).1 (yM _ _ h)
  rwa [List.all_reverse]at this
 ·intro h;rw[(mj (cs.contains ·) l.reverse).2 (by rw[List.all_reverse];exact h)];rfl
theorem Ma {l:List UInt8}:(Lib.trimS l nI==[])=l.all iB:=by
 rw[avh,ave,L9];have e:(fun c=>nI.contains c)=iB:=funext DZ;rw[e]
theorem so (s:List UInt8)(w:World)(hs:s.length<=140737488355328):
  Calls prog 52 #[.string ⟨s.toArray⟩] w fun e w'=>e=.returned (.bool (aG s))/\af w w':=by
 have HT:=hd0 (Tryz.strings_Trim_laid ⟨s.toArray⟩ ⟨nI.toArray⟩ w (by have:({ data:=s.toArray }:ByteArray).size=s.length:=by simp[ByteArray.size]
                                                                     rw[this];omega) (by decide) (ascii_of_all (by decide)))
 by_cases h0:s=[]
 ·subst h0;go_enter func52,ntmps52;go_wp2;go_ret;exact⟨rfl,ah.refl _ _⟩
 ·have e0:(s==[])=false:=avR h0;have e1:s.isEmpty=false:=by cases s;exact absurd rfl h0;rfl
  have hp:1<=s.length:=by cases s;exact absurd rfl h0;simp
  by_cases h1:s.length<=16
  ·by_cases h2:s=[46]
   ·subst h2;clear HT;go_enter func52,ntmps52;go_wp2;go_ret;exact⟨rfl,ah.refl _ _⟩
   ·by_cases h3:s=[46,46]
    ·subst h3;clear HT;go_enter func52,ntmps52;go_wp2;go_ret;exact⟨rfl,ah.refl _ _⟩
    ·have e2:(s==[46])=false:=avR h2;have e3:(s==[46,46])=false:=avR h3;have Hv:Hid (aG s=s.all iB):=hd0 (by simp[aG,e2,e3,h1,hp]);have h1':(s.length:Int)<=16:=by omega
     have Ht:=hd0 (Ma (l:=s));have Hh:=hd0 (And.intro h0 (And.intro h2 h3));clear h0 h2 h3 h1;go_enter func52,ntmps52;go_wp2_with fail;refine(HT.out).mono ?_;rintro e w1 ⟨rfl,hb⟩;have HK:=hd0 (ah.ofBelow hb);clear hb;have e5:(Lib.trimS s nI==[])=s.all iB:=Ht.out;generalize s.all iB=b at*;generalize Lib.trimS s nI=t at*;go_wp2;go_ret;exact⟨by rw[Hv.out,<-e5];rfl,HK.out⟩
  ·have h1':¬(s.length:Int)<=16:=by omega
   have Hv:Hid (aG s=false):=hd0 (by simp[aG,h1]);clear h0 HT;go_enter func52,ntmps52;go_wp2;go_ret;exact⟨by rw[Hv.out];rfl,ah.refl _ _⟩
end
section
open Go.RowKit
def eP (s:List UInt8):Int:=if(bg s).isSome then 0 else 130
def cU (s:List UInt8):List (List UInt8):=(bg s).getD []
theorem Aa:bg [47]=some []:=by rw[bg,auI rfl]
theorem Qe {s:List UInt8}(h:∀ r,s≠47::r):bg s=none:=by
 unfold bg;split
 ·rename_i r;exact absurd rfl (h r)
 ·rfl
theorem Mb {r:List UInt8}(h:r≠[]):bg (47::r)=if(jZ 47 r).length<=8/\(jZ 47 r).all aG=true then some (jZ 47 r)else none:=by
 rw[bg,auK h]
theorem Mc (r:List UInt8):Lib.trimPrefix (47::r) [47]=r/\Lib.hasPrefix (47::r) [47]=true:=by
 constructor<;>simp[Lib.trimPrefix,Lib.hasPrefix,List.isPrefixOf]
theorem Qf {s:List UInt8}(h:∀ r,s≠47::r):Lib.trimPrefix s [47]=s/\Lib.hasPrefix s [47]=false:=by
 have h1:Lib.hasPrefix s [47]=false:=by
  cases s with
  |nil=>rfl
  |cons c r=>
   have hc:¬ c=47:=fun e=>h r (by rw[e]);simp[Lib.hasPrefix,List.isPrefixOf];exact fun e=>hc e.symm
 exact⟨by rw[Lib.trimPrefix,h1];rfl,h1⟩
theorem vq (w:World)(base:Nat)(t:TypeId):w.ownsRow base t 1 (.slice none 0 0) 0 []:=⟨rfl,.inl ⟨rfl,rfl⟩⟩
theorem D0 {w:World}{b base:Nat}{l:List (List UInt8)}(h:World.blk w b (aF l) 9)(hb:base<=b)(hl:l.length<=maxLen):iz w base (.slice (some ⟨b,0,none⟩) l.length l.length) l:=
 ⟨by simp[aF],.inr ⟨b,l.length,aF l,rfl,hb,h,auE _,hl,by simp[aF],by rw[Nat.mul_one];exact avl (by simp[aF])⟩⟩
theorem mI (s:List UInt8)(w:World)(he:tr w)(hs:s.length<4294967281):
  Calls prog 198 #[.string ⟨s.toArray⟩] w fun e w'=>∃ v,e=.returned (.tuple #[v,.int .i64 (eP s)])/\iz w' w.heap.size v (cU s)/\af w w':=by
 have He:=hd0 he;have Hs:=hd0 hs;clear he hs;by_cases h0:s=[47]
 ·subst h0;go_enter func198,ntmps198;go_wp2;go_ret2;exact⟨_,by rw[eP,Aa];rfl,by rw[cU,Aa];exact vq _ _ _,ah.refl _ _⟩
 ·have e0:(s==[47])=false:=avR h0;by_cases h1:∃ r,s=47::r
  ·obtain⟨r,rfl⟩:=h1;have hr:r≠[]:=fun e=>h0 (by rw[e]);have Hp:=hd0 (Mb hr);have Ht:=hd0 (Mc r);have hlr:r.length<4294967281:=by have:=Hs.out;simp at this;omega
   have Hlr:=hd0 hlr;clear h0 hr hlr;go_enter func198,ntmps198;go_wp2_with fail;refine(qn (47::r) [47] w).mono ?_;rintro e w1 ⟨rfl,hw⟩;subst hw;rw[Ht.out.1,Ht.out.2];go_wp2_with fail;refine(zw 47 r Hlr.out _ He.out).mono ?_;rintro e w2 ⟨rfl,hw⟩;subst hw;have uW:(jZ 47 r).length<=4294967281:=by rw[T8];have:=List.count_le_length (a:=(47:UInt8)) (l:=r);have:=Hlr.out;omega
   have Hnm:Hid (∀ x∈jZ 47 r,x.length<=4294967281):=hd0 (fun x hx=>by
    obtain⟨i,hi⟩:=List.mem_iff_getElem?.1 hx;have h1:=Lb 47 r i;rw[avS,hi]at h1;have:=Hlr.out;simp at h1;omega)
   generalize jZ 47 r=L at*;obtain⟨N,hN⟩:∃ N,L.length=N:=⟨_,rfl⟩
   have HN:=hd0 hN;rw[hN]at uW ⊢;clear e0 hN;have HB:Hid (World.blk (w1.alloc (.cells (aF L) 9)) w1.heap.size (aF L) 9):=hd0 (aw _ _ _);have HK:Hid (af w1 (w1.alloc (.cells (aF L) 9))):=hd0 ((ah.refl _ _).alloc _);by_cases h8:N<=8
   ·have h8':¬(N:Int)>8:=by omega
    go_wp2_with fail;generalize w1.alloc (.cells (aF L) 9)=w2 at*
    go_loopw [27] (fun i wr=>∃ k:Nat,k<=N/\i=.int .i64 (k:Int)/\af w2 wr/\(L.take k).all aG=true) (fun i _=>N-(intOf i).toNat)
    case atStart=>exact⟨0,by omega,rfl,ah.refl _ _,by simp⟩
    case round=>
     obtain⟨k,hk,rfl,hK,hA⟩:=hrel;have HKr:=hd0 hK;have HA:=hd0 hA;clear hK hA;by_cases aL:k<N
     ·obtain⟨x,hx⟩:∃ x,L[k]?=some x:=⟨_,auB (by rw[HN.out];exact aL)⟩
      have Hx:=hd0 hx;have hc:wr.cell? ⟨w1.heap.size,k,none⟩=some (.string ⟨x.toArray⟩):=by
       rw[aa (ab HKr.out HB.out id),Gq,hx];rfl
      clear hx;go_wp2_with fail;refine(so x wr (by have:=Hnm.out x (auC Hx.out);omega)).mono ?_;rintro e w3 ⟨rfl,dw⟩;have dZ:=hd0 (HKr.out.keep dw);clear dw hc;rcases cq:aG x with _|_
      ·have Hn:Hid (bg (47::r)=none):=hd0 (by
        rw[Hp.out,auK];rintro⟨_,h⟩;have:=auU.1 h x (auC Hx.out);rw[cq]at this;cases this)
       clear cq;go_wp2;go_ret2;exact⟨_,by rw[eP,Hn.out];rfl,by rw[cU,Hn.out];exact vq _ _ _,HK.out.keep dZ.out⟩
      ·have VY:Hid ((L.take (k+1)).all aG=true):=hd0 (by
        rw[auD,Hx.out,Option.toList_some,List.all_append,HA.out];simp[cq])
       clear cq;go_wp2_with fail;exact⟨⟨k+1,by omega,by go_num,dZ.out,VY.out⟩,by simp[intOf];omega⟩
     ·have Hn:Hid (bg (47::r)=some L):=hd0 (by
       rw[Hp.out,auI];refine⟨by rw[HN.out];exact h8,?_⟩;have h:=HA.out
       rwa [avl (by rw[HN.out];omega)]at h)
      go_wp2;go_ret2;refine⟨_,by rw[eP,Hn.out];rfl,?_,HK.out.keep HKr.out⟩;rw[cU,Hn.out,<-HN.out];exact D0 (ab HKr.out HB.out id) (auE _) (by rw[HN.out];simp[maxLen];omega)
   ·have h8':(N:Int)>8:=by omega
    have Hn:Hid (bg (47::r)=none):=hd0 (by rw[Hp.out,auK (fun h=>h8 (by have:=h.1;rwa [HN.out]at this))]);go_wp2;go_ret2;exact⟨_,by rw[eP,Hn.out];rfl,by rw[cU,Hn.out];exact vq _ _ _,HK.out⟩
  ·have lH:∀ r,s≠47::r:=fun r e=>h1 ⟨r,e⟩;have Ht:=hd0 (Qf lH);have Hn:=hd0 (Qe lH);clear h0 h1 lH;go_enter func198,ntmps198;go_wp2_with fail;refine(qn s [47] w).mono ?_;rintro e w1 ⟨rfl,hw⟩;subst hw;rw[Ht.out.1,Ht.out.2];go_wp2_with fail;refine(zw 47 s Hs.out _ He.out).mono ?_;rintro e w2 ⟨rfl,hw⟩;subst hw;clear e0;go_wp2;go_ret2;exact⟨_,by rw[eP,Hn.out];rfl,by rw[cU,Hn.out];exact vq _ _ _,(ah.refl _ _).alloc _⟩
end
section
open Go.RowKit
def Md (l:List Int):List Value:=l.map (Value.int .i64)
@[simp] theorem Qg (l:List Int):(Md l).length=l.length:=by simp[Md]
def WU (kind:Int):Nat:=if 0<=kind/\kind<9 then kind.toNat else 9
theorem aco (c:bP):c.k=WU c.kind:=rfl
def pW (k:Nat):List Int:=(fieldsOf k).map fun(f:Nat)=>(f:Int)
theorem Qh (s:List UInt8)(v:Value)(w:World):
  Calls prog 197 #[.string ⟨s.toArray⟩,v] w fun e w'=>e=.returned (.tuple #[.string ⟨s.toArray⟩,v])/\w=w':=by
 go_enter func197,ntmps197;go_wp2;go_ret2;exact⟨rfl,rfl⟩
theorem Qi (kind:Int)(w:World):
  Calls prog 119 #[.int .i64 kind] w fun e w'=>∃ v,e=.returned (.tuple #[.string ⟨(cP (WU kind)).toArray⟩,v])/\eJ w' v (Md (pW (WU kind)))/\af w w':=by
 by_cases hk:0<=kind/\kind<9
 ·rcases(by omega:kind=0\/kind=1\/kind=2\/kind=3\/kind=4\/kind=5\/kind=6\/kind=7\/kind=8)with rfl|rfl|rfl|rfl|rfl|rfl|rfl|rfl|rfl
  all_goals
   clear hk;go_enter func119,ntmps119;go_wp2_with fail;refine(Qh _ _ _).mono ?_;rintro e w1 ⟨rfl,hw⟩;subst hw;go_wp2;go_ret2;exact⟨_,rfl,AU _ (aw _ _ _),(ah.refl _ _).alloc _⟩
 ·have Hk:Hid (WU kind=9):=hd0 (by rw[WU,auK hk]);have b0:(kind==0)=false:=avR (by omega);have b1:(kind==1)=false:=avR (by omega);have b2:(kind==2)=false:=avR (by omega);have b3:(kind==3)=false:=avR (by omega);have b4:(kind==4)=false:=avR (by omega);have b5:(kind==5)=false:=avR (by omega);have b6:(kind==6)=false:=avR (by omega);have b7:(kind==7)=false:=avR (by omega);have b8:(kind==8)=false:=avR (by omega);clear hk;go_enter func119,ntmps119;go_wp2;go_ret2;exact⟨_,by rw[Hk.out];rfl,by rw[Hk.out];exact⟨none,0,rfl,fun j x h=>by simp[Md,pW,fieldsOf]at h⟩,ah.refl _ _⟩
def kD:List UInt8:=[48,49,50,51,52,53,54,55,56,57,97,98,99,100,101,102]
theorem Bk (n:Nat)(h:n<16):kD[n]?=some (mB n):=by
 rcases(by omega:n=0\/n=1\/n=2\/n=3\/n=4\/n=5\/n=6\/n=7\/n=8\/n=9\/n=10\/n=11\/n=12\/n=13\/n=14\/n=15)with h|h|h|h|h|h|h|h|h|h|h|h|h|h|h|h<;>subst h<;>decide
theorem Ia (d:List UInt8)(b:UInt8):iC (d++[b])=iC d++[mB (b.toNat/16)]++[mB (b.toNat%16)]:=by simp[iC]
theorem Me:∀ n:Fin 256,bits .and .u8 (n.val:Int) 15=((n.val%16:Nat):Int):=by decide +kernel
theorem acp (x:UInt8):bits .and .u8 (x.toNat:Int) 15=((x.toNat%16:Nat):Int):=Me ⟨x.toNat,x.toNat_lt⟩
theorem xm (k:IntKind)(i:Int)(n:Nat)(hi:i=(n:Int))(hn:n<16)(W:World):
  (Instr.index 9 (.string ⟨#[48,49,50,51,52,53,54,55,56,57,97,98,99,100,101,102]⟩) (.int k i)).run prog W=.ok (.int .u8 ((mB n).toNat:Int)) W:=
 bf underlying9 kD k i (mB n) (by omega) (by rw[show i.toNat=n by omega];exact Bk n hn) W
theorem Mf (d:List UInt8)(w:World)(hd:d.length<=1099511627776):
  Calls prog 200 #[.string ⟨d.toArray⟩] w fun e w'=>e=.returned (.string ⟨(rU d).toArray⟩)/\af w w':=by
 by_cases h0:d=[]
 ·subst h0;go_enter func200,ntmps200;go_wp2;go_ret;exact⟨rfl,ah.refl _ _⟩
 ·have e0:(d==[])=false:=avR h0;have e1:d.isEmpty=false:=by cases d;exact absurd rfl h0;rfl
  have He:Hid (rU d=iC d):=hd0 (by rw[rU,auK h0]);have nU:=hd0 (nA w);have dO:Hid (Below w.heap.size w (w.alloc (.cells #[.pointer none,.slice none 0 0] 176))):=hd0 ((Below.refl _ _).alloc (auE _) _);clear h0;go_enter func200,ntmps200;go_wp2_with fail;generalize w.alloc (.cells #[.pointer none,.slice none 0 0] 176)=w0 at*
  go_loopw [9] (fun i wr=>∃ k:Nat,k<=d.length/\i=.int .i64 (k:Int)/\db w.heap.size w.heap.size (iC (d.take k)) wr/\Below w.heap.size w wr) (fun i _=>d.length-(intOf i).toNat)
  case atStart=>exact⟨0,by omega,rfl,nU.out,dO.out⟩
  case round=>
   clear nU dO;obtain⟨k,hk,rfl,hB,hK⟩:=hrel;have HB:=hd0 hB;have HK:=hd0 hK;clear hB hK;by_cases aL:k<d.length
   ·obtain⟨x,hx⟩:∃ x,d[k]?=some x:=⟨_,auB aL⟩
    have BX:Hid (iC (d.take (k+1))=iC (d.take k)++[mB (x.toNat/16)]++[mB (x.toNat%16)]):=hd0 (by rw[auD,hx,Option.toList_some,Ia]);have WD:∀ W,(Instr.index 9 (.string ⟨d.toArray⟩) (.int .i64 (k:Int))).run prog W=.ok (.int .u8 (x.toNat:Int)) W:=fun W=>bf underlying9 d .i64 (k:Int) x (by omega) (by rw[avc];exact hx) W;clear hx;have Ob:Hid ((iC (d.take k)).length<=2*d.length):=hd0 (by rw[tu,auH];omega);have Cj:=fun W=>xm .u8 ((x.toNat:Int)/16) (x.toNat/16) (by omega) (by have:=x.toNat_lt;omega) W;go_wp2_with fail;refine(vW w.heap.size w.heap.size (iC (d.take k)) (mB (x.toNat/16)) wr HB.out (by have:=Ob.out;omega) HK.out.size).mono ?_;rintro e w1 ⟨rfl,hb1,hk1⟩;have jp:=hd0 hb1;have bU:=hd0 (HK.out.trans hk1);clear hb1 hk1 Cj;have vz:=fun W=>xm .u8 (bits .and .u8 (x.toNat:Int) 15) (x.toNat%16) (acp x) (by omega) W;go_wp2_with fail;refine(vW w.heap.size w.heap.size (iC (d.take k)++[mB (x.toNat/16)]) (mB (x.toNat%16)) w1 jp.out (by have:=Ob.out;simp;omega) bU.out.size).mono ?_;rintro e w2 ⟨rfl,fi,de⟩;have jI:=hd0 fi;have bu:=hd0 (bU.out.trans de);clear fi de vz WD;go_wp2_with fail;exact⟨⟨k+1,by omega,by go_num,by rw[BX.out];exact jI.out,bu.out⟩,by simp[intOf];omega⟩
   ·obtain rfl:k=d.length:=by omega
    rw[auF]at HB;go_wp2_with fail;refine(gO w.heap.size w.heap.size (iC d) wr HB.out HK.out.size).mono ?_;rintro e w1 ⟨rfl,hk1⟩;have bU:=hd0 (HK.out.trans hk1);clear hk1;go_wp2;go_ret;exact⟨by rw[He.out];rfl,ah.ofBelow bU.out⟩
theorem Qj:∀ n:Fin 256,Lib.indexByte kD (UInt8.ofNat n.val)=fg (UInt8.ofNat n.val):=by decide +kernel
theorem UN (c:UInt8):Lib.indexByte kD c=fg c:=by
 have h:=Qj ⟨c.toNat,c.toNat_lt⟩;simpa using h
theorem Qk (c:UInt8)(w:World):
  Calls prog 254 #[.string ⟨#[48,49,50,51,52,53,54,55,56,57,97,98,99,100,101,102]⟩,.int .u8 (c.toNat:Int)] w fun e w'=>e=.returned (.int .i64 (fg c))/\w'=w:=by
 have h:=Tryz.strings_IndexByte ⟨kD.toArray⟩ (c.toNat:Int) w;have e:((c.toNat:Int).toNat).toUInt8=c:=by simp
 rw[e]at h;have e2:Lib.indexByte ({ data:=kD.toArray }:ByteArray).data.toList c=fg c:=UN c;rw[e2]at h;exact h
theorem J2 (c:UInt8):-1<=fg c/\fg c<=15:=by
 unfold fg;split
 ·omega
 ·split<;>omega
theorem Mg (x:Int):IntKind.u8.wrap x=((oV x).toNat:Int):=by
 rw[IntKind.wrap_u8,oV];simp;omega
theorem pk (v:UInt8->Int):∀(n:Nat) (l m:List UInt8),l.length=2*n->bt v (l++m)=bt v l++bt v m
 |0,l,m,h=>by
  obtain rfl:=au8.1 (by omega:l.length=0);simp[bt]
 |n+1,[],m,h=>by simp at h
 |n+1,[a],m,h=>by simp at h;omega
 |n+1,a::b::l,m,h=>by
  rw[avf,avf,bt,bt,pk v n l m (by simp at h;omega),avf]
theorem uq (v:UInt8->Int):∀(n:Nat) (l:List UInt8),l.length<=n->(bt v l).length<=n
 |0,l,h=>by
  obtain rfl:=au8.1 (by omega:l.length=0);simp[bt]
 |n+1,[],h=>by simp[bt]
 |n+1,[a],h=>by simp[bt]
 |n+1,a::b::l,h=>by
  have:=uq v n l (by simp at h;omega);rw[bt,auA];omega
theorem Bl (v:UInt8->Int){s:List UInt8}{j:Nat}{a b:UInt8}(ha:s[2*j]?=some a)(hb:s[2*j+1]?=some b):bt v (s.take (2*(j+1)))=bt v (s.take (2*j))++[oV (16*v a+v b)]:=by
 have aL:=(auP.1 hb).1;have e:s.take (2*(j+1))=s.take (2*j)++[a,b]:=by
  rw[show 2*(j+1)=2*j+1+1 by omega,auD,auD,ha,hb];simp
 rw[e,pk v j _ _ (by rw[auH];omega)];rfl
theorem D3 (v:UInt8->Int){s:List UInt8}{j:Nat}(h1:2*j<=s.length)(h:s.length<=2*j+1):bt v s=bt v (s.take (2*j)):=by
 conv=>lhs;rw[<-List.take_append_drop (2*j) s]
 rw[pk v j _ _ (by rw[auH];omega)];have hl:(s.drop (2*j)).length<=1:=by rw[List.length_drop];omega
 rcases hd:s.drop (2*j)with _|⟨a,_|⟨b,r⟩⟩
 ·simp[bt]
 ·simp[bt]
 ·rw[hd]at hl;simp at hl
theorem xn {P:Program}{f:FuncId}{args:Array Value}{w:World}{n:Nat}{v:Value}(h:Calls P f args (w.drewN n) fun e w'=>e=.returned v/\w'=w.drewN n):Calls P f args (w.drewN n) fun e w''=>e=.returned v/\∃ m,w''=w.drewN m:=
 h.mono fun _ _ ⟨a,b⟩=>⟨a,n,b⟩
theorem D4 (s:List UInt8)(w:World)(hs:s.length<=4398046511104):
  Calls prog 202 #[.string ⟨s.toArray⟩] w fun e w'=>e=.returned (.string ⟨(ve s).toArray⟩)/\af w w':=by
 by_cases h0:s=[45]
 ·subst h0;go_enter func202,ntmps202;go_wp2;go_ret;exact⟨rfl,ah.refl _ _⟩
 ·have e0:(s==[45])=false:=avR h0;have He:Hid (ve s=bt fg s):=hd0 (by rw[ve,auK h0]);have nU:=hd0 (nA w);have dO:Hid (Below w.heap.size w (w.alloc (.cells #[.pointer none,.slice none 0 0] 176))):=hd0 ((Below.refl _ _).alloc (auE _) _);clear h0;go_enter func202,ntmps202;go_wp2_with fail;generalize w.alloc (.cells #[.pointer none,.slice none 0 0] 176)=w0 at*
  go_loopw [4] (fun i wr=>∃ k:Nat,k<=s.length+1/\i=.int .i64 (k:Int)/\Hid (∃ j,k=2*j)/\db w.heap.size w.heap.size (bt fg (s.take k)) wr/\Below w.heap.size w wr) (fun i _=>s.length+2-(intOf i).toNat)
  case atStart=>exact⟨0,by omega,rfl,hd0 ⟨0,rfl⟩,nU.out,dO.out⟩
  case round=>
   clear nU dO;obtain⟨k,hk,rfl,Hj,hB,hK⟩:=hrel;have HB:=hd0 hB;have HK:=hd0 hK;clear hB hK;by_cases aL:k+1<s.length
   ·obtain⟨a,ha⟩:∃ a,s[k]?=some a:=⟨_,auB (by omega)⟩
    obtain⟨b,hb⟩:∃ b,s[k+1]?=some b:=⟨_,auB aL⟩
    have BX:Hid (bt fg (s.take (k+2))=bt fg (s.take k)++[oV (16*fg a+fg b)]):=hd0 (by
     obtain⟨j,rfl⟩:=Hj.out;exact Bl fg ha hb)
    have Hj2:Hid (∃ j,k+2=2*j):=hd0 (by obtain⟨j,rfl⟩:=Hj.out;exact⟨j+1,by omega⟩);have Ob:Hid ((bt fg (s.take k)).length<=s.length):=hd0 (aux (uq fg _ _ (auE _)) (by rw[auH];omega));have hi1:∀ W,(Instr.index 9 (.string ⟨s.toArray⟩) (.int .i64 (k:Int))).run prog W=.ok (.int .u8 (a.toNat:Int)) W:=fun W=>bf underlying9 s .i64 (k:Int) a (by omega) (by rw[avc];exact ha) W;have hi2:∀ W,(Instr.index 9 (.string ⟨s.toArray⟩) (.int .i64 ((k:Int)+1))).run prog W=.ok (.int .u8 (b.toNat:Int)) W:=fun W=>bf underlying9 s .i64 ((k:Int)+1) b (by omega) (by rw[show((k:Int)+1).toNat=k+1 by omega];exact hb) W;have Oz:=J2 a;have ZD:=J2 b;have q1:IntKind.i64.wrap ((k:Int)+1)=(k:Int)+1:=av4 _ (by omega);have q2:IntKind.i64.wrap (16*fg a)=16*fg a:=av4 _ (by omega);have q3:IntKind.i64.wrap (16*fg a+fg b)=16*fg a+fg b:=av4 _ (by omega);have q4:=Mg (16*fg a+fg b);clear ha hb;go_wp2_with fail;refine dD 12 (by kernel_rfl) (by kernel_rfl) ?_;simp only[avn,avo,avq,avr]
    repeat (quiet_step (first|(with_reducible exact xn (Qk a _))|(with_reducible exact xn (Qk b _))))
    refine avt ?_;intro _ cf;obtain⟨nq,rfl⟩:=cf;clear q1 q2 q3 q4 hi1 hi2;have HBn:Hid (db w.heap.size w.heap.size (bt fg (s.take k)) (wr.drewN nq)):=hd0 (show db w.heap.size w.heap.size (bt fg (s.take k)) (wr.drewN nq)from HB.out);go_wp2_with fail;refine(vW w.heap.size w.heap.size (bt fg (s.take k)) (oV (16*fg a+fg b)) (wr.drewN nq) HBn.out (by have:=Ob.out;omega) HK.out.size).mono ?_;rintro e w2 ⟨rfl,fi,de⟩;have jI:=hd0 fi;have bu:Hid (Below w.heap.size w w2):=hd0 ((((ah.ofBelow HK.out).drewN nq).below).trans de);clear fi de;go_wp2_with fail;exact⟨⟨k+2,by omega,by go_num,Hj2,by rw[BX.out];exact jI.out,bu.out⟩,by simp[intOf];omega⟩
   ·have Hx:Hid (bt fg (s.take k)=bt fg s):=hd0 (by
     obtain⟨j,rfl⟩:=Hj.out;by_cases h:2*j<=s.length
     ·exact(D3 fg h (by omega)).symm
     ·rw[avl (by omega)])
    rw[Hx.out]at HB;go_wp2_with fail;refine(gO w.heap.size w.heap.size (bt fg s) wr HB.out HK.out.size).mono ?_;rintro e w1 ⟨rfl,hk1⟩;have bU:=hd0 (HK.out.trans hk1);clear hk1;go_wp2;go_ret;exact⟨by rw[He.out];rfl,ah.ofBelow bU.out⟩
end
section
open Go.RowKit
def bL (c:bP):Array Value:=#[.int .i64 c.kind,.string ⟨c.path.toArray⟩,.string ⟨c.dest.toArray⟩,.int .i64 c.pos,.string ⟨c.data.toArray⟩]
def gt (c:bP):Value:=.agg (bL c)
structure bP.Small (c:bP):Prop where
 path:c.path.length<4294967281
 dest:c.dest.length<4294967281
 data:c.data.length<=1099511627776
 pos:-9223372036854775808<=c.pos/\c.pos<=9223372036854775807
theorem cE {w:World}{b:Nat}{c:bP}{t:TypeId}(h:World.blk w b (bL c) t):
  w.cell? ⟨b,0,none⟩=some (.int .i64 c.kind)/\w.cell? ⟨b,1,none⟩=some (.string ⟨c.path.toArray⟩)/\w.cell? ⟨b,2,none⟩=some (.string ⟨c.dest.toArray⟩)/\
  w.cell? ⟨b,3,none⟩=some (.int .i64 c.pos)/\w.cell? ⟨b,4,none⟩=some (.string ⟨c.data.toArray⟩):=
 ⟨aa h 0,aa h 1,aa h 2,aa h 3,aa h 4⟩
theorem xo (s:List UInt8):(eP s==0)=(bg s).isSome:=by
 unfold eP;cases (bg s).isSome<;>rfl
theorem pX (s:List UInt8)(w:World)(hs:s.length<=140737488355328):
  Calls prog 52 #[.string ⟨s.toArray⟩] w fun e w'=>e=.returned (.bool (aG s))/\af w w':=so s w hs
theorem Mh (c:bP)(f:Nat)(hf:1<=f/\f<=5)(b:Nat)(w:World)(he:tr w)(hc:c.Small)(hB:World.blk w b (bL c) 55):
  Calls prog 120 #[.pointer (some ⟨b,0,none⟩),.int .i64 (f:Int)] w fun e w'=>e=.returned (.tuple #[.string ⟨(c.fieldText f).toArray⟩,.bool (c.fieldOk f)])/\af w w':=by
 have He:=hd0 he;have Hc:=hd0 hc;have HB:=hd0 hB;obtain⟨c0,c1,c2,c3,c4⟩:=cE hB;have oG:=ai hB;clear he hc hB;rcases(by omega:f=1\/f=2\/f=3\/f=4\/f=5)with rfl|rfl|rfl|rfl|rfl
 ·clear hf;go_enter func120,ntmps120;go_wp2_with fail;refine(mI c.path w He.out Hc.out.path).mono ?_;rintro e w1 ⟨v,rfl,-,hk⟩;have HK:=hd0 hk;obtain⟨c0,c1,c2,c3,c4⟩:=cE (ab hk HB.out id);have cq:=xo c.path;clear hk;generalize hb:(bg c.path).isSome=ok at*;have Hb:=hd0 hb;clear hb;go_wp2;go_ret2;exact⟨by rw[show c.fieldOk 1=ok from Hb.out];rfl,HK.out⟩
 ·clear hf;go_enter func120,ntmps120;go_wp2_with fail;refine(mI c.dest w He.out Hc.out.dest).mono ?_;rintro e w1 ⟨v,rfl,-,hk⟩;have HK:=hd0 hk;obtain⟨c0,c1,c2,c3,c4⟩:=cE (ab hk HB.out id);have cq:=xo c.dest;clear hk;generalize hb:(bg c.dest).isSome=ok at*;have Hb:=hd0 hb;clear hb;go_wp2;go_ret2;exact⟨by rw[show c.fieldOk 2=ok from Hb.out];rfl,HK.out⟩
 ·clear hf;by_cases h0:0<=c.pos
  ·have d0:decide (0<=c.pos)=true:=by simpa using h0
   have Hv:Hid (c.fieldOk 3=decide (c.pos<=16384)):=hd0 (by simp[bP.fieldOk,h0]);go_enter func120,ntmps120;go_wp2_with fail;refine bA (by kernel_rfl) (by kernel_rfl) ?_
   repeat (quiet_step (with_reducible exact aZ (C5 c.pos Hc.out.pos.1 Hc.out.pos.2 _ (He.out.keep (ay _ _)))))
   refine avt ?_;intro _ cf;obtain⟨xq,rfl⟩:=cf;go_wp2;go_ret2;exact⟨by rw[Hv.out];rfl,ay _ _⟩
  ·have d0:decide (0<=c.pos)=false:=by simpa using h0
   have Hv:Hid (c.fieldOk 3=false):=hd0 (by simp[bP.fieldOk,h0]);go_enter func120,ntmps120;go_wp2_with fail;refine bA (by kernel_rfl) (by kernel_rfl) ?_
   repeat (quiet_step (with_reducible exact aZ (C5 c.pos Hc.out.pos.1 Hc.out.pos.2 _ (He.out.keep (ay _ _)))))
   refine avt ?_;intro _ cf;obtain⟨xq,rfl⟩:=cf;go_wp2;go_ret2;exact⟨by rw[Hv.out];rfl,ay _ _⟩
 ·clear hf;go_enter func120,ntmps120;go_wp2_with fail;refine bA (by kernel_rfl) (by kernel_rfl) ?_
  repeat (quiet_step (with_reducible exact aZ (Mf c.data _ Hc.out.data)))
  refine avt ?_;intro _ cf;obtain⟨xq,rfl⟩:=cf;have Hv:Hid (c.fieldOk 4=decide ((c.data.length:Int)<=512)):=hd0 (by rw[bP.fieldOk];congr 1;exact propext (by omega));go_wp2;go_ret2;exact⟨by rw[Hv.out];rfl,ay _ _⟩
 ·clear hf;go_enter func120,ntmps120;go_wp2_with fail;refine bA (by kernel_rfl) (by kernel_rfl) ?_
  repeat (quiet_step (with_reducible exact aZ (pX c.path _ (by have:=Hc.out.path;omega))))
  refine avt ?_;intro _ cf;obtain⟨xq,rfl⟩:=cf;go_wp2;go_ret2;exact⟨rfl,ay _ _⟩
end
section
open Go.RowKit
theorem Ql (c:bP)(f:Nat)(hf:1<=f/\f<=5)(s:List UInt8)(b:Nat)(w:World)(he:tr w)(hs:s.length<=4398046511104)(hB:World.blk w b (bL c) 55):
  Calls prog 121 #[.pointer (some ⟨b,0,none⟩),.int .i64 (f:Int),.string ⟨s.toArray⟩] w fun e w'=>e=.returned (.tuple #[])/\ah (·=b) w w'/\World.blk w' b (bL (c.take f s)) 55:=by
 have He:=hd0 he;have HB:=hd0 hB;obtain⟨c0,c1,c2,c3,c4⟩:=cE hB;have fz:∀ i,w.frozen? ⟨b,i,none⟩=false:=fun i=>ae hB _ rfl;have f1:=fz 1;have f2:=fz 2;have oG:=ai hB;clear he hB fz;rcases(by omega:f=1\/f=2\/f=3\/f=4\/f=5)with rfl|rfl|rfl|rfl|rfl
 ·clear hf;go_enter func121,ntmps121;go_wp2_with fail;go_end0;exact⟨rfl,(ah.refl (·=b) w).setCell (p:=⟨b,_,none⟩) (.inl rfl) _,ag HB.out _ _⟩
 ·clear hf;go_enter func121,ntmps121;go_wp2_with fail;go_end0;exact⟨rfl,(ah.refl (·=b) w).setCell (p:=⟨b,_,none⟩) (.inl rfl) _,ag HB.out _ _⟩
 ·clear hf;go_enter func121,ntmps121;go_wp2_with fail;refine(O4 s (by omega) w He.out).mono ?_;rintro e w1 ⟨⟨x,rfl⟩,hk⟩;have jp:=hd0 (ab hk HB.out id);have HK:Hid (ah (·=b) w w1):=hd0 (hk.mono (fun _ _ h=>h.elim));obtain⟨c0,c1,c2,c3,c4⟩:=cE jp.out;have f3:w1.frozen? ⟨b,3,none⟩=false:=ae jp.out _ rfl;clear hk;go_wp2_with fail;go_end0;exact⟨rfl,HK.out.setCell (.inl rfl) _,ag jp.out _ _⟩
 ·clear hf;go_enter func121,ntmps121;go_wp2_with fail;refine(D4 s w hs).mono ?_;rintro e w1 ⟨rfl,hk⟩;have jp:=hd0 (ab hk HB.out id);have HK:Hid (ah (·=b) w w1):=hd0 (hk.mono (fun _ _ h=>h.elim));obtain⟨c0,c1,c2,c3,c4⟩:=cE jp.out;have f4:w1.frozen? ⟨b,4,none⟩=false:=ae jp.out _ rfl;clear hk;go_wp2_with fail;go_end0;exact⟨rfl,HK.out.setCell (.inl rfl) _,ag jp.out _ _⟩
 ·clear hf;go_enter func121,ntmps121;go_wp2_with fail;go_end0;exact⟨rfl,(ah.refl (·=b) w).setCell (p:=⟨b,_,none⟩) (.inl rfl) _,ag HB.out _ _⟩
end
end Go.Proofs.YtkghpdcloaiflaaGreatDoor
