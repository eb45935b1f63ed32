import Derived.Test.YtkghpdcloaiflaaGreatDoorH09
import Derived.Lib.SlTrimSet
import Derived.Deep.RegionWith
import Derived.IntWalk
import Derived.Deep.DeepCutAuto
set_option maxHeartbeats 2000000
set_option maxRecDepth 100000
namespace Go.Proofs.YtkghpdcloaiflaaGreatDoor
open _root_.Go.Proofs.Tryz
variable {P:Program}{b base j n:Nat}{c:UInt8}{s:List UInt8}{v:Value}{w w':World}
section
open Go.RowKit
section
variable {α:Type}{f:α->List Value}{sz:Nat}
theorem Ed (hf:∀ a,(f a).length=sz)(l:List α):∀(j i:Nat),i<sz->(l.flatMap f)[j*sz+i]?=(l[j]?).bind λa=>(f a)[i]?:=by
 induction l with
 |nil=>intro j i _;simp
 |cons x r ih=>
  intro j i hi;rw[awL]
  cases j with
  |zero=>
   rw[Nat.zero_mul,awR,List.getElem?_append_left (by rw[hf];exact hi)];simp
  |succ j=>
   rw[List.getElem?_append_right (by rw[hf,Nat.succ_mul];omega),hf,show(j+1)*sz+i-sz=j*sz+i by rw[Nat.succ_mul];omega,ih j i hi];simp
theorem Qs (hf:∀ a,(f a).length=sz)(l:List α):(l.flatMap f).length=l.length*sz:=by
 induction l with
 |nil=>simp
 |cons x r ih=>rw[awL,awn,hf,ih,av5,Nat.succ_mul];omega
def ms (f:α->List Value)(sz:Nat)(w:World)(v:Value)(l:List α):Prop:=
 ∃ a cap,v=.slice a l.length cap/\∀ j x,l[j]?=some x->∃ b o,a=some ⟨b,o,none⟩/\∀ i c,(f x)[i]?=some c->w.cell? ⟨b,o+j*sz+i,none⟩=some c
abbrev dX (f:α->List Value)(sz:Nat)(t:TypeId)(w:World)(base:Nat)(v:Value)(l:List α):Prop:=w.ownsRow base t sz v l.length (l.flatMap f)
theorem cg (hf:∀ a,(f a).length=sz){t:TypeId}{l:List α}(h:dX f sz t w base v l):ms f sz w v l:=by
 rcases h.2 with⟨rfl,h3⟩|⟨g,cap,dW,rfl,hb,hg,Xn,hm,cJ,BZ⟩
 ·have hl:l=[]:=awD.1 J;subst hl;exact⟨none,0,rfl,λj x h=>by simp at h⟩
 ·refine⟨some ⟨g,0,none⟩,cap,rfl,λj x hx=>⟨g,0,rfl,λi c hc=>?_⟩⟩;have aP:=(awk.1 hx).1;have hi:i<sz:=by have:=(awk.1 hc).1;rwa [hf]at this
  have h1:=Ed hf l j i hi;rw[hx]at h1;simp only[Option.bind_some]at h1;rw[hc,<-BZ,List.getElem?_take]at h1;rw[awR];split at h1
  ·simp[World.cell?,hg,<-Array.getElem?_toList,h1]
  ·cases h1
theorem fO {l:List α}(h:ms f sz w v l)(k:af w w'):ms f sz w' v l:=by
 obtain⟨a,cap,hv,hx⟩:=h;refine⟨a,cap,hv,λj x hj=>?_⟩;obtain⟨b,o,e,hc⟩:=hx j x hj;exact⟨b,o,e,λi c hi=>by rw[k.cell (p:=⟨b,o+j*sz+i,none⟩) (am (hc i c hi)) id];exact hc i c hi⟩
theorem gY {t:TypeId}{xs:List Value}(h:w.ownsRow base t sz v n xs)(k:af w w'):w'.ownsRow base t sz v n xs:=by
 obtain⟨h1,h2⟩:=h;refine⟨h1,?_⟩;rcases h2 with h2|⟨g,cap,dW,a,b,c,d⟩
 ·exact .inl h2
 ·exact .inr ⟨g,cap,dW,a,b,k.obj c id,d⟩
theorem qh {ts te:TypeId}{z:Value}{bytes:Nat}(hs:P.underlying ts=some (.slice te))(hi:(P.info? te).map (λi=>(i.zero,i.size,i.bytes))=some (some z,sz,bytes))(hz:z.cells.size=sz)(cJ:0<sz)
  (hf:∀ a,(f a).length=sz) (base:Nat) (v:Value) (l:List α) (w w0:World) (bC:dX f sz te w base v l) (x:α) (h1:∀ u∈f x,u.oneCell'=true) (hn:l.length+1<=maxLen) (Oj:(l.length+1)*bytes<=140737488355328)
  (FB:base<=w.heap.size) (h0:af w0 w) (ic:w0.heap.size<=base):
  ∃ v' w',(Builtin.append_ #[ts,ts] ts #[v,.slice (some ⟨w.heap.size,0,none⟩) 1 1]).run P (w.alloc (.cells (f x).toArray te))=.ok v' w'/\dX f sz te w' base v' (l++[x])/\af w0 w'/\ai (λb=>base<=b) w w':=by
 obtain⟨i0,hi,iK,lX,mJ⟩:=awj hi;obtain⟨v',w',r1,r2,r3,_⟩:=run_append_own (P:=P) (w.alloc (.cells (f x).toArray te)) base ts ts te i0 z sz bytes hs hi iK lX mJ hz cJ v l.length (l.flatMap f) (bC.alloc _) ⟨w.heap.size,0,none⟩ 1 1 (f x) (by rw[hf];omega) (λj u hu=>by
  rw[ij,awR,World.cell?_alloc_at _ _ _ _ rfl];simpa using hu) h1 (by exact hn) Oj (by simp;omega)
 refine⟨v',w',r1,?_,ai.grown (h0.alloc _) r3 (λk hk=>.inr (av2 ic (bC.lt k hk).1)),ai.grown ((ai.refl _ w).alloc _) r3 (λk hk=>.inl (bC.lt k hk).1)⟩;unfold dX;rw[awm,awn];simpa using r2
end
theorem cZ {o:Obj}(h:af (w.alloc o) w'):af w w':=((ai.refl (λ_=>False) w).alloc o).keep h
theorem Bm (h:af w.drew w'):af w w':=((ai.refl (λ_=>False) w).drew).keep h
def Iq (p:List UInt8×Int):List Value:=[.string ⟨p.1.toArray⟩,.int .i64 p.2]
abbrev ZO (p:List UInt8×Int):Value:=.agg #[.string ⟨p.1.toArray⟩,.int .i64 p.2]
theorem Ef:∀ p,(Iq p).length=2:=λ_=>rfl
theorem xe:∀(a b:List UInt8),(!(Op.bytesLess a b||a==b))=bytesBefore b a
 |[],[]=>by simp[bytesBefore]
 |[],_::_=>by simp[bytesBefore,Op.bytesLess]
 |_::_,[]=>by simp[bytesBefore,Op.bytesLess]
 |x::r,y::s=>by
  rw[bytesBefore,<-xe r s,Op.bytesLess,List.cons_beq_cons];by_cases h1:x<y
  ·have h2:¬ y<x:=λh=>absurd (UInt8.lt_trans h1 h) (UInt8.lt_irrefl _);have h4:¬ y=x:=λh=>by subst h;exact UInt8.lt_irrefl _ h1
   simp[h1,h2,h4]
  ·by_cases h2:x=y
   ·subst h2;simp[UInt8.lt_irrefl]
   ·have h3:y<x:=by
     rcases UInt8.lt_or_lt_of_ne h2 with h|h
     ·exact absurd h h1
     ·exact h
    simp[h1,h2,h3]
def ne:List UInt8:=[97,98,99,100,101,102,103,104,105,106,107,108,109,110,111,112,113,114,115,116,117,118,119,120,121,122,48,49,50,51,52,53,54,55,56,57,46,45,95]
theorem Eg:∀ n:Fin 256,ne.contains (UInt8.ofNat n.val)=bU (UInt8.ofNat n.val):=by decide +kernel
theorem Eh (c:UInt8):ne.contains c=bU c:=by
 have h:=Eg ⟨c.toNat,c.toNat_lt⟩;simpa using h
theorem lT {α:Type}(p:α->Bool)(l:List α):l.dropWhile p=[]↔l.all p=true:=by
 induction l with
 |nil=>simp
 |cons a l ih=>
  rw[List.dropWhile_cons];split
  ·rename_i h;rw[ih,List.all_cons,h,Bool.true_and]
  ·rename_i h;simp[h]
theorem yR {α:Type}(p:α->Bool)(l:List α)(h:(l.dropWhile p).all p=true):l.dropWhile p=[]:=by
 rcases hl:l.dropWhile p with _|⟨a,r⟩
 ·rfl
 ·rw[hl]at h;have:p a=false:=by
   have:=List.head?_dropWhile_not p l;rw[hl]at this;simpa using this
  simp[this]at h
theorem Mf (l cs:List UInt8):Lib.trimS l cs=[]↔l.all (cs.contains ·)=true:=by
 unfold Lib.trimS Lib.trimLeftS Lib.trimRightS;rw[lT,List.all_reverse]
 constructor
 ·intro h;have:=(lT _ _).1 (yR _ _ h)
  rwa [List.all_reverse]at this
 ·intro h;rw[(lT (cs.contains ·) l.reverse).2 (by rw[List.all_reverse];exact h)];rfl
theorem Mg {l:List UInt8}:(Lib.trimS l ne==[])=l.all bU:=by
 rw[awM,awJ,Mf];have e:(λc=>ne.contains c)=bU:=funext Eh;rw[e]
theorem Bn (h:(97<=c.toNat/\c.toNat<=122)\/(48<=c.toNat/\c.toNat<=57)\/c.toNat=46\/c.toNat=45\/c.toNat=95):bU c=true:=by
 have e:∀ n:Fin 256,((97<=n.val/\n.val<=122)\/(48<=n.val/\n.val<=57)\/n.val=46\/n.val=45\/n.val=95)->bU (UInt8.ofNat n.val)=true:=by decide +kernel
 have:=e ⟨c.toNat,c.toNat_lt⟩ h;simpa using this
theorem Bo (h:¬((97<=c.toNat/\c.toNat<=122)\/(48<=c.toNat/\c.toNat<=57)\/c.toNat=46\/c.toNat=45\/c.toNat=95)):bU c=false:=by
 have e:∀ n:Fin 256,¬((97<=n.val/\n.val<=122)\/(48<=n.val/\n.val<=57)\/n.val=46\/n.val=45\/n.val=95)->bU (UInt8.ofNat n.val)=false:=by decide +kernel
 have:=e ⟨c.toNat,c.toNat_lt⟩ h;simpa using this
theorem oO (s:List UInt8)(w:World)(hs:s.length<=140737488355328):
  Calls prog 52 #[.string ⟨s.toArray⟩] w λe w'=>e=.returned (.bool (aJ s))/\af w w':=by
 have HT:=Z (Tryz.strings_Trim_laid ⟨s.toArray⟩ ⟨ne.toArray⟩ w (by have:({ data:=s.toArray }:ByteArray).size=s.length:=by simp[ByteArray.size]
                                                                   rw[this];omega) dc7 (ascii_of_all dc7))
 by_cases h0:s=[]
 ·subst h0;go_enter func52,ntmps52;go_wp2;go_ret;exact⟨rfl,ai.refl _ _⟩
 ·have e0:(s==[])=false:=axl h0;have e1:s.isEmpty=false:=by cases s;exact absurd rfl h0;rfl
  have hp:1<=s.length:=by cases s;exact absurd rfl h0;simp
  by_cases h1:s.length<=16
  ·by_cases h2:s=[46]
   ·subst h2;clear HT;go_enter func52,ntmps52;go_wp2;go_ret;exact⟨rfl,ai.refl _ _⟩
   ·by_cases h3:s=[46,46]
    ·subst h3;clear HT;go_enter func52,ntmps52;go_wp2;go_ret;exact⟨rfl,ai.refl _ _⟩
    ·have e2:(s==[46])=false:=axl h2;have e3:(s==[46,46])=false:=axl h3;have Hv:Hid (aJ s=s.all bU):=Z (by simp[aJ,e2,e3,h1,hp]);have h1':(s.length:Int)<=16:=J
     obtain⟨Ht,Hh⟩:=K2 (Mg (l:=s)) (And.intro h0 (And.intro h2 h3));clear h0 h2 h3 h1;go_enter func52,ntmps52;go_wp2_with fail;refine(HT.o).mono ?_;rintro e w1 ⟨rfl,hb⟩;have HK:=Z (ai.ofBelow hb);clear hb;have e5:(Lib.trimS s ne==[])=s.all bU:=Ht.o;generalize s.all bU=b at*;generalize Lib.trimS s ne=t at*;go_wp2;go_ret;exact⟨by rw[Hv.o,<-e5];rfl,HK.o⟩
  ·have h1':¬(s.length:Int)<=16:=J
   have Hv:Hid (aJ s=false):=Z (by simp[aJ,h1]);clear h0 HT;go_enter func52,ntmps52;go_wp2;go_ret;exact⟨by rw[Hv.o];rfl,ai.refl _ _⟩
def jZ (s:List UInt8):Int:=if(bA s).isSome then 0 else 130
def eT (s:List UInt8):List (List UInt8):=(bA s).getD []
theorem z7:bA [47]=some []:=by rw[bA,awd rfl]
theorem Qt (h:∀ r,s≠47::r):bA s=none:=by
 unfold bA;split
 ·rename_i r;exact absurd rfl (h r)
 ·rfl
theorem Mh {r:List UInt8}(h:r≠[]):bA (47::r)=if(jN 47 r).length<=8/\(jN 47 r).all aJ=true then some (jN 47 r)else none:=by
 rw[bA,awf h]
theorem Mi (r:List UInt8):Lib.trimPrefix (47::r) [47]=r/\Lib.hasPrefix (47::r) [47]=true:=by
 constructor<;>simp[Lib.trimPrefix,Lib.hasPrefix,List.isPrefixOf]
theorem Qu (h:∀ r,s≠47::r):Lib.trimPrefix s [47]=s/\Lib.hasPrefix s [47]=false:=by
 have h1:Lib.hasPrefix s [47]=false:=by
  cases s with
  |nil=>rfl
  |cons c r=>
   have hc:¬ c=47:=λe=>h r (by rw[e]);simp[Lib.hasPrefix,List.isPrefixOf];exact λe=>hc e.symm
 exact⟨by rw[Lib.trimPrefix,h1];rfl,h1⟩
theorem uX (w:World)(base:Nat)(t:TypeId):w.ownsRow base t 1 (.slice none 0 0) 0 []:=⟨rfl,.inl ⟨rfl,rfl⟩⟩
theorem Ei {l:List (List UInt8)}(h:World.blk w b (aI l) 9)(hb:base<=b)(hl:l.length<=maxLen):io w base (.slice (some ⟨b,0,none⟩) l.length l.length) l:=
 ⟨by simp[aI],.inr ⟨b,l.length,aI l,rfl,hb,h,av9 _,hl,by simp[aI],by rw[Nat.mul_one];exact awQ (by simp[aI])⟩⟩
theorem xf (s:List UInt8)(w:World)(he:yK w)(hs:s.length<4294967281):
  Calls prog 198 #[.string ⟨s.toArray⟩] w λe w'=>∃ v,e=.returned (.tuple #[v,.int .i64 (jZ s)])/\io w' w.heap.size v (eT s)/\af w w':=by
 obtain⟨He,Hs⟩:=K2 he hs;clear he hs;by_cases h0:s=[47]
 ·subst h0;go_enter func198,ntmps198;go_wp2;go_ret2;exact⟨_,by rw[jZ,z7];rfl,by rw[eT,z7];exact uX _ _ _,ai.refl _ _⟩
 ·have e0:(s==[47])=false:=axl h0;by_cases h1:∃ r,s=47::r
  ·obtain⟨r,rfl⟩:=h1;have hr:r≠[]:=λe=>h0 (by rw[e]);obtain⟨Hp,Ht⟩:=K2 (Mh hr) (Mi r);have hlr:r.length<4294967281:=by have:=Hs.o;simp at this;omega
   have Hlr:=Z hlr;clear h0 hr hlr;go_enter func198,ntmps198;go_wp2_with fail;refine(pY (47::r) [47] w).mono ?_;rintro e w1 ⟨rfl,hw⟩;subst hw;rw[Ht.1,Ht.2];go_wp2_with fail;refine(zv 47 r Hlr.o _ He.o).mono ?_;rintro e w2 ⟨rfl,hw⟩;subst hw;have CG:(jN 47 r).length<=4294967281:=by rw[UV];have:=List.count_le_length (a:=(47:UInt8)) (l:=r);have:=Hlr.o;omega
   have Hnm:Hid (∀ x∈jN 47 r,x.length<=4294967281):=Z (λx hx=>by
    obtain⟨i,hi⟩:=List.mem_iff_getElem?.1 hx;have h1:=Li 47 r i;rw[axm,hi]at h1;have:=Hlr.o;simp at h1;omega)
   generalize jN 47 r=L at*;obtain⟨N,hN⟩:∃ N,L.length=N:=⟨_,rfl⟩
   have HN:=Z hN;rw[hN]at CG ⊢;clear e0 hN;have HB:Hid (World.blk (w1.alloc (.cells (aI L) 9)) w1.heap.size (aI L) 9):=Z (av _ _ _);have HK:Hid (af w1 (w1.alloc (.cells (aI L) 9))):=Z ((ai.refl _ _).alloc _);by_cases h8:N<=8
   ·have h8':¬(N:Int)>8:=J
    go_wp2_with fail;generalize w1.alloc (.cells (aI L) 9)=w2 at*
    go_loopw [27] (λi wr=>∃ k:Nat,k<=N/\i=.int .i64 (k:Int)/\af w2 wr/\(L.take k).all aJ=true) (λi _=>N-(intOf i).toNat)
    case atStart=>exact⟨0,J,rfl,ai.refl _ _,by simp⟩
    case round=>
     obtain⟨k,hk,rfl,hK,hA⟩:=hrel;obtain⟨HKr,HA⟩:=K2 hK hA;clear hK hA;by_cases aP:k<N
     ·obtain⟨x,hx⟩:∃ x,L[k]?=some x:=⟨_,av6 (by rw[HN.o];exact aP)⟩
      have Hx:=Z hx;have hc:wr.cell? ⟨w1.heap.size,k,none⟩=some (.string ⟨x.toArray⟩):=by
       rw[aa (ab HKr.o HB.o id),GD,hx];rfl
      clear hx;go_wp2_with fail;refine(oO x wr (by have:=Hnm.o x (av7 Hx.o);omega)).mono ?_;rintro e w3 ⟨rfl,dr⟩;have ez:=Z (HKr.keep dr);clear dr hc;rcases bZ:aJ x with _|_
      ·have Hn:Hid (bA (47::r)=none):=Z (by
        rw[Hp.o,awf];rintro⟨_,h⟩;have:=awp.1 h x (av7 Hx.o);rw[bZ]at this;cases this)
       clear bZ;go_wp2;go_ret2;exact⟨_,by rw[jZ,Hn.o];rfl,by rw[eT,Hn.o];exact uX _ _ _,HK.keep ez.o⟩
      ·have KD:Hid ((L.take (k+1)).all aJ=true):=Z (by
        rw[av8,Hx.o,Option.toList_some,List.all_append,HA.o];simp[bZ])
       clear bZ;go_wp2_with fail;exact⟨⟨k+1,J,by go_num,ez.o,KD.o⟩,by simp[intOf];omega⟩
     ·have Hn:Hid (bA (47::r)=some L):=Z (by
       rw[Hp.o,awd];refine⟨by rw[HN.o];exact h8,?_⟩;have h:=HA.o
       rwa [awQ (by rw[HN.o];omega)]at h)
      go_wp2;go_ret2;refine⟨_,by rw[jZ,Hn.o];rfl,?_,HK.keep HKr.o⟩;rw[eT,Hn.o,<-HN.o];exact Ei (ab HKr.o HB.o id) (av9 _) (by rw[HN.o];simp[maxLen];omega)
   ·have h8':(N:Int)>8:=J
    have Hn:Hid (bA (47::r)=none):=Z (by rw[Hp.o,awf (λh=>h8 (by have:=h.1;rwa [HN.o]at this))]);go_wp2;go_ret2;exact⟨_,by rw[jZ,Hn.o];rfl,by rw[eT,Hn.o];exact uX _ _ _,HK.o⟩
  ·have lh:∀ r,s≠47::r:=λr e=>h1 ⟨r,e⟩;obtain⟨Ht,Hn⟩:=K2 (Qu lh) (Qt lh);clear h0 h1 lh;go_enter func198,ntmps198;go_wp2_with fail;refine(pY s [47] w).mono ?_;rintro e w1 ⟨rfl,hw⟩;subst hw;rw[Ht.1,Ht.2];go_wp2_with fail;refine(zv 47 s Hs.o _ He.o).mono ?_;rintro e w2 ⟨rfl,hw⟩;subst hw;clear e0;go_wp2;go_ret2;exact⟨_,by rw[jZ,Hn.o];rfl,by rw[eT,Hn.o];exact uX _ _ _,(ai.refl _ _).alloc _⟩
def Mj (l:List Int):List Value:=l.map (Value.int .i64)
@[simp] theorem Qv (l:List Int):(Mj l).length=l.length:=by simp[Mj]
def XQ (kind:Int):Nat:=if 0<=kind/\kind<9 then kind.toNat else 9
theorem adf (c:cm):c.k=XQ c.kind:=rfl
def pH (k:Nat):List Int:=(fieldsOf k).map λ(f:Nat)=>(f:Int)
theorem Qw (s:List UInt8)(v:Value)(w:World):
  Calls prog 197 #[.string ⟨s.toArray⟩,v] w λe w'=>e=.returned (.tuple #[.string ⟨s.toArray⟩,v])/\w=w':=by
 go_enter func197,ntmps197;go_wp2;go_ret2;exact⟨rfl,rfl⟩
theorem Qy (kind:Int)(w:World):
  Calls prog 119 #[.int .i64 kind] w λe w'=>∃ v,e=.returned (.tuple #[.string ⟨(cP (XQ kind)).toArray⟩,v])/\eg w' v (Mj (pH (XQ kind)))/\af w w':=by
 by_cases hk:0<=kind/\kind<9
 ·rcases(by omega:kind=0\/kind=1\/kind=2\/kind=3\/kind=4\/kind=5\/kind=6\/kind=7\/kind=8)with rfl|rfl|rfl|rfl|rfl|rfl|rfl|rfl|rfl
  all_goals
   clear hk;go_enter func119,ntmps119;go_wp2_with fail;refine(Qw _ _ _).mono ?_;rintro e w1 ⟨rfl,hw⟩;subst hw;go_wp2;go_ret2;exact⟨_,rfl,AT _ (av _ _ _),(ai.refl _ _).alloc _⟩
 ·have Hk:Hid (XQ kind=9):=Z (by rw[XQ,awf hk]);have b0:(kind==0)=false:=axl J;have b1:(kind==1)=false:=axl J;have b2:(kind==2)=false:=axl J;have b3:(kind==3)=false:=axl J;have b4:(kind==4)=false:=axl J;have b5:(kind==5)=false:=axl J;have b6:(kind==6)=false:=axl J;have b7:(kind==7)=false:=axl J;have b8:(kind==8)=false:=axl J;clear hk;go_enter func119,ntmps119;go_wp2;go_ret2;exact⟨_,by rw[Hk.o];rfl,by rw[Hk.o];exact⟨none,0,rfl,λj x h=>by simp[Mj,pH,fieldsOf]at h⟩,ai.refl _ _⟩
def kh:List UInt8:=[48,49,50,51,52,53,54,55,56,57,97,98,99,100,101,102]
theorem Bp (n:Nat)(h:n<16):kh[n]?=some (oB n):=by
 rcases(by omega:n=0\/n=1\/n=2\/n=3\/n=4\/n=5\/n=6\/n=7\/n=8\/n=9\/n=10\/n=11\/n=12\/n=13\/n=14\/n=15)with h|h|h|h|h|h|h|h|h|h|h|h|h|h|h|h<;>subst h<;>decide
theorem Ir (d:List UInt8)(b:UInt8):ju (d++[b])=ju d++[oB (b.toNat/16)]++[oB (b.toNat%16)]:=by simp[ju]
theorem Mk:∀ n:Fin 256,bits .and .u8 (n.val:Int) 15=((n.val%16:Nat):Int):=by decide +kernel
theorem adg (x:UInt8):bits .and .u8 (x.toNat:Int) 15=((x.toNat%16:Nat):Int):=Mk ⟨x.toNat,x.toNat_lt⟩
theorem xg (k:IntKind)(i:Int)(n:Nat)(hi:i=(n:Int))(hn:n<16)(W:World):
  (Instr.index 9 (.string ⟨#[48,49,50,51,52,53,54,55,56,57,97,98,99,100,101,102]⟩) (.int k i)).run prog W=.ok (.int .u8 ((oB n).toNat:Int)) W:=
 aM underlying9 kh k i (oB n) J (by rw[show i.toNat=n by omega];exact Bp n hn) W
theorem Ml (d:List UInt8)(w:World)(hd:d.length<=1099511627776):
  Calls prog 200 #[.string ⟨d.toArray⟩] w λe w'=>e=.returned (.string ⟨(rL d).toArray⟩)/\af w w':=by
 by_cases h0:d=[]
 ·subst h0;go_enter func200,ntmps200;go_wp2;go_ret;exact⟨rfl,ai.refl _ _⟩
 ·have e0:(d==[])=false:=axl h0;have e1:d.isEmpty=false:=by cases d;exact absurd rfl h0;rfl
  have He:Hid (rL d=ju d):=Z (by rw[rL,awf h0]);have nE:=Z (mS w);have eR:Hid (Below w.heap.size w (w.alloc (.cells #[.pointer none,.slice none 0 0] 176))):=Z ((Below.refl _ _).alloc (av9 _) _);clear h0;go_enter func200,ntmps200;go_wp2_with fail;generalize w.alloc (.cells #[.pointer none,.slice none 0 0] 176)=w0 at*
  go_loopw [9] (λi wr=>∃ k:Nat,k<=d.length/\i=.int .i64 (k:Int)/\cX w.heap.size w.heap.size (ju (d.take k)) wr/\Below w.heap.size w wr) (λi _=>d.length-(intOf i).toNat)
  case atStart=>exact⟨0,J,rfl,nE.o,eR.o⟩
  case round=>
   clear nE eR;obtain⟨k,hk,rfl,hB,hK⟩:=hrel;obtain⟨HB,HK⟩:=K2 hB hK;clear hB hK;by_cases aP:k<d.length
   ·obtain⟨x,hx⟩:∃ x,d[k]?=some x:=⟨_,av6 aP⟩
    have Cc:Hid (ju (d.take (k+1))=ju (d.take k)++[oB (x.toNat/16)]++[oB (x.toNat%16)]):=Z (by rw[av8,hx,Option.toList_some,Ir]);have OZ:∀ W,(Instr.index 9 (.string ⟨d.toArray⟩) (.int .i64 (k:Int))).run prog W=.ok (.int .u8 (x.toNat:Int)) W:=λW=>aM underlying9 d .i64 (k:Int) x J (by rw[awH];exact hx) W;clear hx;have N0:Hid ((ju (d.take k)).length<=2*d.length):=Z (by rw[sT,awc];omega);have Cs:=λW=>xg .u8 ((x.toNat:Int)/16) (x.toNat/16) J (by have:=x.toNat_lt;omega) W;go_wp2_with fail;refine(vO w.heap.size w.heap.size (ju (d.take k)) (oB (x.toNat/16)) wr HB.o (by have:=N0.o;omega) HK.size).mono ?_;rintro e w1 ⟨rfl,hb1,hk1⟩;obtain⟨jg,cC⟩:=K2 hb1 (HK.trans hk1);clear hb1 hk1 Cs;have vg:=λW=>xg .u8 (bits .and .u8 (x.toNat:Int) 15) (x.toNat%16) (adg x) J W;go_wp2_with fail;refine(vO w.heap.size w.heap.size (ju (d.take k)++[oB (x.toNat/16)]) (oB (x.toNat%16)) w1 jg.o (by have:=N0.o;simp;omega) cC.size).mono ?_;rintro e w2 ⟨rfl,fh,dK⟩;obtain⟨lJ,bJ⟩:=K2 fh (cC.trans dK);clear fh dK vg OZ;go_wp2_with fail;exact⟨⟨k+1,J,by go_num,by rw[Cc.o];exact lJ.o,bJ.o⟩,by simp[intOf];omega⟩
   ·obtain rfl:k=d.length:=J
    rw[awa]at HB;go_wp2_with fail;refine(gF w.heap.size w.heap.size (ju d) wr HB.o HK.size).mono ?_;rintro e w1 ⟨rfl,hk1⟩;have cC:=Z (HK.trans hk1);clear hk1;go_wp2;go_ret;exact⟨by rw[He.o];rfl,ai.ofBelow cC.o⟩
theorem Qz:∀ n:Fin 256,Lib.indexByte kh (UInt8.ofNat n.val)=fM (UInt8.ofNat n.val):=by decide +kernel
theorem VI (c:UInt8):Lib.indexByte kh c=fM c:=by
 have h:=Qz ⟨c.toNat,c.toNat_lt⟩;simpa using h
theorem QA (c:UInt8)(w:World):
  Calls prog 254 #[.string ⟨#[48,49,50,51,52,53,54,55,56,57,97,98,99,100,101,102]⟩,.int .u8 (c.toNat:Int)] w λe w'=>e=.returned (.int .i64 (fM c))/\w'=w:=by
 have h:=Tryz.strings_IndexByte ⟨kh.toArray⟩ (c.toNat:Int) w;have e:((c.toNat:Int).toNat).toUInt8=c:=by simp
 rw[e]at h;have e2:Lib.indexByte ({ data:=kh.toArray }:ByteArray).data.toList c=fM c:=VI c;rw[e2]at h;exact h
theorem Kg (c:UInt8):-1<=fM c/\fM c<=15:=by
 unfold fM;split
 ·omega
 ·split<;>omega
theorem Mm (x:Int):IntKind.u8.wrap x=((sS x).toNat:Int):=by
 rw[IntKind.wrap_u8,sS];simp;omega
theorem oP (v:UInt8->Int):∀(n:Nat) (l m:List UInt8),l.length=2*n->bG v (l++m)=bG v l++bG v m
 |0,l,m,h=>by
  obtain rfl:=awD.1 (by omega:l.length=0);simp[bG]
 |n+1,[],m,h=>by simp at h
 |n+1,[a],m,h=>by simp at h;omega
 |n+1,a::b::l,m,h=>by
  rw[awK,awK,bG,bG,oP v n l m (by simp at h;omega),awK]
theorem ui (v:UInt8->Int):∀(n:Nat) (l:List UInt8),l.length<=n->(bG v l).length<=n
 |0,l,h=>by
  obtain rfl:=awD.1 (by omega:l.length=0);simp[bG]
 |n+1,[],h=>by simp[bG]
 |n+1,[a],h=>by simp[bG]
 |n+1,a::b::l,h=>by
  have:=ui v n l (by simp at h;omega);rw[bG,av5];omega
theorem Bq (v:UInt8->Int){a b:UInt8}(ha:s[2*j]?=some a)(hb:s[2*j+1]?=some b):bG v (s.take (2*(j+1)))=bG v (s.take (2*j))++[sS (16*v a+v b)]:=by
 have aP:=(awk.1 hb).1;have e:s.take (2*(j+1))=s.take (2*j)++[a,b]:=by
  rw[show 2*(j+1)=2*j+1+1 by omega,av8,av8,ha,hb];simp
 rw[e,oP v j _ _ (by rw[awc];omega)];rfl
theorem Ej (v:UInt8->Int)(h1:2*j<=s.length)(h:s.length<=2*j+1):bG v s=bG v (s.take (2*j)):=by
 conv=>lhs;rw[<-List.take_append_drop (2*j) s]
 rw[oP v j _ _ (by rw[awc];omega)];have hl:(s.drop (2*j)).length<=1:=by rw[List.length_drop];omega
 rcases hd:s.drop (2*j)with _|⟨a,_|⟨b,r⟩⟩
 ·simp[bG]
 ·simp[bG]
 ·rw[hd]at hl;simp at hl
theorem xh {f:FuncId}{args:Array Value}(h:Calls P f args (w.drewN n) λe w'=>e=.returned v/\w'=w.drewN n):Calls P f args (w.drewN n) λe w''=>e=.returned v/\∃ m,w''=w.drewN m:=
 h.mono λ_ _ ⟨a,b⟩=>⟨a,n,b⟩
theorem Ek (s:List UInt8)(w:World)(hs:s.length<=4398046511104):
  Calls prog 202 #[.string ⟨s.toArray⟩] w λe w'=>e=.returned (.string ⟨(uR s).toArray⟩)/\af w w':=by
 by_cases h0:s=[45]
 ·subst h0;go_enter func202,ntmps202;go_wp2;go_ret;exact⟨rfl,ai.refl _ _⟩
 ·have e0:(s==[45])=false:=axl h0;have He:Hid (uR s=bG fM s):=Z (by rw[uR,awf h0]);have nE:=Z (mS w);have eR:Hid (Below w.heap.size w (w.alloc (.cells #[.pointer none,.slice none 0 0] 176))):=Z ((Below.refl _ _).alloc (av9 _) _);clear h0;go_enter func202,ntmps202;go_wp2_with fail;generalize w.alloc (.cells #[.pointer none,.slice none 0 0] 176)=w0 at*
  go_loopw [4] (λi wr=>∃ k:Nat,k<=s.length+1/\i=.int .i64 (k:Int)/\Hid (∃ j,k=2*j)/\cX w.heap.size w.heap.size (bG fM (s.take k)) wr/\Below w.heap.size w wr) (λi _=>s.length+2-(intOf i).toNat)
  case atStart=>exact⟨0,J,rfl,Z ⟨0,rfl⟩,nE.o,eR.o⟩
  case round=>
   clear nE eR;obtain⟨k,hk,rfl,Hj,hB,hK⟩:=hrel;obtain⟨HB,HK⟩:=K2 hB hK;clear hB hK;by_cases aP:k+1<s.length
   ·obtain⟨a,ha⟩:∃ a,s[k]?=some a:=⟨_,av6 J⟩
    obtain⟨b,hb⟩:∃ b,s[k+1]?=some b:=⟨_,av6 aP⟩
    have Cc:Hid (bG fM (s.take (k+2))=bG fM (s.take k)++[sS (16*fM a+fM b)]):=Z (by
     obtain⟨j,rfl⟩:=Hj.o;exact Bq fM ha hb)
    have Hj2:Hid (∃ j,k+2=2*j):=Z (by obtain⟨j,rfl⟩:=Hj.o;exact⟨j+1,J⟩);have N0:Hid ((bG fM (s.take k)).length<=s.length):=Z (av2 (ui fM _ _ (av9 _)) (by rw[awc];omega));have hi1:∀ W,(Instr.index 9 (.string ⟨s.toArray⟩) (.int .i64 (k:Int))).run prog W=.ok (.int .u8 (a.toNat:Int)) W:=λW=>aM underlying9 s .i64 (k:Int) a J (by rw[awH];exact ha) W;have hi2:∀ W,(Instr.index 9 (.string ⟨s.toArray⟩) (.int .i64 ((k:Int)+1))).run prog W=.ok (.int .u8 (b.toNat:Int)) W:=λW=>aM underlying9 s .i64 ((k:Int)+1) b J (by rw[show((k:Int)+1).toNat=k+1 by omega];exact hb) W;have OJ:=Kg a;have hvb:=Kg b;have q1:IntKind.i64.wrap ((k:Int)+1)=(k:Int)+1:=axx _ J;have q2:IntKind.i64.wrap (16*fM a)=16*fM a:=axx _ J;have q3:IntKind.i64.wrap (16*fM a+fM b)=16*fM a+fM b:=axx _ J;have q4:=Mm (16*fM a+fM b);clear ha hb;go_wp2_with fail;refine gl 12 kr7 kr7 ?_;simp only[awS,awT,awU,awV]
    repeat (quiet_step (first|(with_reducible exact xh (QA a _))|(with_reducible exact xh (QA b _))))
    refine awX ?_;intro _ bD;obtain⟨nq,rfl⟩:=bD;clear q1 q2 q3 q4 hi1 hi2;have HBn:Hid (cX w.heap.size w.heap.size (bG fM (s.take k)) (wr.drewN nq)):=Z (show cX w.heap.size w.heap.size (bG fM (s.take k)) (wr.drewN nq)from HB.o);go_wp2_with fail;refine(vO w.heap.size w.heap.size (bG fM (s.take k)) (sS (16*fM a+fM b)) (wr.drewN nq) HBn.o (by have:=N0.o;omega) HK.size).mono ?_;rintro e w2 ⟨rfl,fh,dK⟩;have lJ:=Z fh;have bJ:Hid (Below w.heap.size w w2):=Z ((((ai.ofBelow HK.o).drewN nq).below).trans dK);clear fh dK;go_wp2_with fail;exact⟨⟨k+2,J,by go_num,Hj2,by rw[Cc.o];exact lJ.o,bJ.o⟩,by simp[intOf];omega⟩
   ·have Hx:Hid (bG fM (s.take k)=bG fM s):=Z (by
     obtain⟨j,rfl⟩:=Hj.o;by_cases h:2*j<=s.length
     ·exact(Ej fM h J).symm
     ·rw[awQ J])
    rw[Hx.o]at HB;go_wp2_with fail;refine(gF w.heap.size w.heap.size (bG fM s) wr HB.o HK.size).mono ?_;rintro e w1 ⟨rfl,hk1⟩;have cC:=Z (HK.trans hk1);clear hk1;go_wp2;go_ret;exact⟨by rw[He.o];rfl,ai.ofBelow cC.o⟩
def dq (c:cm):Array Value:=#[.int .i64 c.kind,.string ⟨c.path.toArray⟩,.string ⟨c.dest.toArray⟩,.int .i64 c.pos,.string ⟨c.data.toArray⟩]
def kZ (c:cm):Value:=.agg (dq c)
structure cm.Small (c:cm):Prop where
 path:c.path.length<4294967281
 dest:c.dest.length<4294967281
 data:c.data.length<=1099511627776
 pos:-9223372036854775808<=c.pos/\c.pos<=9223372036854775807
theorem cw {c:cm}{t:TypeId}(h:World.blk w b (dq c) t):
  w.cell? ⟨b,0,none⟩=some (.int .i64 c.kind)/\w.cell? ⟨b,1,none⟩=some (.string ⟨c.path.toArray⟩)/\w.cell? ⟨b,2,none⟩=some (.string ⟨c.dest.toArray⟩)/\
  w.cell? ⟨b,3,none⟩=some (.int .i64 c.pos)/\w.cell? ⟨b,4,none⟩=some (.string ⟨c.data.toArray⟩):=
 ⟨aa h 0,aa h 1,aa h 2,aa h 3,aa h 4⟩
theorem xi (s:List UInt8):(jZ s==0)=(bA s).isSome:=by
 unfold jZ;cases (bA s).isSome<;>rfl
theorem pI (s:List UInt8)(w:World)(hs:s.length<=140737488355328):
  Calls prog 52 #[.string ⟨s.toArray⟩] w λe w'=>e=.returned (.bool (aJ s))/\af w w':=oO s w hs
theorem Mn (c:cm)(f:Nat)(hf:1<=f/\f<=5)(b:Nat)(w:World)(he:yK w)(hc:c.Small)(hB:World.blk w b (dq c) 55):
  Calls prog 120 #[.pointer (some ⟨b,0,none⟩),.int .i64 (f:Int)] w λe w'=>e=.returned (.tuple #[.string ⟨(c.fieldText f).toArray⟩,.bool (c.fieldOk f)])/\af w w':=by
 obtain⟨He,Hc,HB⟩:=K3 he hc hB;obtain⟨c0,c1,c2,c3,c4⟩:=cw hB;have mL:=ak hB;clear he hc hB;rcases(by omega:f=1\/f=2\/f=3\/f=4\/f=5)with rfl|rfl|rfl|rfl|rfl
 ·clear hf;go_enter func120,ntmps120;go_wp2_with fail;refine(xf c.path w He.o Hc.path).mono ?_;rintro e w1 ⟨v,rfl,-,hk⟩;have HK:=Z hk;obtain⟨c0,c1,c2,c3,c4⟩:=cw (ab hk HB.o id);have bZ:=xi c.path;clear hk;generalize hb:(bA c.path).isSome=ok at*;have Hb:=Z hb;clear hb;go_wp2;go_ret2;exact⟨by rw[show c.fieldOk 1=ok from Hb.o];rfl,HK.o⟩
 ·clear hf;go_enter func120,ntmps120;go_wp2_with fail;refine(xf c.dest w He.o Hc.dest).mono ?_;rintro e w1 ⟨v,rfl,-,hk⟩;have HK:=Z hk;obtain⟨c0,c1,c2,c3,c4⟩:=cw (ab hk HB.o id);have bZ:=xi c.dest;clear hk;generalize hb:(bA c.dest).isSome=ok at*;have Hb:=Z hb;clear hb;go_wp2;go_ret2;exact⟨by rw[show c.fieldOk 2=ok from Hb.o];rfl,HK.o⟩
 ·clear hf;by_cases h0:0<=c.pos
  ·have d0:decide (0<=c.pos)=true:=by simpa using h0
   have Hv:Hid (c.fieldOk 3=decide (c.pos<=16384)):=Z (by simp[cm.fieldOk,h0]);go_enter func120,ntmps120;go_wp2_with fail;refine cl kr7 kr7 ?_
   repeat (quiet_step (with_reducible exact ar (C9 c.pos Hc.o.pos.1 Hc.o.pos.2 _ (He.o.keep (aC _ _)))))
   refine awX ?_;intro _ bD;obtain⟨xq,rfl⟩:=bD;go_wp2;go_ret2;exact⟨by rw[Hv.o];rfl,aC _ _⟩
  ·have d0:decide (0<=c.pos)=false:=by simpa using h0
   have Hv:Hid (c.fieldOk 3=false):=Z (by simp[cm.fieldOk,h0]);go_enter func120,ntmps120;go_wp2_with fail;refine cl kr7 kr7 ?_
   repeat (quiet_step (with_reducible exact ar (C9 c.pos Hc.o.pos.1 Hc.o.pos.2 _ (He.o.keep (aC _ _)))))
   refine awX ?_;intro _ bD;obtain⟨xq,rfl⟩:=bD;go_wp2;go_ret2;exact⟨by rw[Hv.o];rfl,aC _ _⟩
 ·clear hf;go_enter func120,ntmps120;go_wp2_with fail;refine cl kr7 kr7 ?_
  repeat (quiet_step (with_reducible exact ar (Ml c.data _ Hc.o.data)))
  refine awX ?_;intro _ bD;obtain⟨xq,rfl⟩:=bD;have Hv:Hid (c.fieldOk 4=decide ((c.data.length:Int)<=512)):=Z (by rw[cm.fieldOk];congr 1;exact propext J);go_wp2;go_ret2;exact⟨by rw[Hv.o];rfl,aC _ _⟩
 ·clear hf;go_enter func120,ntmps120;go_wp2_with fail;refine cl kr7 kr7 ?_
  repeat (quiet_step (with_reducible exact ar (pI c.path _ (by have:=Hc.o.path;omega))))
  refine awX ?_;intro _ bD;obtain⟨xq,rfl⟩:=bD;go_wp2;go_ret2;exact⟨rfl,aC _ _⟩
theorem QB (c:cm)(f:Nat)(hf:1<=f/\f<=5)(s:List UInt8)(b:Nat)(w:World)(he:yK w)(hs:s.length<=4398046511104)(hB:World.blk w b (dq c) 55):
  Calls prog 121 #[.pointer (some ⟨b,0,none⟩),.int .i64 (f:Int),.string ⟨s.toArray⟩] w λe w'=>e=.returned (.tuple #[])/\ai (·=b) w w'/\World.blk w' b (dq (c.take f s)) 55:=by
 obtain⟨He,HB⟩:=K2 he hB;obtain⟨c0,c1,c2,c3,c4⟩:=cw hB;have fz:∀ i,w.frozen? ⟨b,i,none⟩=false:=λi=>ae hB _ rfl;have f1:=fz 1;have f2:=fz 2;have mL:=ak hB;clear he hB fz;rcases(by omega:f=1\/f=2\/f=3\/f=4\/f=5)with rfl|rfl|rfl|rfl|rfl
 ·clear hf;go_enter func121,ntmps121;go_wp2_with fail;go_end0;exact⟨rfl,(ai.refl (·=b) w).setCell (p:=⟨b,_,none⟩) (.inl rfl) _,ah HB.o _ _⟩
 ·clear hf;go_enter func121,ntmps121;go_wp2_with fail;go_end0;exact⟨rfl,(ai.refl (·=b) w).setCell (p:=⟨b,_,none⟩) (.inl rfl) _,ah HB.o _ _⟩
 ·clear hf;go_enter func121,ntmps121;go_wp2_with fail;refine(Pm s J w He.o).mono ?_;rintro e w1 ⟨⟨x,rfl⟩,hk⟩;have jg:=Z (ab hk HB.o id);have HK:Hid (ai (·=b) w w1):=Z (hk.mono (λ_ _ h=>h.elim));obtain⟨c0,c1,c2,c3,c4⟩:=cw jg.o;have f3:w1.frozen? ⟨b,3,none⟩=false:=ae jg.o _ rfl;clear hk;go_wp2_with fail;go_end0;exact⟨rfl,HK.setCell (.inl rfl) _,ah jg.o _ _⟩
 ·clear hf;go_enter func121,ntmps121;go_wp2_with fail;refine(Ek s w hs).mono ?_;rintro e w1 ⟨rfl,hk⟩;have jg:=Z (ab hk HB.o id);have HK:Hid (ai (·=b) w w1):=Z (hk.mono (λ_ _ h=>h.elim));obtain⟨c0,c1,c2,c3,c4⟩:=cw jg.o;have f4:w1.frozen? ⟨b,4,none⟩=false:=ae jg.o _ rfl;clear hk;go_wp2_with fail;go_end0;exact⟨rfl,HK.setCell (.inl rfl) _,ah jg.o _ _⟩
 ·clear hf;go_enter func121,ntmps121;go_wp2_with fail;go_end0;exact⟨rfl,(ai.refl (·=b) w).setCell (p:=⟨b,_,none⟩) (.inl rfl) _,ah HB.o _ _⟩
end
end Go.Proofs.YtkghpdcloaiflaaGreatDoor
