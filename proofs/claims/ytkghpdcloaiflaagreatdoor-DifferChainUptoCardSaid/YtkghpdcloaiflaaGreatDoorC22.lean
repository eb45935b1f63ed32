import Derived.Test.YtkghpdcloaiflaaGreatDoorC09
import Derived.Lib.SlTrimSet
import Derived.Deep.RegionWith
import Derived.IntWalk
import Derived.Deep.DeepCutAuto
set_option maxHeartbeats 2000000
set_option maxRecDepth 100000
namespace Go.Proofs.YtkghpdcloaiflaaGreatDoor
open _root_.Go.Proofs.Tryz
section
open Go.RowKit
section
variable {α:Type}{f:α->List Value}{sz:Nat}
theorem Ds (hf:∀ a,(f a).length=sz)(l:List α):∀(j i:Nat),i<sz->(l.flatMap f)[j*sz+i]?=(l[j]?).bind fun a=>(f a)[i]?:=by
 induction l with
 |nil=>intro j i _;simp
 |cons x r ih=>
  intro j i hi;rw[aus]
  cases j with
  |zero=>
   rw[Nat.zero_mul,auy,List.getElem?_append_left (by rw[hf];exact hi)];simp
  |succ j=>
   rw[List.getElem?_append_right (by rw[hf,Nat.succ_mul];omega),hf,show(j+1)*sz+i-sz=j*sz+i by rw[Nat.succ_mul];omega,ih j i hi];simp
theorem rF (hf:∀ a,(f a).length=sz)(l:List α):(l.flatMap f).length=l.length*sz:=by
 induction l with
 |nil=>simp
 |cons x r ih=>rw[aus,at0,hf,ih,atH,Nat.succ_mul];omega
def jY (f:α->List Value)(sz:Nat)(w:World)(v:Value)(l:List α):Prop:=
 ∃ a cap,v=.slice a l.length cap/\∀ j x,l[j]?=some x->∃ b o,a=some ⟨b,o,none⟩/\∀ i c,(f x)[i]?=some c->w.cell? ⟨b,o+j*sz+i,none⟩=some c
abbrev dQ (f:α->List Value)(sz:Nat)(t:TypeId)(w:World)(base:Nat)(v:Value)(l:List α):Prop:=w.ownsRow base t sz v l.length (l.flatMap f)
theorem cf (hf:∀ a,(f a).length=sz){w:World}{base:Nat}{t:TypeId}{v:Value}{l:List α}(h:dQ f sz t w base v l):jY f sz w v l:=by
 rcases h.2 with⟨rfl,h3⟩|⟨g,cap,du,rfl,hb,hg,Ke,hm,cA,uS⟩
 ·have hl:l=[]:=auk.1 (by omega);subst hl;exact⟨none,0,rfl,fun j x h=>by simp at h⟩
 ·refine⟨some ⟨g,0,none⟩,cap,rfl,fun j x hx=>⟨g,0,rfl,fun i c hc=>?_⟩⟩;have aM:=(atX.1 hx).1;have hi:i<sz:=by have:=(atX.1 hc).1;rwa [hf]at this
  have h1:=Ds hf l j i hi;rw[hx]at h1;simp only[Option.bind_some]at h1;rw[hc,<-uS,List.getElem?_take]at h1;rw[auy];split at h1
  ·simp[World.cell?,hg,<-Array.getElem?_toList,h1]
  ·cases h1
theorem eO {w w':World}{v:Value}{l:List α}(h:jY f sz w v l)(k:af w w'):jY f sz w' v l:=by
 obtain⟨a,cap,hv,hx⟩:=h;refine⟨a,cap,hv,fun j x hj=>?_⟩;obtain⟨b,o,e,hc⟩:=hx j x hj;exact⟨b,o,e,fun i c hi=>by rw[k.cell (p:=⟨b,o+j*sz+i,none⟩) (am (hc i c hi)) id];exact hc i c hi⟩
theorem gZ {t:TypeId}{w w':World}{base n:Nat}{v:Value}{xs:List Value}(h:w.ownsRow base t sz v n xs)(k:af w w'):w'.ownsRow base t sz v n xs:=by
 obtain⟨h1,h2⟩:=h;refine⟨h1,?_⟩;rcases h2 with h2|⟨g,cap,du,a,b,c,d⟩
 ·exact .inl h2
 ·exact .inr ⟨g,cap,du,a,b,k.obj c id,d⟩
theorem qa {P:Program}{ts te:TypeId}{z:Value}{bytes:Nat}(hs:P.underlying ts=some (.slice te))(hi:(P.info? te).map (fun i=>(i.zero,i.size,i.bytes))=some (some z,sz,bytes))(hz:z.cells.size=sz)(cA:0<sz)
  (hf:∀ a,(f a).length=sz) (base:Nat) (v:Value) (l:List α) (w w0:World) (bt:dQ f sz te w base v l) (x:α) (h1:∀ u∈f x,u.oneCell'=true) (hn:l.length+1<=maxLen) (Bk:(l.length+1)*bytes<=140737488355328)
  (E5:base<=w.heap.size) (h0:af w0 w) (iC:w0.heap.size<=base):
  ∃ v' w',(Builtin.append_ #[ts,ts] ts #[v,.slice (some ⟨w.heap.size,0,none⟩) 1 1]).run P (w.alloc (.cells (f x).toArray te))=.ok v' w'/\dQ f sz te w' base v' (l++[x])/\af w0 w'/\ah (fun b=>base<=b) w w':=by
 obtain⟨i0,hi,nD,mK,ol⟩:=atW hi;obtain⟨v',w',r1,r2,r3,_⟩:=run_append_own (P:=P) (w.alloc (.cells (f x).toArray te)) base ts ts te i0 z sz bytes hs hi nD mK ol hz cA v l.length (l.flatMap f) (bt.alloc _) ⟨w.heap.size,0,none⟩ 1 1 (f x) (by rw[hf];omega) (fun j u hu=>by
  rw[gl,auy,World.cell?_alloc_at _ _ _ _ rfl];simpa using hu) h1 (by exact hn) Bk (by simp;omega)
 refine⟨v',w',r1,?_,ah.grown (h0.alloc _) r3 (fun k hk=>.inr (atE iC (bt.lt k hk).1)),ah.grown ((ah.refl _ w).alloc _) r3 (fun k hk=>.inl (bt.lt k hk).1)⟩;unfold dQ;rw[atZ,at0];simpa using r2
end
theorem dM {w w':World}{o:Obj}(h:af (w.alloc o) w'):af w w':=((ah.refl (fun _=>False) w).alloc o).keep h
theorem AY {w w':World}(h:af w.drew w'):af w w':=((ah.refl (fun _=>False) w).drew).keep h
def GK (p:List UInt8×Int):List Value:=[.string ⟨p.1.toArray⟩,.int .i64 p.2]
abbrev Yj (p:List UInt8×Int):Value:=.agg #[.string ⟨p.1.toArray⟩,.int .i64 p.2]
theorem Dt:∀ p,(GK p).length=2:=fun _=>rfl
theorem wJ:∀(a b:List UInt8),(!(Op.bytesLess a b||a==b))=bytesBefore b a
 |[],[]=>by simp[bytesBefore]
 |[],_::_=>by simp[bytesBefore,Op.bytesLess]
 |_::_,[]=>by simp[bytesBefore,Op.bytesLess]
 |x::r,y::s=>by
  rw[bytesBefore,<-wJ r s,Op.bytesLess,List.cons_beq_cons];by_cases h1:x<y
  ·have h2:¬ y<x:=fun h=>absurd (UInt8.lt_trans h1 h) (UInt8.lt_irrefl _);have h4:¬ y=x:=fun h=>by subst h;exact UInt8.lt_irrefl _ h1
   simp[h1,h2,h4]
  ·by_cases h2:x=y
   ·subst h2;simp[UInt8.lt_irrefl]
   ·have h3:y<x:=by
     rcases UInt8.lt_or_lt_of_ne h2 with h|h
     ·exact absurd h h1
     ·exact h
    simp[h1,h2,h3]
end
section
open Go.RowKit
def nh:List UInt8:=[97,98,99,100,101,102,103,104,105,106,107,108,109,110,111,112,113,114,115,116,117,118,119,120,121,122,48,49,50,51,52,53,54,55,56,57,46,45,95]
theorem Du:∀ n:Fin 256,nh.contains (UInt8.ofNat n.val)=ip (UInt8.ofNat n.val):=by decide +kernel
theorem Dv (c:UInt8):nh.contains c=ip c:=by
 have h:=Du ⟨c.toNat,c.toNat_lt⟩;simpa using h
theorem l9 {α:Type}(p:α->Bool)(l:List α):l.dropWhile p=[]↔l.all p=true:=by
 induction l with
 |nil=>simp
 |cons a l ih=>
  rw[List.dropWhile_cons];split
  ·rename_i h;rw[ih,List.all_cons,h,Bool.true_and]
  ·rename_i h;simp[h]
theorem yz {α:Type}(p:α->Bool)(l:List α)(h:(l.dropWhile p).all p=true):l.dropWhile p=[]:=by
 rcases hl:l.dropWhile p with _|⟨a,r⟩
 ·rfl
 ·rw[hl]at h;have:p a=false:=by
   have:=List.head?_dropWhile_not p l;rw[hl]at this;simpa using this
  simp[this]at h
theorem Lt (l cs:List UInt8):Lib.trimS l cs=[]↔l.all (cs.contains ·)=true:=by
 unfold Lib.trimS Lib.trimLeftS Lib.trimRightS;rw[l9,List.all_reverse]
 constructor
 ·intro h;have:=(l9 _ _).1 (yz _ _ h)
  rwa [List.all_reverse]at this
 ·intro h;rw[(l9 (cs.contains ·) l.reverse).2 (by rw[List.all_reverse];exact h)];rfl
theorem Lu {l:List UInt8}:(Lib.trimS l nh==[])=l.all ip:=by
 rw[aut,auq,Lt];have e:(fun c=>nh.contains c)=ip:=funext Dv;rw[e]
theorem rG (s:List UInt8)(w:World)(hs:s.length<=140737488355328):
  Calls prog 52 #[.string ⟨s.toArray⟩] w fun e w'=>e=.returned (.bool (aH s))/\af w w':=by
 have HT:=hd0 (Tryz.strings_Trim_laid ⟨s.toArray⟩ ⟨nh.toArray⟩ w (by have:({ data:=s.toArray }:ByteArray).size=s.length:=by simp[ByteArray.size]
                                                                     rw[this];omega) (by decide) (ascii_of_all (by decide)))
 by_cases h0:s=[]
 ·subst h0;go_enter func52,ntmps52;go_wp2;go_ret;exact⟨rfl,ah.refl _ _⟩
 ·have e0:(s==[])=false:=au2 h0;have e1:s.isEmpty=false:=by cases s;exact absurd rfl h0;rfl
  have hp:1<=s.length:=by cases s;exact absurd rfl h0;simp
  by_cases h1:s.length<=16
  ·by_cases h2:s=[46]
   ·subst h2;clear HT;go_enter func52,ntmps52;go_wp2;go_ret;exact⟨rfl,ah.refl _ _⟩
   ·by_cases h3:s=[46,46]
    ·subst h3;clear HT;go_enter func52,ntmps52;go_wp2;go_ret;exact⟨rfl,ah.refl _ _⟩
    ·have e2:(s==[46])=false:=au2 h2;have e3:(s==[46,46])=false:=au2 h3;have Hv:Hid (aH s=s.all ip):=hd0 (by simp[aH,e2,e3,h1,hp]);have h1':(s.length:Int)<=16:=by omega
     have Ht:=hd0 (Lu (l:=s));have Hh:=hd0 (And.intro h0 (And.intro h2 h3));clear h0 h2 h3 h1;go_enter func52,ntmps52;go_wp2_with fail;refine(HT.out).mono ?_;rintro e w1 ⟨rfl,hb⟩;have HK:=hd0 (ah.ofBelow hb);clear hb;have e5:(Lib.trimS s nh==[])=s.all ip:=Ht.out;generalize s.all ip=b at*;generalize Lib.trimS s nh=t at*;go_wp2;go_ret;exact⟨by rw[Hv.out,<-e5];rfl,HK.out⟩
  ·have h1':¬(s.length:Int)<=16:=by omega
   have Hv:Hid (aH s=false):=hd0 (by simp[aH,h1]);clear h0 HT;go_enter func52,ntmps52;go_wp2;go_ret;exact⟨by rw[Hv.out];rfl,ah.refl _ _⟩
end
section
open Go.RowKit
def eH (s:List UInt8):Int:=if(bd s).isSome then 0 else 130
def cT (s:List UInt8):List (List UInt8):=(bd s).getD []
theorem zL:bd [47]=some []:=by rw[bd,atP rfl]
theorem PI {s:List UInt8}(h:∀ r,s≠47::r):bd s=none:=by
 unfold bd;split
 ·rename_i r;exact absurd rfl (h r)
 ·rfl
theorem Lw {r:List UInt8}(h:r≠[]):bd (47::r)=if(jM 47 r).length<=8/\(jM 47 r).all aH=true then some (jM 47 r)else none:=by
 rw[bd,atR h]
theorem Ly (r:List UInt8):Lib.trimPrefix (47::r) [47]=r/\Lib.hasPrefix (47::r) [47]=true:=by
 constructor<;>simp[Lib.trimPrefix,Lib.hasPrefix,List.isPrefixOf]
theorem PJ {s:List UInt8}(h:∀ r,s≠47::r):Lib.trimPrefix s [47]=s/\Lib.hasPrefix s [47]=false:=by
 have h1:Lib.hasPrefix s [47]=false:=by
  cases s with
  |nil=>rfl
  |cons c r=>
   have hc:¬ c=47:=fun e=>h r (by rw[e]);simp[Lib.hasPrefix,List.isPrefixOf];exact fun e=>hc e.symm
 exact⟨by rw[Lib.trimPrefix,h1];rfl,h1⟩
theorem uO (w:World)(base:Nat)(t:TypeId):w.ownsRow base t 1 (.slice none 0 0) 0 []:=⟨rfl,.inl ⟨rfl,rfl⟩⟩
theorem Dw {w:World}{b base:Nat}{l:List (List UInt8)}(h:World.blk w b (aF l) 9)(hb:base<=b)(hl:l.length<=maxLen):im w base (.slice (some ⟨b,0,none⟩) l.length l.length) l:=
 ⟨by simp[aF],.inr ⟨b,l.length,aF l,rfl,hb,h,atL _,hl,by simp[aF],by rw[Nat.mul_one];exact aux (by simp[aF])⟩⟩
theorem my (s:List UInt8)(w:World)(he:tL w)(hs:s.length<4294967281):
  Calls prog 198 #[.string ⟨s.toArray⟩] w fun e w'=>∃ v,e=.returned (.tuple #[v,.int .i64 (eH s)])/\im w' w.heap.size v (cT s)/\af w w':=by
 have He:=hd0 he;have Hs:=hd0 hs;clear he hs;by_cases h0:s=[47]
 ·subst h0;go_enter func198,ntmps198;go_wp2;go_ret2;exact⟨_,by rw[eH,zL];rfl,by rw[cT,zL];exact uO _ _ _,ah.refl _ _⟩
 ·have e0:(s==[47])=false:=au2 h0;by_cases h1:∃ r,s=47::r
  ·obtain⟨r,rfl⟩:=h1;have hr:r≠[]:=fun e=>h0 (by rw[e]);have Hp:=hd0 (Lw hr);have Ht:=hd0 (Ly r);have hlr:r.length<4294967281:=by have:=Hs.out;simp at this;omega
   have Hlr:=hd0 hlr;clear h0 hr hlr;go_enter func198,ntmps198;go_wp2_with fail;refine(pV (47::r) [47] w).mono ?_;rintro e w1 ⟨rfl,hw⟩;subst hw;rw[Ht.out.1,Ht.out.2];go_wp2_with fail;refine(zc 47 r Hlr.out _ He.out).mono ?_;rintro e w2 ⟨rfl,hw⟩;subst hw;have uw:(jM 47 r).length<=4294967281:=by rw[Tu];have:=List.count_le_length (a:=(47:UInt8)) (l:=r);have:=Hlr.out;omega
   have Hnm:Hid (∀ x∈jM 47 r,x.length<=4294967281):=hd0 (fun x hx=>by
    obtain⟨i,hi⟩:=List.mem_iff_getElem?.1 hx;have h1:=KC 47 r i;rw[au3,hi]at h1;have:=Hlr.out;simp at h1;omega)
   generalize jM 47 r=L at*;obtain⟨N,hN⟩:∃ N,L.length=N:=⟨_,rfl⟩
   have HN:=hd0 hN;rw[hN]at uw ⊢;clear e0 hN;have HB:Hid (World.blk (w1.alloc (.cells (aF L) 9)) w1.heap.size (aF L) 9):=hd0 (aw _ _ _);have HK:Hid (af w1 (w1.alloc (.cells (aF L) 9))):=hd0 ((ah.refl _ _).alloc _);by_cases h8:N<=8
   ·have h8':¬(N:Int)>8:=by omega
    go_wp2_with fail;generalize w1.alloc (.cells (aF L) 9)=w2 at*
    go_loopw [27] (fun i wr=>∃ k:Nat,k<=N/\i=.int .i64 (k:Int)/\af w2 wr/\(L.take k).all aH=true) (fun i _=>N-(intOf i).toNat)
    case atStart=>exact⟨0,by omega,rfl,ah.refl _ _,by simp⟩
    case round=>
     obtain⟨k,hk,rfl,hK,hA⟩:=hrel;have HKr:=hd0 hK;have HA:=hd0 hA;clear hK hA;by_cases aM:k<N
     ·obtain⟨x,hx⟩:∃ x,L[k]?=some x:=⟨_,atI (by rw[HN.out];exact aM)⟩
      have Hx:=hd0 hx;have hc:wr.cell? ⟨w1.heap.size,k,none⟩=some (.string ⟨x.toArray⟩):=by
       rw[aa (ab HKr.out HB.out id),FT,hx];rfl
      clear hx;go_wp2_with fail;refine(rG x wr (by have:=Hnm.out x (atJ Hx.out);omega)).mono ?_;rintro e w3 ⟨rfl,dq⟩;have dT:=hd0 (HKr.out.keep dq);clear dq hc;rcases cC:aH x with _|_
      ·have Hn:Hid (bd (47::r)=none):=hd0 (by
        rw[Hp.out,atR];rintro⟨_,h⟩;have:=at3.1 h x (atJ Hx.out);rw[cC]at this;cases this)
       clear cC;go_wp2;go_ret2;exact⟨_,by rw[eH,Hn.out];rfl,by rw[cT,Hn.out];exact uO _ _ _,HK.out.keep dT.out⟩
      ·have HA2:Hid ((L.take (k+1)).all aH=true):=hd0 (by
        rw[atK,Hx.out,Option.toList_some,List.all_append,HA.out];simp[cC])
       clear cC;go_wp2_with fail;exact⟨⟨k+1,by omega,by go_num,dT.out,HA2.out⟩,by simp[intOf];omega⟩
     ·have Hn:Hid (bd (47::r)=some L):=hd0 (by
       rw[Hp.out,atP];refine⟨by rw[HN.out];exact h8,?_⟩;have h:=HA.out
       rwa [aux (by rw[HN.out];omega)]at h)
      go_wp2;go_ret2;refine⟨_,by rw[eH,Hn.out];rfl,?_,HK.out.keep HKr.out⟩;rw[cT,Hn.out,<-HN.out];exact Dw (ab HKr.out HB.out id) (atL _) (by rw[HN.out];simp[maxLen];omega)
   ·have h8':(N:Int)>8:=by omega
    have Hn:Hid (bd (47::r)=none):=hd0 (by rw[Hp.out,atR (fun h=>h8 (by have:=h.1;rwa [HN.out]at this))]);go_wp2;go_ret2;exact⟨_,by rw[eH,Hn.out];rfl,by rw[cT,Hn.out];exact uO _ _ _,HK.out⟩
  ·have lB:∀ r,s≠47::r:=fun r e=>h1 ⟨r,e⟩;have Ht:=hd0 (PJ lB);have Hn:=hd0 (PI lB);clear h0 h1 lB;go_enter func198,ntmps198;go_wp2_with fail;refine(pV s [47] w).mono ?_;rintro e w1 ⟨rfl,hw⟩;subst hw;rw[Ht.out.1,Ht.out.2];go_wp2_with fail;refine(zc 47 s Hs.out _ He.out).mono ?_;rintro e w2 ⟨rfl,hw⟩;subst hw;clear e0;go_wp2;go_ret2;exact⟨_,by rw[eH,Hn.out];rfl,by rw[cT,Hn.out];exact uO _ _ _,(ah.refl _ _).alloc _⟩
end
section
open Go.RowKit
def Lz (l:List Int):List Value:=l.map (Value.int .i64)
@[simp] theorem PK (l:List Int):(Lz l).length=l.length:=by simp[Lz]
def Wi (kind:Int):Nat:=if 0<=kind/\kind<9 then kind.toNat else 9
theorem abL (c:bT):c.k=Wi c.kind:=rfl
def pI (k:Nat):List Int:=(fieldsOf k).map fun(f:Nat)=>(f:Int)
theorem PM (s:List UInt8)(v:Value)(w:World):
  Calls prog 197 #[.string ⟨s.toArray⟩,v] w fun e w'=>e=.returned (.tuple #[.string ⟨s.toArray⟩,v])/\w=w':=by
 go_enter func197,ntmps197;go_wp2;go_ret2;exact⟨rfl,rfl⟩
theorem PQ (kind:Int)(w:World):
  Calls prog 119 #[.int .i64 kind] w fun e w'=>∃ v,e=.returned (.tuple #[.string ⟨(cP (Wi kind)).toArray⟩,v])/\ez w' v (Lz (pI (Wi kind)))/\af w w':=by
 by_cases hk:0<=kind/\kind<9
 ·rcases(by omega:kind=0\/kind=1\/kind=2\/kind=3\/kind=4\/kind=5\/kind=6\/kind=7\/kind=8)with rfl|rfl|rfl|rfl|rfl|rfl|rfl|rfl|rfl
  all_goals
   clear hk;go_enter func119,ntmps119;go_wp2_with fail;refine(PM _ _ _).mono ?_;rintro e w1 ⟨rfl,hw⟩;subst hw;go_wp2;go_ret2;exact⟨_,rfl,Ay _ (aw _ _ _),(ah.refl _ _).alloc _⟩
 ·have Hk:Hid (Wi kind=9):=hd0 (by rw[Wi,atR hk]);have b0:(kind==0)=false:=au2 (by omega);have b1:(kind==1)=false:=au2 (by omega);have b2:(kind==2)=false:=au2 (by omega);have b3:(kind==3)=false:=au2 (by omega);have b4:(kind==4)=false:=au2 (by omega);have b5:(kind==5)=false:=au2 (by omega);have b6:(kind==6)=false:=au2 (by omega);have b7:(kind==7)=false:=au2 (by omega);have b8:(kind==8)=false:=au2 (by omega);clear hk;go_enter func119,ntmps119;go_wp2;go_ret2;exact⟨_,by rw[Hk.out];rfl,by rw[Hk.out];exact⟨none,0,rfl,fun j x h=>by simp[Lz,pI,fieldsOf]at h⟩,ah.refl _ _⟩
def kn:List UInt8:=[48,49,50,51,52,53,54,55,56,57,97,98,99,100,101,102]
theorem AZ (n:Nat)(h:n<16):kn[n]?=some (mo n):=by
 rcases(by omega:n=0\/n=1\/n=2\/n=3\/n=4\/n=5\/n=6\/n=7\/n=8\/n=9\/n=10\/n=11\/n=12\/n=13\/n=14\/n=15)with h|h|h|h|h|h|h|h|h|h|h|h|h|h|h|h<;>subst h<;>decide
theorem GL (d:List UInt8)(b:UInt8):iq (d++[b])=iq d++[mo (b.toNat/16)]++[mo (b.toNat%16)]:=by simp[iq]
theorem LB:∀ n:Fin 256,bits .and .u8 (n.val:Int) 15=((n.val%16:Nat):Int):=by decide +kernel
theorem abM (x:UInt8):bits .and .u8 (x.toNat:Int) 15=((x.toNat%16:Nat):Int):=LB ⟨x.toNat,x.toNat_lt⟩
theorem wK (k:IntKind)(i:Int)(n:Nat)(hi:i=(n:Int))(hn:n<16)(W:World):
  (Instr.index 9 (.string ⟨#[48,49,50,51,52,53,54,55,56,57,97,98,99,100,101,102]⟩) (.int k i)).run prog W=.ok (.int .u8 ((mo n).toNat:Int)) W:=
 ba underlying9 kn k i (mo n) (by omega) (by rw[show i.toNat=n by omega];exact AZ n hn) W
theorem LC (d:List UInt8)(w:World)(hd:d.length<=1099511627776):
  Calls prog 200 #[.string ⟨d.toArray⟩] w fun e w'=>e=.returned (.string ⟨(rB d).toArray⟩)/\af w w':=by
 by_cases h0:d=[]
 ·subst h0;go_enter func200,ntmps200;go_wp2;go_ret;exact⟨rfl,ah.refl _ _⟩
 ·have e0:(d==[])=false:=au2 h0;have e1:d.isEmpty=false:=by cases d;exact absurd rfl h0;rfl
  have He:Hid (rB d=iq d):=hd0 (by rw[rB,atR h0]);have nG:=hd0 (mX w);have dN:Hid (Below w.heap.size w (w.alloc (.cells #[.pointer none,.slice none 0 0] 176))):=hd0 ((Below.refl _ _).alloc (atL _) _);clear h0;go_enter func200,ntmps200;go_wp2_with fail;generalize w.alloc (.cells #[.pointer none,.slice none 0 0] 176)=w0 at*
  go_loopw [9] (fun i wr=>∃ k:Nat,k<=d.length/\i=.int .i64 (k:Int)/\cZ w.heap.size w.heap.size (iq (d.take k)) wr/\Below w.heap.size w wr) (fun i _=>d.length-(intOf i).toNat)
  case atStart=>exact⟨0,by omega,rfl,nG.out,dN.out⟩
  case round=>
   clear nG dN;obtain⟨k,hk,rfl,hB,hK⟩:=hrel;have HB:=hd0 hB;have HK:=hd0 hK;clear hB hK;by_cases aM:k<d.length
   ·obtain⟨x,hx⟩:∃ x,d[k]?=some x:=⟨_,atI aM⟩
    have BE:Hid (iq (d.take (k+1))=iq (d.take k)++[mo (x.toNat/16)]++[mo (x.toNat%16)]):=hd0 (by rw[atK,hx,Option.toList_some,GL]);have Vz:∀ W,(Instr.index 9 (.string ⟨d.toArray⟩) (.int .i64 (k:Int))).run prog W=.ok (.int .u8 (x.toNat:Int)) W:=fun W=>ba underlying9 d .i64 (k:Int) x (by omega) (by rw[auo];exact hx) W;clear hx;have Nv:Hid ((iq (d.take k)).length<=2*d.length):=hd0 (by rw[sM,atO];omega);have BD:=fun W=>wK .u8 ((x.toNat:Int)/16) (x.toNat/16) (by omega) (by have:=x.toNat_lt;omega) W;go_wp2_with fail;refine(vB w.heap.size w.heap.size (iq (d.take k)) (mo (x.toNat/16)) wr HB.out (by have:=Nv.out;omega) HK.out.size).mono ?_;rintro e w1 ⟨rfl,hb1,hk1⟩;have jd:=hd0 hb1;have bU:=hd0 (HK.out.trans hk1);clear hb1 hk1 BD;have uW:=fun W=>wK .u8 (bits .and .u8 (x.toNat:Int) 15) (x.toNat%16) (abM x) (by omega) W;go_wp2_with fail;refine(vB w.heap.size w.heap.size (iq (d.take k)++[mo (x.toNat/16)]) (mo (x.toNat%16)) w1 jd.out (by have:=Nv.out;simp;omega) bU.out.size).mono ?_;rintro e w2 ⟨rfl,eS,dc⟩;have lU:=hd0 eS;have bu:=hd0 (bU.out.trans dc);clear eS dc uW Vz;go_wp2_with fail;exact⟨⟨k+1,by omega,by go_num,by rw[BE.out];exact lU.out,bu.out⟩,by simp[intOf];omega⟩
   ·obtain rfl:k=d.length:=by omega
    rw[atM]at HB;go_wp2_with fail;refine(gG w.heap.size w.heap.size (iq d) wr HB.out HK.out.size).mono ?_;rintro e w1 ⟨rfl,hk1⟩;have bU:=hd0 (HK.out.trans hk1);clear hk1;go_wp2;go_ret;exact⟨by rw[He.out];rfl,ah.ofBelow bU.out⟩
theorem PS:∀ n:Fin 256,Lib.indexByte kn (UInt8.ofNat n.val)=eP (UInt8.ofNat n.val):=by decide +kernel
theorem Ug (c:UInt8):Lib.indexByte kn c=eP c:=by
 have h:=PS ⟨c.toNat,c.toNat_lt⟩;simpa using h
theorem PV (c:UInt8)(w:World):
  Calls prog 254 #[.string ⟨#[48,49,50,51,52,53,54,55,56,57,97,98,99,100,101,102]⟩,.int .u8 (c.toNat:Int)] w fun e w'=>e=.returned (.int .i64 (eP c))/\w'=w:=by
 have h:=Tryz.strings_IndexByte ⟨kn.toArray⟩ (c.toNat:Int) w;have e:((c.toNat:Int).toNat).toUInt8=c:=by simp
 rw[e]at h;have e2:Lib.indexByte ({ data:=kn.toArray }:ByteArray).data.toList c=eP c:=Ug c;rw[e2]at h;exact h
theorem JE (c:UInt8):-1<=eP c/\eP c<=15:=by
 unfold eP;split
 ·omega
 ·split<;>omega
theorem LE (x:Int):IntKind.u8.wrap x=((oG x).toNat:Int):=by
 rw[IntKind.wrap_u8,oG];simp;omega
theorem oU (v:UInt8->Int):∀(n:Nat) (l m:List UInt8),l.length=2*n->br v (l++m)=br v l++br v m
 |0,l,m,h=>by
  obtain rfl:=auk.1 (by omega:l.length=0);simp[br]
 |n+1,[],m,h=>by simp at h
 |n+1,[a],m,h=>by simp at h;omega
 |n+1,a::b::l,m,h=>by
  rw[aur,aur,br,br,oU v n l m (by simp at h;omega),aur]
theorem tW (v:UInt8->Int):∀(n:Nat) (l:List UInt8),l.length<=n->(br v l).length<=n
 |0,l,h=>by
  obtain rfl:=auk.1 (by omega:l.length=0);simp[br]
 |n+1,[],h=>by simp[br]
 |n+1,[a],h=>by simp[br]
 |n+1,a::b::l,h=>by
  have:=tW v n l (by simp at h;omega);rw[br,atH];omega
theorem A0 (v:UInt8->Int){s:List UInt8}{j:Nat}{a b:UInt8}(ha:s[2*j]?=some a)(hb:s[2*j+1]?=some b):br v (s.take (2*(j+1)))=br v (s.take (2*j))++[oG (16*v a+v b)]:=by
 have aM:=(atX.1 hb).1;have e:s.take (2*(j+1))=s.take (2*j)++[a,b]:=by
  rw[show 2*(j+1)=2*j+1+1 by omega,atK,atK,ha,hb];simp
 rw[e,oU v j _ _ (by rw[atO];omega)];rfl
theorem Dx (v:UInt8->Int){s:List UInt8}{j:Nat}(h1:2*j<=s.length)(h:s.length<=2*j+1):br v s=br v (s.take (2*j)):=by
 conv=>lhs;rw[<-List.take_append_drop (2*j) s]
 rw[oU v j _ _ (by rw[atO];omega)];have hl:(s.drop (2*j)).length<=1:=by rw[List.length_drop];omega
 rcases hd:s.drop (2*j)with _|⟨a,_|⟨b,r⟩⟩
 ·simp[br]
 ·simp[br]
 ·rw[hd]at hl;simp at hl
theorem wO {P:Program}{f:FuncId}{args:Array Value}{w:World}{n:Nat}{v:Value}(h:Calls P f args (w.drewN n) fun e w'=>e=.returned v/\w'=w.drewN n):Calls P f args (w.drewN n) fun e w''=>e=.returned v/\∃ m,w''=w.drewN m:=
 h.mono fun _ _ ⟨a,b⟩=>⟨a,n,b⟩
theorem Dy (s:List UInt8)(w:World)(hs:s.length<=4398046511104):
  Calls prog 202 #[.string ⟨s.toArray⟩] w fun e w'=>e=.returned (.string ⟨(uH s).toArray⟩)/\af w w':=by
 by_cases h0:s=[45]
 ·subst h0;go_enter func202,ntmps202;go_wp2;go_ret;exact⟨rfl,ah.refl _ _⟩
 ·have e0:(s==[45])=false:=au2 h0;have He:Hid (uH s=br eP s):=hd0 (by rw[uH,atR h0]);have nG:=hd0 (mX w);have dN:Hid (Below w.heap.size w (w.alloc (.cells #[.pointer none,.slice none 0 0] 176))):=hd0 ((Below.refl _ _).alloc (atL _) _);clear h0;go_enter func202,ntmps202;go_wp2_with fail;generalize w.alloc (.cells #[.pointer none,.slice none 0 0] 176)=w0 at*
  go_loopw [4] (fun i wr=>∃ k:Nat,k<=s.length+1/\i=.int .i64 (k:Int)/\Hid (∃ j,k=2*j)/\cZ w.heap.size w.heap.size (br eP (s.take k)) wr/\Below w.heap.size w wr) (fun i _=>s.length+2-(intOf i).toNat)
  case atStart=>exact⟨0,by omega,rfl,hd0 ⟨0,rfl⟩,nG.out,dN.out⟩
  case round=>
   clear nG dN;obtain⟨k,hk,rfl,Hj,hB,hK⟩:=hrel;have HB:=hd0 hB;have HK:=hd0 hK;clear hB hK;by_cases aM:k+1<s.length
   ·obtain⟨a,ha⟩:∃ a,s[k]?=some a:=⟨_,atI (by omega)⟩
    obtain⟨b,hb⟩:∃ b,s[k+1]?=some b:=⟨_,atI aM⟩
    have BE:Hid (br eP (s.take (k+2))=br eP (s.take k)++[oG (16*eP a+eP b)]):=hd0 (by
     obtain⟨j,rfl⟩:=Hj.out;exact A0 eP ha hb)
    have Hj2:Hid (∃ j,k+2=2*j):=hd0 (by obtain⟨j,rfl⟩:=Hj.out;exact⟨j+1,by omega⟩);have Nv:Hid ((br eP (s.take k)).length<=s.length):=hd0 (atE (tW eP _ _ (atL _)) (by rw[atO];omega));have hi1:∀ W,(Instr.index 9 (.string ⟨s.toArray⟩) (.int .i64 (k:Int))).run prog W=.ok (.int .u8 (a.toNat:Int)) W:=fun W=>ba underlying9 s .i64 (k:Int) a (by omega) (by rw[auo];exact ha) W;have hi2:∀ W,(Instr.index 9 (.string ⟨s.toArray⟩) (.int .i64 ((k:Int)+1))).run prog W=.ok (.int .u8 (b.toNat:Int)) W:=fun W=>ba underlying9 s .i64 ((k:Int)+1) b (by omega) (by rw[show((k:Int)+1).toNat=k+1 by omega];exact hb) W;have NV:=JE a;have hvb:=JE b;have q1:IntKind.i64.wrap ((k:Int)+1)=(k:Int)+1:=ave _ (by omega);have q2:IntKind.i64.wrap (16*eP a)=16*eP a:=ave _ (by omega);have q3:IntKind.i64.wrap (16*eP a+eP b)=16*eP a+eP b:=ave _ (by omega);have q4:=LE (16*eP a+eP b);clear ha hb;go_wp2_with fail;refine dz 12 (by kernel_rfl) (by kernel_rfl) ?_;simp only[auz,auA,auB,auC]
    repeat (quiet_step (first|(with_reducible exact wO (PV a _))|(with_reducible exact wO (PV b _))))
    refine auE ?_;intro _ cJ;obtain⟨nq,rfl⟩:=cJ;clear q1 q2 q3 q4 hi1 hi2;have HBn:Hid (cZ w.heap.size w.heap.size (br eP (s.take k)) (wr.drewN nq)):=hd0 (show cZ w.heap.size w.heap.size (br eP (s.take k)) (wr.drewN nq)from HB.out);go_wp2_with fail;refine(vB w.heap.size w.heap.size (br eP (s.take k)) (oG (16*eP a+eP b)) (wr.drewN nq) HBn.out (by have:=Nv.out;omega) HK.out.size).mono ?_;rintro e w2 ⟨rfl,eS,dc⟩;have lU:=hd0 eS;have bu:Hid (Below w.heap.size w w2):=hd0 ((((ah.ofBelow HK.out).drewN nq).below).trans dc);clear eS dc;go_wp2_with fail;exact⟨⟨k+2,by omega,by go_num,Hj2,by rw[BE.out];exact lU.out,bu.out⟩,by simp[intOf];omega⟩
   ·have Hx:Hid (br eP (s.take k)=br eP s):=hd0 (by
     obtain⟨j,rfl⟩:=Hj.out;by_cases h:2*j<=s.length
     ·exact(Dx eP h (by omega)).symm
     ·rw[aux (by omega)])
    rw[Hx.out]at HB;go_wp2_with fail;refine(gG w.heap.size w.heap.size (br eP s) wr HB.out HK.out.size).mono ?_;rintro e w1 ⟨rfl,hk1⟩;have bU:=hd0 (HK.out.trans hk1);clear hk1;go_wp2;go_ret;exact⟨by rw[He.out];rfl,ah.ofBelow bU.out⟩
end
section
open Go.RowKit
def bM (c:bT):Array Value:=#[.int .i64 c.kind,.string ⟨c.path.toArray⟩,.string ⟨c.dest.toArray⟩,.int .i64 c.pos,.string ⟨c.data.toArray⟩]
def gJ (c:bT):Value:=.agg (bM c)
structure bT.Small (c:bT):Prop where
 path:c.path.length<4294967281
 dest:c.dest.length<4294967281
 data:c.data.length<=1099511627776
 pos:-9223372036854775808<=c.pos/\c.pos<=9223372036854775807
theorem cr {w:World}{b:Nat}{c:bT}{t:TypeId}(h:World.blk w b (bM c) t):
  w.cell? ⟨b,0,none⟩=some (.int .i64 c.kind)/\w.cell? ⟨b,1,none⟩=some (.string ⟨c.path.toArray⟩)/\w.cell? ⟨b,2,none⟩=some (.string ⟨c.dest.toArray⟩)/\
  w.cell? ⟨b,3,none⟩=some (.int .i64 c.pos)/\w.cell? ⟨b,4,none⟩=some (.string ⟨c.data.toArray⟩):=
 ⟨aa h 0,aa h 1,aa h 2,aa h 3,aa h 4⟩
theorem wQ (s:List UInt8):(eH s==0)=(bd s).isSome:=by
 unfold eH;cases (bd s).isSome<;>rfl
theorem pJ (s:List UInt8)(w:World)(hs:s.length<=140737488355328):
  Calls prog 52 #[.string ⟨s.toArray⟩] w fun e w'=>e=.returned (.bool (aH s))/\af w w':=rG s w hs
theorem LF (c:bT)(f:Nat)(hf:1<=f/\f<=5)(b:Nat)(w:World)(he:tL w)(hc:c.Small)(hB:World.blk w b (bM c) 55):
  Calls prog 120 #[.pointer (some ⟨b,0,none⟩),.int .i64 (f:Int)] w fun e w'=>e=.returned (.tuple #[.string ⟨(c.fieldText f).toArray⟩,.bool (c.fieldOk f)])/\af w w':=by
 have He:=hd0 he;have Hc:=hd0 hc;have HB:=hd0 hB;obtain⟨c0,c1,c2,c3,c4⟩:=cr hB;have qZ:=ai hB;clear he hc hB;rcases(by omega:f=1\/f=2\/f=3\/f=4\/f=5)with rfl|rfl|rfl|rfl|rfl
 ·clear hf;go_enter func120,ntmps120;go_wp2_with fail;refine(my c.path w He.out Hc.out.path).mono ?_;rintro e w1 ⟨v,rfl,-,hk⟩;have HK:=hd0 hk;obtain⟨c0,c1,c2,c3,c4⟩:=cr (ab hk HB.out id);have cC:=wQ c.path;clear hk;generalize hb:(bd c.path).isSome=ok at*;have Hb:=hd0 hb;clear hb;go_wp2;go_ret2;exact⟨by rw[show c.fieldOk 1=ok from Hb.out];rfl,HK.out⟩
 ·clear hf;go_enter func120,ntmps120;go_wp2_with fail;refine(my c.dest w He.out Hc.out.dest).mono ?_;rintro e w1 ⟨v,rfl,-,hk⟩;have HK:=hd0 hk;obtain⟨c0,c1,c2,c3,c4⟩:=cr (ab hk HB.out id);have cC:=wQ c.dest;clear hk;generalize hb:(bd c.dest).isSome=ok at*;have Hb:=hd0 hb;clear hb;go_wp2;go_ret2;exact⟨by rw[show c.fieldOk 2=ok from Hb.out];rfl,HK.out⟩
 ·clear hf;by_cases h0:0<=c.pos
  ·have d0:decide (0<=c.pos)=true:=by simpa using h0
   have Hv:Hid (c.fieldOk 3=decide (c.pos<=16384)):=hd0 (by simp[bT.fieldOk,h0]);go_enter func120,ntmps120;go_wp2_with fail;refine cN (by kernel_rfl) (by kernel_rfl) ?_
   repeat (quiet_step (with_reducible exact bw (Cx c.pos Hc.out.pos.1 Hc.out.pos.2 _ (He.out.keep (aD _ _)))))
   refine auE ?_;intro _ cJ;obtain⟨xq,rfl⟩:=cJ;go_wp2;go_ret2;exact⟨by rw[Hv.out];rfl,aD _ _⟩
  ·have d0:decide (0<=c.pos)=false:=by simpa using h0
   have Hv:Hid (c.fieldOk 3=false):=hd0 (by simp[bT.fieldOk,h0]);go_enter func120,ntmps120;go_wp2_with fail;refine cN (by kernel_rfl) (by kernel_rfl) ?_
   repeat (quiet_step (with_reducible exact bw (Cx c.pos Hc.out.pos.1 Hc.out.pos.2 _ (He.out.keep (aD _ _)))))
   refine auE ?_;intro _ cJ;obtain⟨xq,rfl⟩:=cJ;go_wp2;go_ret2;exact⟨by rw[Hv.out];rfl,aD _ _⟩
 ·clear hf;go_enter func120,ntmps120;go_wp2_with fail;refine cN (by kernel_rfl) (by kernel_rfl) ?_
  repeat (quiet_step (with_reducible exact bw (LC c.data _ Hc.out.data)))
  refine auE ?_;intro _ cJ;obtain⟨xq,rfl⟩:=cJ;have Hv:Hid (c.fieldOk 4=decide ((c.data.length:Int)<=512)):=hd0 (by rw[bT.fieldOk];congr 1;exact propext (by omega));go_wp2;go_ret2;exact⟨by rw[Hv.out];rfl,aD _ _⟩
 ·clear hf;go_enter func120,ntmps120;go_wp2_with fail;refine cN (by kernel_rfl) (by kernel_rfl) ?_
  repeat (quiet_step (with_reducible exact bw (pJ c.path _ (by have:=Hc.out.path;omega))))
  refine auE ?_;intro _ cJ;obtain⟨xq,rfl⟩:=cJ;go_wp2;go_ret2;exact⟨rfl,aD _ _⟩
end
section
open Go.RowKit
theorem PW (c:bT)(f:Nat)(hf:1<=f/\f<=5)(s:List UInt8)(b:Nat)(w:World)(he:tL w)(hs:s.length<=4398046511104)(hB:World.blk w b (bM c) 55):
  Calls prog 121 #[.pointer (some ⟨b,0,none⟩),.int .i64 (f:Int),.string ⟨s.toArray⟩] w fun e w'=>e=.returned (.tuple #[])/\ah (·=b) w w'/\World.blk w' b (bM (c.take f s)) 55:=by
 have He:=hd0 he;have HB:=hd0 hB;obtain⟨c0,c1,c2,c3,c4⟩:=cr hB;have fz:∀ i,w.frozen? ⟨b,i,none⟩=false:=fun i=>ae hB _ rfl;have f1:=fz 1;have f2:=fz 2;have qZ:=ai hB;clear he hB fz;rcases(by omega:f=1\/f=2\/f=3\/f=4\/f=5)with rfl|rfl|rfl|rfl|rfl
 ·clear hf;go_enter func121,ntmps121;go_wp2_with fail;go_end0;exact⟨rfl,(ah.refl (·=b) w).setCell (p:=⟨b,_,none⟩) (.inl rfl) _,ag HB.out _ _⟩
 ·clear hf;go_enter func121,ntmps121;go_wp2_with fail;go_end0;exact⟨rfl,(ah.refl (·=b) w).setCell (p:=⟨b,_,none⟩) (.inl rfl) _,ag HB.out _ _⟩
 ·clear hf;go_enter func121,ntmps121;go_wp2_with fail;refine(OG s (by omega) w He.out).mono ?_;rintro e w1 ⟨⟨x,rfl⟩,hk⟩;have jd:=hd0 (ab hk HB.out id);have HK:Hid (ah (·=b) w w1):=hd0 (hk.mono (fun _ _ h=>h.elim));obtain⟨c0,c1,c2,c3,c4⟩:=cr jd.out;have f3:w1.frozen? ⟨b,3,none⟩=false:=ae jd.out _ rfl;clear hk;go_wp2_with fail;go_end0;exact⟨rfl,HK.out.setCell (.inl rfl) _,ag jd.out _ _⟩
 ·clear hf;go_enter func121,ntmps121;go_wp2_with fail;refine(Dy s w hs).mono ?_;rintro e w1 ⟨rfl,hk⟩;have jd:=hd0 (ab hk HB.out id);have HK:Hid (ah (·=b) w w1):=hd0 (hk.mono (fun _ _ h=>h.elim));obtain⟨c0,c1,c2,c3,c4⟩:=cr jd.out;have f4:w1.frozen? ⟨b,4,none⟩=false:=ae jd.out _ rfl;clear hk;go_wp2_with fail;go_end0;exact⟨rfl,HK.out.setCell (.inl rfl) _,ag jd.out _ _⟩
 ·clear hf;go_enter func121,ntmps121;go_wp2_with fail;go_end0;exact⟨rfl,(ah.refl (·=b) w).setCell (p:=⟨b,_,none⟩) (.inl rfl) _,ag HB.out _ _⟩
end
end Go.Proofs.YtkghpdcloaiflaaGreatDoor
