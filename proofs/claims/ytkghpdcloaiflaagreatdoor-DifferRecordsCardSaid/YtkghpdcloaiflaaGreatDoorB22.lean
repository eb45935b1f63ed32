import Derived.Test.YtkghpdcloaiflaaGreatDoorB09
import Derived.Lib.SlTrimSet
import Derived.Deep.RegionWith
import Derived.IntWalk
import Derived.Deep.DeepCutAuto
set_option maxHeartbeats 2000000
set_option maxRecDepth 100000
namespace Go.Proofs.YtkghpdcloaiflaaGreatDoor
open _root_.Go.Proofs.Tryz
section
open Go.RowKit
section
variable {α:Type}{f:α->List Value}{sz:Nat}
theorem DQ (hf:∀ a,(f a).length=sz)(l:List α):∀(j i:Nat),i<sz->(l.flatMap f)[j*sz+i]?=(l[j]?).bind fun a=>(f a)[i]?:=by
 induction l with
 |nil=>intro j i _;simp
 |cons x r ih=>
  intro j i hi;rw[avH]
  cases j with
  |zero=>
   rw[Nat.zero_mul,avN,List.getElem?_append_left (by rw[hf];exact hi)];simp
  |succ j=>
   rw[List.getElem?_append_right (by rw[hf,Nat.succ_mul];omega),hf,show(j+1)*sz+i-sz=j*sz+i by rw[Nat.succ_mul];omega,ih j i hi];simp
theorem Qb (hf:∀ a,(f a).length=sz)(l:List α):(l.flatMap f).length=l.length*sz:=by
 induction l with
 |nil=>simp
 |cons x r ih=>rw[avH,avi,hf,ih,au0,Nat.succ_mul];omega
def mC (f:α->List Value)(sz:Nat)(w:World)(v:Value)(l:List α):Prop:=
 ∃ a cap,v=.slice a l.length cap/\∀ j x,l[j]?=some x->∃ b o,a=some ⟨b,o,none⟩/\∀ i c,(f x)[i]?=some c->w.cell? ⟨b,o+j*sz+i,none⟩=some c
abbrev ec (f:α->List Value)(sz:Nat)(t:TypeId)(w:World)(base:Nat)(v:Value)(l:List α):Prop:=w.ownsRow base t sz v l.length (l.flatMap f)
theorem cl (hf:∀ a,(f a).length=sz){w:World}{base:Nat}{t:TypeId}{v:Value}{l:List α}(h:ec f sz t w base v l):mC f sz w v l:=by
 rcases h.2 with⟨rfl,h3⟩|⟨g,cap,d7,rfl,hb,hg,NA,hm,cV,Ci⟩
 ·have hl:l=[]:=avz.1 (by omega);subst hl;exact⟨none,0,rfl,fun j x h=>by simp at h⟩
 ·refine⟨some ⟨g,0,none⟩,cap,rfl,fun j x hx=>⟨g,0,rfl,fun i c hc=>?_⟩⟩;have aL:=(avf.1 hx).1;have hi:i<sz:=by have:=(avf.1 hc).1;rwa [hf]at this
  have h1:=DQ hf l j i hi;rw[hx]at h1;simp only[Option.bind_some]at h1;rw[hc,<-Ci,List.getElem?_take]at h1;rw[avN];split at h1
  ·simp[World.cell?,hg,<-Array.getElem?_toList,h1]
  ·cases h1
theorem fQ {w w':World}{v:Value}{l:List α}(h:mC f sz w v l)(k:af w w'):mC f sz w' v l:=by
 obtain⟨a,cap,hv,hx⟩:=h;refine⟨a,cap,hv,fun j x hj=>?_⟩;obtain⟨b,o,e,hc⟩:=hx j x hj;exact⟨b,o,e,fun i c hi=>by rw[k.cell (p:=⟨b,o+j*sz+i,none⟩) (ai (hc i c hi)) id];exact hc i c hi⟩
theorem ib {t:TypeId}{w w':World}{base n:Nat}{v:Value}{xs:List Value}(h:w.ownsRow base t sz v n xs)(k:af w w'):w'.ownsRow base t sz v n xs:=by
 obtain⟨h1,h2⟩:=h;refine⟨h1,?_⟩;rcases h2 with h2|⟨g,cap,d7,a,b,c,d⟩
 ·exact .inl h2
 ·exact .inr ⟨g,cap,d7,a,b,k.obj c id,d⟩
theorem ql {P:Program}{ts te:TypeId}{z:Value}{bytes:Nat}(hs:P.underlying ts=some (.slice te))(hi:(P.info? te).map (fun i=>(i.zero,i.size,i.bytes))=some (some z,sz,bytes))(hz:z.cells.size=sz)(cV:0<sz)
  (hf:∀ a,(f a).length=sz) (base:Nat) (v:Value) (l:List α) (w w0:World) (bu:ec f sz te w base v l) (x:α) (h1:∀ u∈f x,u.oneCell'=true) (hn:l.length+1<=maxLen) (BP:(l.length+1)*bytes<=140737488355328)
  (Fp:base<=w.heap.size) (h0:af w0 w) (iI:w0.heap.size<=base):
  ∃ v' w',(Builtin.append_ #[ts,ts] ts #[v,.slice (some ⟨w.heap.size,0,none⟩) 1 1]).run P (w.alloc (.cells (f x).toArray te))=.ok v' w'/\ec f sz te w' base v' (l++[x])/\af w0 w'/\ah (fun b=>base<=b) w w':=by
 obtain⟨i0,hi,ow,nO,oA⟩:=ave hi;obtain⟨v',w',r1,r2,r3,_⟩:=run_append_own (P:=P) (w.alloc (.cells (f x).toArray te)) base ts ts te i0 z sz bytes hs hi ow nO oA hz cV v l.length (l.flatMap f) (bu.alloc _) ⟨w.heap.size,0,none⟩ 1 1 (f x) (by rw[hf];omega) (fun j u hu=>by
  rw[io,avN,World.cell?_alloc_at _ _ _ _ rfl];simpa using hu) h1 (by exact hn) BP (by simp;omega)
 refine⟨v',w',r1,?_,ah.grown (h0.alloc _) r3 (fun k hk=>.inr (auX iI (bu.lt k hk).1)),ah.grown ((ah.refl _ w).alloc _) r3 (fun k hk=>.inl (bu.lt k hk).1)⟩;unfold ec;rw[avh,avi];simpa using r2
end
theorem dO {w w':World}{o:Obj}(h:af (w.alloc o) w'):af w w':=((ah.refl (fun _=>False) w).alloc o).keep h
theorem Bh {w w':World}(h:af w.drew w'):af w w':=((ah.refl (fun _=>False) w).drew).keep h
def Ia (p:List UInt8×Int):List Value:=[.string ⟨p.1.toArray⟩,.int .i64 p.2]
abbrev Y2 (p:List UInt8×Int):Value:=.agg #[.string ⟨p.1.toArray⟩,.int .i64 p.2]
theorem DS:∀ p,(Ia p).length=2:=fun _=>rfl
theorem wY:∀(a b:List UInt8),(!(Op.bytesLess a b||a==b))=bytesBefore b a
 |[],[]=>by simp[bytesBefore]
 |[],_::_=>by simp[bytesBefore,Op.bytesLess]
 |_::_,[]=>by simp[bytesBefore,Op.bytesLess]
 |x::r,y::s=>by
  rw[bytesBefore,<-wY r s,Op.bytesLess,List.cons_beq_cons];by_cases h1:x<y
  ·have h2:¬ y<x:=fun h=>absurd (UInt8.lt_trans h1 h) (UInt8.lt_irrefl _);have h4:¬ y=x:=fun h=>by subst h;exact UInt8.lt_irrefl _ h1
   simp[h1,h2,h4]
  ·by_cases h2:x=y
   ·subst h2;simp[UInt8.lt_irrefl]
   ·have h3:y<x:=by
     rcases UInt8.lt_or_lt_of_ne h2 with h|h
     ·exact absurd h h1
     ·exact h
    simp[h1,h2,h3]
end
section
open Go.RowKit
def nG:List UInt8:=[97,98,99,100,101,102,103,104,105,106,107,108,109,110,111,112,113,114,115,116,117,118,119,120,121,122,48,49,50,51,52,53,54,55,56,57,46,45,95]
theorem DT:∀ n:Fin 256,nG.contains (UInt8.ofNat n.val)=iy (UInt8.ofNat n.val):=by decide +kernel
theorem DU (c:UInt8):nG.contains c=iy c:=by
 have h:=DT ⟨c.toNat,c.toNat_lt⟩;simpa using h
theorem mc {α:Type}(p:α->Bool)(l:List α):l.dropWhile p=[]↔l.all p=true:=by
 induction l with
 |nil=>simp
 |cons a l ih=>
  rw[List.dropWhile_cons];split
  ·rename_i h;rw[ih,List.all_cons,h,Bool.true_and]
  ·rename_i h;simp[h]
theorem yN {α:Type}(p:α->Bool)(l:List α)(h:(l.dropWhile p).all p=true):l.dropWhile p=[]:=by
 rcases hl:l.dropWhile p with _|⟨a,r⟩
 ·rfl
 ·rw[hl]at h;have:p a=false:=by
   have:=List.head?_dropWhile_not p l;rw[hl]at this;simpa using this
  simp[this]at h
theorem LW (l cs:List UInt8):Lib.trimS l cs=[]↔l.all (cs.contains ·)=true:=by
 unfold Lib.trimS Lib.trimLeftS Lib.trimRightS;rw[mc,List.all_reverse]
 constructor
 ·intro h;have:=(mc _ _).1 (yN _ _ h)
  rwa [List.all_reverse]at this
 ·intro h;rw[(mc (cs.contains ·) l.reverse).2 (by rw[List.all_reverse];exact h)];rfl
theorem LX {l:List UInt8}:(Lib.trimS l nG==[])=l.all iy:=by
 rw[avI,avF,LW];have e:(fun c=>nG.contains c)=iy:=funext DU;rw[e]
theorem rQ (s:List UInt8)(w:World)(hs:s.length<=140737488355328):
  Calls prog 52 #[.string ⟨s.toArray⟩] w fun e w'=>e=.returned (.bool (aK s))/\af w w':=by
 have HT:=hd0 (Tryz.strings_Trim_laid ⟨s.toArray⟩ ⟨nG.toArray⟩ w (by have:({ data:=s.toArray }:ByteArray).size=s.length:=by simp[ByteArray.size]
                                                                     rw[this];omega) (by decide) (ascii_of_all (by decide)))
 by_cases h0:s=[]
 ·subst h0;go_enter func52,ntmps52;go_wp2;go_ret;exact⟨rfl,ah.refl _ _⟩
 ·have e0:(s==[])=false:=awh h0;have e1:s.isEmpty=false:=by cases s;exact absurd rfl h0;rfl
  have hp:1<=s.length:=by cases s;exact absurd rfl h0;simp
  by_cases h1:s.length<=16
  ·by_cases h2:s=[46]
   ·subst h2;clear HT;go_enter func52,ntmps52;go_wp2;go_ret;exact⟨rfl,ah.refl _ _⟩
   ·by_cases h3:s=[46,46]
    ·subst h3;clear HT;go_enter func52,ntmps52;go_wp2;go_ret;exact⟨rfl,ah.refl _ _⟩
    ·have e2:(s==[46])=false:=awh h2;have e3:(s==[46,46])=false:=awh h3;have Hv:Hid (aK s=s.all iy):=hd0 (by simp[aK,e2,e3,h1,hp]);have h1':(s.length:Int)<=16:=by omega
     have Ht:=hd0 (LX (l:=s));have Hh:=hd0 (And.intro h0 (And.intro h2 h3));clear h0 h2 h3 h1;go_enter func52,ntmps52;go_wp2_with fail;refine(HT.out).mono ?_;rintro e w1 ⟨rfl,hb⟩;have HK:=hd0 (ah.ofBelow hb);clear hb;have e5:(Lib.trimS s nG==[])=s.all iy:=Ht.out;generalize s.all iy=b at*;generalize Lib.trimS s nG=t at*;go_wp2;go_ret;exact⟨by rw[Hv.out,<-e5];rfl,HK.out⟩
  ·have h1':¬(s.length:Int)<=16:=by omega
   have Hv:Hid (aK s=false):=hd0 (by simp[aK,h1]);clear h0 HT;go_enter func52,ntmps52;go_wp2;go_ret;exact⟨by rw[Hv.out];rfl,ah.refl _ _⟩
end
section
open Go.RowKit
def eL (s:List UInt8):Int:=if(bd s).isSome then 0 else 130
def cU (s:List UInt8):List (List UInt8):=(bd s).getD []
theorem Aa:bd [47]=some []:=by rw[bd,au8 rfl]
theorem Qc {s:List UInt8}(h:∀ r,s≠47::r):bd s=none:=by
 unfold bd;split
 ·rename_i r;exact absurd rfl (h r)
 ·rfl
theorem LZ {r:List UInt8}(h:r≠[]):bd (47::r)=if(jX 47 r).length<=8/\(jX 47 r).all aK=true then some (jX 47 r)else none:=by
 rw[bd,ava h]
theorem L4 (r:List UInt8):Lib.trimPrefix (47::r) [47]=r/\Lib.hasPrefix (47::r) [47]=true:=by
 constructor<;>simp[Lib.trimPrefix,Lib.hasPrefix,List.isPrefixOf]
theorem Qd {s:List UInt8}(h:∀ r,s≠47::r):Lib.trimPrefix s [47]=s/\Lib.hasPrefix s [47]=false:=by
 have h1:Lib.hasPrefix s [47]=false:=by
  cases s with
  |nil=>rfl
  |cons c r=>
   have hc:¬ c=47:=fun e=>h r (by rw[e]);simp[Lib.hasPrefix,List.isPrefixOf];exact fun e=>hc e.symm
 exact⟨by rw[Lib.trimPrefix,h1];rfl,h1⟩
theorem uW (w:World)(base:Nat)(t:TypeId):w.ownsRow base t 1 (.slice none 0 0) 0 []:=⟨rfl,.inl ⟨rfl,rfl⟩⟩
theorem DV {w:World}{b base:Nat}{l:List (List UInt8)}(h:World.blk w b (aE l) 9)(hb:base<=b)(hl:l.length<=maxLen):iu w base (.slice (some ⟨b,0,none⟩) l.length l.length) l:=
 ⟨by simp[aE],.inr ⟨b,l.length,aE l,rfl,hb,h,au4 _,hl,by simp[aE],by rw[Nat.mul_one];exact avM (by simp[aE])⟩⟩
theorem mF (s:List UInt8)(w:World)(he:tU w)(hs:s.length<4294967281):
  Calls prog 198 #[.string ⟨s.toArray⟩] w fun e w'=>∃ v,e=.returned (.tuple #[v,.int .i64 (eL s)])/\iu w' w.heap.size v (cU s)/\af w w':=by
 have He:=hd0 he;have Hs:=hd0 hs;clear he hs;by_cases h0:s=[47]
 ·subst h0;go_enter func198,ntmps198;go_wp2;go_ret2;exact⟨_,by rw[eL,Aa];rfl,by rw[cU,Aa];exact uW _ _ _,ah.refl _ _⟩
 ·have e0:(s==[47])=false:=awh h0;by_cases h1:∃ r,s=47::r
  ·obtain⟨r,rfl⟩:=h1;have hr:r≠[]:=fun e=>h0 (by rw[e]);have Hp:=hd0 (LZ hr);have Ht:=hd0 (L4 r);have hlr:r.length<4294967281:=by have:=Hs.out;simp at this;omega
   have Hlr:=hd0 hlr;clear h0 hr hlr;go_enter func198,ntmps198;go_wp2_with fail;refine(qg (47::r) [47] w).mono ?_;rintro e w1 ⟨rfl,hw⟩;subst hw;rw[Ht.out.1,Ht.out.2];go_wp2_with fail;refine(zv 47 r Hlr.out _ He.out).mono ?_;rintro e w2 ⟨rfl,hw⟩;subst hw;have su:(jX 47 r).length<=4294967281:=by rw[Uc];have:=List.count_le_length (a:=(47:UInt8)) (l:=r);have:=Hlr.out;omega
   have Hnm:Hid (∀ x∈jX 47 r,x.length<=4294967281):=hd0 (fun x hx=>by
    obtain⟨i,hi⟩:=List.mem_iff_getElem?.1 hx;have h1:=KX 47 r i;rw[awi,hi]at h1;have:=Hlr.out;simp at h1;omega)
   generalize jX 47 r=L at*;obtain⟨N,hN⟩:∃ N,L.length=N:=⟨_,rfl⟩
   have HN:=hd0 hN;rw[hN]at su ⊢;clear e0 hN;have HB:Hid (World.blk (w1.alloc (.cells (aE L) 9)) w1.heap.size (aE L) 9):=hd0 (av _ _ _);have HK:Hid (af w1 (w1.alloc (.cells (aE L) 9))):=hd0 ((ah.refl _ _).alloc _);by_cases h8:N<=8
   ·have h8':¬(N:Int)>8:=by omega
    go_wp2_with fail;generalize w1.alloc (.cells (aE L) 9)=w2 at*
    go_loopw [27] (fun i wr=>∃ k:Nat,k<=N/\i=.int .i64 (k:Int)/\af w2 wr/\(L.take k).all aK=true) (fun i _=>N-(intOf i).toNat)
    case atStart=>exact⟨0,by omega,rfl,ah.refl _ _,by simp⟩
    case round=>
     obtain⟨k,hk,rfl,hK,hA⟩:=hrel;have HKr:=hd0 hK;have HA:=hd0 hA;clear hK hA;by_cases aL:k<N
     ·obtain⟨x,hx⟩:∃ x,L[k]?=some x:=⟨_,au1 (by rw[HN.out];exact aL)⟩
      have Hx:=hd0 hx;have hc:wr.cell? ⟨w1.heap.size,k,none⟩=some (.string ⟨x.toArray⟩):=by
       rw[aa (ab HKr.out HB.out id),Gr,hx];rfl
      clear hx;go_wp2_with fail;refine(rQ x wr (by have:=Hnm.out x (au2 Hx.out);omega)).mono ?_;rintro e w3 ⟨rfl,dg⟩;have dR:=hd0 (HKr.out.keep dg);clear dg hc;rcases bQ:aK x with _|_
      ·have Hn:Hid (bd (47::r)=none):=hd0 (by
        rw[Hp.out,ava];rintro⟨_,h⟩;have:=avk.1 h x (au2 Hx.out);rw[bQ]at this;cases this)
       clear bQ;go_wp2;go_ret2;exact⟨_,by rw[eL,Hn.out];rfl,by rw[cU,Hn.out];exact uW _ _ _,HK.out.keep dR.out⟩
      ·have HA2:Hid ((L.take (k+1)).all aK=true):=hd0 (by
        rw[au3,Hx.out,Option.toList_some,List.all_append,HA.out];simp[bQ])
       clear bQ;go_wp2_with fail;exact⟨⟨k+1,by omega,by go_num,dR.out,HA2.out⟩,by simp[intOf];omega⟩
     ·have Hn:Hid (bd (47::r)=some L):=hd0 (by
       rw[Hp.out,au8];refine⟨by rw[HN.out];exact h8,?_⟩;have h:=HA.out
       rwa [avM (by rw[HN.out];omega)]at h)
      go_wp2;go_ret2;refine⟨_,by rw[eL,Hn.out];rfl,?_,HK.out.keep HKr.out⟩;rw[cU,Hn.out,<-HN.out];exact DV (ab HKr.out HB.out id) (au4 _) (by rw[HN.out];simp[maxLen];omega)
   ·have h8':(N:Int)>8:=by omega
    have Hn:Hid (bd (47::r)=none):=hd0 (by rw[Hp.out,ava (fun h=>h8 (by have:=h.1;rwa [HN.out]at this))]);go_wp2;go_ret2;exact⟨_,by rw[eL,Hn.out];rfl,by rw[cU,Hn.out];exact uW _ _ _,HK.out⟩
  ·have lD:∀ r,s≠47::r:=fun r e=>h1 ⟨r,e⟩;have Ht:=hd0 (Qd lD);have Hn:=hd0 (Qc lD);clear h0 h1 lD;go_enter func198,ntmps198;go_wp2_with fail;refine(qg s [47] w).mono ?_;rintro e w1 ⟨rfl,hw⟩;subst hw;rw[Ht.out.1,Ht.out.2];go_wp2_with fail;refine(zv 47 s Hs.out _ He.out).mono ?_;rintro e w2 ⟨rfl,hw⟩;subst hw;clear e0;go_wp2;go_ret2;exact⟨_,by rw[eL,Hn.out];rfl,by rw[cU,Hn.out];exact uW _ _ _,(ah.refl _ _).alloc _⟩
end
section
open Go.RowKit
def L6 (l:List Int):List Value:=l.map (Value.int .i64)
@[simp] theorem Qe (l:List Int):(L6 l).length=l.length:=by simp[L6]
def W8 (kind:Int):Nat:=if 0<=kind/\kind<9 then kind.toNat else 9
theorem acD (c:co):c.k=W8 c.kind:=rfl
def pS (k:Nat):List Int:=(fieldsOf k).map fun(f:Nat)=>(f:Int)
theorem Qf (s:List UInt8)(v:Value)(w:World):
  Calls prog 197 #[.string ⟨s.toArray⟩,v] w fun e w'=>e=.returned (.tuple #[.string ⟨s.toArray⟩,v])/\w=w':=by
 go_enter func197,ntmps197;go_wp2;go_ret2;exact⟨rfl,rfl⟩
theorem Qg (kind:Int)(w:World):
  Calls prog 119 #[.int .i64 kind] w fun e w'=>∃ v,e=.returned (.tuple #[.string ⟨(cQ (W8 kind)).toArray⟩,v])/\eF w' v (L6 (pS (W8 kind)))/\af w w':=by
 by_cases hk:0<=kind/\kind<9
 ·rcases(by omega:kind=0\/kind=1\/kind=2\/kind=3\/kind=4\/kind=5\/kind=6\/kind=7\/kind=8)with rfl|rfl|rfl|rfl|rfl|rfl|rfl|rfl|rfl
  all_goals
   clear hk;go_enter func119,ntmps119;go_wp2_with fail;refine(Qf _ _ _).mono ?_;rintro e w1 ⟨rfl,hw⟩;subst hw;go_wp2;go_ret2;exact⟨_,rfl,AR _ (av _ _ _),(ah.refl _ _).alloc _⟩
 ·have Hk:Hid (W8 kind=9):=hd0 (by rw[W8,ava hk]);have b0:(kind==0)=false:=awh (by omega);have b1:(kind==1)=false:=awh (by omega);have b2:(kind==2)=false:=awh (by omega);have b3:(kind==3)=false:=awh (by omega);have b4:(kind==4)=false:=awh (by omega);have b5:(kind==5)=false:=awh (by omega);have b6:(kind==6)=false:=awh (by omega);have b7:(kind==7)=false:=awh (by omega);have b8:(kind==8)=false:=awh (by omega);clear hk;go_enter func119,ntmps119;go_wp2;go_ret2;exact⟨_,by rw[Hk.out];rfl,by rw[Hk.out];exact⟨none,0,rfl,fun j x h=>by simp[L6,pS,fieldsOf]at h⟩,ah.refl _ _⟩
def kx:List UInt8:=[48,49,50,51,52,53,54,55,56,57,97,98,99,100,101,102]
theorem Bi (n:Nat)(h:n<16):kx[n]?=some (ms n):=by
 rcases(by omega:n=0\/n=1\/n=2\/n=3\/n=4\/n=5\/n=6\/n=7\/n=8\/n=9\/n=10\/n=11\/n=12\/n=13\/n=14\/n=15)with h|h|h|h|h|h|h|h|h|h|h|h|h|h|h|h<;>subst h<;>decide
theorem Ib (d:List UInt8)(b:UInt8):iz (d++[b])=iz d++[ms (b.toNat/16)]++[ms (b.toNat%16)]:=by simp[iz]
theorem L8:∀ n:Fin 256,bits .and .u8 (n.val:Int) 15=((n.val%16:Nat):Int):=by decide +kernel
theorem acE (x:UInt8):bits .and .u8 (x.toNat:Int) 15=((x.toNat%16:Nat):Int):=L8 ⟨x.toNat,x.toNat_lt⟩
theorem xa (k:IntKind)(i:Int)(n:Nat)(hi:i=(n:Int))(hn:n<16)(W:World):
  (Instr.index 9 (.string ⟨#[48,49,50,51,52,53,54,55,56,57,97,98,99,100,101,102]⟩) (.int k i)).run prog W=.ok (.int .u8 ((ms n).toNat:Int)) W:=
 aQ underlying9 kx k i (ms n) (by omega) (by rw[show i.toNat=n by omega];exact Bi n hn) W
theorem L9 (d:List UInt8)(w:World)(hd:d.length<=1099511627776):
  Calls prog 200 #[.string ⟨d.toArray⟩] w fun e w'=>e=.returned (.string ⟨(rM d).toArray⟩)/\af w w':=by
 by_cases h0:d=[]
 ·subst h0;go_enter func200,ntmps200;go_wp2;go_ret;exact⟨rfl,ah.refl _ _⟩
 ·have e0:(d==[])=false:=awh h0;have e1:d.isEmpty=false:=by cases d;exact absurd rfl h0;rfl
  have He:Hid (rM d=iz d):=hd0 (by rw[rM,ava h0]);have nT:=hd0 (nw w);have dT:Hid (Below w.heap.size w (w.alloc (.cells #[.pointer none,.slice none 0 0] 176))):=hd0 ((Below.refl _ _).alloc (au4 _) _);clear h0;go_enter func200,ntmps200;go_wp2_with fail;generalize w.alloc (.cells #[.pointer none,.slice none 0 0] 176)=w0 at*
  go_loopw [9] (fun i wr=>∃ k:Nat,k<=d.length/\i=.int .i64 (k:Int)/\da w.heap.size w.heap.size (iz (d.take k)) wr/\Below w.heap.size w wr) (fun i _=>d.length-(intOf i).toNat)
  case atStart=>exact⟨0,by omega,rfl,nT.out,dT.out⟩
  case round=>
   clear nT dT;obtain⟨k,hk,rfl,hB,hK⟩:=hrel;have HB:=hd0 hB;have HK:=hd0 hK;clear hB hK;by_cases aL:k<d.length
   ·obtain⟨x,hx⟩:∃ x,d[k]?=some x:=⟨_,au1 aL⟩
    have Ce:Hid (iz (d.take (k+1))=iz (d.take k)++[ms (x.toNat/16)]++[ms (x.toNat%16)]):=hd0 (by rw[au3,hx,Option.toList_some,Ib]);have R4:∀ W,(Instr.index 9 (.string ⟨d.toArray⟩) (.int .i64 (k:Int))).run prog W=.ok (.int .u8 (x.toNat:Int)) W:=fun W=>aQ underlying9 d .i64 (k:Int) x (by omega) (by rw[avD];exact hx) W;clear hx;have NZ:Hid ((iz (d.take k)).length<=2*d.length):=hd0 (by rw[sV,au7];omega);have Cj:=fun W=>xa .u8 ((x.toNat:Int)/16) (x.toNat/16) (by omega) (by have:=x.toNat_lt;omega) W;go_wp2_with fail;refine(vL w.heap.size w.heap.size (iz (d.take k)) (ms (x.toNat/16)) wr HB.out (by have:=NZ.out;omega) HK.out.size).mono ?_;rintro e w1 ⟨rfl,hb1,hk1⟩;have jk:=hd0 hb1;have bZ:=hd0 (HK.out.trans hk1);clear hb1 hk1 Cj;have vd:=fun W=>xa .u8 (bits .and .u8 (x.toNat:Int) 15) (x.toNat%16) (acE x) (by omega) W;go_wp2_with fail;refine(vL w.heap.size w.heap.size (iz (d.take k)++[ms (x.toNat/16)]) (ms (x.toNat%16)) w1 jk.out (by have:=NZ.out;simp;omega) bZ.out.size).mono ?_;rintro e w2 ⟨rfl,eV,dd⟩;have lW:=hd0 eV;have bw:=hd0 (bZ.out.trans dd);clear eV dd vd R4;go_wp2_with fail;exact⟨⟨k+1,by omega,by go_num,by rw[Ce.out];exact lW.out,bw.out⟩,by simp[intOf];omega⟩
   ·obtain rfl:k=d.length:=by omega
    rw[au5]at HB;go_wp2_with fail;refine(gH w.heap.size w.heap.size (iz d) wr HB.out HK.out.size).mono ?_;rintro e w1 ⟨rfl,hk1⟩;have bZ:=hd0 (HK.out.trans hk1);clear hk1;go_wp2;go_ret;exact⟨by rw[He.out];rfl,ah.ofBelow bZ.out⟩
theorem Qh:∀ n:Fin 256,Lib.indexByte kx (UInt8.ofNat n.val)=eS (UInt8.ofNat n.val):=by decide +kernel
theorem UR (c:UInt8):Lib.indexByte kx c=eS c:=by
 have h:=Qh ⟨c.toNat,c.toNat_lt⟩;simpa using h
theorem Qi (c:UInt8)(w:World):
  Calls prog 254 #[.string ⟨#[48,49,50,51,52,53,54,55,56,57,97,98,99,100,101,102]⟩,.int .u8 (c.toNat:Int)] w fun e w'=>e=.returned (.int .i64 (eS c))/\w'=w:=by
 have h:=Tryz.strings_IndexByte ⟨kx.toArray⟩ (c.toNat:Int) w;have e:((c.toNat:Int).toNat).toUInt8=c:=by simp
 rw[e]at h;have e2:Lib.indexByte ({ data:=kx.toArray }:ByteArray).data.toList c=eS c:=UR c;rw[e2]at h;exact h
theorem J2 (c:UInt8):-1<=eS c/\eS c<=15:=by
 unfold eS;split
 ·omega
 ·split<;>omega
theorem Ma (x:Int):IntKind.u8.wrap x=((oO x).toNat:Int):=by
 rw[IntKind.wrap_u8,oO];simp;omega
theorem o8 (v:UInt8->Int):∀(n:Nat) (l m:List UInt8),l.length=2*n->br v (l++m)=br v l++br v m
 |0,l,m,h=>by
  obtain rfl:=avz.1 (by omega:l.length=0);simp[br]
 |n+1,[],m,h=>by simp at h
 |n+1,[a],m,h=>by simp at h;omega
 |n+1,a::b::l,m,h=>by
  rw[avG,avG,br,br,o8 v n l m (by simp at h;omega),avG]
theorem uc (v:UInt8->Int):∀(n:Nat) (l:List UInt8),l.length<=n->(br v l).length<=n
 |0,l,h=>by
  obtain rfl:=avz.1 (by omega:l.length=0);simp[br]
 |n+1,[],h=>by simp[br]
 |n+1,[a],h=>by simp[br]
 |n+1,a::b::l,h=>by
  have:=uc v n l (by simp at h;omega);rw[br,au0];omega
theorem Bj (v:UInt8->Int){s:List UInt8}{j:Nat}{a b:UInt8}(ha:s[2*j]?=some a)(hb:s[2*j+1]?=some b):br v (s.take (2*(j+1)))=br v (s.take (2*j))++[oO (16*v a+v b)]:=by
 have aL:=(avf.1 hb).1;have e:s.take (2*(j+1))=s.take (2*j)++[a,b]:=by
  rw[show 2*(j+1)=2*j+1+1 by omega,au3,au3,ha,hb];simp
 rw[e,o8 v j _ _ (by rw[au7];omega)];rfl
theorem DW (v:UInt8->Int){s:List UInt8}{j:Nat}(h1:2*j<=s.length)(h:s.length<=2*j+1):br v s=br v (s.take (2*j)):=by
 conv=>lhs;rw[<-List.take_append_drop (2*j) s]
 rw[o8 v j _ _ (by rw[au7];omega)];have hl:(s.drop (2*j)).length<=1:=by rw[List.length_drop];omega
 rcases hd:s.drop (2*j)with _|⟨a,_|⟨b,r⟩⟩
 ·simp[br]
 ·simp[br]
 ·rw[hd]at hl;simp at hl
theorem xc {P:Program}{f:FuncId}{args:Array Value}{w:World}{n:Nat}{v:Value}(h:Calls P f args (w.drewN n) fun e w'=>e=.returned v/\w'=w.drewN n):Calls P f args (w.drewN n) fun e w''=>e=.returned v/\∃ m,w''=w.drewN m:=
 h.mono fun _ _ ⟨a,b⟩=>⟨a,n,b⟩
theorem DX (s:List UInt8)(w:World)(hs:s.length<=4398046511104):
  Calls prog 202 #[.string ⟨s.toArray⟩] w fun e w'=>e=.returned (.string ⟨(uP s).toArray⟩)/\af w w':=by
 by_cases h0:s=[45]
 ·subst h0;go_enter func202,ntmps202;go_wp2;go_ret;exact⟨rfl,ah.refl _ _⟩
 ·have e0:(s==[45])=false:=awh h0;have He:Hid (uP s=br eS s):=hd0 (by rw[uP,ava h0]);have nT:=hd0 (nw w);have dT:Hid (Below w.heap.size w (w.alloc (.cells #[.pointer none,.slice none 0 0] 176))):=hd0 ((Below.refl _ _).alloc (au4 _) _);clear h0;go_enter func202,ntmps202;go_wp2_with fail;generalize w.alloc (.cells #[.pointer none,.slice none 0 0] 176)=w0 at*
  go_loopw [4] (fun i wr=>∃ k:Nat,k<=s.length+1/\i=.int .i64 (k:Int)/\Hid (∃ j,k=2*j)/\da w.heap.size w.heap.size (br eS (s.take k)) wr/\Below w.heap.size w wr) (fun i _=>s.length+2-(intOf i).toNat)
  case atStart=>exact⟨0,by omega,rfl,hd0 ⟨0,rfl⟩,nT.out,dT.out⟩
  case round=>
   clear nT dT;obtain⟨k,hk,rfl,Hj,hB,hK⟩:=hrel;have HB:=hd0 hB;have HK:=hd0 hK;clear hB hK;by_cases aL:k+1<s.length
   ·obtain⟨a,ha⟩:∃ a,s[k]?=some a:=⟨_,au1 (by omega)⟩
    obtain⟨b,hb⟩:∃ b,s[k+1]?=some b:=⟨_,au1 aL⟩
    have Ce:Hid (br eS (s.take (k+2))=br eS (s.take k)++[oO (16*eS a+eS b)]):=hd0 (by
     obtain⟨j,rfl⟩:=Hj.out;exact Bj eS ha hb)
    have Hj2:Hid (∃ j,k+2=2*j):=hd0 (by obtain⟨j,rfl⟩:=Hj.out;exact⟨j+1,by omega⟩);have NZ:Hid ((br eS (s.take k)).length<=s.length):=hd0 (auX (uc eS _ _ (au4 _)) (by rw[au7];omega));have hi1:∀ W,(Instr.index 9 (.string ⟨s.toArray⟩) (.int .i64 (k:Int))).run prog W=.ok (.int .u8 (a.toNat:Int)) W:=fun W=>aQ underlying9 s .i64 (k:Int) a (by omega) (by rw[avD];exact ha) W;have hi2:∀ W,(Instr.index 9 (.string ⟨s.toArray⟩) (.int .i64 ((k:Int)+1))).run prog W=.ok (.int .u8 (b.toNat:Int)) W:=fun W=>aQ underlying9 s .i64 ((k:Int)+1) b (by omega) (by rw[show((k:Int)+1).toNat=k+1 by omega];exact hb) W;have OD:=J2 a;have ZY:=J2 b;have q1:IntKind.i64.wrap ((k:Int)+1)=(k:Int)+1:=awt _ (by omega);have q2:IntKind.i64.wrap (16*eS a)=16*eS a:=awt _ (by omega);have q3:IntKind.i64.wrap (16*eS a+eS b)=16*eS a+eS b:=awt _ (by omega);have q4:=Ma (16*eS a+eS b);clear ha hb;go_wp2_with fail;refine dB 12 (by kernel_rfl) (by kernel_rfl) ?_;simp only[avO,avP,avQ,avR]
    repeat (quiet_step (first|(with_reducible exact xc (Qi a _))|(with_reducible exact xc (Qi b _))))
    refine avT ?_;intro _ bf;obtain⟨nq,rfl⟩:=bf;clear q1 q2 q3 q4 hi1 hi2;have HBn:Hid (da w.heap.size w.heap.size (br eS (s.take k)) (wr.drewN nq)):=hd0 (show da w.heap.size w.heap.size (br eS (s.take k)) (wr.drewN nq)from HB.out);go_wp2_with fail;refine(vL w.heap.size w.heap.size (br eS (s.take k)) (oO (16*eS a+eS b)) (wr.drewN nq) HBn.out (by have:=NZ.out;omega) HK.out.size).mono ?_;rintro e w2 ⟨rfl,eV,dd⟩;have lW:=hd0 eV;have bw:Hid (Below w.heap.size w w2):=hd0 ((((ah.ofBelow HK.out).drewN nq).below).trans dd);clear eV dd;go_wp2_with fail;exact⟨⟨k+2,by omega,by go_num,Hj2,by rw[Ce.out];exact lW.out,bw.out⟩,by simp[intOf];omega⟩
   ·have Hx:Hid (br eS (s.take k)=br eS s):=hd0 (by
     obtain⟨j,rfl⟩:=Hj.out;by_cases h:2*j<=s.length
     ·exact(DW eS h (by omega)).symm
     ·rw[avM (by omega)])
    rw[Hx.out]at HB;go_wp2_with fail;refine(gH w.heap.size w.heap.size (br eS s) wr HB.out HK.out.size).mono ?_;rintro e w1 ⟨rfl,hk1⟩;have bZ:=hd0 (HK.out.trans hk1);clear hk1;go_wp2;go_ret;exact⟨by rw[He.out];rfl,ah.ofBelow bZ.out⟩
end
section
open Go.RowKit
def bP (c:co):Array Value:=#[.int .i64 c.kind,.string ⟨c.path.toArray⟩,.string ⟨c.dest.toArray⟩,.int .i64 c.pos,.string ⟨c.data.toArray⟩]
def gK (c:co):Value:=.agg (bP c)
structure co.Small (c:co):Prop where
 path:c.path.length<4294967281
 dest:c.dest.length<4294967281
 data:c.data.length<=1099511627776
 pos:-9223372036854775808<=c.pos/\c.pos<=9223372036854775807
theorem cA {w:World}{b:Nat}{c:co}{t:TypeId}(h:World.blk w b (bP c) t):
  w.cell? ⟨b,0,none⟩=some (.int .i64 c.kind)/\w.cell? ⟨b,1,none⟩=some (.string ⟨c.path.toArray⟩)/\w.cell? ⟨b,2,none⟩=some (.string ⟨c.dest.toArray⟩)/\
  w.cell? ⟨b,3,none⟩=some (.int .i64 c.pos)/\w.cell? ⟨b,4,none⟩=some (.string ⟨c.data.toArray⟩):=
 ⟨aa h 0,aa h 1,aa h 2,aa h 3,aa h 4⟩
theorem xd (s:List UInt8):(eL s==0)=(bd s).isSome:=by
 unfold eL;cases (bd s).isSome<;>rfl
theorem pT (s:List UInt8)(w:World)(hs:s.length<=140737488355328):
  Calls prog 52 #[.string ⟨s.toArray⟩] w fun e w'=>e=.returned (.bool (aK s))/\af w w':=rQ s w hs
theorem Mb (c:co)(f:Nat)(hf:1<=f/\f<=5)(b:Nat)(w:World)(he:tU w)(hc:c.Small)(hB:World.blk w b (bP c) 55):
  Calls prog 120 #[.pointer (some ⟨b,0,none⟩),.int .i64 (f:Int)] w fun e w'=>e=.returned (.tuple #[.string ⟨(c.fieldText f).toArray⟩,.bool (c.fieldOk f)])/\af w w':=by
 have He:=hd0 he;have Hc:=hd0 hc;have HB:=hd0 hB;obtain⟨c0,c1,c2,c3,c4⟩:=cA hB;have ro:=ak hB;clear he hc hB;rcases(by omega:f=1\/f=2\/f=3\/f=4\/f=5)with rfl|rfl|rfl|rfl|rfl
 ·clear hf;go_enter func120,ntmps120;go_wp2_with fail;refine(mF c.path w He.out Hc.out.path).mono ?_;rintro e w1 ⟨v,rfl,-,hk⟩;have HK:=hd0 hk;obtain⟨c0,c1,c2,c3,c4⟩:=cA (ab hk HB.out id);have bQ:=xd c.path;clear hk;generalize hb:(bd c.path).isSome=ok at*;have Hb:=hd0 hb;clear hb;go_wp2;go_ret2;exact⟨by rw[show c.fieldOk 1=ok from Hb.out];rfl,HK.out⟩
 ·clear hf;go_enter func120,ntmps120;go_wp2_with fail;refine(mF c.dest w He.out Hc.out.dest).mono ?_;rintro e w1 ⟨v,rfl,-,hk⟩;have HK:=hd0 hk;obtain⟨c0,c1,c2,c3,c4⟩:=cA (ab hk HB.out id);have bQ:=xd c.dest;clear hk;generalize hb:(bd c.dest).isSome=ok at*;have Hb:=hd0 hb;clear hb;go_wp2;go_ret2;exact⟨by rw[show c.fieldOk 2=ok from Hb.out];rfl,HK.out⟩
 ·clear hf;by_cases h0:0<=c.pos
  ·have d0:decide (0<=c.pos)=true:=by simpa using h0
   have Hv:Hid (c.fieldOk 3=decide (c.pos<=16384)):=hd0 (by simp[co.fieldOk,h0]);go_enter func120,ntmps120;go_wp2_with fail;refine cO (by kernel_rfl) (by kernel_rfl) ?_
   repeat (quiet_step (with_reducible exact bB (CX c.pos Hc.out.pos.1 Hc.out.pos.2 _ (He.out.keep (aC _ _)))))
   refine avT ?_;intro _ bf;obtain⟨xq,rfl⟩:=bf;go_wp2;go_ret2;exact⟨by rw[Hv.out];rfl,aC _ _⟩
  ·have d0:decide (0<=c.pos)=false:=by simpa using h0
   have Hv:Hid (c.fieldOk 3=false):=hd0 (by simp[co.fieldOk,h0]);go_enter func120,ntmps120;go_wp2_with fail;refine cO (by kernel_rfl) (by kernel_rfl) ?_
   repeat (quiet_step (with_reducible exact bB (CX c.pos Hc.out.pos.1 Hc.out.pos.2 _ (He.out.keep (aC _ _)))))
   refine avT ?_;intro _ bf;obtain⟨xq,rfl⟩:=bf;go_wp2;go_ret2;exact⟨by rw[Hv.out];rfl,aC _ _⟩
 ·clear hf;go_enter func120,ntmps120;go_wp2_with fail;refine cO (by kernel_rfl) (by kernel_rfl) ?_
  repeat (quiet_step (with_reducible exact bB (L9 c.data _ Hc.out.data)))
  refine avT ?_;intro _ bf;obtain⟨xq,rfl⟩:=bf;have Hv:Hid (c.fieldOk 4=decide ((c.data.length:Int)<=512)):=hd0 (by rw[co.fieldOk];congr 1;exact propext (by omega));go_wp2;go_ret2;exact⟨by rw[Hv.out];rfl,aC _ _⟩
 ·clear hf;go_enter func120,ntmps120;go_wp2_with fail;refine cO (by kernel_rfl) (by kernel_rfl) ?_
  repeat (quiet_step (with_reducible exact bB (pT c.path _ (by have:=Hc.out.path;omega))))
  refine avT ?_;intro _ bf;obtain⟨xq,rfl⟩:=bf;go_wp2;go_ret2;exact⟨rfl,aC _ _⟩
end
section
open Go.RowKit
theorem Qj (c:co)(f:Nat)(hf:1<=f/\f<=5)(s:List UInt8)(b:Nat)(w:World)(he:tU w)(hs:s.length<=4398046511104)(hB:World.blk w b (bP c) 55):
  Calls prog 121 #[.pointer (some ⟨b,0,none⟩),.int .i64 (f:Int),.string ⟨s.toArray⟩] w fun e w'=>e=.returned (.tuple #[])/\ah (·=b) w w'/\World.blk w' b (bP (c.take f s)) 55:=by
 have He:=hd0 he;have HB:=hd0 hB;obtain⟨c0,c1,c2,c3,c4⟩:=cA hB;have fz:∀ i,w.frozen? ⟨b,i,none⟩=false:=fun i=>ae hB _ rfl;have f1:=fz 1;have f2:=fz 2;have ro:=ak hB;clear he hB fz;rcases(by omega:f=1\/f=2\/f=3\/f=4\/f=5)with rfl|rfl|rfl|rfl|rfl
 ·clear hf;go_enter func121,ntmps121;go_wp2_with fail;go_end0;exact⟨rfl,(ah.refl (·=b) w).setCell (p:=⟨b,_,none⟩) (.inl rfl) _,ag HB.out _ _⟩
 ·clear hf;go_enter func121,ntmps121;go_wp2_with fail;go_end0;exact⟨rfl,(ah.refl (·=b) w).setCell (p:=⟨b,_,none⟩) (.inl rfl) _,ag HB.out _ _⟩
 ·clear hf;go_enter func121,ntmps121;go_wp2_with fail;refine(O0 s (by omega) w He.out).mono ?_;rintro e w1 ⟨⟨x,rfl⟩,hk⟩;have jk:=hd0 (ab hk HB.out id);have HK:Hid (ah (·=b) w w1):=hd0 (hk.mono (fun _ _ h=>h.elim));obtain⟨c0,c1,c2,c3,c4⟩:=cA jk.out;have f3:w1.frozen? ⟨b,3,none⟩=false:=ae jk.out _ rfl;clear hk;go_wp2_with fail;go_end0;exact⟨rfl,HK.out.setCell (.inl rfl) _,ag jk.out _ _⟩
 ·clear hf;go_enter func121,ntmps121;go_wp2_with fail;refine(DX s w hs).mono ?_;rintro e w1 ⟨rfl,hk⟩;have jk:=hd0 (ab hk HB.out id);have HK:Hid (ah (·=b) w w1):=hd0 (hk.mono (fun _ _ h=>h.elim));obtain⟨c0,c1,c2,c3,c4⟩:=cA jk.out;have f4:w1.frozen? ⟨b,4,none⟩=false:=ae jk.out _ rfl;clear hk;go_wp2_with fail;go_end0;exact⟨rfl,HK.out.setCell (.inl rfl) _,ag jk.out _ _⟩
 ·clear hf;go_enter func121,ntmps121;go_wp2_with fail;go_end0;exact⟨rfl,(ah.refl (·=b) w).setCell (p:=⟨b,_,none⟩) (.inl rfl) _,ag HB.out _ _⟩
end
end Go.Proofs.YtkghpdcloaiflaaGreatDoor
