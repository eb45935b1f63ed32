import Derived.Test.YtkghpdcloaiflaaGreatDoorH23
import Derived.Laws.EntriesVeiled
set_option maxHeartbeats 4000000
set_option maxRecDepth 100000
namespace Go.Proofs.YtkghpdcloaiflaaGreatDoor
open _root_.Go.Proofs.Tryz
variable {k n:Nat}{x:List UInt8×Int}
section
open Go.RowKit Go.Maps Go.Sort Go.Shelf
theorem ZQ (m:Nat):AnyZ.SortsIn prog Tryz.sortedS_ren Fence.wide m:=
 ⟨λblk off cap ss W hH zo cJ=>awI.2 (AnyM.slices_Sort_string Tryz.sortS blk off cap ss W hH zo cJ),
  λp cap W=>awI.2 (AnyM.slices_Sort_string_none Tryz.sortS p cap W)⟩
theorem ZS (m:Nat):AnyZI.SortsIn prog Tryz.sortedI_ren Fence.wide m:=
 ⟨λblk off cap ss W hH zo cJ=>awI.2 (AnyM.slices_Sort_int Tryz.sortI blk off cap ss W hH zo cJ),
  λp cap W=>awI.2 (AnyM.slices_Sort_int_none Tryz.sortI p cap W)⟩
theorem Aa:∀(a b:List UInt8),bytesBefore a b=true->a<b
 |[],[],h=>by cases h
 |[],_::_,_=>List.nil_lt_cons _ _
 |_::_,[],h=>by cases h
 |x::r,y::s,h=>by
  simp only[bytesBefore,awq,awt,awo,awJ]at h;rw[List.cons_lt_cons_iff];rcases h with h|⟨h1,h2⟩
  ·exact .inl h
  ·exact .inr ⟨h1,Aa r s h2⟩
theorem Eo {l:Nm}(hs:eV l){ss:List (List UInt8)}(hp:ss.Perm (l.map (·.1))):ss.mergeSort (λx y=>decide (x<=y))=l.map (·.1):=by
 rw[mergeSort_of_perm hp];refine List.mergeSort_of_pairwise ?_;rw[List.pairwise_map];exact hs.imp λh=>by simpa[leB]using List.le_of_lt (Aa _ _ h)
theorem Ep {l:List Int}(hs:l.Pairwise (·<·)){ss:List Int}(hp:ss.Perm l):ss.mergeSort (λx y=>decide (x<=y))=l:=by
 rw[mergeSort_of_perm_i hp];refine List.mergeSort_of_pairwise ?_;exact hs.imp λh=>by simp[leI];omega
theorem Mp (mb:Option Nat)(W:World):Calls prog 302 #[.map mb] W λe w'=>e=.returned (.func (.func 334) #[] #[.pointer (some ⟨W.heap.size,0,none⟩)])/\w'=W.alloc (.cells #[.map mb] 244):=
 awI.1 (AnyZ.keys_in Tryz.keysS Fence.wide 5 trivial rfl mb W)
theorem Mq (mb:Option Nat)(W:World):Calls prog 204 #[.map mb] W λe w'=>e=.returned (.func (.func 256) #[] #[.pointer (some ⟨W.heap.size,0,none⟩)])/\w'=W.alloc (.cells #[.map mb] 247):=
 awI.1 (AnyZI.keys_in Tryz.keysI Fence.wide 5 trivial rfl mb W)
theorem Er (b:Nat)(l:Nm)(w:World)(h:It w b l)(hs:eV l)(hl:l.length<=1000000):
  Calls prog 301 #[.func (.func 334) #[] #[.pointer (some ⟨w.heap.size,0,none⟩)]] (w.alloc (.cells #[.map (some b)] 244)) λe w'=>∃ v,e=.returned v/\io w' w.heap.size v (l.map (·.1))/\af w w':=by
 have mL:=h.lt;have Jy:SeqGives Fence.wide 2 prog 334 #[.pointer (some ⟨w.heap.size,0,none⟩)] encStr (λss=>ss.Perm (strKeys (XK l))) (Maps.size (XK l)) (w.alloc (.cells #[.map (some b)] 244)):=
  AnyZ.keys_gives (ρ:=Tryz.keysS_ren) { Tryz.keysS with } Fence.wide _ trivial rfl J w.heap.size b l.length (XK l) _ sp7 sp7 (World.ownsMap.alloc h _)
 have cS:=AnyZ.sorted_in Tryz.sortedS Fence.wide 5 trivial trivial trivial trivial rfl J (ZQ _) (enters_of func333 kr7 rfl) 334 #[.pointer (some ⟨w.heap.size,0,none⟩)] trivial (enters_of func334 kr7 rfl) _ _ (by rw[fu];unfold maxLen;omega) (by rw[fu];omega) _ Jy;refine(awI.1 cS).mono ?_;rintro e w' ⟨v,ss,rfl,hS,cq,abn,hb⟩;have hk:strKeys (XK l)=l.map (·.1):=by
  show(l.map λp=>((Lit.string p.1,GA p.2):Lit×DataW Value)).map (λp=>strOf p.1)=_;rw[awv];rfl
 rw[hk]at hS;rw[Eo hs hS]at cq;refine⟨v,rfl,?_,cZ (ai.ofBelow hb)⟩;have bt:ss.length=(l.map (·.1)).length:=hS.length_eq;unfold io;rw[<-bt,t8];exact eS cq sp7
theorem Es (b:Nat)(l:List (Int×Nat))(w:World)(h:QE w b l)(hs:(l.map (·.1)).Pairwise (·<·))(hl:l.length<=1000000):
  Calls prog 203 #[.func (.func 256) #[] #[.pointer (some ⟨w.heap.size,0,none⟩)]] (w.alloc (.cells #[.map (some b)] 247)) λe w'=>∃ v,e=.returned v/\aO w' w.heap.size v (l.map (·.1))/\af w w':=by
 have mL:=h.lt;have Jy:SeqGives Fence.wide 2 prog 256 #[.pointer (some ⟨w.heap.size,0,none⟩)] encZ (λss=>ss.Perm (intKeys (OA l))) (Maps.size (OA l)) (w.alloc (.cells #[.map (some b)] 247)):=
  AnyZI.keys_gives (ρ:=Tryz.keysI_ren) { Tryz.keysI with } Fence.wide _ trivial rfl J w.heap.size b l.length (OA l) _ sp7 sp7 (World.ownsMap.alloc h _)
 have cS:=AnyZI.sorted_in Tryz.sortedI Fence.wide 5 trivial trivial trivial trivial rfl J (ZS _) (enters_of func255 kr7 rfl) 256 #[.pointer (some ⟨w.heap.size,0,none⟩)] trivial (enters_of func256 kr7 rfl) _ _ (by rw[fu];unfold maxLen;omega) (by rw[fu];omega) _ Jy;refine(awI.1 cS).mono ?_;rintro e w' ⟨v,ss,rfl,hS,cq,abn,hb⟩;have hk:intKeys (OA l)=l.map (·.1):=by
  show(l.map λp=>((Lit.int .i64 p.1,yJ p.2):Lit×DataW Value)).map (λp=>Go.intOf p.1)=_;rw[awv];rfl
 rw[hk]at hS;rw[Ep hs hS]at cq;refine⟨v,rfl,?_,cZ (ai.ofBelow hb)⟩;have bt:ss.length=(l.map (·.1)).length:=hS.length_eq;unfold aO;rw[<-bt];exact eS cq sp7
end
section
open Go.RowKit
theorem eL (h:n<128):aD n=[UInt8.ofNat n]:=by rw[aD,dif_pos h]
theorem jz (h:¬ n<128):aD n=UInt8.ofNat (n%128+128)::aD (n/128):=by rw[aD,dif_neg h]
theorem ei:∀(k n:Nat),n<128 ^ (k+1)->(aD n).length<=k+1:=by
 intro k
 induction k with
 |zero=>intro n h;rw[eL J];simp
 |succ k ih=>
  intro n h;by_cases h1:n<128
  ·rw[eL h1];simp
  ·rw[jz h1,av5];have:=ih (n/128) (by rw[awy]at h;omega);omega
theorem aK (h:n<9223372036854775808):(aD n).length<=9:=ei 8 n (by simpa using h)
theorem Kh (n:Nat)(hn:n<9223372036854775808)(w:World):
  Calls prog 164 #[.slice none 0 0,.int .i64 (n:Int)] w λe w'=>∃ v,e=.returned v/\af w w'/\bR w' w.heap.size v (aD n):=by
 have Hn:=Z hn;go_enter func164,ntmps164;go_wp2_with fail
 go_loopw [0,1] (λv i wr=>∃(pre:List UInt8) (m:Nat),m<=n/\i=.int .i64 (m:Int)/\af w wr/\w.heap.size<=wr.heap.size/\Hid (aD n=pre++aD m)/\bR wr w.heap.size v pre) (λ_ i _=>(intOf i).toNat)
 case atStart=>exact⟨[],n,av9 _,rfl,ai.refl _ _,av9 _,Z rfl,rfl,.inl ⟨rfl,rfl⟩⟩
 case round=>
  obtain⟨pre,m,hm,rfl,hK,cJ,He,hV⟩:=hrel;obtain⟨HK,HV⟩:=K2 hK hV;have Hl:Hid (pre.length<=9):=Z (by have:=aK Hn.o;rw[He.o,awn]at this;omega);clear hK hV;by_cases h:m<128
  ·have h1:¬(128:Int)<=m:=J
   have e8:((UInt8.ofNat m).toNat:Int)=m:=by simp;omega
   obtain⟨v2,w2,hr,ho,dK⟩:=tV (P:=prog) underlying131 jT w.heap.size u0 _ pre wr w HV.o (UInt8.ofNat m) (by have:=Hl.o;omega) cJ HK.o (av9 _);rw[e8]at hr;obtain⟨Hr,Ho,Hk2,Ee⟩:=K4 hr ho dK (eL h);clear hr ho dK h e8;go_wp2_with ((at_builtin;refine aB Hr.o rfl rfl rfl rfl ?_));go_ret;refine⟨_,rfl,Hk2.o,?_⟩;have e:aD n=pre++[UInt8.ofNat m]:=by rw[He.o,Ee.o]
   have e2:(pre++[UInt8.ofNat m]).length=pre.length+1:=by simp
   rw[e];unfold bR;rw[e2];exact Ho.o
  ·have h1:(128:Int)<=m:=J
   have e8:((UInt8.ofNat (m%128+128)).toNat:Int)=(m:Int)%128+128:=by simp;omega
   obtain⟨v2,w2,hr,ho,dK⟩:=tV (P:=prog) underlying131 jT w.heap.size u0 _ pre wr w HV.o (UInt8.ofNat (m%128+128)) (by have:=Hl.o;omega) cJ HK.o (av9 _);rw[e8]at hr;obtain⟨Hr,Ho,Hk2⟩:=K3 hr ho dK;have le:=dK.size;have Ee:=Z (jz h);clear hr ho dK h e8;go_wp2_with ((at_builtin;refine aB Hr.o rfl rfl rfl rfl ?_));refine⟨⟨pre++[UInt8.ofNat (m%128+128)],m/128,J,by rw[show((m/128:Nat):Int)=(m:Int)/128 by omega],Hk2.o,J,Z (by rw[He.o,Ee.o];simp),?_⟩,by simp[intOf];omega⟩;have e2:(pre++[UInt8.ofNat (m%128+128)]).length=pre.length+1:=by simp
   unfold bR;rw[e2];exact Ho.o
theorem QM (n:Int)(w:World)(hn:-9223372036854775808<=n/\n<=9223372036854775807):
  Calls prog 84 #[.int .i64 n] w λe w'=>e=.returned (if 0<=n/\n<=4611686018427387903 then .tuple #[.string ⟨(aD n.toNat).toArray⟩,.int .i64 0]else .tuple #[.string ⟨#[]⟩,.int .i64 31])/\af w w':=by
 by_cases h:0<=n/\n<=4611686018427387903
 ·rw[awd h];obtain⟨h1,h2⟩:=h;have h3:¬ n<0:=J
  have h4:¬ 4611686018427387903<n:=J
  obtain⟨m,rfl⟩:∃ m:Nat,n=m:=⟨n.toNat,J⟩
  have hm:m<9223372036854775808:=J
  clear h2 hn;go_enter func84,ntmps84;go_wp2_with fail;refine(Kh m hm _).mono ?_;rintro e w1 ⟨v,rfl,hk,ho⟩;have hr:=ls ho;have Hk:=Z hk;clear ho hk;go_wp2;go_ret2;exact⟨rfl,Hk.o⟩
 ·rw[awf h];have h5:n<0\/4611686018427387903<n:=J
  clear h;by_cases h1:n<0
  ·go_enter func84,ntmps84;go_wp2;go_ret2;exact⟨rfl,ai.refl _ _⟩
  ·have h2:4611686018427387903<n:=J
   clear h5;go_enter func84,ntmps84;go_wp2;go_ret2;exact⟨rfl,ai.refl _ _⟩
theorem lB (n:Nat)(w:World)(hn:n<=4611686018427387903):
  Calls prog 84 #[.int .i64 (n:Int)] w λe w'=>e=.returned (.tuple #[.string ⟨(aD n).toArray⟩,.int .i64 0])/\af w w':=by
 refine(QM n w J).mono λe w' ⟨h1,h2⟩=>⟨?_,h2⟩
 rw[awd J]at h1;rw[h1,awH]
theorem th (s:List UInt8)(w:World)(hs:s.length<=65536):
  Calls prog 85 #[.string ⟨s.toArray⟩] w λe w'=>e=.returned (.tuple #[.string ⟨(aD s.length++s).toArray⟩,.int .i64 0])/\af w w':=by
 have h1:¬(65536:Int)<s.length:=J
 have Hm:Hid (s.length<9223372036854775808):=Z J;have h2:(s.length:Int)<=9223372036854775807:=J
 clear hs;go_enter func85,ntmps85;go_wp2_with fail;refine(Kh s.length Hm.o _).mono ?_;rintro e w1 ⟨v,rfl,hk,ho⟩;have hr:=ls ho;have Hk:=Z hk;clear ho hk;have hb:¬ 9223372036854775807<(aD s.length).length+s.length:=by have:=aK Hm.o;omega
 go_wp2;go_ret2;exact⟨rfl,Hk.o⟩
def xk (was x:List UInt8×Int)(first:Bool):Bool:=aJ x.1&&(first||bytesBefore was.1 x.1)&&decide (1<=x.2)&&decide (x.2<=65535)
theorem VK (was x:List UInt8×Int)(first:Bool)(w:World)(hx:x.1.length<=140737488355328):
  Calls prog 335 #[ZO was,ZO x,.bool first] w λe w'=>e=.returned (.bool (xk was x first))/\af w w':=by
 obtain⟨s0,k0⟩:=was;obtain⟨s,k⟩:=x;have hg:=xe s s0;go_enter func335,ntmps335;go_wp2_with fail;refine(oO s _ hx).mono ?_;rintro e w3 ⟨rfl,hk⟩;have ic:World.blk w3 w.heap.size #[.string ⟨s0.toArray⟩,.int .i64 k0] 351:=ab hk (aE (av _ _ _) _) id;have hb1:World.blk w3 (w.heap.size+1) #[.string ⟨s.toArray⟩,.int .i64 k] 351:=ab hk (aV sp7 _ _) id;have c0:w3.cell? ⟨w.heap.size,0,none⟩=some (.string ⟨s0.toArray⟩):=aa ic 0;have c1:w3.cell? ⟨w.heap.size+1,0,none⟩=some (.string ⟨s.toArray⟩):=aa hb1 0;have c2:w3.cell? ⟨w.heap.size+1,1,none⟩=some (.int .i64 k):=aa hb1 1;have HK:=Z (cZ (cZ hk));clear hk ic hb1 hx
 cases hn:aJ s with
 |false=>
  have Hv:Hid (xk (s0,k0) (s,k) first=false):=Z (by simp[xk,hn]);clear hn;go_wp2;go_ret;exact⟨by rw[Hv.o];first|rfl|(simp;omega)|(simp[h1,h2])|(simp;intros;omega),HK.o⟩
 |true=>
  cases first with
  |true=>
   have Hv:Hid (xk (s0,k0) (s,k) true=(decide (1<=k)&&decide (k<=65535))):=Z (by simp[xk,hn]);clear hn;by_cases h1:1<=k
   ·by_cases h2:k<=65535
    ·go_wp2;go_ret;exact⟨by rw[Hv.o];first|rfl|(simp;omega)|(simp[h1,h2])|(simp;intros;omega),HK.o⟩
    ·go_wp2;go_ret;exact⟨by rw[Hv.o];first|rfl|(simp;omega)|(simp[h1,h2])|(simp;intros;omega),HK.o⟩
   ·go_wp2;go_ret;exact⟨by rw[Hv.o];first|rfl|(simp;omega)|(simp[h1,h2])|(simp;intros;omega),HK.o⟩
  |false=>
   have Hv:Hid (xk (s0,k0) (s,k) false=(bytesBefore s0 s&&decide (1<=k)&&decide (k<=65535))):=Z (by simp[xk,hn]);clear hn
   cases UA:bytesBefore s0 s with
   |false=>
    rw[UA]at hg Hv;clear UA;go_wp2;go_ret;exact⟨by rw[Hv.o];first|rfl|(simp;omega)|(simp[h1,h2])|(simp;intros;omega),HK.o⟩
   |true=>
    rw[UA]at hg Hv;clear UA;by_cases h1:1<=k
    ·by_cases h2:k<=65535
     ·go_wp2;go_ret;exact⟨by rw[Hv.o];first|rfl|(simp;omega)|(simp[h1,h2])|(simp;intros;omega),HK.o⟩
     ·go_wp2;go_ret;exact⟨by rw[Hv.o];first|rfl|(simp;omega)|(simp[h1,h2])|(simp;intros;omega),HK.o⟩
    ·go_wp2;go_ret;exact⟨by rw[Hv.o];first|rfl|(simp;omega)|(simp[h1,h2])|(simp;intros;omega),HK.o⟩
abbrev QN:Value:=.agg #[.func (.func 335) #[] #[],.func (.func 336) #[] #[],.func (.func 337) #[] #[]]
theorem Iu (x:List UInt8×Int)(w:World):
  Calls prog 336 #[ZO x] w λe w'=>∃ b,e=.returned (.slice (some ⟨b,0,none⟩) 2 2)/\w.heap.size<=b/\af w w'/\World.blk w' b #[.iface 9 (.string ⟨x.1.toArray⟩),.iface 3 (.int .i64 x.2)] 20:=by
 obtain⟨s,k⟩:=x;go_enter func336,ntmps336;go_wp2;go_ret;exact⟨_,rfl,J,((ai.refl _ _).alloc _).alloc _,aV sp7 _ _⟩
theorem QO (w:World):
  Calls prog 304 #[] w λe w'=>e=.returned QN/\af w w':=by
 go_enter func304,ntmps304;go_wp2_with fail;exact awC (v:=QN) (by simp[results,Tryz.results304,go_sem]) rfl ⟨rfl,(ai.refl _ _).alloc _⟩
def jL (was:Option (List UInt8))(l:Nm):Option (List UInt8):=match l.getLast? with|some p=>some p.1|none=>was
theorem ng (a b:Nm):∀ was,fS was (a++b)=(fS was a&&fS (jL was a) b):=by
 induction a with
 |nil=>intro was;simp[fS,jL]
 |cons p r ih=>
  intro was;have e:jL (some p.1) r=jL was (p::r):=by
   cases r with
   |nil=>simp[jL]
   |cons q r=>
    unfold jL;rw[List.getLast?_cons_cons]
    cases h:(q::r).getLast? with
    |none=>simp at h
    |some y=>rfl
  rw[awK,fS,ih,fS,e,Bool.and_assoc]
theorem iZ {α:Type}{l:List α}{x:α}(h:l[k]?=some x):l.take (k+1)=l.take k++[x]:=by
 rw[av8,h];rfl
theorem nh {l:Nm}(h:l[k]?=some x):fS none (l.take (k+1))=(fS none (l.take k)&&vY (jL none (l.take k)) x):=by
 rw[iZ h,ng];simp[fS]
theorem QP {l:Nm}(h:l[k]?=some x)(h2:vY (jL none (l.take k)) x=false):oD l=false:=by
 have e:fS none l=(fS none (l.take (k+1))&&fS (jL none (l.take (k+1))) (l.drop (k+1))):=by
  rw[<-ng,List.take_append_drop]
 unfold oD;rw[e,nh h,h2];simp
def gB (l:Nm)(k:Nat):List UInt8×Int:=(l.take k).getLastD ([],0)
theorem VL {l:Nm}(x:List UInt8×Int)(hk:k<=l.length):xk (gB l k) x (decide (k=0))=vY (jL none (l.take k)) x:=by
 cases k with
 |zero=>simp[xk,vY,jL]
 |succ k=>
  obtain⟨y,hy⟩:∃ y,l[k]?=some y:=⟨_,av6 J⟩
  simp[xk,vY,jL,gB,iZ hy]
theorem Iv {l:Nm}(h:l[k]?=some x):gB l (k+1)=x:=by
 unfold gB;rw[iZ h];simp
theorem Ab (s:ByteArray)(W:World):(Instr.typeAssert (.iface 9 (.string s)) 20 3 true).run prog W=.ok (.tuple #[.int .i64 0,.bool false]) W:=kr7
theorem xl (s:ByteArray)(W:World):(Instr.typeAssert (.iface 9 (.string s)) 20 9 true).run prog W=.ok (.tuple #[.string s,.bool true]) W:=kr7
theorem qP (n:Int)(W:World):(Instr.typeAssert (.iface 3 (.int .i64 n)) 20 3 true).run prog W=.ok (.tuple #[.int .i64 n,.bool true]) W:=kr7
def rQ (l:Nm):Value:=if oD l=true then .tuple #[.string ⟨(lQ l).toArray⟩,.int .i64 0]else .tuple #[.string ⟨#[]⟩,.int .i64 120]
theorem QQ {l:Nm}:∀ was,fS was l=true->(l.flatMap ly).length<=l.length*34:=by
 induction l with
 |nil=>intro _ _;simp
 |cons p r ih=>
  intro was h;rw[fS,awo]at h;have h2:=ih _ h.2;have h1:=h.1;simp only[vY,aJ,awo,awt]at h1;have e1:=aK (n:=p.1.length) (by have:=h1.1.1.1.1.1.2;omega);have e2:=aK (n:=p.2.toNat) (by have:=h1.2;omega);have e3:p.1.length<=16:=h1.1.1.1.1.1.2;rw[awL,awn,av5];have:(ly p).length<=34:=by unfold ly;simp;omega
  omega
theorem Ki {l:Nm}{pre:List UInt8}(h:aD l.length++(l.take k).flatMap ly=pre)(hl:l.length<=4096)(he:fS none (l.take (k+1))=true):pre.length<=1000000:=by
 have h2:fS none (l.take k)=true:=by
  rw[<-List.take_append_drop k (l.take (k+1)),ng,awo]at he;have:=he.1
  rwa [List.take_take,Nat.min_eq_left J]at this
 have h3:=QQ _ h2;have h4:=aK (n:=l.length) J;have h5:(l.take k).length<=4096:=by rw[awc];omega
 rw[<-h,awn];omega
theorem QR (l:Nm)(v:Value)(w:World)(cq:ms Iq 2 w v l)(hl:l.length<=1000000000)(hs:∀ p∈l,p.1.length<=1000000000/\-9223372036854775808<=p.2/\p.2<=9223372036854775807):
  Calls prog 303 #[QN,v] w λe w'=>e=.returned (rQ l)/\af w w':=by
 obtain⟨a,cap,rfl,hx⟩:=cq;obtain⟨HX,HS⟩:=K2 hx hs;clear hx hs;by_cases bt:l.length<=4096
 ·have h1:¬(4096:Int)<l.length:=J
  have Hl:=Z bt;clear bt hl;go_enter func303,ntmps303;go_wp2_with fail;refine(lB l.length _ (by have:=Hl.o;omega)).mono ?_;rintro e w2 ⟨rfl,dK⟩;have SC:Hid (World.blk w2 w.heap.size #[.func (.func 335) #[] #[],.func (.func 336) #[] #[],.func (.func 337) #[] #[]] 400):=Z (ab dK (aE (av _ _ _) _) id);have Zi:Hid (cX (w.heap.size+1) (w.heap.size+1) [] w2):=Z (by
   have h:=mS (w.alloc (.cells #[.func (.func 335) #[] #[],.func (.func 336) #[] #[],.func (.func 337) #[] #[]] 400));rw[show(w.alloc (.cells #[.func (.func 335) #[] #[],.func (.func 336) #[] #[],.func (.func 337) #[] #[]] 400)).heap.size=w.heap.size+1 by simp]at h;exact cr h dK)
  have bJ:=Z (cZ (cZ dK));have le:=dK.size;simp at le;clear dK;go_wp2_with fail;refine(jj (w.heap.size+1) (w.heap.size+1) [] (aD l.length) w2 Zi.o (by have:=aK (n:=l.length) (by have:=Hl.o;omega);simp;omega) J).mono ?_;rintro e w3 ⟨rfl,sK,ye,nS⟩;obtain⟨Gc,qv,ez⟩:=K3 (ab nS SC.o (cO J SC.o dc7)) sK (cW bJ.o ye J);have Cr:=ye.size;rw[awE]at qv;clear sK ye nS SC Zi bJ;go_wp2_with fail;obtain⟨wb,Jp⟩:∃ wb,wb=w3.heap.size:=⟨_,rfl⟩
  have Zq:Hid (World.blk (w3.alloc (.cells #[.string ⟨#[]⟩,.int .i64 0] 351)) wb #[.string ⟨#[]⟩,.int .i64 0] 351):=Z (aV Jp _ _);obtain⟨Zr,nE,eR⟩:=K3 (aE Gc.o (.cells #[.string ⟨#[]⟩,.int .i64 0] 351)) (cr qv.o ((ai.refl (λ_=>False) w3).alloc (.cells #[.string ⟨#[]⟩,.int .i64 0] 351))) (ez.alloc (.cells #[.string ⟨#[]⟩,.int .i64 0] 351));have afd:w.heap.size+2<=wb:=J
  clear Gc qv ez;rw[<-Jp];generalize w3.alloc (.cells #[.string ⟨#[]⟩,.int .i64 0] 351)=w4 at*;clear Jp Cr le
  go_loopw [30] (λi wr=>∃ k:Nat,k<=l.length/\i=.int .i64 (k:Int)/\af w wr/\World.blk wr w.heap.size #[.func (.func 335) #[] #[],.func (.func 336) #[] #[],.func (.func 337) #[] #[]] 400/\World.blk wr wb #[.string ⟨(gB l k).1.toArray⟩,.int .i64 (gB l k).2] 351/\cX (w.heap.size+1) (w.heap.size+1) (aD l.length++(l.take k).flatMap ly) wr/\Hid (fS none (l.take k)=true)) (λi _=>l.length-(intOf i).toNat)
  case atStart=>exact⟨0,J,rfl,eR.o,Zr.o,Zq.o,by simpa using nE.o,Z rfl⟩
  case round=>
   clear Zr Zq nE eR;obtain⟨k,hk,rfl,hK,hF,hW,hB,He⟩:=hrel;obtain⟨HK,HF,HW,HB⟩:=K4 hK hF hW hB;clear hK hF hW hB;by_cases aP:k<l.length
   ·obtain⟨x,hx⟩:∃ x,l[k]?=some x:=⟨_,av6 aP⟩
    have Hx:=Z hx;clear hx;obtain⟨b,o,rfl,hc⟩:=HX.o k x Hx.o;have c0:wr.cell? ⟨b,o+k*2,none⟩=some (.string ⟨x.1.toArray⟩):=by have h:=hc 0 _ rfl;rw[HK.cell (p:=⟨b,o+k*2,none⟩) (am h) id];exact h
    have c1:wr.cell? ⟨b,o+k*2+1,none⟩=some (.int .i64 x.2):=by have h:=hc 1 _ rfl;rw[HK.cell (p:=⟨b,o+k*2+1,none⟩) (am h) id];exact h
    have f0:wr.cell? ⟨w.heap.size,0,none⟩=some (.func (.func 335) #[] #[]):=aa HF.o 0;have f1:wr.cell? ⟨w.heap.size,1,none⟩=some (.func (.func 336) #[] #[]):=aa HF.o 1;have g0:wr.cell? ⟨wb,0,none⟩=some (.string ⟨(gB l k).1.toArray⟩):=aa HW.o 0;have g1:wr.cell? ⟨wb,1,none⟩=some (.int .i64 (gB l k).2):=aa HW.o 1;obtain⟨fb,hq⟩:∃ fb,((k:Int)==0)=fb:=⟨_,rfl⟩
    have z0:w.heap.size<wr.heap.size:=ak HF.o;have z1:wb<wr.heap.size:=ak HW.o;clear hc;go_wp2_with fail;refine(VK (gB l k) x fb _ (by have:=(HS.o x (av7 Hx.o)).1;omega)).mono ?_;rintro e w5 ⟨rfl,kV⟩;obtain⟨FY,mM,tK,F0,nD⟩:=K5 (ab kV (aE HF.o _) id) (ab kV (aE HW.o _) id) (ab kV (av wr _ _) id) (cr HB.o (cZ kV)) (HK.keep (cZ kV));have Gb:=kV.size;simp at Gb;have Hm:=Z (VL (l:=l) (k:=k) x J);have Hq:Hid (fb=decide (k=0)):=Z (by rw[<-hq,awM];simp);clear kV c0 c1 f0 f1 g0 g1 z0 HF HW HB HK hq
    cases hmy:xk (gB l k) x fb with
    |false=>
     have Hv:Hid (rQ l=.tuple #[.string ⟨#[]⟩,.int .i64 120]):=Z (by
      rw[Hq.o,Hm.o]at hmy;simp[rQ,QP Hx.o hmy])
     clear hmy;go_wp2;go_ret2;exact⟨by rw[Hv.o];rfl,nD.o⟩
    |true=>
     have He2:Hid (fS none (l.take (k+1))=true):=Z (by
      rw[Hq.o,Hm.o]at hmy;rw[nh Hx.o,He.o,hmy];rfl)
     clear hmy;generalize wr.heap.size=xb at*;have f1:w5.cell? ⟨w.heap.size,1,none⟩=some (.func (.func 336) #[] #[]):=aa FY.o 1;have g0:w5.frozen? ⟨wb,0,none⟩=false:=ae mM.o _ rfl;have g1:w5.frozen? ⟨wb,1,none⟩=false:=ae mM.o _ rfl;have g2:w5.cell? ⟨wb,0,none⟩=some (.string ⟨(gB l k).1.toArray⟩):=aa mM.o 0;have g3:w5.cell? ⟨wb,1,none⟩=some (.int .i64 (gB l k).2):=aa mM.o 1;have e0:w5.cell? ⟨xb,0,none⟩=some (.string ⟨x.1.toArray⟩):=aa tK.o 0;have e1:w5.cell? ⟨xb,1,none⟩=some (.int .i64 x.2):=aa tK.o 1;have n1:¬ w.heap.size=wb:=J
     have n2:¬ xb=wb:=J
     go_wp2_with fail;refine(Iu x _).mono ?_;rintro e w7 ⟨pb,rfl,nX,pV,qs⟩;have tM:ai (·=wb) w5 ((w5.setCell ⟨wb,0,none⟩ (.string ⟨x.1.toArray⟩)).setCell ⟨wb,1,none⟩ (.int .i64 x.2)):=((ai.refl (λy=>y=wb) w5).setCell (p:=⟨wb,0,none⟩) (.inl rfl) _).setCell (p:=⟨wb,1,none⟩) (.inl rfl) _;have Yr:=Z (ab pV (ab tM FY.o n1) id);have Kx:=Z (cr (uP F0.o tM J (λq c fr hq e=>by
      subst e;have:=mM.o;unfold World.blk at this;rw[this]at hq
      cases hq)) pV)
     have Yo:Hid (World.blk w7 wb #[.string ⟨x.1.toArray⟩,.int .i64 x.2] 351):=Z (ab pV (ah (ah mM.o 0 _) 1 _) id);obtain⟨yY,CI⟩:=K2 ((nD.new tM J).keep pV) qs;have hpw:wb<pb:=by
      have h:=ak mM.o;have e:((w5.setCell ⟨wb,0,none⟩ (.string ⟨x.1.toArray⟩)).setCell ⟨wb,1,none⟩ (.int .i64 x.2)).heap.size=w5.heap.size:=by simp[World.setCell]
      omega
     have TZ:x.1.length<=16:=by
      have h:=He2.o;rw[nh Hx.o]at h;simp only[awo,vY,aJ,awt]at h;exact h.2.1.1.1.1.1.2
     have sp:1<=x.2/\x.2<=65535:=by
      have h:=He2.o;rw[nh Hx.o]at h;simp only[awo,vY,awt]at h;exact⟨h.2.1.2,h.2.2⟩
     clear pV qs tM f1 g0 g1 g2 g3 e0 e1 n1 n2 FY mM tK F0 nD Gb nX He Hm Hq;generalize tN:aD l.length++(l.take k).flatMap ly=pre at*;have Jk:=Z tN;clear tN;go_wp2_with fail
     go_loopw [49] (λi wr=>∃ j:Nat,j<=2/\i=.int .i64 (j:Int)/\af w wr/\World.blk wr w.heap.size #[.func (.func 335) #[] #[],.func (.func 336) #[] #[],.func (.func 337) #[] #[]] 400/\World.blk wr wb #[.string ⟨x.1.toArray⟩,.int .i64 x.2] 351/\World.blk wr pb #[.iface 9 (.string ⟨x.1.toArray⟩),.iface 3 (.int .i64 x.2)] 20/\cX (w.heap.size+1) (w.heap.size+1) (pre++(if j=0 then []else if j=1 then aD x.1.length++x.1 else ly x)) wr) (λi _=>2-(intOf i).toNat)
     case atStart=>exact⟨0,J,rfl,yY.o,Yr.o,Yo.o,CI.o,by simpa using Kx.o⟩
     case round=>
      clear Yr Kx Yo yY CI;obtain⟨j,hj,rfl,hK,hF,hW,hP,hB⟩:=hrel;obtain⟨HK,HF,HW,HP,HB⟩:=K5 hK hF hW hP hB;have p0:wr.cell? ⟨pb,0,none⟩=some (.iface 9 (.string ⟨x.1.toArray⟩)):=aa hP 0;have p1:wr.cell? ⟨pb,1,none⟩=some (.iface 3 (.int .i64 x.2)):=aa hP 1;clear hK hF hW hP hB;rcases(by omega:j=0\/j=1\/j=2)with rfl|rfl|rfl
      ·have a0:=Ab ⟨x.1.toArray⟩;have a1:=xl ⟨x.1.toArray⟩;go_wp2_with fail;refine(th x.1 _ J).mono ?_;rintro e w8 ⟨rfl,kn⟩;obtain⟨Co,vi,sA⟩:=K3 (ab kn HF.o id) (ab kn HW.o id) (ab kn HP.o id);have BX:Hid (cX (w.heap.size+1) (w.heap.size+1) pre w8):=Z (by have h:=cr HB.o kn;simpa using h);have sr:=Z (HK.keep kn);have N0:Hid (pre.length<=1000000):=Z (Ki Jk.o Hl.o He2.o);clear kn HF HW HP HB HK p0 p1 a0 a1;go_wp2_with fail;refine(jj (w.heap.size+1) (w.heap.size+1) pre (aD x.1.length++x.1) w8 BX.o (by have:=aK (n:=x.1.length) J;have:=N0.o;simp;omega) (by have:=ak vi.o;omega)).mono ?_;rintro e w9 ⟨rfl,KM,su,tI⟩;obtain⟨Wz,Xb,pk,OT,Cg⟩:=K5 (ab tI Co.o (cO J Co.o dc7)) (ab tI vi.o (cO J vi.o dc7)) (ab tI sA.o (cO J sA.o dc7)) KM (cW sr.o su J);clear KM su tI Co vi sA BX sr;go_wp2_with fail;refine⟨⟨1,J,rfl,Cg.o,Wz.o,Xb.o,pk.o,by simpa using OT.o⟩,by decide⟩
      ·obtain⟨m,hm⟩:∃ m:Nat,x.2=m:=⟨x.2.toNat,J⟩
       have Hm:=Z hm;rw[hm]at p1;have a0:=qP m;have zn:m<=65535:=J
       clear hm;go_wp2_with fail;refine(lB m _ J).mono ?_;rintro e w8 ⟨rfl,kn⟩;obtain⟨Co,vi,sA⟩:=K3 (ab kn HF.o id) (ab kn HW.o id) (ab kn HP.o id);have BX:Hid (cX (w.heap.size+1) (w.heap.size+1) (pre++(aD x.1.length++x.1)) w8):=Z (by have h:=cr HB.o kn;simpa using h);have sr:=Z (HK.keep kn);have N0:Hid (pre.length<=1000000):=Z (Ki Jk.o Hl.o He2.o);clear kn HF HW HP HB HK p0 p1 a0;go_wp2_with fail;refine(jj (w.heap.size+1) (w.heap.size+1) _ (aD m) w8 BX.o (by have:=aK (n:=x.1.length) J;have:=aK (n:=m) J;have:=N0.o;simp;omega) (by have:=ak vi.o;omega)).mono ?_;rintro e w9 ⟨rfl,KM,su,tI⟩;obtain⟨Wz,Xb,pk⟩:=K3 (ab tI Co.o (cO J Co.o dc7)) (ab tI vi.o (cO J vi.o dc7)) (ab tI sA.o (cO J sA.o dc7));have OT:Hid (cX (w.heap.size+1) (w.heap.size+1) (pre++ly x) w9):=Z (by
        have e:pre++ly x=pre++(aD x.1.length++x.1)++aD m:=by rw[ly,Hm.o,awH];simp
        rw[e];exact KM)
       have Cg:=Z (cW sr.o su J);clear KM su tI Co vi sA BX sr;go_wp2_with fail;refine⟨⟨2,J,rfl,Cg.o,Wz.o,Xb.o,pk.o,by simpa using OT.o⟩,by decide⟩
      ·clear p0 p1;go_wp2_with fail;refine⟨⟨k+1,J,by go_num,HK.o,HF.o,by rw[Iv Hx.o];exact HW.o,?_,He2⟩,by simp[intOf];omega⟩;have h:=HB.o;rw[iZ Hx.o];simp only[awm,awL,List.flatMap_nil,List.append_nil];rw[<-awN,Jk.o];simpa using h
   ·obtain rfl:k=l.length:=J
    have jg:Hid (cX (w.heap.size+1) (w.heap.size+1) (lQ l) wr):=Z (by have h:=HB.o;rwa [awa]at h);have Hv:Hid (rQ l=.tuple #[.string ⟨(lQ l).toArray⟩,.int .i64 0]):=Z (by
     have h:=He.o;rw[awa]at h;simp[rQ,oD,h,Hl.o])
    go_wp2_with fail;refine(gF (w.heap.size+1) (w.heap.size+1) (lQ l) wr jg.o (by have:=ak HW.o;omega)).mono ?_;rintro e w6 ⟨rfl,pX⟩;have vf:=Z (cW HK.o pX J);clear pX;go_wp2;go_ret2;exact⟨by rw[Hv.o];rfl,vf.o⟩
 ·have h1:(4096:Int)<l.length:=J
  have Hv:Hid (rQ l=.tuple #[.string ⟨#[]⟩,.int .i64 120]):=Z (by simp[rQ,oD,bt]);clear bt hl;go_enter func303,ntmps303;go_wp2;go_ret2;exact⟨by rw[Hv.o];rfl,(ai.refl _ _).alloc _⟩
end
end Go.Proofs.YtkghpdcloaiflaaGreatDoor
