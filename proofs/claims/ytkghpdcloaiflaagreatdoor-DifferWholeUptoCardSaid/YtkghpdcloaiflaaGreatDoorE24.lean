import Derived.Test.YtkghpdcloaiflaaGreatDoorE23
import Derived.Laws.EntriesVeiled
set_option maxHeartbeats 4000000
set_option maxRecDepth 100000
namespace Go.Proofs.YtkghpdcloaiflaaGreatDoor
open _root_.Go.Proofs.Tryz
section
open Go.RowKit Go.Maps Go.Sort Go.Shelf
theorem YS (m:Nat):AnyZ.SortsIn prog Tryz.sortedS_ren Fence.wide m:=
 ⟨fun blk off cap ss W hH zf cK=>avd.2 (AnyM.slices_Sort_string Tryz.sortS blk off cap ss W hH zf cK),
  fun p cap W=>avd.2 (AnyM.slices_Sort_string_none Tryz.sortS p cap W)⟩
theorem YT (m:Nat):AnyZI.SortsIn prog Tryz.sortedI_ren Fence.wide m:=
 ⟨fun blk off cap ss W hH zf cK=>avd.2 (AnyM.slices_Sort_int Tryz.sortI blk off cap ss W hH zf cK),
  fun p cap W=>avd.2 (AnyM.slices_Sort_int_none Tryz.sortI p cap W)⟩
theorem Ac:∀(a b:List UInt8),bytesBefore a b=true->a<b
 |[],[],h=>by cases h
 |[],_::_,_=>List.nil_lt_cons _ _
 |_::_,[],h=>by cases h
 |x::r,y::s,h=>by
  simp only[bytesBefore,auV,auY,auT,ave]at h;rw[List.cons_lt_cons_iff];rcases h with h|⟨h1,h2⟩
  ·exact .inl h
  ·exact .inr ⟨h1,Ac r s h2⟩
theorem Eb {l:Nm}(hs:fq l){ss:List (List UInt8)}(hp:ss.Perm (l.map (·.1))):ss.mergeSort (fun x y=>decide (x<=y))=l.map (·.1):=by
 rw[mergeSort_of_perm hp];refine List.mergeSort_of_pairwise ?_;rw[List.pairwise_map];exact hs.imp fun h=>by simpa[leB]using List.le_of_lt (Ac _ _ h)
theorem Ec {l:List Int}(hs:l.Pairwise (·<·)){ss:List Int}(hp:ss.Perm l):ss.mergeSort (fun x y=>decide (x<=y))=l:=by
 rw[mergeSort_of_perm_i hp];refine List.mergeSort_of_pairwise ?_;exact hs.imp fun h=>by simp[leI];omega
theorem Mk (mb:Option Nat)(W:World):Calls prog 302 #[.map mb] W fun e w'=>e=.returned (.func (.func 334) #[] #[.pointer (some ⟨W.heap.size,0,none⟩)])/\w'=W.alloc (.cells #[.map mb] 244):=
 avd.1 (AnyZ.keys_in Tryz.keysS Fence.wide 5 trivial rfl mb W)
theorem Ml (mb:Option Nat)(W:World):Calls prog 204 #[.map mb] W fun e w'=>e=.returned (.func (.func 256) #[] #[.pointer (some ⟨W.heap.size,0,none⟩)])/\w'=W.alloc (.cells #[.map mb] 247):=
 avd.1 (AnyZI.keys_in Tryz.keysI Fence.wide 5 trivial rfl mb W)
theorem Ed (b:Nat)(l:Nm)(w:World)(h:Ic w b l)(hs:fq l)(hl:l.length<=1000000):
  Calls prog 301 #[.func (.func 334) #[] #[.pointer (some ⟨w.heap.size,0,none⟩)]] (w.alloc (.cells #[.map (some b)] 244)) fun e w'=>∃ v,e=.returned v/\iz w' w.heap.size v (l.map (·.1))/\af w w':=by
 have oG:=h.lt;have Jr:SeqGives Fence.wide 2 prog 334 #[.pointer (some ⟨w.heap.size,0,none⟩)] encStr (fun ss=>ss.Perm (strKeys (Ol l))) (Maps.size (Ol l)) (w.alloc (.cells #[.map (some b)] 244)):=
  AnyZ.keys_gives (ρ:=Tryz.keysS_ren) { Tryz.keysS with } Fence.wide _ trivial rfl (by omega) w.heap.size b l.length (Ol l) _ (by simp) (by simp) (World.ownsMap.alloc h _)
 have cS:=AnyZ.sorted_in Tryz.sortedS Fence.wide 5 trivial trivial trivial trivial rfl (by omega) (YS _) (enters_of func333 (by kernel_rfl) rfl) 334 #[.pointer (some ⟨w.heap.size,0,none⟩)] trivial (enters_of func334 (by kernel_rfl) rfl) _ _ (by rw[eV];unfold maxLen;omega) (by rw[eV];omega) _ Jr;refine(avd.1 cS).mono ?_;rintro e w' ⟨v,ss,rfl,hS,cJ,aaQ,hb⟩;have hk:strKeys (Ol l)=l.map (·.1):=by
  show(l.map fun p=>((Lit.string p.1,oN p.2):Lit×DataW Value)).map (fun p=>strOf p.1)=_;rw[au0];rfl
 rw[hk]at hS;rw[Eb hs hS]at cJ;refine⟨v,rfl,?_,dQ (ah.ofBelow hb)⟩;have aV:ss.length=(l.map (·.1)).length:=hS.length_eq;unfold iz;rw[<-aV,ug];exact eX cJ (by simp)
theorem Ef (b:Nat)(l:List (Int×Nat))(w:World)(h:Mj w b l)(hs:(l.map (·.1)).Pairwise (·<·))(hl:l.length<=1000000):
  Calls prog 203 #[.func (.func 256) #[] #[.pointer (some ⟨w.heap.size,0,none⟩)]] (w.alloc (.cells #[.map (some b)] 247)) fun e w'=>∃ v,e=.returned v/\aN w' w.heap.size v (l.map (·.1))/\af w w':=by
 have oG:=h.lt;have Jr:SeqGives Fence.wide 2 prog 256 #[.pointer (some ⟨w.heap.size,0,none⟩)] encZ (fun ss=>ss.Perm (intKeys (Om l))) (Maps.size (Om l)) (w.alloc (.cells #[.map (some b)] 247)):=
  AnyZI.keys_gives (ρ:=Tryz.keysI_ren) { Tryz.keysI with } Fence.wide _ trivial rfl (by omega) w.heap.size b l.length (Om l) _ (by simp) (by simp) (World.ownsMap.alloc h _)
 have cS:=AnyZI.sorted_in Tryz.sortedI Fence.wide 5 trivial trivial trivial trivial rfl (by omega) (YT _) (enters_of func255 (by kernel_rfl) rfl) 256 #[.pointer (some ⟨w.heap.size,0,none⟩)] trivial (enters_of func256 (by kernel_rfl) rfl) _ _ (by rw[eV];unfold maxLen;omega) (by rw[eV];omega) _ Jr;refine(avd.1 cS).mono ?_;rintro e w' ⟨v,ss,rfl,hS,cJ,aaQ,hb⟩;have hk:intKeys (Om l)=l.map (·.1):=by
  show(l.map fun p=>((Lit.int .i64 p.1,yF p.2):Lit×DataW Value)).map (fun p=>Go.intOf p.1)=_;rw[au0];rfl
 rw[hk]at hS;rw[Ec hs hS]at cJ;refine⟨v,rfl,?_,dQ (ah.ofBelow hb)⟩;have aV:ss.length=(l.map (·.1)).length:=hS.length_eq;unfold aN;rw[<-aV];exact eX cJ (by simp)
end
section
open Go.RowKit
theorem jj {n:Nat}(h:n<128):aP n=[UInt8.ofNat n]:=by rw[aP,dif_pos h]
theorem pn {n:Nat}(h:¬ n<128):aP n=UInt8.ofNat (n%128+128)::aP (n/128):=by rw[aP,dif_neg h]
theorem eC:∀(k n:Nat),n<128 ^ (k+1)->(aP n).length<=k+1:=by
 intro k
 induction k with
 |zero=>intro n h;rw[jj (by omega)];simp
 |succ k ih=>
  intro n h;by_cases h1:n<128
  ·rw[jj h1];simp
  ·rw[pn h1,auA];have:=ih (n/128) (by rw[au3]at h;omega);omega
theorem bI {n:Nat}(h:n<9223372036854775808):(aP n).length<=9:=eC 8 n (by simpa using h)
theorem J4 (n:Nat)(hn:n<9223372036854775808)(w:World):
  Calls prog 164 #[.slice none 0 0,.int .i64 (n:Int)] w fun e w'=>∃ v,e=.returned v/\af w w'/\bR w' w.heap.size v (aP n):=by
 have Hn:=hd0 hn;go_enter func164,ntmps164;go_wp2_with fail
 go_loopw [0,1] (fun v i wr=>∃(pre:List UInt8) (m:Nat),m<=n/\i=.int .i64 (m:Int)/\af w wr/\w.heap.size<=wr.heap.size/\Hid (aP n=pre++aP m)/\bR wr w.heap.size v pre) (fun _ i _=>(intOf i).toNat)
 case atStart=>exact⟨[],n,auE _,rfl,ah.refl _ _,auE _,hd0 rfl,rfl,.inl ⟨rfl,rfl⟩⟩
 case round=>
  obtain⟨pre,m,hm,rfl,hK,cK,He,hV⟩:=hrel;have HK:=hd0 hK;have HV:=hd0 hV;have Hl:Hid (pre.length<=9):=hd0 (by have:=bI Hn.out;rw[He.out,auS]at this;omega);clear hK hV;by_cases h:m<128
  ·have h1:¬(128:Int)<=m:=by omega
   have e8:((UInt8.ofNat m).toNat:Int)=m:=by simp;omega
   obtain⟨v2,w2,hr,ho,de⟩:=ub (P:=prog) underlying131 j7 w.heap.size u0 _ pre wr w HV.out (UInt8.ofNat m) (by have:=Hl.out;omega) cK HK.out (auE _);rw[e8]at hr;have Hr:=hd0 hr;have Ho:=hd0 ho;have WA:=hd0 de;have Ee:=hd0 (jj h);clear hr ho de h e8;go_wp2_with ((at_builtin;refine aB Hr.out rfl rfl rfl rfl ?_));go_ret;refine⟨_,rfl,WA.out,?_⟩;have e:aP n=pre++[UInt8.ofNat m]:=by rw[He.out,Ee.out]
   have e2:(pre++[UInt8.ofNat m]).length=pre.length+1:=by simp
   rw[e];unfold bR;rw[e2];exact Ho.out
  ·have h1:(128:Int)<=m:=by omega
   have e8:((UInt8.ofNat (m%128+128)).toNat:Int)=(m:Int)%128+128:=by simp;omega
   obtain⟨v2,w2,hr,ho,de⟩:=ub (P:=prog) underlying131 j7 w.heap.size u0 _ pre wr w HV.out (UInt8.ofNat (m%128+128)) (by have:=Hl.out;omega) cK HK.out (auE _);rw[e8]at hr;have Hr:=hd0 hr;have Ho:=hd0 ho;have WA:=hd0 de;have lJ:=de.size;have Ee:=hd0 (pn h);clear hr ho de h e8;go_wp2_with ((at_builtin;refine aB Hr.out rfl rfl rfl rfl ?_));refine⟨⟨pre++[UInt8.ofNat (m%128+128)],m/128,by omega,by rw[show((m/128:Nat):Int)=(m:Int)/128 by omega],WA.out,by omega,hd0 (by rw[He.out,Ee.out];simp),?_⟩,by simp[intOf];omega⟩;have e2:(pre++[UInt8.ofNat (m%128+128)]).length=pre.length+1:=by simp
   unfold bR;rw[e2];exact Ho.out
theorem Qq (n:Int)(w:World)(hn:-9223372036854775808<=n/\n<=9223372036854775807):
  Calls prog 84 #[.int .i64 n] w fun e w'=>e=.returned (if 0<=n/\n<=4611686018427387903 then .tuple #[.string ⟨(aP n.toNat).toArray⟩,.int .i64 0]else .tuple #[.string ⟨#[]⟩,.int .i64 31])/\af w w':=by
 by_cases h:0<=n/\n<=4611686018427387903
 ·rw[auI h];obtain⟨h1,h2⟩:=h;have h3:¬ n<0:=by omega
  have h4:¬ 4611686018427387903<n:=by omega
  obtain⟨m,rfl⟩:∃ m:Nat,n=m:=⟨n.toNat,by omega⟩
  have hm:m<9223372036854775808:=by omega
  clear h2 hn;go_enter func84,ntmps84;go_wp2_with fail;refine(J4 m hm _).mono ?_;rintro e w1 ⟨v,rfl,hk,ho⟩;have hr:=lN ho;have Hk:=hd0 hk;clear ho hk;go_wp2;go_ret2;exact⟨rfl,Hk.out⟩
 ·rw[auK h];have h5:n<0\/4611686018427387903<n:=by omega
  clear h;by_cases h1:n<0
  ·go_enter func84,ntmps84;go_wp2;go_ret2;exact⟨rfl,ah.refl _ _⟩
  ·have h2:4611686018427387903<n:=by omega
   clear h5;go_enter func84,ntmps84;go_wp2;go_ret2;exact⟨rfl,ah.refl _ _⟩
theorem lU (n:Nat)(w:World)(hn:n<=4611686018427387903):
  Calls prog 84 #[.int .i64 (n:Int)] w fun e w'=>e=.returned (.tuple #[.string ⟨(aP n).toArray⟩,.int .i64 0])/\af w w':=by
 refine(Qq n w (by omega)).mono fun e w' ⟨h1,h2⟩=>⟨?_,h2⟩
 rw[auI (by omega)]at h1;rw[h1,avc]
theorem tE (s:List UInt8)(w:World)(hs:s.length<=65536):
  Calls prog 85 #[.string ⟨s.toArray⟩] w fun e w'=>e=.returned (.tuple #[.string ⟨(aP s.length++s).toArray⟩,.int .i64 0])/\af w w':=by
 have h1:¬(65536:Int)<s.length:=by omega
 have Hm:Hid (s.length<9223372036854775808):=hd0 (by omega);have h2:(s.length:Int)<=9223372036854775807:=by omega
 clear hs;go_enter func85,ntmps85;go_wp2_with fail;refine(J4 s.length Hm.out _).mono ?_;rintro e w1 ⟨v,rfl,hk,ho⟩;have hr:=lN ho;have Hk:=hd0 hk;clear ho hk;have hb:¬ 9223372036854775807<(aP s.length).length+s.length:=by have:=bI Hm.out;omega
 go_wp2;go_ret2;exact⟨rfl,Hk.out⟩
end
section
open Go.RowKit
def xw (was x:List UInt8×Int)(first:Bool):Bool:=aG x.1&&(first||bytesBefore was.1 x.1)&&decide (1<=x.2)&&decide (x.2<=65535)
theorem UO (was x:List UInt8×Int)(first:Bool)(w:World)(hx:x.1.length<=140737488355328):
  Calls prog 335 #[YQ was,YQ x,.bool first] w fun e w'=>e=.returned (.bool (xw was x first))/\af w w':=by
 obtain⟨s0,k0⟩:=was;obtain⟨s,k⟩:=x;have hg:=xl s s0;go_enter func335,ntmps335;go_wp2_with fail;refine(so s _ hx).mono ?_;rintro e w3 ⟨rfl,hk⟩;have iM:World.blk w3 w.heap.size #[.string ⟨s0.toArray⟩,.int .i64 k0] 351:=ab hk (aH (aw _ _ _) _) id;have hb1:World.blk w3 (w.heap.size+1) #[.string ⟨s.toArray⟩,.int .i64 k] 351:=ab hk (ba (by simp) _ _) id;have c0:w3.cell? ⟨w.heap.size,0,none⟩=some (.string ⟨s0.toArray⟩):=aa iM 0;have c1:w3.cell? ⟨w.heap.size+1,0,none⟩=some (.string ⟨s.toArray⟩):=aa hb1 0;have c2:w3.cell? ⟨w.heap.size+1,1,none⟩=some (.int .i64 k):=aa hb1 1;have HK:=hd0 (dQ (dQ hk));clear hk iM hb1 hx
 cases hn:aG s with
 |false=>
  have Hv:Hid (xw (s0,k0) (s,k) first=false):=hd0 (by simp[xw,hn]);clear hn;go_wp2;go_ret;exact⟨by rw[Hv.out];first|rfl|(simp;omega)|(simp[h1,h2])|(simp;intros;omega),HK.out⟩
 |true=>
  cases first with
  |true=>
   have Hv:Hid (xw (s0,k0) (s,k) true=(decide (1<=k)&&decide (k<=65535))):=hd0 (by simp[xw,hn]);clear hn;by_cases h1:1<=k
   ·by_cases h2:k<=65535
    ·go_wp2;go_ret;exact⟨by rw[Hv.out];first|rfl|(simp;omega)|(simp[h1,h2])|(simp;intros;omega),HK.out⟩
    ·go_wp2;go_ret;exact⟨by rw[Hv.out];first|rfl|(simp;omega)|(simp[h1,h2])|(simp;intros;omega),HK.out⟩
   ·go_wp2;go_ret;exact⟨by rw[Hv.out];first|rfl|(simp;omega)|(simp[h1,h2])|(simp;intros;omega),HK.out⟩
  |false=>
   have Hv:Hid (xw (s0,k0) (s,k) false=(bytesBefore s0 s&&decide (1<=k)&&decide (k<=65535))):=hd0 (by simp[xw,hn]);clear hn
   cases TO:bytesBefore s0 s with
   |false=>
    rw[TO]at hg Hv;clear TO;go_wp2;go_ret;exact⟨by rw[Hv.out];first|rfl|(simp;omega)|(simp[h1,h2])|(simp;intros;omega),HK.out⟩
   |true=>
    rw[TO]at hg Hv;clear TO;by_cases h1:1<=k
    ·by_cases h2:k<=65535
     ·go_wp2;go_ret;exact⟨by rw[Hv.out];first|rfl|(simp;omega)|(simp[h1,h2])|(simp;intros;omega),HK.out⟩
     ·go_wp2;go_ret;exact⟨by rw[Hv.out];first|rfl|(simp;omega)|(simp[h1,h2])|(simp;intros;omega),HK.out⟩
    ·go_wp2;go_ret;exact⟨by rw[Hv.out];first|rfl|(simp;omega)|(simp[h1,h2])|(simp;intros;omega),HK.out⟩
abbrev Qr:Value:=.agg #[.func (.func 335) #[] #[],.func (.func 336) #[] #[],.func (.func 337) #[] #[]]
theorem Id (x:List UInt8×Int)(w:World):
  Calls prog 336 #[YQ x] w fun e w'=>∃ b,e=.returned (.slice (some ⟨b,0,none⟩) 2 2)/\w.heap.size<=b/\af w w'/\World.blk w' b #[.iface 9 (.string ⟨x.1.toArray⟩),.iface 3 (.int .i64 x.2)] 20:=by
 obtain⟨s,k⟩:=x;go_enter func336,ntmps336;go_wp2;go_ret;exact⟨_,rfl,by omega,((ah.refl _ _).alloc _).alloc _,ba (by simp) _ _⟩
theorem Qs (w:World):
  Calls prog 304 #[] w fun e w'=>e=.returned Qr/\af w w':=by
 go_enter func304,ntmps304;go_wp2_with fail;exact au7 (v:=Qr) (by simp[results,Tryz.results304,go_sem]) rfl ⟨rfl,(ah.refl _ _).alloc _⟩
end
section
open Go.RowKit
def jU (was:Option (List UInt8))(l:Nm):Option (List UInt8):=match l.getLast? with|some p=>some p.1|none=>was
theorem nJ (a b:Nm):∀ was,gd was (a++b)=(gd was a&&gd (jU was a) b):=by
 induction a with
 |nil=>intro was;simp[gd,jU]
 |cons p r ih=>
  intro was;have e:jU (some p.1) r=jU was (p::r):=by
   cases r with
   |nil=>simp[jU]
   |cons q r=>
    unfold jU;rw[List.getLast?_cons_cons]
    cases h:(q::r).getLast? with
    |none=>simp at h
    |some y=>rfl
  rw[avf,gd,ih,gd,e,Bool.and_assoc]
theorem kG {α:Type}{l:List α}{k:Nat}{x:α}(h:l[k]?=some x):l.take (k+1)=l.take k++[x]:=by
 rw[auD,h];rfl
theorem nK {l:Nm}{k:Nat}{x:List UInt8×Int}(h:l[k]?=some x):gd none (l.take (k+1))=(gd none (l.take k)&&wn (jU none (l.take k)) x):=by
 rw[kG h,nJ];simp[gd]
theorem Qt {l:Nm}{k:Nat}{x:List UInt8×Int}(h:l[k]?=some x)(h2:wn (jU none (l.take k)) x=false):oX l=false:=by
 have e:gd none l=(gd none (l.take (k+1))&&gd (jU none (l.take (k+1))) (l.drop (k+1))):=by
  rw[<-nJ,List.take_append_drop]
 unfold oX;rw[e,nK h,h2];simp
def gN (l:Nm)(k:Nat):List UInt8×Int:=(l.take k).getLastD ([],0)
theorem UP {l:Nm}{k:Nat}(x:List UInt8×Int)(hk:k<=l.length):xw (gN l k) x (decide (k=0))=wn (jU none (l.take k)) x:=by
 cases k with
 |zero=>simp[xw,wn,jU]
 |succ k=>
  obtain⟨y,hy⟩:∃ y,l[k]?=some y:=⟨_,auB (by omega)⟩
  simp[xw,wn,jU,gN,kG hy]
theorem Ie {l:Nm}{k:Nat}{x:List UInt8×Int}(h:l[k]?=some x):gN l (k+1)=x:=by
 unfold gN;rw[kG h];simp
theorem Ad (s:ByteArray)(W:World):(Instr.typeAssert (.iface 9 (.string s)) 20 3 true).run prog W=.ok (.tuple #[.int .i64 0,.bool false]) W:=by kernel_rfl
theorem xx (s:ByteArray)(W:World):(Instr.typeAssert (.iface 9 (.string s)) 20 9 true).run prog W=.ok (.tuple #[.string s,.bool true]) W:=by kernel_rfl
theorem qW (n:Int)(W:World):(Instr.typeAssert (.iface 3 (.int .i64 n)) 20 3 true).run prog W=.ok (.tuple #[.int .i64 n,.bool true]) W:=by kernel_rfl
def sq (l:Nm):Value:=if oX l=true then .tuple #[.string ⟨(mg l).toArray⟩,.int .i64 0]else .tuple #[.string ⟨#[]⟩,.int .i64 120]
theorem Qu {l:Nm}:∀ was,gd was l=true->(l.flatMap lQ).length<=l.length*34:=by
 induction l with
 |nil=>intro _ _;simp
 |cons p r ih=>
  intro was h;rw[gd,auT]at h;have h2:=ih _ h.2;have h1:=h.1;simp only[wn,aG,auT,auY]at h1;have e1:=bI (n:=p.1.length) (by have:=h1.1.1.1.1.1.2;omega);have e2:=bI (n:=p.2.toNat) (by have:=h1.2;omega);have e3:p.1.length<=16:=h1.1.1.1.1.1.2;rw[avg,auS,auA];have:(lQ p).length<=34:=by unfold lQ;simp;omega
  omega
theorem J5 {l:Nm}{k:Nat}{pre:List UInt8}(h:aP l.length++(l.take k).flatMap lQ=pre)(hl:l.length<=4096)(he:gd none (l.take (k+1))=true):pre.length<=1000000:=by
 have h2:gd none (l.take k)=true:=by
  rw[<-List.take_append_drop k (l.take (k+1)),nJ,auT]at he;have:=he.1
  rwa [List.take_take,Nat.min_eq_left (by omega)]at this
 have h3:=Qu _ h2;have h4:=bI (n:=l.length) (by omega);have h5:(l.take k).length<=4096:=by rw[auH];omega
 rw[<-h,auS];omega
theorem Qv (l:Nm)(v:Value)(w:World)(cJ:jS H8 2 w v l)(hl:l.length<=1000000000)(hs:∀ p∈l,p.1.length<=1000000000/\-9223372036854775808<=p.2/\p.2<=9223372036854775807):
  Calls prog 303 #[Qr,v] w fun e w'=>e=.returned (sq l)/\af w w':=by
 obtain⟨a,cap,rfl,hx⟩:=cJ;have HX:=hd0 hx;have HS:=hd0 hs;clear hx hs;by_cases aV:l.length<=4096
 ·have h1:¬(4096:Int)<l.length:=by omega
  have Hl:=hd0 aV;clear aV hl;go_enter func303,ntmps303;go_wp2_with fail;refine(lU l.length _ (by have:=Hl.out;omega)).mono ?_;rintro e w2 ⟨rfl,de⟩;have Sw:Hid (World.blk w2 w.heap.size #[.func (.func 335) #[] #[],.func (.func 336) #[] #[],.func (.func 337) #[] #[]] 400):=hd0 (ab de (aH (aw _ _ _) _) id);have XV:Hid (db (w.heap.size+1) (w.heap.size+1) [] w2):=hd0 (by
   have h:=nA (w.alloc (.cells #[.func (.func 335) #[] #[],.func (.func 336) #[] #[],.func (.func 337) #[] #[]] 400));rw[show(w.alloc (.cells #[.func (.func 335) #[] #[],.func (.func 336) #[] #[],.func (.func 337) #[] #[]] 400)).heap.size=w.heap.size+1 by simp]at h;exact cA h de)
  have bu:=hd0 (dQ (dQ de));have lJ:=de.size;simp at lJ;clear de;go_wp2_with fail;refine(jt (w.heap.size+1) (w.heap.size+1) [] (aP l.length) w2 XV.out (by have:=bI (n:=l.length) (by have:=Hl.out;omega);simp;omega) (by omega)).mono ?_;rintro e w3 ⟨rfl,uV,yk,lz⟩;have F8:=hd0 (ab lz Sw.out (cO (by omega) Sw.out (by decide)));have ox:=hd0 uV;have dZ:=hd0 (cZ bu.out yk (by omega));have BY:=yk.size;rw[au9]at ox;clear uV yk lz Sw XV bu;go_wp2_with fail;obtain⟨wb,Cm⟩:∃ wb,wb=w3.heap.size:=⟨_,rfl⟩
  have Xa:Hid (World.blk (w3.alloc (.cells #[.string ⟨#[]⟩,.int .i64 0] 351)) wb #[.string ⟨#[]⟩,.int .i64 0] 351):=hd0 (ba Cm _ _);have Xp:=hd0 (aH F8.out (.cells #[.string ⟨#[]⟩,.int .i64 0] 351));have nU:=hd0 (cA ox.out ((ah.refl (fun _=>False) w3).alloc (.cells #[.string ⟨#[]⟩,.int .i64 0] 351)));have dO:=hd0 (dZ.out.alloc (.cells #[.string ⟨#[]⟩,.int .i64 0] 351));have ae0:w.heap.size+2<=wb:=by omega
  clear F8 ox dZ;rw[<-Cm];generalize w3.alloc (.cells #[.string ⟨#[]⟩,.int .i64 0] 351)=w4 at*;clear Cm BY lJ
  go_loopw [30] (fun i wr=>∃ k:Nat,k<=l.length/\i=.int .i64 (k:Int)/\af w wr/\World.blk wr w.heap.size #[.func (.func 335) #[] #[],.func (.func 336) #[] #[],.func (.func 337) #[] #[]] 400/\World.blk wr wb #[.string ⟨(gN l k).1.toArray⟩,.int .i64 (gN l k).2] 351/\db (w.heap.size+1) (w.heap.size+1) (aP l.length++(l.take k).flatMap lQ) wr/\Hid (gd none (l.take k)=true)) (fun i _=>l.length-(intOf i).toNat)
  case atStart=>exact⟨0,by omega,rfl,dO.out,Xp.out,Xa.out,by simpa using nU.out,hd0 rfl⟩
  case round=>
   clear Xp Xa nU dO;obtain⟨k,hk,rfl,hK,hF,hW,hB,He⟩:=hrel;have HK:=hd0 hK;have HF:=hd0 hF;have HW:=hd0 hW;have HB:=hd0 hB;clear hK hF hW hB;by_cases aL:k<l.length
   ·obtain⟨x,hx⟩:∃ x,l[k]?=some x:=⟨_,auB aL⟩
    have Hx:=hd0 hx;clear hx;obtain⟨b,o,rfl,hc⟩:=HX.out k x Hx.out;have c0:wr.cell? ⟨b,o+k*2,none⟩=some (.string ⟨x.1.toArray⟩):=by have h:=hc 0 _ rfl;rw[HK.out.cell (p:=⟨b,o+k*2,none⟩) (ak h) id];exact h
    have c1:wr.cell? ⟨b,o+k*2+1,none⟩=some (.int .i64 x.2):=by have h:=hc 1 _ rfl;rw[HK.out.cell (p:=⟨b,o+k*2+1,none⟩) (ak h) id];exact h
    have f0:wr.cell? ⟨w.heap.size,0,none⟩=some (.func (.func 335) #[] #[]):=aa HF.out 0;have f1:wr.cell? ⟨w.heap.size,1,none⟩=some (.func (.func 336) #[] #[]):=aa HF.out 1;have g0:wr.cell? ⟨wb,0,none⟩=some (.string ⟨(gN l k).1.toArray⟩):=aa HW.out 0;have g1:wr.cell? ⟨wb,1,none⟩=some (.int .i64 (gN l k).2):=aa HW.out 1;obtain⟨fb,hq⟩:∃ fb,((k:Int)==0)=fb:=⟨_,rfl⟩
    have z0:w.heap.size<wr.heap.size:=ai HF.out;have z1:wb<wr.heap.size:=ai HW.out;clear hc;go_wp2_with fail;refine(UO (gN l k) x fb _ (by have:=(HS.out x (auC Hx.out)).1;omega)).mono ?_;rintro e w5 ⟨rfl,mt⟩;have FL:=hd0 (ab mt (aH HF.out _) id);have ng:=hd0 (ab mt (aH HW.out _) id);have uP:=hd0 (ab mt (aw wr _ _) id);have F0:=hd0 (cA HB.out (dQ mt));have lZ:=hd0 (HK.out.keep (dQ mt));have FZ:=mt.size;simp at FZ;have Hm:=hd0 (UP (l:=l) (k:=k) x (by omega));have Hq:Hid (fb=decide (k=0)):=hd0 (by rw[<-hq,avh];simp);clear mt c0 c1 f0 f1 g0 g1 z0 HF HW HB HK hq
    cases hmy:xw (gN l k) x fb with
    |false=>
     have Hv:Hid (sq l=.tuple #[.string ⟨#[]⟩,.int .i64 120]):=hd0 (by
      rw[Hq.out,Hm.out]at hmy;simp[sq,Qt Hx.out hmy])
     clear hmy;go_wp2;go_ret2;exact⟨by rw[Hv.out];rfl,lZ.out⟩
    |true=>
     have Wb:Hid (gd none (l.take (k+1))=true):=hd0 (by
      rw[Hq.out,Hm.out]at hmy;rw[nK Hx.out,He.out,hmy];rfl)
     clear hmy;generalize wr.heap.size=xb at*;have f1:w5.cell? ⟨w.heap.size,1,none⟩=some (.func (.func 336) #[] #[]):=aa FL.out 1;have g0:w5.frozen? ⟨wb,0,none⟩=false:=ae ng.out _ rfl;have g1:w5.frozen? ⟨wb,1,none⟩=false:=ae ng.out _ rfl;have g2:w5.cell? ⟨wb,0,none⟩=some (.string ⟨(gN l k).1.toArray⟩):=aa ng.out 0;have g3:w5.cell? ⟨wb,1,none⟩=some (.int .i64 (gN l k).2):=aa ng.out 1;have e0:w5.cell? ⟨xb,0,none⟩=some (.string ⟨x.1.toArray⟩):=aa uP.out 0;have e1:w5.cell? ⟨xb,1,none⟩=some (.int .i64 x.2):=aa uP.out 1;have n1:¬ w.heap.size=wb:=by omega
     have n2:¬ xb=wb:=by omega
     go_wp2_with fail;refine(Id x _).mono ?_;rintro e w7 ⟨pb,rfl,mW,rC,pG⟩;have rF:ah (·=wb) w5 ((w5.setCell ⟨wb,0,none⟩ (.string ⟨x.1.toArray⟩)).setCell ⟨wb,1,none⟩ (.int .i64 x.2)):=((ah.refl (fun y=>y=wb) w5).setCell (p:=⟨wb,0,none⟩) (.inl rfl) _).setCell (p:=⟨wb,1,none⟩) (.inl rfl) _;have Yr:=hd0 (ab rC (ab rF FL.out n1) id);have KK:=hd0 (cA (uX9 F0.out rF (by omega) (fun q c fr hq e=>by
      subst e;have:=ng.out;unfold World.blk at this;rw[this]at hq
      cases hq)) rC)
     have XX:Hid (World.blk w7 wb #[.string ⟨x.1.toArray⟩,.int .i64 x.2] 351):=hd0 (ab rC (ag (ag ng.out 0 _) 1 _) id);have yR:=hd0 ((lZ.out.new rF (by omega)).keep rC);have Cu:=hd0 pG;have hpw:wb<pb:=by
      have h:=ai ng.out;have e:((w5.setCell ⟨wb,0,none⟩ (.string ⟨x.1.toArray⟩)).setCell ⟨wb,1,none⟩ (.int .i64 x.2)).heap.size=w5.heap.size:=by simp[World.setCell]
      omega
     have RT:x.1.length<=16:=by
      have h:=Wb.out;rw[nK Hx.out]at h;simp only[auT,wn,aG,auY]at h;exact h.2.1.1.1.1.1.2
     have sT:1<=x.2/\x.2<=65535:=by
      have h:=Wb.out;rw[nK Hx.out]at h;simp only[auT,wn,auY]at h;exact⟨h.2.1.2,h.2.2⟩
     clear rC pG rF f1 g0 g1 g2 g3 e0 e1 n1 n2 FL ng uP F0 lZ FZ mW He Hm Hq;generalize uT:aP l.length++(l.take k).flatMap lQ=pre at*;have Jf:=hd0 uT;clear uT;go_wp2_with fail
     go_loopw [49] (fun i wr=>∃ j:Nat,j<=2/\i=.int .i64 (j:Int)/\af w wr/\World.blk wr w.heap.size #[.func (.func 335) #[] #[],.func (.func 336) #[] #[],.func (.func 337) #[] #[]] 400/\World.blk wr wb #[.string ⟨x.1.toArray⟩,.int .i64 x.2] 351/\World.blk wr pb #[.iface 9 (.string ⟨x.1.toArray⟩),.iface 3 (.int .i64 x.2)] 20/\db (w.heap.size+1) (w.heap.size+1) (pre++(if j=0 then []else if j=1 then aP x.1.length++x.1 else lQ x)) wr) (fun i _=>2-(intOf i).toNat)
     case atStart=>exact⟨0,by omega,rfl,yR.out,Yr.out,XX.out,Cu.out,by simpa using KK.out⟩
     case round=>
      clear Yr KK XX yR Cu;obtain⟨j,hj,rfl,hK,hF,hW,hP,hB⟩:=hrel;have HK:=hd0 hK;have HF:=hd0 hF;have HW:=hd0 hW;have HP:=hd0 hP;have HB:=hd0 hB;have p0:wr.cell? ⟨pb,0,none⟩=some (.iface 9 (.string ⟨x.1.toArray⟩)):=aa hP 0;have p1:wr.cell? ⟨pb,1,none⟩=some (.iface 3 (.int .i64 x.2)):=aa hP 1;clear hK hF hW hP hB;rcases(by omega:j=0\/j=1\/j=2)with rfl|rfl|rfl
      ·have a0:=Ad ⟨x.1.toArray⟩;have a1:=xx ⟨x.1.toArray⟩;go_wp2_with fail;refine(tE x.1 _ (by omega)).mono ?_;rintro e w8 ⟨rfl,lI⟩;have BO:=hd0 (ab lI HF.out id);have vy:=hd0 (ab lI HW.out id);have sO:=hd0 (ab lI HP.out id);have BH:Hid (db (w.heap.size+1) (w.heap.size+1) pre w8):=hd0 (by have h:=cA HB.out lI;simpa using h);have ql:=hd0 (HK.out.keep lI);have Ob:Hid (pre.length<=1000000):=hd0 (J5 Jf.out Hl.out Wb.out);clear lI HF HW HP HB HK p0 p1 a0 a1;go_wp2_with fail;refine(jt (w.heap.size+1) (w.heap.size+1) pre (aP x.1.length++x.1) w8 BH.out (by have:=bI (n:=x.1.length) (by omega);have:=Ob.out;simp;omega) (by have:=ai vy.out;omega)).mono ?_;rintro e w9 ⟨rfl,Kj,sN,tW⟩;have Wo:=hd0 (ab tW BO.out (cO (by omega) BO.out (by decide)));have VJ:=hd0 (ab tW vy.out (cO (by omega) vy.out (by decide)));have pF:=hd0 (ab tW sO.out (cO (by omega) sO.out (by decide)));have OC:=hd0 Kj;have BR:=hd0 (cZ ql.out sN (by omega));clear Kj sN tW BO vy sO BH ql;go_wp2_with fail;refine⟨⟨1,by omega,rfl,BR.out,Wo.out,VJ.out,pF.out,by simpa using OC.out⟩,by decide⟩
      ·obtain⟨m,hm⟩:∃ m:Nat,x.2=m:=⟨x.2.toNat,by omega⟩
       have Hm:=hd0 hm;rw[hm]at p1;have a0:=qW m;have ze:m<=65535:=by omega
       clear hm;go_wp2_with fail;refine(lU m _ (by omega)).mono ?_;rintro e w8 ⟨rfl,lI⟩;have BO:=hd0 (ab lI HF.out id);have vy:=hd0 (ab lI HW.out id);have sO:=hd0 (ab lI HP.out id);have BH:Hid (db (w.heap.size+1) (w.heap.size+1) (pre++(aP x.1.length++x.1)) w8):=hd0 (by have h:=cA HB.out lI;simpa using h);have ql:=hd0 (HK.out.keep lI);have Ob:Hid (pre.length<=1000000):=hd0 (J5 Jf.out Hl.out Wb.out);clear lI HF HW HP HB HK p0 p1 a0;go_wp2_with fail;refine(jt (w.heap.size+1) (w.heap.size+1) _ (aP m) w8 BH.out (by have:=bI (n:=x.1.length) (by omega);have:=bI (n:=m) (by omega);have:=Ob.out;simp;omega) (by have:=ai vy.out;omega)).mono ?_;rintro e w9 ⟨rfl,Kj,sN,tW⟩;have Wo:=hd0 (ab tW BO.out (cO (by omega) BO.out (by decide)));have VJ:=hd0 (ab tW vy.out (cO (by omega) vy.out (by decide)));have pF:=hd0 (ab tW sO.out (cO (by omega) sO.out (by decide)));have OC:Hid (db (w.heap.size+1) (w.heap.size+1) (pre++lQ x) w9):=hd0 (by
        have e:pre++lQ x=pre++(aP x.1.length++x.1)++aP m:=by rw[lQ,Hm.out,avc];simp
        rw[e];exact Kj)
       have BR:=hd0 (cZ ql.out sN (by omega));clear Kj sN tW BO vy sO BH ql;go_wp2_with fail;refine⟨⟨2,by omega,rfl,BR.out,Wo.out,VJ.out,pF.out,by simpa using OC.out⟩,by decide⟩
      ·clear p0 p1;go_wp2_with fail;refine⟨⟨k+1,by omega,by go_num,HK.out,HF.out,by rw[Ie Hx.out];exact HW.out,?_,Wb⟩,by simp[intOf];omega⟩;have h:=HB.out;rw[kG Hx.out];simp only[auR,avg,List.flatMap_nil,List.append_nil];rw[<-avi,Jf.out];simpa using h
   ·obtain rfl:k=l.length:=by omega
    have jp:Hid (db (w.heap.size+1) (w.heap.size+1) (mg l) wr):=hd0 (by have h:=HB.out;rwa [auF]at h);have Hv:Hid (sq l=.tuple #[.string ⟨(mg l).toArray⟩,.int .i64 0]):=hd0 (by
     have h:=He.out;rw[auF]at h;simp[sq,oX,h,Hl.out])
    go_wp2_with fail;refine(gO (w.heap.size+1) (w.heap.size+1) (mg l) wr jp.out (by have:=ai HW.out;omega)).mono ?_;rintro e w6 ⟨rfl,rD⟩;have rz:=hd0 (cZ HK.out rD (by omega));clear rD;go_wp2;go_ret2;exact⟨by rw[Hv.out];rfl,rz.out⟩
 ·have h1:(4096:Int)<l.length:=by omega
  have Hv:Hid (sq l=.tuple #[.string ⟨#[]⟩,.int .i64 120]):=hd0 (by simp[sq,oX,aV]);clear aV hl;go_enter func303,ntmps303;go_wp2;go_ret2;exact⟨by rw[Hv.out];rfl,(ah.refl _ _).alloc _⟩
end
end Go.Proofs.YtkghpdcloaiflaaGreatDoor
