import Derived.Test.YtkghpdcloaiflaaGreatDoorB23
import Derived.Laws.EntriesVeiled
set_option maxHeartbeats 4000000
set_option maxRecDepth 100000
namespace Go.Proofs.YtkghpdcloaiflaaGreatDoor
open _root_.Go.Proofs.Tryz
section
open Go.RowKit Go.Maps Go.Sort Go.Shelf
theorem Y4 (m:Nat):AnyZ.SortsIn prog Tryz.sortedS_ren Fence.wide m:=
 ⟨fun blk off cap ss W hH yY cV=>avE.2 (AnyM.slices_Sort_string Tryz.sortS blk off cap ss W hH yY cV),
  fun p cap W=>avE.2 (AnyM.slices_Sort_string_none Tryz.sortS p cap W)⟩
theorem Y5 (m:Nat):AnyZI.SortsIn prog Tryz.sortedI_ren Fence.wide m:=
 ⟨fun blk off cap ss W hH yY cV=>avE.2 (AnyM.slices_Sort_int Tryz.sortI blk off cap ss W hH yY cV),
  fun p cap W=>avE.2 (AnyM.slices_Sort_int_none Tryz.sortI p cap W)⟩
theorem Ac:∀(a b:List UInt8),bytesBefore a b=true->a<b
 |[],[],h=>by cases h
 |[],_::_,_=>List.nil_lt_cons _ _
 |_::_,[],h=>by cases h
 |x::r,y::s,h=>by
  simp only[bytesBefore,avl,avo,avj,avF]at h;rw[List.cons_lt_cons_iff];rcases h with h|⟨h1,h2⟩
  ·exact .inl h
  ·exact .inr ⟨h1,Ac r s h2⟩
theorem D3 {l:Nm}(hs:eX l){ss:List (List UInt8)}(hp:ss.Perm (l.map (·.1))):ss.mergeSort (fun x y=>decide (x<=y))=l.map (·.1):=by
 rw[mergeSort_of_perm hp];refine List.mergeSort_of_pairwise ?_;rw[List.pairwise_map];exact hs.imp fun h=>by simpa[leB]using List.le_of_lt (Ac _ _ h)
theorem D4 {l:List Int}(hs:l.Pairwise (·<·)){ss:List Int}(hp:ss.Perm l):ss.mergeSort (fun x y=>decide (x<=y))=l:=by
 rw[mergeSort_of_perm_i hp];refine List.mergeSort_of_pairwise ?_;exact hs.imp fun h=>by simp[leI];omega
theorem Me (mb:Option Nat)(W:World):Calls prog 302 #[.map mb] W fun e w'=>e=.returned (.func (.func 334) #[] #[.pointer (some ⟨W.heap.size,0,none⟩)])/\w'=W.alloc (.cells #[.map mb] 244):=
 avE.1 (AnyZ.keys_in Tryz.keysS Fence.wide 5 trivial rfl mb W)
theorem Mf (mb:Option Nat)(W:World):Calls prog 204 #[.map mb] W fun e w'=>e=.returned (.func (.func 256) #[] #[.pointer (some ⟨W.heap.size,0,none⟩)])/\w'=W.alloc (.cells #[.map mb] 247):=
 avE.1 (AnyZI.keys_in Tryz.keysI Fence.wide 5 trivial rfl mb W)
theorem D8 (b:Nat)(l:Nm)(w:World)(h:Id w b l)(hs:eX l)(hl:l.length<=1000000):
  Calls prog 301 #[.func (.func 334) #[] #[.pointer (some ⟨w.heap.size,0,none⟩)]] (w.alloc (.cells #[.map (some b)] 244)) fun e w'=>∃ v,e=.returned v/\iu w' w.heap.size v (l.map (·.1))/\af w w':=by
 have ro:=h.lt;have Jz:SeqGives Fence.wide 2 prog 334 #[.pointer (some ⟨w.heap.size,0,none⟩)] encStr (fun ss=>ss.Perm (strKeys (Oh l))) (Maps.size (Oh l)) (w.alloc (.cells #[.map (some b)] 244)):=
  AnyZ.keys_gives (ρ:=Tryz.keysS_ren) { Tryz.keysS with } Fence.wide _ trivial rfl (by omega) w.heap.size b l.length (Oh l) _ (by simp) (by simp) (World.ownsMap.alloc h _)
 have cS:=AnyZ.sorted_in Tryz.sortedS Fence.wide 5 trivial trivial trivial trivial rfl (by omega) (Y4 _) (enters_of func333 (by kernel_rfl) rfl) 334 #[.pointer (some ⟨w.heap.size,0,none⟩)] trivial (enters_of func334 (by kernel_rfl) rfl) _ _ (by rw[eP];unfold maxLen;omega) (by rw[eP];omega) _ Jz;refine(avE.1 cS).mono ?_;rintro e w' ⟨v,ss,rfl,hS,cI,aa9,hb⟩;have hk:strKeys (Oh l)=l.map (·.1):=by
  show(l.map fun p=>((Lit.string p.1,oG p.2):Lit×DataW Value)).map (fun p=>strOf p.1)=_;rw[avr];rfl
 rw[hk]at hS;rw[D3 hs hS]at cI;refine⟨v,rfl,?_,dO (ah.ofBelow hb)⟩;have bA:ss.length=(l.map (·.1)).length:=hS.length_eq;unfold iu;rw[<-bA,tW];exact eQ cI (by simp)
theorem D9 (b:Nat)(l:List (Int×Nat))(w:World)(h:Md w b l)(hs:(l.map (·.1)).Pairwise (·<·))(hl:l.length<=1000000):
  Calls prog 203 #[.func (.func 256) #[] #[.pointer (some ⟨w.heap.size,0,none⟩)]] (w.alloc (.cells #[.map (some b)] 247)) fun e w'=>∃ v,e=.returned v/\aN w' w.heap.size v (l.map (·.1))/\af w w':=by
 have ro:=h.lt;have Jz:SeqGives Fence.wide 2 prog 256 #[.pointer (some ⟨w.heap.size,0,none⟩)] encZ (fun ss=>ss.Perm (intKeys (Oi l))) (Maps.size (Oi l)) (w.alloc (.cells #[.map (some b)] 247)):=
  AnyZI.keys_gives (ρ:=Tryz.keysI_ren) { Tryz.keysI with } Fence.wide _ trivial rfl (by omega) w.heap.size b l.length (Oi l) _ (by simp) (by simp) (World.ownsMap.alloc h _)
 have cS:=AnyZI.sorted_in Tryz.sortedI Fence.wide 5 trivial trivial trivial trivial rfl (by omega) (Y5 _) (enters_of func255 (by kernel_rfl) rfl) 256 #[.pointer (some ⟨w.heap.size,0,none⟩)] trivial (enters_of func256 (by kernel_rfl) rfl) _ _ (by rw[eP];unfold maxLen;omega) (by rw[eP];omega) _ Jz;refine(avE.1 cS).mono ?_;rintro e w' ⟨v,ss,rfl,hS,cI,aa9,hb⟩;have hk:intKeys (Oi l)=l.map (·.1):=by
  show(l.map fun p=>((Lit.int .i64 p.1,yG p.2):Lit×DataW Value)).map (fun p=>Go.intOf p.1)=_;rw[avr];rfl
 rw[hk]at hS;rw[D4 hs hS]at cI;refine⟨v,rfl,?_,dO (ah.ofBelow hb)⟩;have bA:ss.length=(l.map (·.1)).length:=hS.length_eq;unfold aN;rw[<-bA];exact eQ cI (by simp)
end
section
open Go.RowKit
theorem eM {n:Nat}(h:n<128):aG n=[UInt8.ofNat n]:=by rw[aG,dif_pos h]
theorem jC {n:Nat}(h:¬ n<128):aG n=UInt8.ofNat (n%128+128)::aG (n/128):=by rw[aG,dif_neg h]
theorem ez:∀(k n:Nat),n<128 ^ (k+1)->(aG n).length<=k+1:=by
 intro k
 induction k with
 |zero=>intro n h;rw[eM (by omega)];simp
 |succ k ih=>
  intro n h;by_cases h1:n<128
  ·rw[eM h1];simp
  ·rw[jC h1,au0];have:=ih (n/128) (by rw[avu]at h;omega);omega
theorem aV {n:Nat}(h:n<9223372036854775808):(aG n).length<=9:=ez 8 n (by simpa using h)
theorem J4 (n:Nat)(hn:n<9223372036854775808)(w:World):
  Calls prog 164 #[.slice none 0 0,.int .i64 (n:Int)] w fun e w'=>∃ v,e=.returned v/\af w w'/\bR w' w.heap.size v (aG n):=by
 have Hn:=hd0 hn;go_enter func164,ntmps164;go_wp2_with fail
 go_loopw [0,1] (fun v i wr=>∃(pre:List UInt8) (m:Nat),m<=n/\i=.int .i64 (m:Int)/\af w wr/\w.heap.size<=wr.heap.size/\Hid (aG n=pre++aG m)/\bR wr w.heap.size v pre) (fun _ i _=>(intOf i).toNat)
 case atStart=>exact⟨[],n,au4 _,rfl,ah.refl _ _,au4 _,hd0 rfl,rfl,.inl ⟨rfl,rfl⟩⟩
 case round=>
  obtain⟨pre,m,hm,rfl,hK,cV,He,hV⟩:=hrel;have HK:=hd0 hK;have HV:=hd0 hV;have Hl:Hid (pre.length<=9):=hd0 (by have:=aV Hn.out;rw[He.out,avi]at this;omega);clear hK hV;by_cases h:m<128
  ·have h1:¬(128:Int)<=m:=by omega
   have e8:((UInt8.ofNat m).toNat:Int)=m:=by simp;omega
   obtain⟨v2,w2,hr,ho,dd⟩:=tQ (P:=prog) underlying131 j5 w.heap.size u0 _ pre wr w HV.out (UInt8.ofNat m) (by have:=Hl.out;omega) cV HK.out (au4 _);rw[e8]at hr;have Hr:=hd0 hr;have Ho:=hd0 ho;have VP:=hd0 dd;have Ee:=hd0 (eM h);clear hr ho dd h e8;go_wp2_with ((at_builtin;refine aA Hr.out rfl rfl rfl rfl ?_));go_ret;refine⟨_,rfl,VP.out,?_⟩;have e:aG n=pre++[UInt8.ofNat m]:=by rw[He.out,Ee.out]
   have e2:(pre++[UInt8.ofNat m]).length=pre.length+1:=by simp
   rw[e];unfold bR;rw[e2];exact Ho.out
  ·have h1:(128:Int)<=m:=by omega
   have e8:((UInt8.ofNat (m%128+128)).toNat:Int)=(m:Int)%128+128:=by simp;omega
   obtain⟨v2,w2,hr,ho,dd⟩:=tQ (P:=prog) underlying131 j5 w.heap.size u0 _ pre wr w HV.out (UInt8.ofNat (m%128+128)) (by have:=Hl.out;omega) cV HK.out (au4 _);rw[e8]at hr;have Hr:=hd0 hr;have Ho:=hd0 ho;have VP:=hd0 dd;have lB:=dd.size;have Ee:=hd0 (jC h);clear hr ho dd h e8;go_wp2_with ((at_builtin;refine aA Hr.out rfl rfl rfl rfl ?_));refine⟨⟨pre++[UInt8.ofNat (m%128+128)],m/128,by omega,by rw[show((m/128:Nat):Int)=(m:Int)/128 by omega],VP.out,by omega,hd0 (by rw[He.out,Ee.out];simp),?_⟩,by simp[intOf];omega⟩;have e2:(pre++[UInt8.ofNat (m%128+128)]).length=pre.length+1:=by simp
   unfold bR;rw[e2];exact Ho.out
theorem Qo (n:Int)(w:World)(hn:-9223372036854775808<=n/\n<=9223372036854775807):
  Calls prog 84 #[.int .i64 n] w fun e w'=>e=.returned (if 0<=n/\n<=4611686018427387903 then .tuple #[.string ⟨(aG n.toNat).toArray⟩,.int .i64 0]else .tuple #[.string ⟨#[]⟩,.int .i64 31])/\af w w':=by
 by_cases h:0<=n/\n<=4611686018427387903
 ·rw[au8 h];obtain⟨h1,h2⟩:=h;have h3:¬ n<0:=by omega
  have h4:¬ 4611686018427387903<n:=by omega
  obtain⟨m,rfl⟩:∃ m:Nat,n=m:=⟨n.toNat,by omega⟩
  have hm:m<9223372036854775808:=by omega
  clear h2 hn;go_enter func84,ntmps84;go_wp2_with fail;refine(J4 m hm _).mono ?_;rintro e w1 ⟨v,rfl,hk,ho⟩;have hr:=lH ho;have Hk:=hd0 hk;clear ho hk;go_wp2;go_ret2;exact⟨rfl,Hk.out⟩
 ·rw[ava h];have h5:n<0\/4611686018427387903<n:=by omega
  clear h;by_cases h1:n<0
  ·go_enter func84,ntmps84;go_wp2;go_ret2;exact⟨rfl,ah.refl _ _⟩
  ·have h2:4611686018427387903<n:=by omega
   clear h5;go_enter func84,ntmps84;go_wp2;go_ret2;exact⟨rfl,ah.refl _ _⟩
theorem lP (n:Nat)(w:World)(hn:n<=4611686018427387903):
  Calls prog 84 #[.int .i64 (n:Int)] w fun e w'=>e=.returned (.tuple #[.string ⟨(aG n).toArray⟩,.int .i64 0])/\af w w':=by
 refine(Qo n w (by omega)).mono fun e w' ⟨h1,h2⟩=>⟨?_,h2⟩
 rw[au8 (by omega)]at h1;rw[h1,avD]
theorem tg (s:List UInt8)(w:World)(hs:s.length<=65536):
  Calls prog 85 #[.string ⟨s.toArray⟩] w fun e w'=>e=.returned (.tuple #[.string ⟨(aG s.length++s).toArray⟩,.int .i64 0])/\af w w':=by
 have h1:¬(65536:Int)<s.length:=by omega
 have Hm:Hid (s.length<9223372036854775808):=hd0 (by omega);have h2:(s.length:Int)<=9223372036854775807:=by omega
 clear hs;go_enter func85,ntmps85;go_wp2_with fail;refine(J4 s.length Hm.out _).mono ?_;rintro e w1 ⟨v,rfl,hk,ho⟩;have hr:=lH ho;have Hk:=hd0 hk;clear ho hk;have hb:¬ 9223372036854775807<(aG s.length).length+s.length:=by have:=aV Hm.out;omega
 go_wp2;go_ret2;exact⟨rfl,Hk.out⟩
end
section
open Go.RowKit
def xi (was x:List UInt8×Int)(first:Bool):Bool:=aK x.1&&(first||bytesBefore was.1 x.1)&&decide (1<=x.2)&&decide (x.2<=65535)
theorem UT (was x:List UInt8×Int)(first:Bool)(w:World)(hx:x.1.length<=140737488355328):
  Calls prog 335 #[Y2 was,Y2 x,.bool first] w fun e w'=>e=.returned (.bool (xi was x first))/\af w w':=by
 obtain⟨s0,k0⟩:=was;obtain⟨s,k⟩:=x;have hg:=wY s s0;go_enter func335,ntmps335;go_wp2_with fail;refine(rQ s _ hx).mono ?_;rintro e w3 ⟨rfl,hk⟩;have iI:World.blk w3 w.heap.size #[.string ⟨s0.toArray⟩,.int .i64 k0] 351:=ab hk (aF (av _ _ _) _) id;have hb1:World.blk w3 (w.heap.size+1) #[.string ⟨s.toArray⟩,.int .i64 k] 351:=ab hk (aZ (by simp) _ _) id;have c0:w3.cell? ⟨w.heap.size,0,none⟩=some (.string ⟨s0.toArray⟩):=aa iI 0;have c1:w3.cell? ⟨w.heap.size+1,0,none⟩=some (.string ⟨s.toArray⟩):=aa hb1 0;have c2:w3.cell? ⟨w.heap.size+1,1,none⟩=some (.int .i64 k):=aa hb1 1;have HK:=hd0 (dO (dO hk));clear hk iI hb1 hx
 cases hn:aK s with
 |false=>
  have Hv:Hid (xi (s0,k0) (s,k) first=false):=hd0 (by simp[xi,hn]);clear hn;go_wp2;go_ret;exact⟨by rw[Hv.out];first|rfl|(simp;omega)|(simp[h1,h2])|(simp;intros;omega),HK.out⟩
 |true=>
  cases first with
  |true=>
   have Hv:Hid (xi (s0,k0) (s,k) true=(decide (1<=k)&&decide (k<=65535))):=hd0 (by simp[xi,hn]);clear hn;by_cases h1:1<=k
   ·by_cases h2:k<=65535
    ·go_wp2;go_ret;exact⟨by rw[Hv.out];first|rfl|(simp;omega)|(simp[h1,h2])|(simp;intros;omega),HK.out⟩
    ·go_wp2;go_ret;exact⟨by rw[Hv.out];first|rfl|(simp;omega)|(simp[h1,h2])|(simp;intros;omega),HK.out⟩
   ·go_wp2;go_ret;exact⟨by rw[Hv.out];first|rfl|(simp;omega)|(simp[h1,h2])|(simp;intros;omega),HK.out⟩
  |false=>
   have Hv:Hid (xi (s0,k0) (s,k) false=(bytesBefore s0 s&&decide (1<=k)&&decide (k<=65535))):=hd0 (by simp[xi,hn]);clear hn
   cases TW:bytesBefore s0 s with
   |false=>
    rw[TW]at hg Hv;clear TW;go_wp2;go_ret;exact⟨by rw[Hv.out];first|rfl|(simp;omega)|(simp[h1,h2])|(simp;intros;omega),HK.out⟩
   |true=>
    rw[TW]at hg Hv;clear TW;by_cases h1:1<=k
    ·by_cases h2:k<=65535
     ·go_wp2;go_ret;exact⟨by rw[Hv.out];first|rfl|(simp;omega)|(simp[h1,h2])|(simp;intros;omega),HK.out⟩
     ·go_wp2;go_ret;exact⟨by rw[Hv.out];first|rfl|(simp;omega)|(simp[h1,h2])|(simp;intros;omega),HK.out⟩
    ·go_wp2;go_ret;exact⟨by rw[Hv.out];first|rfl|(simp;omega)|(simp[h1,h2])|(simp;intros;omega),HK.out⟩
abbrev Qp:Value:=.agg #[.func (.func 335) #[] #[],.func (.func 336) #[] #[],.func (.func 337) #[] #[]]
theorem Ie (x:List UInt8×Int)(w:World):
  Calls prog 336 #[Y2 x] w fun e w'=>∃ b,e=.returned (.slice (some ⟨b,0,none⟩) 2 2)/\w.heap.size<=b/\af w w'/\World.blk w' b #[.iface 9 (.string ⟨x.1.toArray⟩),.iface 3 (.int .i64 x.2)] 20:=by
 obtain⟨s,k⟩:=x;go_enter func336,ntmps336;go_wp2;go_ret;exact⟨_,rfl,by omega,((ah.refl _ _).alloc _).alloc _,aZ (by simp) _ _⟩
theorem Qq (w:World):
  Calls prog 304 #[] w fun e w'=>e=.returned Qp/\af w w':=by
 go_enter func304,ntmps304;go_wp2_with fail;exact avy (v:=Qp) (by simp[results,Tryz.results304,go_sem]) rfl ⟨rfl,(ah.refl _ _).alloc _⟩
end
section
open Go.RowKit
def jR (was:Option (List UInt8))(l:Nm):Option (List UInt8):=match l.getLast? with|some p=>some p.1|none=>was
theorem nH (a b:Nm):∀ was,fW was (a++b)=(fW was a&&fW (jR was a) b):=by
 induction a with
 |nil=>intro was;simp[fW,jR]
 |cons p r ih=>
  intro was;have e:jR (some p.1) r=jR was (p::r):=by
   cases r with
   |nil=>simp[jR]
   |cons q r=>
    unfold jR;rw[List.getLast?_cons_cons]
    cases h:(q::r).getLast? with
    |none=>simp at h
    |some y=>rfl
  rw[avG,fW,ih,fW,e,Bool.and_assoc]
theorem jb {α:Type}{l:List α}{k:Nat}{x:α}(h:l[k]?=some x):l.take (k+1)=l.take k++[x]:=by
 rw[au3,h];rfl
theorem nI {l:Nm}{k:Nat}{x:List UInt8×Int}(h:l[k]?=some x):fW none (l.take (k+1))=(fW none (l.take k)&&vU (jR none (l.take k)) x):=by
 rw[jb h,nH];simp[fW]
theorem Qr {l:Nm}{k:Nat}{x:List UInt8×Int}(h:l[k]?=some x)(h2:vU (jR none (l.take k)) x=false):oQ l=false:=by
 have e:fW none l=(fW none (l.take (k+1))&&fW (jR none (l.take (k+1))) (l.drop (k+1))):=by
  rw[<-nH,List.take_append_drop]
 unfold oQ;rw[e,nI h,h2];simp
def gF (l:Nm)(k:Nat):List UInt8×Int:=(l.take k).getLastD ([],0)
theorem UU {l:Nm}{k:Nat}(x:List UInt8×Int)(hk:k<=l.length):xi (gF l k) x (decide (k=0))=vU (jR none (l.take k)) x:=by
 cases k with
 |zero=>simp[xi,vU,jR]
 |succ k=>
  obtain⟨y,hy⟩:∃ y,l[k]?=some y:=⟨_,au1 (by omega)⟩
  simp[xi,vU,jR,gF,jb hy]
theorem If {l:Nm}{k:Nat}{x:List UInt8×Int}(h:l[k]?=some x):gF l (k+1)=x:=by
 unfold gF;rw[jb h];simp
theorem Ad (s:ByteArray)(W:World):(Instr.typeAssert (.iface 9 (.string s)) 20 3 true).run prog W=.ok (.tuple #[.int .i64 0,.bool false]) W:=by kernel_rfl
theorem xj (s:ByteArray)(W:World):(Instr.typeAssert (.iface 9 (.string s)) 20 9 true).run prog W=.ok (.tuple #[.string s,.bool true]) W:=by kernel_rfl
theorem qU (n:Int)(W:World):(Instr.typeAssert (.iface 3 (.int .i64 n)) 20 3 true).run prog W=.ok (.tuple #[.int .i64 n,.bool true]) W:=by kernel_rfl
def rR (l:Nm):Value:=if oQ l=true then .tuple #[.string ⟨(l8 l).toArray⟩,.int .i64 0]else .tuple #[.string ⟨#[]⟩,.int .i64 120]
theorem Qs {l:Nm}:∀ was,fW was l=true->(l.flatMap lK).length<=l.length*34:=by
 induction l with
 |nil=>intro _ _;simp
 |cons p r ih=>
  intro was h;rw[fW,avj]at h;have h2:=ih _ h.2;have h1:=h.1;simp only[vU,aK,avj,avo]at h1;have e1:=aV (n:=p.1.length) (by have:=h1.1.1.1.1.1.2;omega);have e2:=aV (n:=p.2.toNat) (by have:=h1.2;omega);have e3:p.1.length<=16:=h1.1.1.1.1.1.2;rw[avH,avi,au0];have:(lK p).length<=34:=by unfold lK;simp;omega
  omega
theorem J5 {l:Nm}{k:Nat}{pre:List UInt8}(h:aG l.length++(l.take k).flatMap lK=pre)(hl:l.length<=4096)(he:fW none (l.take (k+1))=true):pre.length<=1000000:=by
 have h2:fW none (l.take k)=true:=by
  rw[<-List.take_append_drop k (l.take (k+1)),nH,avj]at he;have:=he.1
  rwa [List.take_take,Nat.min_eq_left (by omega)]at this
 have h3:=Qs _ h2;have h4:=aV (n:=l.length) (by omega);have h5:(l.take k).length<=4096:=by rw[au7];omega
 rw[<-h,avi];omega
theorem Qt (l:Nm)(v:Value)(w:World)(cI:mC Ia 2 w v l)(hl:l.length<=1000000000)(hs:∀ p∈l,p.1.length<=1000000000/\-9223372036854775808<=p.2/\p.2<=9223372036854775807):
  Calls prog 303 #[Qp,v] w fun e w'=>e=.returned (rR l)/\af w w':=by
 obtain⟨a,cap,rfl,hx⟩:=cI;have HX:=hd0 hx;have HS:=hd0 hs;clear hx hs;by_cases bA:l.length<=4096
 ·have h1:¬(4096:Int)<l.length:=by omega
  have Hl:=hd0 bA;clear bA hl;go_enter func303,ntmps303;go_wp2_with fail;refine(lP l.length _ (by have:=Hl.out;omega)).mono ?_;rintro e w2 ⟨rfl,dd⟩;have Sj:Hid (World.blk w2 w.heap.size #[.func (.func 335) #[] #[],.func (.func 336) #[] #[],.func (.func 337) #[] #[]] 400):=hd0 (ab dd (aF (av _ _ _) _) id);have Yn:Hid (da (w.heap.size+1) (w.heap.size+1) [] w2):=hd0 (by
   have h:=nw (w.alloc (.cells #[.func (.func 335) #[] #[],.func (.func 336) #[] #[],.func (.func 337) #[] #[]] 400));rw[show(w.alloc (.cells #[.func (.func 335) #[] #[],.func (.func 336) #[] #[],.func (.func 337) #[] #[]] 400)).heap.size=w.heap.size+1 by simp]at h;exact cw h dd)
  have bw:=hd0 (dO (dO dd));have lB:=dd.size;simp at lB;clear dd;go_wp2_with fail;refine(jn (w.heap.size+1) (w.heap.size+1) [] (aG l.length) w2 Yn.out (by have:=aV (n:=l.length) (by have:=Hl.out;omega);simp;omega) (by omega)).mono ?_;rintro e w3 ⟨rfl,uJ,ya,lu⟩;have FQ:=hd0 (ab lu Sj.out (cP (by omega) Sj.out (by decide)));have oq:=hd0 uJ;have dR:=hd0 (cZ bw.out ya (by omega));have Cc:=ya.size;rw[avA]at oq;clear uJ ya lu Sj Yn bw;go_wp2_with fail;obtain⟨wb,Jp⟩:∃ wb,wb=w3.heap.size:=⟨_,rfl⟩
  have XB:Hid (World.blk (w3.alloc (.cells #[.string ⟨#[]⟩,.int .i64 0] 351)) wb #[.string ⟨#[]⟩,.int .i64 0] 351):=hd0 (aZ Jp _ _);have YH:=hd0 (aF FQ.out (.cells #[.string ⟨#[]⟩,.int .i64 0] 351));have nT:=hd0 (cw oq.out ((ah.refl (fun _=>False) w3).alloc (.cells #[.string ⟨#[]⟩,.int .i64 0] 351)));have dT:=hd0 (dR.out.alloc (.cells #[.string ⟨#[]⟩,.int .i64 0] 351));have aeG:w.heap.size+2<=wb:=by omega
  clear FQ oq dR;rw[<-Jp];generalize w3.alloc (.cells #[.string ⟨#[]⟩,.int .i64 0] 351)=w4 at*;clear Jp Cc lB
  go_loopw [30] (fun i wr=>∃ k:Nat,k<=l.length/\i=.int .i64 (k:Int)/\af w wr/\World.blk wr w.heap.size #[.func (.func 335) #[] #[],.func (.func 336) #[] #[],.func (.func 337) #[] #[]] 400/\World.blk wr wb #[.string ⟨(gF l k).1.toArray⟩,.int .i64 (gF l k).2] 351/\da (w.heap.size+1) (w.heap.size+1) (aG l.length++(l.take k).flatMap lK) wr/\Hid (fW none (l.take k)=true)) (fun i _=>l.length-(intOf i).toNat)
  case atStart=>exact⟨0,by omega,rfl,dT.out,YH.out,XB.out,by simpa using nT.out,hd0 rfl⟩
  case round=>
   clear YH XB nT dT;obtain⟨k,hk,rfl,hK,hF,hW,hB,He⟩:=hrel;have HK:=hd0 hK;have HF:=hd0 hF;have HW:=hd0 hW;have HB:=hd0 hB;clear hK hF hW hB;by_cases aL:k<l.length
   ·obtain⟨x,hx⟩:∃ x,l[k]?=some x:=⟨_,au1 aL⟩
    have Hx:=hd0 hx;clear hx;obtain⟨b,o,rfl,hc⟩:=HX.out k x Hx.out;have c0:wr.cell? ⟨b,o+k*2,none⟩=some (.string ⟨x.1.toArray⟩):=by have h:=hc 0 _ rfl;rw[HK.out.cell (p:=⟨b,o+k*2,none⟩) (ai h) id];exact h
    have c1:wr.cell? ⟨b,o+k*2+1,none⟩=some (.int .i64 x.2):=by have h:=hc 1 _ rfl;rw[HK.out.cell (p:=⟨b,o+k*2+1,none⟩) (ai h) id];exact h
    have f0:wr.cell? ⟨w.heap.size,0,none⟩=some (.func (.func 335) #[] #[]):=aa HF.out 0;have f1:wr.cell? ⟨w.heap.size,1,none⟩=some (.func (.func 336) #[] #[]):=aa HF.out 1;have g0:wr.cell? ⟨wb,0,none⟩=some (.string ⟨(gF l k).1.toArray⟩):=aa HW.out 0;have g1:wr.cell? ⟨wb,1,none⟩=some (.int .i64 (gF l k).2):=aa HW.out 1;obtain⟨fb,hq⟩:∃ fb,((k:Int)==0)=fb:=⟨_,rfl⟩
    have z0:w.heap.size<wr.heap.size:=ak HF.out;have z1:wb<wr.heap.size:=ak HW.out;clear hc;go_wp2_with fail;refine(UT (gF l k) x fb _ (by have:=(HS.out x (au2 Hx.out)).1;omega)).mono ?_;rintro e w5 ⟨rfl,mj⟩;have FL:=hd0 (ab mj (aF HF.out _) id);have ng:=hd0 (ab mj (aF HW.out _) id);have uE:=hd0 (ab mj (av wr _ _) id);have F0:=hd0 (cw HB.out (dO mj));have mT:=hd0 (HK.out.keep (dO mj));have FT:=mj.size;simp at FT;have Hm:=hd0 (UU (l:=l) (k:=k) x (by omega));have Hq:Hid (fb=decide (k=0)):=hd0 (by rw[<-hq,avI];simp);clear mj c0 c1 f0 f1 g0 g1 z0 HF HW HB HK hq
    cases hmy:xi (gF l k) x fb with
    |false=>
     have Hv:Hid (rR l=.tuple #[.string ⟨#[]⟩,.int .i64 120]):=hd0 (by
      rw[Hq.out,Hm.out]at hmy;simp[rR,Qr Hx.out hmy])
     clear hmy;go_wp2;go_ret2;exact⟨by rw[Hv.out];rfl,mT.out⟩
    |true=>
     have Wd:Hid (fW none (l.take (k+1))=true):=hd0 (by
      rw[Hq.out,Hm.out]at hmy;rw[nI Hx.out,He.out,hmy];rfl)
     clear hmy;generalize wr.heap.size=xb at*;have f1:w5.cell? ⟨w.heap.size,1,none⟩=some (.func (.func 336) #[] #[]):=aa FL.out 1;have g0:w5.frozen? ⟨wb,0,none⟩=false:=ae ng.out _ rfl;have g1:w5.frozen? ⟨wb,1,none⟩=false:=ae ng.out _ rfl;have g2:w5.cell? ⟨wb,0,none⟩=some (.string ⟨(gF l k).1.toArray⟩):=aa ng.out 0;have g3:w5.cell? ⟨wb,1,none⟩=some (.int .i64 (gF l k).2):=aa ng.out 1;have e0:w5.cell? ⟨xb,0,none⟩=some (.string ⟨x.1.toArray⟩):=aa uE.out 0;have e1:w5.cell? ⟨xb,1,none⟩=some (.int .i64 x.2):=aa uE.out 1;have n1:¬ w.heap.size=wb:=by omega
     have n2:¬ xb=wb:=by omega
     go_wp2_with fail;refine(Ie x _).mono ?_;rintro e w7 ⟨pb,rfl,mV,rx,pB⟩;have ry:ah (·=wb) w5 ((w5.setCell ⟨wb,0,none⟩ (.string ⟨x.1.toArray⟩)).setCell ⟨wb,1,none⟩ (.int .i64 x.2)):=((ah.refl (fun y=>y=wb) w5).setCell (p:=⟨wb,0,none⟩) (.inl rfl) _).setCell (p:=⟨wb,1,none⟩) (.inl rfl) _;have Ym:=hd0 (ab rx (ab ry FL.out n1) id);have KL:=hd0 (cw (uN F0.out ry (by omega) (fun q c fr hq e=>by
      subst e;have:=ng.out;unfold World.blk at this;rw[this]at hq
      cases hq)) rx)
     have Xv:Hid (World.blk w7 wb #[.string ⟨x.1.toArray⟩,.int .i64 x.2] 351):=hd0 (ab rx (ag (ag ng.out 0 _) 1 _) id);have zi:=hd0 ((mT.out.new ry (by omega)).keep rx);have Cu:=hd0 pB;have hpw:wb<pb:=by
      have h:=ak ng.out;have e:((w5.setCell ⟨wb,0,none⟩ (.string ⟨x.1.toArray⟩)).setCell ⟨wb,1,none⟩ (.int .i64 x.2)).heap.size=w5.heap.size:=by simp[World.setCell]
      omega
     have Ti:x.1.length<=16:=by
      have h:=Wd.out;rw[nI Hx.out]at h;simp only[avj,vU,aK,avo]at h;exact h.2.1.1.1.1.1.2
     have sp:1<=x.2/\x.2<=65535:=by
      have h:=Wd.out;rw[nI Hx.out]at h;simp only[avj,vU,avo]at h;exact⟨h.2.1.2,h.2.2⟩
     clear rx pB ry f1 g0 g1 g2 g3 e0 e1 n1 n2 FL ng uE F0 mT FT mV He Hm Hq;generalize tF:aG l.length++(l.take k).flatMap lK=pre at*;have I4:=hd0 tF;clear tF;go_wp2_with fail
     go_loopw [49] (fun i wr=>∃ j:Nat,j<=2/\i=.int .i64 (j:Int)/\af w wr/\World.blk wr w.heap.size #[.func (.func 335) #[] #[],.func (.func 336) #[] #[],.func (.func 337) #[] #[]] 400/\World.blk wr wb #[.string ⟨x.1.toArray⟩,.int .i64 x.2] 351/\World.blk wr pb #[.iface 9 (.string ⟨x.1.toArray⟩),.iface 3 (.int .i64 x.2)] 20/\da (w.heap.size+1) (w.heap.size+1) (pre++(if j=0 then []else if j=1 then aG x.1.length++x.1 else lK x)) wr) (fun i _=>2-(intOf i).toNat)
     case atStart=>exact⟨0,by omega,rfl,zi.out,Ym.out,Xv.out,Cu.out,by simpa using KL.out⟩
     case round=>
      clear Ym KL Xv zi Cu;obtain⟨j,hj,rfl,hK,hF,hW,hP,hB⟩:=hrel;have HK:=hd0 hK;have HF:=hd0 hF;have HW:=hd0 hW;have HP:=hd0 hP;have HB:=hd0 hB;have p0:wr.cell? ⟨pb,0,none⟩=some (.iface 9 (.string ⟨x.1.toArray⟩)):=aa hP 0;have p1:wr.cell? ⟨pb,1,none⟩=some (.iface 3 (.int .i64 x.2)):=aa hP 1;clear hK hF hW hP hB;rcases(by omega:j=0\/j=1\/j=2)with rfl|rfl|rfl
      ·have a0:=Ad ⟨x.1.toArray⟩;have a1:=xj ⟨x.1.toArray⟩;go_wp2_with fail;refine(tg x.1 _ (by omega)).mono ?_;rintro e w8 ⟨rfl,kB⟩;have B9:=hd0 (ab kB HF.out id);have vf:=hd0 (ab kB HW.out id);have sH:=hd0 (ab kB HP.out id);have BN:Hid (da (w.heap.size+1) (w.heap.size+1) pre w8):=hd0 (by have h:=cw HB.out kB;simpa using h);have sF:=hd0 (HK.out.keep kB);have NZ:Hid (pre.length<=1000000):=hd0 (J5 I4.out Hl.out Wd.out);clear kB HF HW HP HB HK p0 p1 a0 a1;go_wp2_with fail;refine(jn (w.heap.size+1) (w.heap.size+1) pre (aG x.1.length++x.1) w8 BN.out (by have:=aV (n:=x.1.length) (by omega);have:=NZ.out;simp;omega) (by have:=ak vf.out;omega)).mono ?_;rintro e w9 ⟨rfl,Kx,sI,tK⟩;have VN:=hd0 (ab tK B9.out (cP (by omega) B9.out (by decide)));have Wh:=hd0 (ab tK vf.out (cP (by omega) vf.out (by decide)));have py:=hd0 (ab tK sH.out (cP (by omega) sH.out (by decide)));have OP:=hd0 Kx;have Cg:=hd0 (cZ sF.out sI (by omega));clear Kx sI tK B9 vf sH BN sF;go_wp2_with fail;refine⟨⟨1,by omega,rfl,Cg.out,VN.out,Wh.out,py.out,by simpa using OP.out⟩,by decide⟩
      ·obtain⟨m,hm⟩:∃ m:Nat,x.2=m:=⟨x.2.toNat,by omega⟩
       have Hm:=hd0 hm;rw[hm]at p1;have a0:=qU m;have yR:m<=65535:=by omega
       clear hm;go_wp2_with fail;refine(lP m _ (by omega)).mono ?_;rintro e w8 ⟨rfl,kB⟩;have B9:=hd0 (ab kB HF.out id);have vf:=hd0 (ab kB HW.out id);have sH:=hd0 (ab kB HP.out id);have BN:Hid (da (w.heap.size+1) (w.heap.size+1) (pre++(aG x.1.length++x.1)) w8):=hd0 (by have h:=cw HB.out kB;simpa using h);have sF:=hd0 (HK.out.keep kB);have NZ:Hid (pre.length<=1000000):=hd0 (J5 I4.out Hl.out Wd.out);clear kB HF HW HP HB HK p0 p1 a0;go_wp2_with fail;refine(jn (w.heap.size+1) (w.heap.size+1) _ (aG m) w8 BN.out (by have:=aV (n:=x.1.length) (by omega);have:=aV (n:=m) (by omega);have:=NZ.out;simp;omega) (by have:=ak vf.out;omega)).mono ?_;rintro e w9 ⟨rfl,Kx,sI,tK⟩;have VN:=hd0 (ab tK B9.out (cP (by omega) B9.out (by decide)));have Wh:=hd0 (ab tK vf.out (cP (by omega) vf.out (by decide)));have py:=hd0 (ab tK sH.out (cP (by omega) sH.out (by decide)));have OP:Hid (da (w.heap.size+1) (w.heap.size+1) (pre++lK x) w9):=hd0 (by
        have e:pre++lK x=pre++(aG x.1.length++x.1)++aG m:=by rw[lK,Hm.out,avD];simp
        rw[e];exact Kx)
       have Cg:=hd0 (cZ sF.out sI (by omega));clear Kx sI tK B9 vf sH BN sF;go_wp2_with fail;refine⟨⟨2,by omega,rfl,Cg.out,VN.out,Wh.out,py.out,by simpa using OP.out⟩,by decide⟩
      ·clear p0 p1;go_wp2_with fail;refine⟨⟨k+1,by omega,by go_num,HK.out,HF.out,by rw[If Hx.out];exact HW.out,?_,Wd⟩,by simp[intOf];omega⟩;have h:=HB.out;rw[jb Hx.out];simp only[avh,avH,List.flatMap_nil,List.append_nil];rw[<-avJ,I4.out];simpa using h
   ·obtain rfl:k=l.length:=by omega
    have jk:Hid (da (w.heap.size+1) (w.heap.size+1) (l8 l) wr):=hd0 (by have h:=HB.out;rwa [au5]at h);have Hv:Hid (rR l=.tuple #[.string ⟨(l8 l).toArray⟩,.int .i64 0]):=hd0 (by
     have h:=He.out;rw[au5]at h;simp[rR,oQ,h,Hl.out])
    go_wp2_with fail;refine(gH (w.heap.size+1) (w.heap.size+1) (l8 l) wr jk.out (by have:=ak HW.out;omega)).mono ?_;rintro e w6 ⟨rfl,rz⟩;have u9:=hd0 (cZ HK.out rz (by omega));clear rz;go_wp2;go_ret2;exact⟨by rw[Hv.out];rfl,u9.out⟩
 ·have h1:(4096:Int)<l.length:=by omega
  have Hv:Hid (rR l=.tuple #[.string ⟨#[]⟩,.int .i64 120]):=hd0 (by simp[rR,oQ,bA]);clear bA hl;go_enter func303,ntmps303;go_wp2;go_ret2;exact⟨by rw[Hv.out];rfl,(ah.refl _ _).alloc _⟩
end
end Go.Proofs.YtkghpdcloaiflaaGreatDoor
