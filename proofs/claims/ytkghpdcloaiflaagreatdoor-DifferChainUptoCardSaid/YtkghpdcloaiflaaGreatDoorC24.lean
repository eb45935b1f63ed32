import Derived.Test.YtkghpdcloaiflaaGreatDoorC23
import Derived.Laws.EntriesVeiled
set_option maxHeartbeats 4000000
set_option maxRecDepth 100000
namespace Go.Proofs.YtkghpdcloaiflaaGreatDoor
open _root_.Go.Proofs.Tryz
section
open Go.RowKit Go.Maps Go.Sort Go.Shelf
theorem Yl (m:Nat):AnyZ.SortsIn prog Tryz.sortedS_ren Fence.wide m:=
 ⟨fun blk off cap ss W hH yS cA=>aup.2 (AnyM.slices_Sort_string Tryz.sortS blk off cap ss W hH yS cA),
  fun p cap W=>aup.2 (AnyM.slices_Sort_string_none Tryz.sortS p cap W)⟩
theorem Ym (m:Nat):AnyZI.SortsIn prog Tryz.sortedI_ren Fence.wide m:=
 ⟨fun blk off cap ss W hH yS cA=>aup.2 (AnyM.slices_Sort_int Tryz.sortI blk off cap ss W hH yS cA),
  fun p cap W=>aup.2 (AnyM.slices_Sort_int_none Tryz.sortI p cap W)⟩
theorem zN:∀(a b:List UInt8),bytesBefore a b=true->a<b
 |[],[],h=>by cases h
 |[],_::_,_=>List.nil_lt_cons _ _
 |_::_,[],h=>by cases h
 |x::r,y::s,h=>by
  simp only[bytesBefore,at5,aua,at2,auq]at h;rw[List.cons_lt_cons_iff];rcases h with h|⟨h1,h2⟩
  ·exact .inl h
  ·exact .inr ⟨h1,zN r s h2⟩
theorem DC {l:Nm}(hs:eU l){ss:List (List UInt8)}(hp:ss.Perm (l.map (·.1))):ss.mergeSort (fun x y=>decide (x<=y))=l.map (·.1):=by
 rw[mergeSort_of_perm hp];refine List.mergeSort_of_pairwise ?_;rw[List.pairwise_map];exact hs.imp fun h=>by simpa[leB]using List.le_of_lt (zN _ _ h)
theorem DD {l:List Int}(hs:l.Pairwise (·<·)){ss:List Int}(hp:ss.Perm l):ss.mergeSort (fun x y=>decide (x<=y))=l:=by
 rw[mergeSort_of_perm_i hp];refine List.mergeSort_of_pairwise ?_;exact hs.imp fun h=>by simp[leI];omega
theorem LJ (mb:Option Nat)(W:World):Calls prog 302 #[.map mb] W fun e w'=>e=.returned (.func (.func 334) #[] #[.pointer (some ⟨W.heap.size,0,none⟩)])/\w'=W.alloc (.cells #[.map mb] 244):=
 aup.1 (AnyZ.keys_in Tryz.keysS Fence.wide 5 trivial rfl mb W)
theorem LK (mb:Option Nat)(W:World):Calls prog 204 #[.map mb] W fun e w'=>e=.returned (.func (.func 256) #[] #[.pointer (some ⟨W.heap.size,0,none⟩)])/\w'=W.alloc (.cells #[.map mb] 247):=
 aup.1 (AnyZI.keys_in Tryz.keysI Fence.wide 5 trivial rfl mb W)
theorem DE (b:Nat)(l:Nm)(w:World)(h:GN w b l)(hs:eU l)(hl:l.length<=1000000):
  Calls prog 301 #[.func (.func 334) #[] #[.pointer (some ⟨w.heap.size,0,none⟩)]] (w.alloc (.cells #[.map (some b)] 244)) fun e w'=>∃ v,e=.returned v/\im w' w.heap.size v (l.map (·.1))/\af w w':=by
 have qZ:=h.lt;have Iz:SeqGives Fence.wide 2 prog 334 #[.pointer (some ⟨w.heap.size,0,none⟩)] encStr (fun ss=>ss.Perm (strKeys (NN l))) (Maps.size (NN l)) (w.alloc (.cells #[.map (some b)] 244)):=
  AnyZ.keys_gives (ρ:=Tryz.keysS_ren) { Tryz.keysS with } Fence.wide _ trivial rfl (by omega) w.heap.size b l.length (NN l) _ (by simp) (by simp) (World.ownsMap.alloc h _)
 have cS:=AnyZ.sorted_in Tryz.sortedS Fence.wide 5 trivial trivial trivial trivial rfl (by omega) (Yl _) (enters_of func333 (by kernel_rfl) rfl) 334 #[.pointer (some ⟨w.heap.size,0,none⟩)] trivial (enters_of func334 (by kernel_rfl) rfl) _ _ (by rw[eK];unfold maxLen;omega) (by rw[eK];omega) _ Iz;refine(aup.1 cS).mono ?_;rintro e w' ⟨v,ss,rfl,hS,cH,Nq,hb⟩;have hk:strKeys (NN l)=l.map (·.1):=by
  show(l.map fun p=>((Lit.string p.1,oy p.2):Lit×DataW Value)).map (fun p=>strOf p.1)=_;rw[auc];rfl
 rw[hk]at hS;rw[DC hs hS]at cH;refine⟨v,rfl,?_,dM (ah.ofBelow hb)⟩;have aU:ss.length=(l.map (·.1)).length:=hS.length_eq;unfold im;rw[<-aU,tN];exact eL cH (by simp)
theorem DG (b:Nat)(l:List (Int×Nat))(w:World)(h:LH w b l)(hs:(l.map (·.1)).Pairwise (·<·))(hl:l.length<=1000000):
  Calls prog 203 #[.func (.func 256) #[] #[.pointer (some ⟨w.heap.size,0,none⟩)]] (w.alloc (.cells #[.map (some b)] 247)) fun e w'=>∃ v,e=.returned v/\aL w' w.heap.size v (l.map (·.1))/\af w w':=by
 have qZ:=h.lt;have Iz:SeqGives Fence.wide 2 prog 256 #[.pointer (some ⟨w.heap.size,0,none⟩)] encZ (fun ss=>ss.Perm (intKeys (NP l))) (Maps.size (NP l)) (w.alloc (.cells #[.map (some b)] 247)):=
  AnyZI.keys_gives (ρ:=Tryz.keysI_ren) { Tryz.keysI with } Fence.wide _ trivial rfl (by omega) w.heap.size b l.length (NP l) _ (by simp) (by simp) (World.ownsMap.alloc h _)
 have cS:=AnyZI.sorted_in Tryz.sortedI Fence.wide 5 trivial trivial trivial trivial rfl (by omega) (Ym _) (enters_of func255 (by kernel_rfl) rfl) 256 #[.pointer (some ⟨w.heap.size,0,none⟩)] trivial (enters_of func256 (by kernel_rfl) rfl) _ _ (by rw[eK];unfold maxLen;omega) (by rw[eK];omega) _ Iz;refine(aup.1 cS).mono ?_;rintro e w' ⟨v,ss,rfl,hS,cH,Nq,hb⟩;have hk:intKeys (NP l)=l.map (·.1):=by
  show(l.map fun p=>((Lit.int .i64 p.1,yq p.2):Lit×DataW Value)).map (fun p=>Go.intOf p.1)=_;rw[auc];rfl
 rw[hk]at hS;rw[DD hs hS]at cH;refine⟨v,rfl,?_,dM (ah.ofBelow hb)⟩;have aU:ss.length=(l.map (·.1)).length:=hS.length_eq;unfold aL;rw[<-aU];exact eL cH (by simp)
end
section
open Go.RowKit
theorem iZ {n:Nat}(h:n<128):aO n=[UInt8.ofNat n]:=by rw[aO,dif_pos h]
theorem oV {n:Nat}(h:¬ n<128):aO n=UInt8.ofNat (n%128+128)::aO (n/128):=by rw[aO,dif_neg h]
theorem eh:∀(k n:Nat),n<128 ^ (k+1)->(aO n).length<=k+1:=by
 intro k
 induction k with
 |zero=>intro n h;rw[iZ (by omega)];simp
 |succ k ih=>
  intro n h;by_cases h1:n<128
  ·rw[iZ h1];simp
  ·rw[oV h1,atH];have:=ih (n/128) (by rw[auf]at h;omega);omega
theorem bG {n:Nat}(h:n<9223372036854775808):(aO n).length<=9:=eh 8 n (by simpa using h)
theorem JG (n:Nat)(hn:n<9223372036854775808)(w:World):
  Calls prog 164 #[.slice none 0 0,.int .i64 (n:Int)] w fun e w'=>∃ v,e=.returned v/\af w w'/\bP w' w.heap.size v (aO n):=by
 have Hn:=hd0 hn;go_enter func164,ntmps164;go_wp2_with fail
 go_loopw [0,1] (fun v i wr=>∃(pre:List UInt8) (m:Nat),m<=n/\i=.int .i64 (m:Int)/\af w wr/\w.heap.size<=wr.heap.size/\Hid (aO n=pre++aO m)/\bP wr w.heap.size v pre) (fun _ i _=>(intOf i).toNat)
 case atStart=>exact⟨[],n,atL _,rfl,ah.refl _ _,atL _,hd0 rfl,rfl,.inl ⟨rfl,rfl⟩⟩
 case round=>
  obtain⟨pre,m,hm,rfl,hK,cA,He,hV⟩:=hrel;have HK:=hd0 hK;have HV:=hd0 hV;have Hl:Hid (pre.length<=9):=hd0 (by have:=bG Hn.out;rw[He.out,at0]at this;omega);clear hK hV;by_cases h:m<128
  ·have h1:¬(128:Int)<=m:=by omega
   have e8:((UInt8.ofNat m).toNat:Int)=m:=by simp;omega
   obtain⟨v2,w2,hr,ho,dc⟩:=tH (P:=prog) underlying131 jR w.heap.size u0 _ pre wr w HV.out (UInt8.ofNat m) (by have:=Hl.out;omega) cA HK.out (atL _);rw[e8]at hr;have Hr:=hd0 hr;have Ho:=hd0 ho;have U4:=hd0 dc;have Ee:=hd0 (iZ h);clear hr ho dc h e8;go_wp2_with ((at_builtin;refine aA Hr.out rfl rfl rfl rfl ?_));go_ret;refine⟨_,rfl,U4.out,?_⟩;have e:aO n=pre++[UInt8.ofNat m]:=by rw[He.out,Ee.out]
   have e2:(pre++[UInt8.ofNat m]).length=pre.length+1:=by simp
   rw[e];unfold bP;rw[e2];exact Ho.out
  ·have h1:(128:Int)<=m:=by omega
   have e8:((UInt8.ofNat (m%128+128)).toNat:Int)=(m:Int)%128+128:=by simp;omega
   obtain⟨v2,w2,hr,ho,dc⟩:=tH (P:=prog) underlying131 jR w.heap.size u0 _ pre wr w HV.out (UInt8.ofNat (m%128+128)) (by have:=Hl.out;omega) cA HK.out (atL _);rw[e8]at hr;have Hr:=hd0 hr;have Ho:=hd0 ho;have U4:=hd0 dc;have lD:=dc.size;have Ee:=hd0 (oV h);clear hr ho dc h e8;go_wp2_with ((at_builtin;refine aA Hr.out rfl rfl rfl rfl ?_));refine⟨⟨pre++[UInt8.ofNat (m%128+128)],m/128,by omega,by rw[show((m/128:Nat):Int)=(m:Int)/128 by omega],U4.out,by omega,hd0 (by rw[He.out,Ee.out];simp),?_⟩,by simp[intOf];omega⟩;have e2:(pre++[UInt8.ofNat (m%128+128)]).length=pre.length+1:=by simp
   unfold bP;rw[e2];exact Ho.out
theorem P3 (n:Int)(w:World)(hn:-9223372036854775808<=n/\n<=9223372036854775807):
  Calls prog 84 #[.int .i64 n] w fun e w'=>e=.returned (if 0<=n/\n<=4611686018427387903 then .tuple #[.string ⟨(aO n.toNat).toArray⟩,.int .i64 0]else .tuple #[.string ⟨#[]⟩,.int .i64 31])/\af w w':=by
 by_cases h:0<=n/\n<=4611686018427387903
 ·rw[atP h];obtain⟨h1,h2⟩:=h;have h3:¬ n<0:=by omega
  have h4:¬ 4611686018427387903<n:=by omega
  obtain⟨m,rfl⟩:∃ m:Nat,n=m:=⟨n.toNat,by omega⟩
  have hm:m<9223372036854775808:=by omega
  clear h2 hn;go_enter func84,ntmps84;go_wp2_with fail;refine(JG m hm _).mono ?_;rintro e w1 ⟨v,rfl,hk,ho⟩;have hr:=lH ho;have Hk:=hd0 hk;clear ho hk;go_wp2;go_ret2;exact⟨rfl,Hk.out⟩
 ·rw[atR h];have h5:n<0\/4611686018427387903<n:=by omega
  clear h;by_cases h1:n<0
  ·go_enter func84,ntmps84;go_wp2;go_ret2;exact⟨rfl,ah.refl _ _⟩
  ·have h2:4611686018427387903<n:=by omega
   clear h5;go_enter func84,ntmps84;go_wp2;go_ret2;exact⟨rfl,ah.refl _ _⟩
theorem lN (n:Nat)(w:World)(hn:n<=4611686018427387903):
  Calls prog 84 #[.int .i64 (n:Int)] w fun e w'=>e=.returned (.tuple #[.string ⟨(aO n).toArray⟩,.int .i64 0])/\af w w':=by
 refine(P3 n w (by omega)).mono fun e w' ⟨h1,h2⟩=>⟨?_,h2⟩
 rw[atP (by omega)]at h1;rw[h1,auo]
theorem sT (s:List UInt8)(w:World)(hs:s.length<=65536):
  Calls prog 85 #[.string ⟨s.toArray⟩] w fun e w'=>e=.returned (.tuple #[.string ⟨(aO s.length++s).toArray⟩,.int .i64 0])/\af w w':=by
 have h1:¬(65536:Int)<s.length:=by omega
 have Hm:Hid (s.length<9223372036854775808):=hd0 (by omega);have h2:(s.length:Int)<=9223372036854775807:=by omega
 clear hs;go_enter func85,ntmps85;go_wp2_with fail;refine(JG s.length Hm.out _).mono ?_;rintro e w1 ⟨v,rfl,hk,ho⟩;have hr:=lH ho;have Hk:=hd0 hk;clear ho hk;have hb:¬ 9223372036854775807<(aO s.length).length+s.length:=by have:=bG Hm.out;omega
 go_wp2;go_ret2;exact⟨rfl,Hk.out⟩
end
section
open Go.RowKit
def wX (was x:List UInt8×Int)(first:Bool):Bool:=aH x.1&&(first||bytesBefore was.1 x.1)&&decide (1<=x.2)&&decide (x.2<=65535)
theorem Uh (was x:List UInt8×Int)(first:Bool)(w:World)(hx:x.1.length<=140737488355328):
  Calls prog 335 #[Yj was,Yj x,.bool first] w fun e w'=>e=.returned (.bool (wX was x first))/\af w w':=by
 obtain⟨s0,k0⟩:=was;obtain⟨s,k⟩:=x;have hg:=wJ s s0;go_enter func335,ntmps335;go_wp2_with fail;refine(rG s _ hx).mono ?_;rintro e w3 ⟨rfl,hk⟩;have iC:World.blk w3 w.heap.size #[.string ⟨s0.toArray⟩,.int .i64 k0] 351:=ab hk (aG (aw _ _ _) _) id;have hb1:World.blk w3 (w.heap.size+1) #[.string ⟨s.toArray⟩,.int .i64 k] 351:=ab hk (aY (by simp) _ _) id;have c0:w3.cell? ⟨w.heap.size,0,none⟩=some (.string ⟨s0.toArray⟩):=aa iC 0;have c1:w3.cell? ⟨w.heap.size+1,0,none⟩=some (.string ⟨s.toArray⟩):=aa hb1 0;have c2:w3.cell? ⟨w.heap.size+1,1,none⟩=some (.int .i64 k):=aa hb1 1;have HK:=hd0 (dM (dM hk));clear hk iC hb1 hx
 cases hn:aH s with
 |false=>
  have Hv:Hid (wX (s0,k0) (s,k) first=false):=hd0 (by simp[wX,hn]);clear hn;go_wp2;go_ret;exact⟨by rw[Hv.out];first|rfl|(simp;omega)|(simp[h1,h2])|(simp;intros;omega),HK.out⟩
 |true=>
  cases first with
  |true=>
   have Hv:Hid (wX (s0,k0) (s,k) true=(decide (1<=k)&&decide (k<=65535))):=hd0 (by simp[wX,hn]);clear hn;by_cases h1:1<=k
   ·by_cases h2:k<=65535
    ·go_wp2;go_ret;exact⟨by rw[Hv.out];first|rfl|(simp;omega)|(simp[h1,h2])|(simp;intros;omega),HK.out⟩
    ·go_wp2;go_ret;exact⟨by rw[Hv.out];first|rfl|(simp;omega)|(simp[h1,h2])|(simp;intros;omega),HK.out⟩
   ·go_wp2;go_ret;exact⟨by rw[Hv.out];first|rfl|(simp;omega)|(simp[h1,h2])|(simp;intros;omega),HK.out⟩
  |false=>
   have Hv:Hid (wX (s0,k0) (s,k) false=(bytesBefore s0 s&&decide (1<=k)&&decide (k<=65535))):=hd0 (by simp[wX,hn]);clear hn
   cases SW:bytesBefore s0 s with
   |false=>
    rw[SW]at hg Hv;clear SW;go_wp2;go_ret;exact⟨by rw[Hv.out];first|rfl|(simp;omega)|(simp[h1,h2])|(simp;intros;omega),HK.out⟩
   |true=>
    rw[SW]at hg Hv;clear SW;by_cases h1:1<=k
    ·by_cases h2:k<=65535
     ·go_wp2;go_ret;exact⟨by rw[Hv.out];first|rfl|(simp;omega)|(simp[h1,h2])|(simp;intros;omega),HK.out⟩
     ·go_wp2;go_ret;exact⟨by rw[Hv.out];first|rfl|(simp;omega)|(simp[h1,h2])|(simp;intros;omega),HK.out⟩
    ·go_wp2;go_ret;exact⟨by rw[Hv.out];first|rfl|(simp;omega)|(simp[h1,h2])|(simp;intros;omega),HK.out⟩
abbrev P4:Value:=.agg #[.func (.func 335) #[] #[],.func (.func 336) #[] #[],.func (.func 337) #[] #[]]
theorem GO (x:List UInt8×Int)(w:World):
  Calls prog 336 #[Yj x] w fun e w'=>∃ b,e=.returned (.slice (some ⟨b,0,none⟩) 2 2)/\w.heap.size<=b/\af w w'/\World.blk w' b #[.iface 9 (.string ⟨x.1.toArray⟩),.iface 3 (.int .i64 x.2)] 20:=by
 obtain⟨s,k⟩:=x;go_enter func336,ntmps336;go_wp2;go_ret;exact⟨_,rfl,by omega,((ah.refl _ _).alloc _).alloc _,aY (by simp) _ _⟩
theorem P5 (w:World):
  Calls prog 304 #[] w fun e w'=>e=.returned P4/\af w w':=by
 go_enter func304,ntmps304;go_wp2_with fail;exact auj (v:=P4) (by simp[results,Tryz.results304,go_sem]) rfl ⟨rfl,(ah.refl _ _).alloc _⟩
end
section
open Go.RowKit
def jH (was:Option (List UInt8))(l:Nm):Option (List UInt8):=match l.getLast? with|some p=>some p.1|none=>was
theorem ni (a b:Nm):∀ was,fT was (a++b)=(fT was a&&fT (jH was a) b):=by
 induction a with
 |nil=>intro was;simp[fT,jH]
 |cons p r ih=>
  intro was;have e:jH (some p.1) r=jH was (p::r):=by
   cases r with
   |nil=>simp[jH]
   |cons q r=>
    unfold jH;rw[List.getLast?_cons_cons]
    cases h:(q::r).getLast? with
    |none=>simp at h
    |some y=>rfl
  rw[aur,fT,ih,fT,e,Bool.and_assoc]
theorem kp {α:Type}{l:List α}{k:Nat}{x:α}(h:l[k]?=some x):l.take (k+1)=l.take k++[x]:=by
 rw[atK,h];rfl
theorem nk {l:Nm}{k:Nat}{x:List UInt8×Int}(h:l[k]?=some x):fT none (l.take (k+1))=(fT none (l.take k)&&vL (jH none (l.take k)) x):=by
 rw[kp h,ni];simp[fT]
theorem P7 {l:Nm}{k:Nat}{x:List UInt8×Int}(h:l[k]?=some x)(h2:vL (jH none (l.take k)) x=false):oI l=false:=by
 have e:fT none l=(fT none (l.take (k+1))&&fT (jH none (l.take (k+1))) (l.drop (k+1))):=by
  rw[<-ni,List.take_append_drop]
 unfold oI;rw[e,nk h,h2];simp
def gD (l:Nm)(k:Nat):List UInt8×Int:=(l.take k).getLastD ([],0)
theorem Ui {l:Nm}{k:Nat}(x:List UInt8×Int)(hk:k<=l.length):wX (gD l k) x (decide (k=0))=vL (jH none (l.take k)) x:=by
 cases k with
 |zero=>simp[wX,vL,jH]
 |succ k=>
  obtain⟨y,hy⟩:∃ y,l[k]?=some y:=⟨_,atI (by omega)⟩
  simp[wX,vL,jH,gD,kp hy]
theorem GP {l:Nm}{k:Nat}{x:List UInt8×Int}(h:l[k]?=some x):gD l (k+1)=x:=by
 unfold gD;rw[kp h];simp
theorem zO (s:ByteArray)(W:World):(Instr.typeAssert (.iface 9 (.string s)) 20 3 true).run prog W=.ok (.tuple #[.int .i64 0,.bool false]) W:=by kernel_rfl
theorem wY (s:ByteArray)(W:World):(Instr.typeAssert (.iface 9 (.string s)) 20 9 true).run prog W=.ok (.tuple #[.string s,.bool true]) W:=by kernel_rfl
theorem qG (n:Int)(W:World):(Instr.typeAssert (.iface 3 (.int .i64 n)) 20 3 true).run prog W=.ok (.tuple #[.int .i64 n,.bool true]) W:=by kernel_rfl
def rH (l:Nm):Value:=if oI l=true then .tuple #[.string ⟨(l6 l).toArray⟩,.int .i64 0]else .tuple #[.string ⟨#[]⟩,.int .i64 120]
theorem P8 {l:Nm}:∀ was,fT was l=true->(l.flatMap lK).length<=l.length*34:=by
 induction l with
 |nil=>intro _ _;simp
 |cons p r ih=>
  intro was h;rw[fT,at2]at h;have h2:=ih _ h.2;have h1:=h.1;simp only[vL,aH,at2,aua]at h1;have e1:=bG (n:=p.1.length) (by have:=h1.1.1.1.1.1.2;omega);have e2:=bG (n:=p.2.toNat) (by have:=h1.2;omega);have e3:p.1.length<=16:=h1.1.1.1.1.1.2;rw[aus,at0,atH];have:(lK p).length<=34:=by unfold lK;simp;omega
  omega
theorem JH {l:Nm}{k:Nat}{pre:List UInt8}(h:aO l.length++(l.take k).flatMap lK=pre)(hl:l.length<=4096)(he:fT none (l.take (k+1))=true):pre.length<=1000000:=by
 have h2:fT none (l.take k)=true:=by
  rw[<-List.take_append_drop k (l.take (k+1)),ni,at2]at he;have:=he.1
  rwa [List.take_take,Nat.min_eq_left (by omega)]at this
 have h3:=P8 _ h2;have h4:=bG (n:=l.length) (by omega);have h5:(l.take k).length<=4096:=by rw[atO];omega
 rw[<-h,at0];omega
theorem P9 (l:Nm)(v:Value)(w:World)(cH:jY GK 2 w v l)(hl:l.length<=1000000000)(hs:∀ p∈l,p.1.length<=1000000000/\-9223372036854775808<=p.2/\p.2<=9223372036854775807):
  Calls prog 303 #[P4,v] w fun e w'=>e=.returned (rH l)/\af w w':=by
 obtain⟨a,cap,rfl,hx⟩:=cH;have HX:=hd0 hx;have HS:=hd0 hs;clear hx hs;by_cases aU:l.length<=4096
 ·have h1:¬(4096:Int)<l.length:=by omega
  have Hl:=hd0 aU;clear aU hl;go_enter func303,ntmps303;go_wp2_with fail;refine(lN l.length _ (by have:=Hl.out;omega)).mono ?_;rintro e w2 ⟨rfl,dc⟩;have Sj:Hid (World.blk w2 w.heap.size #[.func (.func 335) #[] #[],.func (.func 336) #[] #[],.func (.func 337) #[] #[]] 400):=hd0 (ab dc (aG (aw _ _ _) _) id);have WL:Hid (cZ (w.heap.size+1) (w.heap.size+1) [] w2):=hd0 (by
   have h:=mX (w.alloc (.cells #[.func (.func 335) #[] #[],.func (.func 336) #[] #[],.func (.func 337) #[] #[]] 400));rw[show(w.alloc (.cells #[.func (.func 335) #[] #[],.func (.func 336) #[] #[],.func (.func 337) #[] #[]] 400)).heap.size=w.heap.size+1 by simp]at h;exact co h dc)
  have bu:=hd0 (dM (dM dc));have lD:=dc.size;simp at lD;clear dc;go_wp2_with fail;refine(jh (w.heap.size+1) (w.heap.size+1) [] (aO l.length) w2 WL.out (by have:=bG (n:=l.length) (by have:=Hl.out;omega);simp;omega) (by omega)).mono ?_;rintro e w3 ⟨rfl,us,xS,ln⟩;have Fm:=hd0 (ab ln Sj.out (cO (by omega) Sj.out (by decide)));have nW:=hd0 us;have dT:=hd0 (cY bu.out xS (by omega));have BH:=xS.size;rw[aul]at nW;clear us xS ln Sj WL bu;go_wp2_with fail;obtain⟨wb,IR⟩:∃ wb,wb=w3.heap.size:=⟨_,rfl⟩
  have Wo:Hid (World.blk (w3.alloc (.cells #[.string ⟨#[]⟩,.int .i64 0] 351)) wb #[.string ⟨#[]⟩,.int .i64 0] 351):=hd0 (aY IR _ _);have Wx:=hd0 (aG Fm.out (.cells #[.string ⟨#[]⟩,.int .i64 0] 351));have nG:=hd0 (co nW.out ((ah.refl (fun _=>False) w3).alloc (.cells #[.string ⟨#[]⟩,.int .i64 0] 351)));have dN:=hd0 (dT.out.alloc (.cells #[.string ⟨#[]⟩,.int .i64 0] 351));have ac3:w.heap.size+2<=wb:=by omega
  clear Fm nW dT;rw[<-IR];generalize w3.alloc (.cells #[.string ⟨#[]⟩,.int .i64 0] 351)=w4 at*;clear IR BH lD
  go_loopw [30] (fun i wr=>∃ k:Nat,k<=l.length/\i=.int .i64 (k:Int)/\af w wr/\World.blk wr w.heap.size #[.func (.func 335) #[] #[],.func (.func 336) #[] #[],.func (.func 337) #[] #[]] 400/\World.blk wr wb #[.string ⟨(gD l k).1.toArray⟩,.int .i64 (gD l k).2] 351/\cZ (w.heap.size+1) (w.heap.size+1) (aO l.length++(l.take k).flatMap lK) wr/\Hid (fT none (l.take k)=true)) (fun i _=>l.length-(intOf i).toNat)
  case atStart=>exact⟨0,by omega,rfl,dN.out,Wx.out,Wo.out,by simpa using nG.out,hd0 rfl⟩
  case round=>
   clear Wx Wo nG dN;obtain⟨k,hk,rfl,hK,hF,hW,hB,He⟩:=hrel;have HK:=hd0 hK;have HF:=hd0 hF;have HW:=hd0 hW;have HB:=hd0 hB;clear hK hF hW hB;by_cases aM:k<l.length
   ·obtain⟨x,hx⟩:∃ x,l[k]?=some x:=⟨_,atI aM⟩
    have Hx:=hd0 hx;clear hx;obtain⟨b,o,rfl,hc⟩:=HX.out k x Hx.out;have c0:wr.cell? ⟨b,o+k*2,none⟩=some (.string ⟨x.1.toArray⟩):=by have h:=hc 0 _ rfl;rw[HK.out.cell (p:=⟨b,o+k*2,none⟩) (am h) id];exact h
    have c1:wr.cell? ⟨b,o+k*2+1,none⟩=some (.int .i64 x.2):=by have h:=hc 1 _ rfl;rw[HK.out.cell (p:=⟨b,o+k*2+1,none⟩) (am h) id];exact h
    have f0:wr.cell? ⟨w.heap.size,0,none⟩=some (.func (.func 335) #[] #[]):=aa HF.out 0;have f1:wr.cell? ⟨w.heap.size,1,none⟩=some (.func (.func 336) #[] #[]):=aa HF.out 1;have g0:wr.cell? ⟨wb,0,none⟩=some (.string ⟨(gD l k).1.toArray⟩):=aa HW.out 0;have g1:wr.cell? ⟨wb,1,none⟩=some (.int .i64 (gD l k).2):=aa HW.out 1;obtain⟨fb,hq⟩:∃ fb,((k:Int)==0)=fb:=⟨_,rfl⟩
    have z0:w.heap.size<wr.heap.size:=ai HF.out;have z1:wb<wr.heap.size:=ai HW.out;clear hc;go_wp2_with fail;refine(Uh (gD l k) x fb _ (by have:=(HS.out x (atJ Hx.out)).1;omega)).mono ?_;rintro e w5 ⟨rfl,mi⟩;have Fo:=hd0 (ab mi (aG HF.out _) id);have mS:=hd0 (ab mi (aG HW.out _) id);have uy:=hd0 (ab mi (aw wr _ _) id);have Fa:=hd0 (co HB.out (dM mi));have j7:=hd0 (HK.out.keep (dM mi));have Fb:=mi.size;simp at Fb;have Hm:=hd0 (Ui (l:=l) (k:=k) x (by omega));have Hq:Hid (fb=decide (k=0)):=hd0 (by rw[<-hq,aut];simp);clear mi c0 c1 f0 f1 g0 g1 z0 HF HW HB HK hq
    cases hmy:wX (gD l k) x fb with
    |false=>
     have Hv:Hid (rH l=.tuple #[.string ⟨#[]⟩,.int .i64 120]):=hd0 (by
      rw[Hq.out,Hm.out]at hmy;simp[rH,P7 Hx.out hmy])
     clear hmy;go_wp2;go_ret2;exact⟨by rw[Hv.out];rfl,j7.out⟩
    |true=>
     have Vj:Hid (fT none (l.take (k+1))=true):=hd0 (by
      rw[Hq.out,Hm.out]at hmy;rw[nk Hx.out,He.out,hmy];rfl)
     clear hmy;generalize wr.heap.size=xb at*;have f1:w5.cell? ⟨w.heap.size,1,none⟩=some (.func (.func 336) #[] #[]):=aa Fo.out 1;have g0:w5.frozen? ⟨wb,0,none⟩=false:=ae mS.out _ rfl;have g1:w5.frozen? ⟨wb,1,none⟩=false:=ae mS.out _ rfl;have g2:w5.cell? ⟨wb,0,none⟩=some (.string ⟨(gD l k).1.toArray⟩):=aa mS.out 0;have g3:w5.cell? ⟨wb,1,none⟩=some (.int .i64 (gD l k).2):=aa mS.out 1;have e0:w5.cell? ⟨xb,0,none⟩=some (.string ⟨x.1.toArray⟩):=aa uy.out 0;have e1:w5.cell? ⟨xb,1,none⟩=some (.int .i64 x.2):=aa uy.out 1;have n1:¬ w.heap.size=wb:=by omega
     have n2:¬ xb=wb:=by omega
     go_wp2_with fail;refine(GO x _).mono ?_;rintro e w7 ⟨pb,rfl,mL,rg,pk⟩;have rc:ah (·=wb) w5 ((w5.setCell ⟨wb,0,none⟩ (.string ⟨x.1.toArray⟩)).setCell ⟨wb,1,none⟩ (.int .i64 x.2)):=((ah.refl (fun y=>y=wb) w5).setCell (p:=⟨wb,0,none⟩) (.inl rfl) _).setCell (p:=⟨wb,1,none⟩) (.inl rfl) _;have WS:=hd0 (ab rg (ab rc Fo.out n1) id);have Kg:=hd0 (co (uF Fa.out rc (by omega) (fun q c fr hq e=>by
      subst e;have:=mS.out;unfold World.blk at this;rw[this]at hq
      cases hq)) rg)
     have Ws:Hid (World.blk w7 wb #[.string ⟨x.1.toArray⟩,.int .i64 x.2] 351):=hd0 (ab rg (ag (ag mS.out 0 _) 1 _) id);have yi:=hd0 ((j7.out.new rc (by omega)).keep rg);have BW:=hd0 pk;have hpw:wb<pb:=by
      have h:=ai mS.out;have e:((w5.setCell ⟨wb,0,none⟩ (.string ⟨x.1.toArray⟩)).setCell ⟨wb,1,none⟩ (.int .i64 x.2)).heap.size=w5.heap.size:=by simp[World.setCell]
      omega
     have Rp:x.1.length<=16:=by
      have h:=Vj.out;rw[nk Hx.out]at h;simp only[at2,vL,aH,aua]at h;exact h.2.1.1.1.1.1.2
     have sj:1<=x.2/\x.2<=65535:=by
      have h:=Vj.out;rw[nk Hx.out]at h;simp only[at2,vL,aua]at h;exact⟨h.2.1.2,h.2.2⟩
     clear rg pk rc f1 g0 g1 g2 g3 e0 e1 n1 n2 Fo mS uy Fa j7 Fb mL He Hm Hq;generalize ut:aO l.length++(l.take k).flatMap lK=pre at*;have I3:=hd0 ut;clear ut;go_wp2_with fail
     go_loopw [49] (fun i wr=>∃ j:Nat,j<=2/\i=.int .i64 (j:Int)/\af w wr/\World.blk wr w.heap.size #[.func (.func 335) #[] #[],.func (.func 336) #[] #[],.func (.func 337) #[] #[]] 400/\World.blk wr wb #[.string ⟨x.1.toArray⟩,.int .i64 x.2] 351/\World.blk wr pb #[.iface 9 (.string ⟨x.1.toArray⟩),.iface 3 (.int .i64 x.2)] 20/\cZ (w.heap.size+1) (w.heap.size+1) (pre++(if j=0 then []else if j=1 then aO x.1.length++x.1 else lK x)) wr) (fun i _=>2-(intOf i).toNat)
     case atStart=>exact⟨0,by omega,rfl,yi.out,WS.out,Ws.out,BW.out,by simpa using Kg.out⟩
     case round=>
      clear WS Kg Ws yi BW;obtain⟨j,hj,rfl,hK,hF,hW,hP,hB⟩:=hrel;have HK:=hd0 hK;have HF:=hd0 hF;have HW:=hd0 hW;have HP:=hd0 hP;have HB:=hd0 hB;have p0:wr.cell? ⟨pb,0,none⟩=some (.iface 9 (.string ⟨x.1.toArray⟩)):=aa hP 0;have p1:wr.cell? ⟨pb,1,none⟩=some (.iface 3 (.int .i64 x.2)):=aa hP 1;clear hK hF hW hP hB;rcases(by omega:j=0\/j=1\/j=2)with rfl|rfl|rfl
      ·have a0:=zO ⟨x.1.toArray⟩;have a1:=wY ⟨x.1.toArray⟩;go_wp2_with fail;refine(sT x.1 _ (by omega)).mono ?_;rintro e w8 ⟨rfl,lA⟩;have BK:=hd0 (ab lA HF.out id);have uQ:=hd0 (ab lA HW.out id);have rT:=hd0 (ab lA HP.out id);have Bn:Hid (cZ (w.heap.size+1) (w.heap.size+1) pre w8):=hd0 (by have h:=co HB.out lA;simpa using h);have rR:=hd0 (HK.out.keep lA);have Nv:Hid (pre.length<=1000000):=hd0 (JH I3.out Hl.out Vj.out);clear lA HF HW HP HB HK p0 p1 a0 a1;go_wp2_with fail;refine(jh (w.heap.size+1) (w.heap.size+1) pre (aO x.1.length++x.1) w8 Bn.out (by have:=bG (n:=x.1.length) (by omega);have:=Nv.out;simp;omega) (by have:=ai uQ.out;omega)).mono ?_;rintro e w9 ⟨rfl,Kb,so,tx⟩;have V2:=hd0 (ab tx BK.out (cO (by omega) BK.out (by decide)));have Vx:=hd0 (ab tx uQ.out (cO (by omega) uQ.out (by decide)));have po:=hd0 (ab tx rT.out (cO (by omega) rT.out (by decide)));have N9:=hd0 Kb;have Bu:=hd0 (cY rR.out so (by omega));clear Kb so tx BK uQ rT Bn rR;go_wp2_with fail;refine⟨⟨1,by omega,rfl,Bu.out,V2.out,Vx.out,po.out,by simpa using N9.out⟩,by decide⟩
      ·obtain⟨m,hm⟩:∃ m:Nat,x.2=m:=⟨x.2.toNat,by omega⟩
       have Hm:=hd0 hm;rw[hm]at p1;have a0:=qG m;have yU:m<=65535:=by omega
       clear hm;go_wp2_with fail;refine(lN m _ (by omega)).mono ?_;rintro e w8 ⟨rfl,lA⟩;have BK:=hd0 (ab lA HF.out id);have uQ:=hd0 (ab lA HW.out id);have rT:=hd0 (ab lA HP.out id);have Bn:Hid (cZ (w.heap.size+1) (w.heap.size+1) (pre++(aO x.1.length++x.1)) w8):=hd0 (by have h:=co HB.out lA;simpa using h);have rR:=hd0 (HK.out.keep lA);have Nv:Hid (pre.length<=1000000):=hd0 (JH I3.out Hl.out Vj.out);clear lA HF HW HP HB HK p0 p1 a0;go_wp2_with fail;refine(jh (w.heap.size+1) (w.heap.size+1) _ (aO m) w8 Bn.out (by have:=bG (n:=x.1.length) (by omega);have:=bG (n:=m) (by omega);have:=Nv.out;simp;omega) (by have:=ai uQ.out;omega)).mono ?_;rintro e w9 ⟨rfl,Kb,so,tx⟩;have V2:=hd0 (ab tx BK.out (cO (by omega) BK.out (by decide)));have Vx:=hd0 (ab tx uQ.out (cO (by omega) uQ.out (by decide)));have po:=hd0 (ab tx rT.out (cO (by omega) rT.out (by decide)));have N9:Hid (cZ (w.heap.size+1) (w.heap.size+1) (pre++lK x) w9):=hd0 (by
        have e:pre++lK x=pre++(aO x.1.length++x.1)++aO m:=by rw[lK,Hm.out,auo];simp
        rw[e];exact Kb)
       have Bu:=hd0 (cY rR.out so (by omega));clear Kb so tx BK uQ rT Bn rR;go_wp2_with fail;refine⟨⟨2,by omega,rfl,Bu.out,V2.out,Vx.out,po.out,by simpa using N9.out⟩,by decide⟩
      ·clear p0 p1;go_wp2_with fail;refine⟨⟨k+1,by omega,by go_num,HK.out,HF.out,by rw[GP Hx.out];exact HW.out,?_,Vj⟩,by simp[intOf];omega⟩;have h:=HB.out;rw[kp Hx.out];simp only[atZ,aus,List.flatMap_nil,List.append_nil];rw[<-auu,I3.out];simpa using h
   ·obtain rfl:k=l.length:=by omega
    have jd:Hid (cZ (w.heap.size+1) (w.heap.size+1) (l6 l) wr):=hd0 (by have h:=HB.out;rwa [atM]at h);have Hv:Hid (rH l=.tuple #[.string ⟨(l6 l).toArray⟩,.int .i64 0]):=hd0 (by
     have h:=He.out;rw[atM]at h;simp[rH,oI,h,Hl.out])
    go_wp2_with fail;refine(gG (w.heap.size+1) (w.heap.size+1) (l6 l) wr jd.out (by have:=ai HW.out;omega)).mono ?_;rintro e w6 ⟨rfl,re⟩;have tD:=hd0 (cY HK.out re (by omega));clear re;go_wp2;go_ret2;exact⟨by rw[Hv.out];rfl,tD.out⟩
 ·have h1:(4096:Int)<l.length:=by omega
  have Hv:Hid (rH l=.tuple #[.string ⟨#[]⟩,.int .i64 120]):=hd0 (by simp[rH,oI,aU]);clear aU hl;go_enter func303,ntmps303;go_wp2;go_ret2;exact⟨by rw[Hv.out];rfl,(ah.refl _ _).alloc _⟩
end
end Go.Proofs.YtkghpdcloaiflaaGreatDoor
