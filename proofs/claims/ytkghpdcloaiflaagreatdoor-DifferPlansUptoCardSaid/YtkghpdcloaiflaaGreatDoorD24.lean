import Derived.Test.YtkghpdcloaiflaaGreatDoorD23
import Derived.Laws.EntriesVeiled
set_option maxHeartbeats 4000000
set_option maxRecDepth 100000
namespace Go.Proofs.YtkghpdcloaiflaaGreatDoor
open _root_.Go.Proofs.Tryz
section
open Go.RowKit Go.Maps Go.Sort Go.Shelf
theorem Y5 (m:Nat):AnyZ.SortsIn prog Tryz.sortedS_ren Fence.wide m:=
 ⟨fun blk off cap ss W hH yY cJ=>avo.2 (AnyM.slices_Sort_string Tryz.sortS blk off cap ss W hH yY cJ),
  fun p cap W=>avo.2 (AnyM.slices_Sort_string_none Tryz.sortS p cap W)⟩
theorem Y6 (m:Nat):AnyZI.SortsIn prog Tryz.sortedI_ren Fence.wide m:=
 ⟨fun blk off cap ss W hH yY cJ=>avo.2 (AnyM.slices_Sort_int Tryz.sortI blk off cap ss W hH yY cJ),
  fun p cap W=>avo.2 (AnyM.slices_Sort_int_none Tryz.sortI p cap W)⟩
theorem Ad:∀(a b:List UInt8),bytesBefore a b=true->a<b
 |[],[],h=>by cases h
 |[],_::_,_=>List.nil_lt_cons _ _
 |_::_,[],h=>by cases h
 |x::r,y::s,h=>by
  simp only[bytesBefore,au6,au9,au4,avq]at h;rw[List.cons_lt_cons_iff];rcases h with h|⟨h1,h2⟩
  ·exact .inl h
  ·exact .inr ⟨h1,Ad r s h2⟩
theorem Eb {l:Nm}(hs:fq l){ss:List (List UInt8)}(hp:ss.Perm (l.map (·.1))):ss.mergeSort (fun x y=>decide (x<=y))=l.map (·.1):=by
 rw[mergeSort_of_perm hp];refine List.mergeSort_of_pairwise ?_;rw[List.pairwise_map];exact hs.imp fun h=>by simpa[leB]using List.le_of_lt (Ad _ _ h)
theorem Ec {l:List Int}(hs:l.Pairwise (·<·)){ss:List Int}(hp:ss.Perm l):ss.mergeSort (fun x y=>decide (x<=y))=l:=by
 rw[mergeSort_of_perm_i hp];refine List.mergeSort_of_pairwise ?_;exact hs.imp fun h=>by simp[leI];omega
theorem Mi (mb:Option Nat)(W:World):Calls prog 302 #[.map mb] W fun e w'=>e=.returned (.func (.func 334) #[] #[.pointer (some ⟨W.heap.size,0,none⟩)])/\w'=W.alloc (.cells #[.map mb] 244):=
 avo.1 (AnyZ.keys_in Tryz.keysS Fence.wide 5 trivial rfl mb W)
theorem Mj (mb:Option Nat)(W:World):Calls prog 204 #[.map mb] W fun e w'=>e=.returned (.func (.func 256) #[] #[.pointer (some ⟨W.heap.size,0,none⟩)])/\w'=W.alloc (.cells #[.map mb] 247):=
 avo.1 (AnyZI.keys_in Tryz.keysI Fence.wide 5 trivial rfl mb W)
theorem Ed (b:Nat)(l:Nm)(w:World)(h:If w b l)(hs:fq l)(hl:l.length<=1000000):
  Calls prog 301 #[.func (.func 334) #[] #[.pointer (some ⟨w.heap.size,0,none⟩)]] (w.alloc (.cells #[.map (some b)] 244)) fun e w'=>∃ v,e=.returned v/\iA w' w.heap.size v (l.map (·.1))/\af w w':=by
 have ru:=h.lt;have Jt:SeqGives Fence.wide 2 prog 334 #[.pointer (some ⟨w.heap.size,0,none⟩)] encStr (fun ss=>ss.Perm (strKeys (Ot l))) (Maps.size (Ot l)) (w.alloc (.cells #[.map (some b)] 244)):=
  AnyZ.keys_gives (ρ:=Tryz.keysS_ren) { Tryz.keysS with } Fence.wide _ trivial rfl (by omega) w.heap.size b l.length (Ot l) _ (by simp) (by simp) (World.ownsMap.alloc h _)
 have cS:=AnyZ.sorted_in Tryz.sortedS Fence.wide 5 trivial trivial trivial trivial rfl (by omega) (Y5 _) (enters_of func333 (by kernel_rfl) rfl) 334 #[.pointer (some ⟨w.heap.size,0,none⟩)] trivial (enters_of func334 (by kernel_rfl) rfl) _ _ (by rw[eT];unfold maxLen;omega) (by rw[eT];omega) _ Jt;refine(avo.1 cS).mono ?_;rintro e w' ⟨v,ss,rfl,hS,co,aai,hb⟩;have hk:strKeys (Ot l)=l.map (·.1):=by
  show(l.map fun p=>((Lit.string p.1,oL p.2):Lit×DataW Value)).map (fun p=>strOf p.1)=_;rw[avb];rfl
 rw[hk]at hS;rw[Eb hs hS]at co;refine⟨v,rfl,?_,dU (ah.ofBelow hb)⟩;have aW:ss.length=(l.map (·.1)).length:=hS.length_eq;unfold iA;rw[<-aW,ub];exact eX co (by simp)
theorem Ef (b:Nat)(l:List (Int×Nat))(w:World)(h:Mh w b l)(hs:(l.map (·.1)).Pairwise (·<·))(hl:l.length<=1000000):
  Calls prog 203 #[.func (.func 256) #[] #[.pointer (some ⟨w.heap.size,0,none⟩)]] (w.alloc (.cells #[.map (some b)] 247)) fun e w'=>∃ v,e=.returned v/\aI w' w.heap.size v (l.map (·.1))/\af w w':=by
 have ru:=h.lt;have Jt:SeqGives Fence.wide 2 prog 256 #[.pointer (some ⟨w.heap.size,0,none⟩)] encZ (fun ss=>ss.Perm (intKeys (Ou l))) (Maps.size (Ou l)) (w.alloc (.cells #[.map (some b)] 247)):=
  AnyZI.keys_gives (ρ:=Tryz.keysI_ren) { Tryz.keysI with } Fence.wide _ trivial rfl (by omega) w.heap.size b l.length (Ou l) _ (by simp) (by simp) (World.ownsMap.alloc h _)
 have cS:=AnyZI.sorted_in Tryz.sortedI Fence.wide 5 trivial trivial trivial trivial rfl (by omega) (Y6 _) (enters_of func255 (by kernel_rfl) rfl) 256 #[.pointer (some ⟨w.heap.size,0,none⟩)] trivial (enters_of func256 (by kernel_rfl) rfl) _ _ (by rw[eT];unfold maxLen;omega) (by rw[eT];omega) _ Jt;refine(avo.1 cS).mono ?_;rintro e w' ⟨v,ss,rfl,hS,co,aai,hb⟩;have hk:intKeys (Ou l)=l.map (·.1):=by
  show(l.map fun p=>((Lit.int .i64 p.1,yH p.2):Lit×DataW Value)).map (fun p=>Go.intOf p.1)=_;rw[avb];rfl
 rw[hk]at hS;rw[Ec hs hS]at co;refine⟨v,rfl,?_,dU (ah.ofBelow hb)⟩;have aW:ss.length=(l.map (·.1)).length:=hS.length_eq;unfold aI;rw[<-aW];exact eX co (by simp)
end
section
open Go.RowKit
theorem gR {n:Nat}(h:n<128):aM n=[UInt8.ofNat n]:=by rw[aM,dif_pos h]
theorem mK {n:Nat}(h:¬ n<128):aM n=UInt8.ofNat (n%128+128)::aM (n/128):=by rw[aM,dif_neg h]
theorem eF:∀(k n:Nat),n<128 ^ (k+1)->(aM n).length<=k+1:=by
 intro k
 induction k with
 |zero=>intro n h;rw[gR (by omega)];simp
 |succ k ih=>
  intro n h;by_cases h1:n<128
  ·rw[gR h1];simp
  ·rw[mK h1,auL];have:=ih (n/128) (by rw[ave]at h;omega);omega
theorem bf {n:Nat}(h:n<9223372036854775808):(aM n).length<=9:=eF 8 n (by simpa using h)
theorem J1 (n:Nat)(hn:n<9223372036854775808)(w:World):
  Calls prog 164 #[.slice none 0 0,.int .i64 (n:Int)] w fun e w'=>∃ v,e=.returned v/\af w w'/\bP w' w.heap.size v (aM n):=by
 have Hn:=hd0 hn;go_enter func164,ntmps164;go_wp2_with fail
 go_loopw [0,1] (fun v i wr=>∃(pre:List UInt8) (m:Nat),m<=n/\i=.int .i64 (m:Int)/\af w wr/\w.heap.size<=wr.heap.size/\Hid (aM n=pre++aM m)/\bP wr w.heap.size v pre) (fun _ i _=>(intOf i).toNat)
 case atStart=>exact⟨[],n,auP _,rfl,ah.refl _ _,auP _,hd0 rfl,rfl,.inl ⟨rfl,rfl⟩⟩
 case round=>
  obtain⟨pre,m,hm,rfl,hK,cJ,He,hV⟩:=hrel;have HK:=hd0 hK;have HV:=hd0 hV;have Hl:Hid (pre.length<=9):=hd0 (by have:=bf Hn.out;rw[He.out,au3]at this;omega);clear hK hV;by_cases h:m<128
  ·have h1:¬(128:Int)<=m:=by omega
   have e8:((UInt8.ofNat m).toNat:Int)=m:=by simp;omega
   obtain⟨v2,w2,hr,ho,df⟩:=tY (P:=prog) underlying131 ke w.heap.size u0 _ pre wr w HV.out (UInt8.ofNat m) (by have:=Hl.out;omega) cJ HK.out (auP _);rw[e8]at hr;have Hr:=hd0 hr;have Ho:=hd0 ho;have WA:=hd0 df;have Ee:=hd0 (gR h);clear hr ho df h e8;go_wp2_with ((at_builtin;refine az Hr.out rfl rfl rfl rfl ?_));go_ret;refine⟨_,rfl,WA.out,?_⟩;have e:aM n=pre++[UInt8.ofNat m]:=by rw[He.out,Ee.out]
   have e2:(pre++[UInt8.ofNat m]).length=pre.length+1:=by simp
   rw[e];unfold bP;rw[e2];exact Ho.out
  ·have h1:(128:Int)<=m:=by omega
   have e8:((UInt8.ofNat (m%128+128)).toNat:Int)=(m:Int)%128+128:=by simp;omega
   obtain⟨v2,w2,hr,ho,df⟩:=tY (P:=prog) underlying131 ke w.heap.size u0 _ pre wr w HV.out (UInt8.ofNat (m%128+128)) (by have:=Hl.out;omega) cJ HK.out (auP _);rw[e8]at hr;have Hr:=hd0 hr;have Ho:=hd0 ho;have WA:=hd0 df;have lG:=df.size;have Ee:=hd0 (mK h);clear hr ho df h e8;go_wp2_with ((at_builtin;refine az Hr.out rfl rfl rfl rfl ?_));refine⟨⟨pre++[UInt8.ofNat (m%128+128)],m/128,by omega,by rw[show((m/128:Nat):Int)=(m:Int)/128 by omega],WA.out,by omega,hd0 (by rw[He.out,Ee.out];simp),?_⟩,by simp[intOf];omega⟩;have e2:(pre++[UInt8.ofNat (m%128+128)]).length=pre.length+1:=by simp
   unfold bP;rw[e2];exact Ho.out
theorem Qw (n:Int)(w:World)(hn:-9223372036854775808<=n/\n<=9223372036854775807):
  Calls prog 84 #[.int .i64 n] w fun e w'=>e=.returned (if 0<=n/\n<=4611686018427387903 then .tuple #[.string ⟨(aM n.toNat).toArray⟩,.int .i64 0]else .tuple #[.string ⟨#[]⟩,.int .i64 31])/\af w w':=by
 by_cases h:0<=n/\n<=4611686018427387903
 ·rw[auT h];obtain⟨h1,h2⟩:=h;have h3:¬ n<0:=by omega
  have h4:¬ 4611686018427387903<n:=by omega
  obtain⟨m,rfl⟩:∃ m:Nat,n=m:=⟨n.toNat,by omega⟩
  have hm:m<9223372036854775808:=by omega
  clear h2 hn;go_enter func84,ntmps84;go_wp2_with fail;refine(J1 m hm _).mono ?_;rintro e w1 ⟨v,rfl,hk,ho⟩;have hr:=lN ho;have Hk:=hd0 hk;clear ho hk;go_wp2;go_ret2;exact⟨rfl,Hk.out⟩
 ·rw[auV h];have h5:n<0\/4611686018427387903<n:=by omega
  clear h;by_cases h1:n<0
  ·go_enter func84,ntmps84;go_wp2;go_ret2;exact⟨rfl,ah.refl _ _⟩
  ·have h2:4611686018427387903<n:=by omega
   clear h5;go_enter func84,ntmps84;go_wp2;go_ret2;exact⟨rfl,ah.refl _ _⟩
theorem lU (n:Nat)(w:World)(hn:n<=4611686018427387903):
  Calls prog 84 #[.int .i64 (n:Int)] w fun e w'=>e=.returned (.tuple #[.string ⟨(aM n).toArray⟩,.int .i64 0])/\af w w':=by
 refine(Qw n w (by omega)).mono fun e w' ⟨h1,h2⟩=>⟨?_,h2⟩
 rw[auT (by omega)]at h1;rw[h1,avn]
theorem tu (s:List UInt8)(w:World)(hs:s.length<=65536):
  Calls prog 85 #[.string ⟨s.toArray⟩] w fun e w'=>e=.returned (.tuple #[.string ⟨(aM s.length++s).toArray⟩,.int .i64 0])/\af w w':=by
 have h1:¬(65536:Int)<s.length:=by omega
 have Hm:Hid (s.length<9223372036854775808):=hd0 (by omega);have h2:(s.length:Int)<=9223372036854775807:=by omega
 clear hs;go_enter func85,ntmps85;go_wp2_with fail;refine(J1 s.length Hm.out _).mono ?_;rintro e w1 ⟨v,rfl,hk,ho⟩;have hr:=lN ho;have Hk:=hd0 hk;clear ho hk;have hb:¬ 9223372036854775807<(aM s.length).length+s.length:=by have:=bf Hm.out;omega
 go_wp2;go_ret2;exact⟨rfl,Hk.out⟩
end
section
open Go.RowKit
def xo (was x:List UInt8×Int)(first:Bool):Bool:=aG x.1&&(first||bytesBefore was.1 x.1)&&decide (1<=x.2)&&decide (x.2<=65535)
theorem U4 (was x:List UInt8×Int)(first:Bool)(w:World)(hx:x.1.length<=140737488355328):
  Calls prog 335 #[Y3 was,Y3 x,.bool first] w fun e w'=>e=.returned (.bool (xo was x first))/\af w w':=by
 obtain⟨s0,k0⟩:=was;obtain⟨s,k⟩:=x;have hg:=xg s s0;go_enter func335,ntmps335;go_wp2_with fail;refine(rW s _ hx).mono ?_;rintro e w3 ⟨rfl,hk⟩;have iJ:World.blk w3 w.heap.size #[.string ⟨s0.toArray⟩,.int .i64 k0] 351:=ab hk (aH (aw _ _ _) _) id;have hb1:World.blk w3 (w.heap.size+1) #[.string ⟨s.toArray⟩,.int .i64 k] 351:=ab hk (bi (by simp) _ _) id;have c0:w3.cell? ⟨w.heap.size,0,none⟩=some (.string ⟨s0.toArray⟩):=aa iJ 0;have c1:w3.cell? ⟨w.heap.size+1,0,none⟩=some (.string ⟨s.toArray⟩):=aa hb1 0;have c2:w3.cell? ⟨w.heap.size+1,1,none⟩=some (.int .i64 k):=aa hb1 1;have HK:=hd0 (dU (dU hk));clear hk iJ hb1 hx
 cases hn:aG s with
 |false=>
  have Hv:Hid (xo (s0,k0) (s,k) first=false):=hd0 (by simp[xo,hn]);clear hn;go_wp2;go_ret;exact⟨by rw[Hv.out];first|rfl|(simp;omega)|(simp[h1,h2])|(simp;intros;omega),HK.out⟩
 |true=>
  cases first with
  |true=>
   have Hv:Hid (xo (s0,k0) (s,k) true=(decide (1<=k)&&decide (k<=65535))):=hd0 (by simp[xo,hn]);clear hn;by_cases h1:1<=k
   ·by_cases h2:k<=65535
    ·go_wp2;go_ret;exact⟨by rw[Hv.out];first|rfl|(simp;omega)|(simp[h1,h2])|(simp;intros;omega),HK.out⟩
    ·go_wp2;go_ret;exact⟨by rw[Hv.out];first|rfl|(simp;omega)|(simp[h1,h2])|(simp;intros;omega),HK.out⟩
   ·go_wp2;go_ret;exact⟨by rw[Hv.out];first|rfl|(simp;omega)|(simp[h1,h2])|(simp;intros;omega),HK.out⟩
  |false=>
   have Hv:Hid (xo (s0,k0) (s,k) false=(bytesBefore s0 s&&decide (1<=k)&&decide (k<=65535))):=hd0 (by simp[xo,hn]);clear hn
   cases TY:bytesBefore s0 s with
   |false=>
    rw[TY]at hg Hv;clear TY;go_wp2;go_ret;exact⟨by rw[Hv.out];first|rfl|(simp;omega)|(simp[h1,h2])|(simp;intros;omega),HK.out⟩
   |true=>
    rw[TY]at hg Hv;clear TY;by_cases h1:1<=k
    ·by_cases h2:k<=65535
     ·go_wp2;go_ret;exact⟨by rw[Hv.out];first|rfl|(simp;omega)|(simp[h1,h2])|(simp;intros;omega),HK.out⟩
     ·go_wp2;go_ret;exact⟨by rw[Hv.out];first|rfl|(simp;omega)|(simp[h1,h2])|(simp;intros;omega),HK.out⟩
    ·go_wp2;go_ret;exact⟨by rw[Hv.out];first|rfl|(simp;omega)|(simp[h1,h2])|(simp;intros;omega),HK.out⟩
abbrev Qx:Value:=.agg #[.func (.func 335) #[] #[],.func (.func 336) #[] #[],.func (.func 337) #[] #[]]
theorem Ig (x:List UInt8×Int)(w:World):
  Calls prog 336 #[Y3 x] w fun e w'=>∃ b,e=.returned (.slice (some ⟨b,0,none⟩) 2 2)/\w.heap.size<=b/\af w w'/\World.blk w' b #[.iface 9 (.string ⟨x.1.toArray⟩),.iface 3 (.int .i64 x.2)] 20:=by
 obtain⟨s,k⟩:=x;go_enter func336,ntmps336;go_wp2;go_ret;exact⟨_,rfl,by omega,((ah.refl _ _).alloc _).alloc _,bi (by simp) _ _⟩
theorem Qy (w:World):
  Calls prog 304 #[] w fun e w'=>e=.returned Qx/\af w w':=by
 go_enter func304,ntmps304;go_wp2_with fail;exact avi (v:=Qx) (by simp[results,Tryz.results304,go_sem]) rfl ⟨rfl,(ah.refl _ _).alloc _⟩
end
section
open Go.RowKit
def jV (was:Option (List UInt8))(l:Nm):Option (List UInt8):=match l.getLast? with|some p=>some p.1|none=>was
theorem nJ (a b:Nm):∀ was,gd was (a++b)=(gd was a&&gd (jV was a) b):=by
 induction a with
 |nil=>intro was;simp[gd,jV]
 |cons p r ih=>
  intro was;have e:jV (some p.1) r=jV was (p::r):=by
   cases r with
   |nil=>simp[jV]
   |cons q r=>
    unfold jV;rw[List.getLast?_cons_cons]
    cases h:(q::r).getLast? with
    |none=>simp at h
    |some y=>rfl
  rw[avr,gd,ih,gd,e,Bool.and_assoc]
theorem ji {α:Type}{l:List α}{k:Nat}{x:α}(h:l[k]?=some x):l.take (k+1)=l.take k++[x]:=by
 rw[auO,h];rfl
theorem nK {l:Nm}{k:Nat}{x:List UInt8×Int}(h:l[k]?=some x):gd none (l.take (k+1))=(gd none (l.take k)&&wg (jV none (l.take k)) x):=by
 rw[ji h,nJ];simp[gd]
theorem Qz {l:Nm}{k:Nat}{x:List UInt8×Int}(h:l[k]?=some x)(h2:wg (jV none (l.take k)) x=false):oV l=false:=by
 have e:gd none l=(gd none (l.take (k+1))&&gd (jV none (l.take (k+1))) (l.drop (k+1))):=by
  rw[<-nJ,List.take_append_drop]
 unfold oV;rw[e,nK h,h2];simp
def gM (l:Nm)(k:Nat):List UInt8×Int:=(l.take k).getLastD ([],0)
theorem U5 {l:Nm}{k:Nat}(x:List UInt8×Int)(hk:k<=l.length):xo (gM l k) x (decide (k=0))=wg (jV none (l.take k)) x:=by
 cases k with
 |zero=>simp[xo,wg,jV]
 |succ k=>
  obtain⟨y,hy⟩:∃ y,l[k]?=some y:=⟨_,auM (by omega)⟩
  simp[xo,wg,jV,gM,ji hy]
theorem Ii {l:Nm}{k:Nat}{x:List UInt8×Int}(h:l[k]?=some x):gM l (k+1)=x:=by
 unfold gM;rw[ji h];simp
theorem Ae (s:ByteArray)(W:World):(Instr.typeAssert (.iface 9 (.string s)) 20 3 true).run prog W=.ok (.tuple #[.int .i64 0,.bool false]) W:=by kernel_rfl
theorem xp (s:ByteArray)(W:World):(Instr.typeAssert (.iface 9 (.string s)) 20 9 true).run prog W=.ok (.tuple #[.string s,.bool true]) W:=by kernel_rfl
theorem qV (n:Int)(W:World):(Instr.typeAssert (.iface 3 (.int .i64 n)) 20 3 true).run prog W=.ok (.tuple #[.int .i64 n,.bool true]) W:=by kernel_rfl
def rX (l:Nm):Value:=if oV l=true then .tuple #[.string ⟨(mg l).toArray⟩,.int .i64 0]else .tuple #[.string ⟨#[]⟩,.int .i64 120]
theorem QA {l:Nm}:∀ was,gd was l=true->(l.flatMap lQ).length<=l.length*34:=by
 induction l with
 |nil=>intro _ _;simp
 |cons p r ih=>
  intro was h;rw[gd,au4]at h;have h2:=ih _ h.2;have h1:=h.1;simp only[wg,aG,au4,au9]at h1;have e1:=bf (n:=p.1.length) (by have:=h1.1.1.1.1.1.2;omega);have e2:=bf (n:=p.2.toNat) (by have:=h1.2;omega);have e3:p.1.length<=16:=h1.1.1.1.1.1.2;rw[avs,au3,auL];have:(lQ p).length<=34:=by unfold lQ;simp;omega
  omega
theorem J2 {l:Nm}{k:Nat}{pre:List UInt8}(h:aM l.length++(l.take k).flatMap lQ=pre)(hl:l.length<=4096)(he:gd none (l.take (k+1))=true):pre.length<=1000000:=by
 have h2:gd none (l.take k)=true:=by
  rw[<-List.take_append_drop k (l.take (k+1)),nJ,au4]at he;have:=he.1
  rwa [List.take_take,Nat.min_eq_left (by omega)]at this
 have h3:=QA _ h2;have h4:=bf (n:=l.length) (by omega);have h5:(l.take k).length<=4096:=by rw[auS];omega
 rw[<-h,au3];omega
theorem QB (l:Nm)(v:Value)(w:World)(co:ko Ic 2 w v l)(hl:l.length<=1000000000)(hs:∀ p∈l,p.1.length<=1000000000/\-9223372036854775808<=p.2/\p.2<=9223372036854775807):
  Calls prog 303 #[Qx,v] w fun e w'=>e=.returned (rX l)/\af w w':=by
 obtain⟨a,cap,rfl,hx⟩:=co;have HX:=hd0 hx;have HS:=hd0 hs;clear hx hs;by_cases aW:l.length<=4096
 ·have h1:¬(4096:Int)<l.length:=by omega
  have Hl:=hd0 aW;clear aW hl;go_enter func303,ntmps303;go_wp2_with fail;refine(lU l.length _ (by have:=Hl.out;omega)).mono ?_;rintro e w2 ⟨rfl,df⟩;have RT:Hid (World.blk w2 w.heap.size #[.func (.func 335) #[] #[],.func (.func 336) #[] #[],.func (.func 337) #[] #[]] 400):=hd0 (ab df (aH (aw _ _ _) _) id);have Yg:Hid (dc (w.heap.size+1) (w.heap.size+1) [] w2):=hd0 (by
   have h:=nB (w.alloc (.cells #[.func (.func 335) #[] #[],.func (.func 336) #[] #[],.func (.func 337) #[] #[]] 400));rw[show(w.alloc (.cells #[.func (.func 335) #[] #[],.func (.func 336) #[] #[],.func (.func 337) #[] #[]] 400)).heap.size=w.heap.size+1 by simp]at h;exact cy h df)
  have bw:=hd0 (dU (dU df));have lG:=df.size;simp at lG;clear df;go_wp2_with fail;refine(jt (w.heap.size+1) (w.heap.size+1) [] (aM l.length) w2 Yg.out (by have:=bf (n:=l.length) (by have:=Hl.out;omega);simp;omega) (by omega)).mono ?_;rintro e w3 ⟨rfl,uM,yh,ly⟩;have FP:=hd0 (ab ly RT.out (cP (by omega) RT.out (by decide)));have oo:=hd0 uM;have dJ:=hd0 (db bw.out yh (by omega));have Cc:=yh.size;rw[avk]at oo;clear uM yh ly RT Yg bw;go_wp2_with fail;obtain⟨wb,I9⟩:∃ wb,wb=w3.heap.size:=⟨_,rfl⟩
  have Xt:Hid (World.blk (w3.alloc (.cells #[.string ⟨#[]⟩,.int .i64 0] 351)) wb #[.string ⟨#[]⟩,.int .i64 0] 351):=hd0 (bi I9 _ _);have Yk:=hd0 (aH FP.out (.cells #[.string ⟨#[]⟩,.int .i64 0] 351));have nS:=hd0 (cy oo.out ((ah.refl (fun _=>False) w3).alloc (.cells #[.string ⟨#[]⟩,.int .i64 0] 351)));have dF:=hd0 (dJ.out.alloc (.cells #[.string ⟨#[]⟩,.int .i64 0] 351));have afQ:w.heap.size+2<=wb:=by omega
  clear FP oo dJ;rw[<-I9];generalize w3.alloc (.cells #[.string ⟨#[]⟩,.int .i64 0] 351)=w4 at*;clear I9 Cc lG
  go_loopw [30] (fun i wr=>∃ k:Nat,k<=l.length/\i=.int .i64 (k:Int)/\af w wr/\World.blk wr w.heap.size #[.func (.func 335) #[] #[],.func (.func 336) #[] #[],.func (.func 337) #[] #[]] 400/\World.blk wr wb #[.string ⟨(gM l k).1.toArray⟩,.int .i64 (gM l k).2] 351/\dc (w.heap.size+1) (w.heap.size+1) (aM l.length++(l.take k).flatMap lQ) wr/\Hid (gd none (l.take k)=true)) (fun i _=>l.length-(intOf i).toNat)
  case atStart=>exact⟨0,by omega,rfl,dF.out,Yk.out,Xt.out,by simpa using nS.out,hd0 rfl⟩
  case round=>
   clear Yk Xt nS dF;obtain⟨k,hk,rfl,hK,hF,hW,hB,He⟩:=hrel;have HK:=hd0 hK;have HF:=hd0 hF;have HW:=hd0 hW;have HB:=hd0 hB;clear hK hF hW hB;by_cases aK:k<l.length
   ·obtain⟨x,hx⟩:∃ x,l[k]?=some x:=⟨_,auM aK⟩
    have Hx:=hd0 hx;clear hx;obtain⟨b,o,rfl,hc⟩:=HX.out k x Hx.out;have c0:wr.cell? ⟨b,o+k*2,none⟩=some (.string ⟨x.1.toArray⟩):=by have h:=hc 0 _ rfl;rw[HK.out.cell (p:=⟨b,o+k*2,none⟩) (am h) id];exact h
    have c1:wr.cell? ⟨b,o+k*2+1,none⟩=some (.int .i64 x.2):=by have h:=hc 1 _ rfl;rw[HK.out.cell (p:=⟨b,o+k*2+1,none⟩) (am h) id];exact h
    have f0:wr.cell? ⟨w.heap.size,0,none⟩=some (.func (.func 335) #[] #[]):=aa HF.out 0;have f1:wr.cell? ⟨w.heap.size,1,none⟩=some (.func (.func 336) #[] #[]):=aa HF.out 1;have g0:wr.cell? ⟨wb,0,none⟩=some (.string ⟨(gM l k).1.toArray⟩):=aa HW.out 0;have g1:wr.cell? ⟨wb,1,none⟩=some (.int .i64 (gM l k).2):=aa HW.out 1;obtain⟨fb,hq⟩:∃ fb,((k:Int)==0)=fb:=⟨_,rfl⟩
    have z0:w.heap.size<wr.heap.size:=ak HF.out;have z1:wb<wr.heap.size:=ak HW.out;clear hc;go_wp2_with fail;refine(U4 (gM l k) x fb _ (by have:=(HS.out x (auN Hx.out)).1;omega)).mono ?_;rintro e w5 ⟨rfl,mt⟩;have F8:=hd0 (ab mt (aH HF.out _) id);have nh:=hd0 (ab mt (aH HW.out _) id);have uP:=hd0 (ab mt (aw wr _ _) id);have FS:=hd0 (cy HB.out (dU mt));have lz:=hd0 (HK.out.keep (dU mt));have Gc:=mt.size;simp at Gc;have Hm:=hd0 (U5 (l:=l) (k:=k) x (by omega));have Hq:Hid (fb=decide (k=0)):=hd0 (by rw[<-hq,avt];simp);clear mt c0 c1 f0 f1 g0 g1 z0 HF HW HB HK hq
    cases hmy:xo (gM l k) x fb with
    |false=>
     have Hv:Hid (rX l=.tuple #[.string ⟨#[]⟩,.int .i64 120]):=hd0 (by
      rw[Hq.out,Hm.out]at hmy;simp[rX,Qz Hx.out hmy])
     clear hmy;go_wp2;go_ret2;exact⟨by rw[Hv.out];rfl,lz.out⟩
    |true=>
     have VZ:Hid (gd none (l.take (k+1))=true):=hd0 (by
      rw[Hq.out,Hm.out]at hmy;rw[nK Hx.out,He.out,hmy];rfl)
     clear hmy;generalize wr.heap.size=xb at*;have f1:w5.cell? ⟨w.heap.size,1,none⟩=some (.func (.func 336) #[] #[]):=aa F8.out 1;have g0:w5.frozen? ⟨wb,0,none⟩=false:=ae nh.out _ rfl;have g1:w5.frozen? ⟨wb,1,none⟩=false:=ae nh.out _ rfl;have g2:w5.cell? ⟨wb,0,none⟩=some (.string ⟨(gM l k).1.toArray⟩):=aa nh.out 0;have g3:w5.cell? ⟨wb,1,none⟩=some (.int .i64 (gM l k).2):=aa nh.out 1;have e0:w5.cell? ⟨xb,0,none⟩=some (.string ⟨x.1.toArray⟩):=aa uP.out 0;have e1:w5.cell? ⟨xb,1,none⟩=some (.int .i64 x.2):=aa uP.out 1;have n1:¬ w.heap.size=wb:=by omega
     have n2:¬ xb=wb:=by omega
     go_wp2_with fail;refine(Ig x _).mono ?_;rintro e w7 ⟨pb,rfl,mY,rA,pE⟩;have rB:ah (·=wb) w5 ((w5.setCell ⟨wb,0,none⟩ (.string ⟨x.1.toArray⟩)).setCell ⟨wb,1,none⟩ (.int .i64 x.2)):=((ah.refl (fun y=>y=wb) w5).setCell (p:=⟨wb,0,none⟩) (.inl rfl) _).setCell (p:=⟨wb,1,none⟩) (.inl rfl) _;have Xj:=hd0 (ab rA (ab rB F8.out n1) id);have KG:=hd0 (cy (uW FS.out rB (by omega) (fun q c fr hq e=>by
      subst e;have:=nh.out;unfold World.blk at this;rw[this]at hq
      cases hq)) rA)
     have XI:Hid (World.blk w7 wb #[.string ⟨x.1.toArray⟩,.int .i64 x.2] 351):=hd0 (ab rA (ag (ag nh.out 0 _) 1 _) id);have uD:=hd0 ((lz.out.new rB (by omega)).keep rA);have Cq:=hd0 pE;have hpw:wb<pb:=by
      have h:=ak nh.out;have e:((w5.setCell ⟨wb,0,none⟩ (.string ⟨x.1.toArray⟩)).setCell ⟨wb,1,none⟩ (.int .i64 x.2)).heap.size=w5.heap.size:=by simp[World.setCell]
      omega
     have R5:x.1.length<=16:=by
      have h:=VZ.out;rw[nK Hx.out]at h;simp only[au4,wg,aG,au9]at h;exact h.2.1.1.1.1.1.2
     have sJ:1<=x.2/\x.2<=65535:=by
      have h:=VZ.out;rw[nK Hx.out]at h;simp only[au4,wg,au9]at h;exact⟨h.2.1.2,h.2.2⟩
     clear rA pE rB f1 g0 g1 g2 g3 e0 e1 n1 n2 F8 nh uP FS lz Gc mY He Hm Hq;generalize tQ:aM l.length++(l.take k).flatMap lQ=pre at*;have I3:=hd0 tQ;clear tQ;go_wp2_with fail
     go_loopw [49] (fun i wr=>∃ j:Nat,j<=2/\i=.int .i64 (j:Int)/\af w wr/\World.blk wr w.heap.size #[.func (.func 335) #[] #[],.func (.func 336) #[] #[],.func (.func 337) #[] #[]] 400/\World.blk wr wb #[.string ⟨x.1.toArray⟩,.int .i64 x.2] 351/\World.blk wr pb #[.iface 9 (.string ⟨x.1.toArray⟩),.iface 3 (.int .i64 x.2)] 20/\dc (w.heap.size+1) (w.heap.size+1) (pre++(if j=0 then []else if j=1 then aM x.1.length++x.1 else lQ x)) wr) (fun i _=>2-(intOf i).toNat)
     case atStart=>exact⟨0,by omega,rfl,uD.out,Xj.out,XI.out,Cq.out,by simpa using KG.out⟩
     case round=>
      clear Xj KG XI uD Cq;obtain⟨j,hj,rfl,hK,hF,hW,hP,hB⟩:=hrel;have HK:=hd0 hK;have HF:=hd0 hF;have HW:=hd0 hW;have HP:=hd0 hP;have HB:=hd0 hB;have p0:wr.cell? ⟨pb,0,none⟩=some (.iface 9 (.string ⟨x.1.toArray⟩)):=aa hP 0;have p1:wr.cell? ⟨pb,1,none⟩=some (.iface 3 (.int .i64 x.2)):=aa hP 1;clear hK hF hW hP hB;rcases(by omega:j=0\/j=1\/j=2)with rfl|rfl|rfl
      ·have a0:=Ae ⟨x.1.toArray⟩;have a1:=xp ⟨x.1.toArray⟩;go_wp2_with fail;refine(tu x.1 _ (by omega)).mono ?_;rintro e w8 ⟨rfl,lI⟩;have Cl:=hd0 (ab lI HF.out id);have vt:=hd0 (ab lI HW.out id);have sB:=hd0 (ab lI HP.out id);have BN:Hid (dc (w.heap.size+1) (w.heap.size+1) pre w8):=hd0 (by have h:=cy HB.out lI;simpa using h);have sM:=hd0 (HK.out.keep lI);have NV:Hid (pre.length<=1000000):=hd0 (J2 I3.out Hl.out VZ.out);clear lI HF HW HP HB HK p0 p1 a0 a1;go_wp2_with fail;refine(jt (w.heap.size+1) (w.heap.size+1) pre (aM x.1.length++x.1) w8 BN.out (by have:=bf (n:=x.1.length) (by omega);have:=NV.out;simp;omega) (by have:=ak vt.out;omega)).mono ?_;rintro e w9 ⟨rfl,KB,sL,tM⟩;have Wf:=hd0 (ab tM Cl.out (cP (by omega) Cl.out (by decide)));have V2:=hd0 (ab tM vt.out (cP (by omega) vt.out (by decide)));have pB:=hd0 (ab tM sB.out (cP (by omega) sB.out (by decide)));have OO:=hd0 KB;have Ch:=hd0 (db sM.out sL (by omega));clear KB sL tM Cl vt sB BN sM;go_wp2_with fail;refine⟨⟨1,by omega,rfl,Ch.out,Wf.out,V2.out,pB.out,by simpa using OO.out⟩,by decide⟩
      ·obtain⟨m,hm⟩:∃ m:Nat,x.2=m:=⟨x.2.toNat,by omega⟩
       have Hm:=hd0 hm;rw[hm]at p1;have a0:=qV m;have zg:m<=65535:=by omega
       clear hm;go_wp2_with fail;refine(lU m _ (by omega)).mono ?_;rintro e w8 ⟨rfl,lI⟩;have Cl:=hd0 (ab lI HF.out id);have vt:=hd0 (ab lI HW.out id);have sB:=hd0 (ab lI HP.out id);have BN:Hid (dc (w.heap.size+1) (w.heap.size+1) (pre++(aM x.1.length++x.1)) w8):=hd0 (by have h:=cy HB.out lI;simpa using h);have sM:=hd0 (HK.out.keep lI);have NV:Hid (pre.length<=1000000):=hd0 (J2 I3.out Hl.out VZ.out);clear lI HF HW HP HB HK p0 p1 a0;go_wp2_with fail;refine(jt (w.heap.size+1) (w.heap.size+1) _ (aM m) w8 BN.out (by have:=bf (n:=x.1.length) (by omega);have:=bf (n:=m) (by omega);have:=NV.out;simp;omega) (by have:=ak vt.out;omega)).mono ?_;rintro e w9 ⟨rfl,KB,sL,tM⟩;have Wf:=hd0 (ab tM Cl.out (cP (by omega) Cl.out (by decide)));have V2:=hd0 (ab tM vt.out (cP (by omega) vt.out (by decide)));have pB:=hd0 (ab tM sB.out (cP (by omega) sB.out (by decide)));have OO:Hid (dc (w.heap.size+1) (w.heap.size+1) (pre++lQ x) w9):=hd0 (by
        have e:pre++lQ x=pre++(aM x.1.length++x.1)++aM m:=by rw[lQ,Hm.out,avn];simp
        rw[e];exact KB)
       have Ch:=hd0 (db sM.out sL (by omega));clear KB sL tM Cl vt sB BN sM;go_wp2_with fail;refine⟨⟨2,by omega,rfl,Ch.out,Wf.out,V2.out,pB.out,by simpa using OO.out⟩,by decide⟩
      ·clear p0 p1;go_wp2_with fail;refine⟨⟨k+1,by omega,by go_num,HK.out,HF.out,by rw[Ii Hx.out];exact HW.out,?_,VZ⟩,by simp[intOf];omega⟩;have h:=HB.out;rw[ji Hx.out];simp only[au2,avs,List.flatMap_nil,List.append_nil];rw[<-avu,I3.out];simpa using h
   ·obtain rfl:k=l.length:=by omega
    have jp:Hid (dc (w.heap.size+1) (w.heap.size+1) (mg l) wr):=hd0 (by have h:=HB.out;rwa [auQ]at h);have Hv:Hid (rX l=.tuple #[.string ⟨(mg l).toArray⟩,.int .i64 0]):=hd0 (by
     have h:=He.out;rw[auQ]at h;simp[rX,oV,h,Hl.out])
    go_wp2_with fail;refine(gN (w.heap.size+1) (w.heap.size+1) (mg l) wr jp.out (by have:=ak HW.out;omega)).mono ?_;rintro e w6 ⟨rfl,rD⟩;have tL:=hd0 (db HK.out rD (by omega));clear rD;go_wp2;go_ret2;exact⟨by rw[Hv.out];rfl,tL.out⟩
 ·have h1:(4096:Int)<l.length:=by omega
  have Hv:Hid (rX l=.tuple #[.string ⟨#[]⟩,.int .i64 120]):=hd0 (by simp[rX,oV,aW]);clear aW hl;go_enter func303,ntmps303;go_wp2;go_ret2;exact⟨by rw[Hv.out];rfl,(ah.refl _ _).alloc _⟩
end
end Go.Proofs.YtkghpdcloaiflaaGreatDoor
