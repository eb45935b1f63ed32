import Derived.Test.YtkghpdcloaiflaaGreatDoorB02
import Derived.Maps.RangeWalk
import Derived.Maps.OwnSet
import Derived.WalkArith
import Derived.Maps.StringElems
import Derived.Lib.SplitLaws
import Derived.Lib.Join
namespace Go.Proofs.YtkghpdcloaiflaaGreatDoor
open _root_.Go.Proofs.Tryz
def KT:ay:=[115,116,105,108,108,97,103,101,32,118,111,108,117,109,101,33]
def nt (s:ay)(n:Nat):ay:=let t:=s++List.replicate (n-s.length) 0;t++Og KT t
def dW (p:ay):ay:=nt ([UInt8.ofNat (p.length%256),UInt8.ofNat (p.length/256%256)]++p) 248
def kG (s:ay):Except Int ay:=
 if s.length≠256 then .error 82 else
  let n:=(s.getD 0 0).toNat+256*(s.getD 1 0).toNat
  if 240<n then .error 82 else
   if dW ((s.drop 2).take n)=s then .ok ((s.drop 2).take n)else .error 82
theorem JF (k s:ay):(Og k s).length=8:=by unfold Og;simp[CG,uL]
theorem vA {s:ay}{n:Nat}(h:s.length<=n):(nt s n).length=n+8:=by
 unfold nt;simp[JF];omega
theorem sR {p:ay}(h:p.length<=240):(dW p).length=256:=by
 unfold dW;rw[vA (by simp;omega)]
theorem yF {p:ay}(h:p.length<=240):kG (dW p)=.ok p:=by
 have hl:=sR h;obtain⟨r,hr⟩:∃ r,dW p=UInt8.ofNat (p.length%256)::UInt8.ofNat (p.length/256%256)::(p++r):=by
  unfold dW nt;simp
 unfold kG;rw[ava (by omega)];have e:((dW p).getD 0 0).toNat+256*((dW p).getD 1 0).toNat=p.length:=by
  rw[hr];simp;omega
 have e2:((dW p).drop 2).take p.length=p:=by rw[hr];simp
 simp only[e,e2];rw[ava (by omega),au8 trivial]
def eJ (d:Dk)(n:Nat):ay:=d.get (4*n)++d.get (4*n+1)++d.get (4*n+2)++d.get (4*n+3)
def iq (d:Dk):Rd:=fun n=>if 1<=n/\n<(d.size/4:Nat)then kG (eJ d n.toNat)else .error 81
def jK (d:Dk)(n:Nat)(s:ay):Nat->Dk
 |0=>d
 |k+1=>(jK d n s k).put (4*n+k) ((s.drop (k*64)).take 64)
theorem jv (d:Dk)(n:Nat)(s:ay):∀ k,(jK d n s k).size=d.size
 |0=>rfl
 |k+1=>by rw[jK,fA,jv d n s k]
theorem qD (d:Dk)(n:Nat)(s:ay)(m:Nat):∀ k,k<=4->(jK d n s k).get m=if 4*n<=m/\m<4*n+k then(s.drop ((m-4*n)*64)).take 64 else d.get m
 |0,_=>by rw[ava (by omega)];rfl
 |k+1,h=>by
  rw[jK,JE,qD d n s m k (by omega)];by_cases hm:m=4*n+k
  ·rw[au8 hm,au8 (by omega),show m-4*n=k by omega]
  ·rw[ava hm];by_cases h2:4*n<=m/\m<4*n+k
   ·rw[au8 h2,au8 (by omega)]
   ·rw[ava h2,ava (by omega)]
theorem CK {d:Dk}{n:Nat}(h1:1<=n)(h2:n<d.size/4){p:ay}(hp:p.length<=240):iq (jK d n (dW p) 4)=lZ (iq d) n p:=by
 funext k
 unfold iq lZ;rw[jv];have hl:=sR hp;by_cases hk:1<=k/\k<(d.size/4:Nat)
 ·rw[au8 hk];by_cases rt:k=n
  ·rw[au8 rt];subst rt;have e:eJ (jK d n (dW p) 4) ((n:Int).toNat)=dW p:=by
    unfold eJ;rw[avD];simp only[qD d n (dW p) _ 4 (au4 4)];rw[au8 (by omega),au8 (by omega),au8 (by omega),au8 (by omega)];rw[show 4*n-4*n=0 by omega,show 4*n+1-4*n=1 by omega,show 4*n+2-4*n=2 by omega,show 4*n+3-4*n=3 by omega];have:dW p=(dW p).take (64+64+64+64):=by rw[avM (by omega)]
    conv=>rhs;rw[this]
    simp only[List.take_add,Nat.zero_mul,avR,avJ]
   rw[e,yF hp]
  ·rw[ava rt];have e:eJ (jK d n (dW p) 4) k.toNat=eJ d k.toNat:=by
    unfold eJ;have:k.toNat≠n:=by omega
    simp only[qD d n (dW p) _ 4 (au4 4)];rw[ava (by omega),ava (by omega),ava (by omega),ava (by omega)]
   rw[e];exact(au8 hk).symm
 ·rw[ava hk];by_cases rt:k=n
  ·omega
  ·rw[ava rt];exact(ava hk).symm
theorem AM (d:Dk):iq d.sync=iq d:=by
 funext k
 unfold iq;rw[dC];by_cases hk:1<=k/\k<(d.size/4:Nat)
 ·rw[au8 hk,au8 hk];have e:eJ d.sync k.toNat=eJ d k.toNat:=by
   unfold eJ;rw[rF _ (by omega),rF _ (by omega),rF _ (by omega),rF _ (by omega)]
  rw[e]
 ·rw[ava hk,ava hk]
def JG (n:Nat):ay:=(List.range 6).map fun i=>UInt8.ofNat (n/256 ^ i%256)
def CM (text:ay)(num:Nat):ay:=nt ([82,84]++JG num++[UInt8.ofNat (text.length%256)]++text) 56
theorem KU {text:ay}(h:text.length<=40)(num:Nat):(CM text num).length=64:=by
 unfold CM;rw[vA (by simp[JG];omega)]
def kH (d:Dk)(text:ay)(num:Nat):Dk:=(d.put (num%2) (CM text num)).sync
theorem qE (d:Dk)(text:ay)(num:Nat):(kH d text num).size=d.size:=by unfold kH;rw[dC,fA]
theorem tS (d:Dk)(n:Nat)(hn:n<4)(s:ay):iq (d.put n s)=iq d:=by
 funext k
 unfold iq;rw[fA];by_cases hk:1<=k/\k<(d.size/4:Nat)
 ·rw[au8 hk,au8 hk];have e:eJ (d.put n s) k.toNat=eJ d k.toNat:=by
   unfold eJ;simp only[JE];rw[ava (by omega),ava (by omega),ava (by omega),ava (by omega)]
  rw[e]
 ·rw[ava hk,ava hk]
theorem vB (d:Dk)(text:ay)(num:Nat):iq (kH d text num)=iq d:=by unfold kH;rw[AM,tS _ _ (by omega)]
section
open Go.RowKit Go.Maps
section
variable {α β H:Type}
def jL (lt:α->α->Bool)(x:α×β):List (α×β)->List (α×β)
 |[]=>[x]
 |y::r=>if lt x.1 y.1 then x::y::r else y::jL lt x r
section
variable [BEq α]
def gc (a:α)(l:List (α×β)):List (α×β):=l.filter fun p=>!(p.1==a)
def ei (lt:α->α->Bool)(a:α)(b:β)(l:List (α×β)):List (α×β):=jL lt (a,b) (gc a l)
def bF (a:α)(l:List (α×β)):Option β:=(l.find? fun p=>p.1==a).map (·.2)
end
def Cm (kf:α->Lit)(ef:β->DataW H)(l:List (α×β)):DataW H:=.map (l.map fun p=>(kf p.1,ef p.2))
variable {kf:α->Lit}{ef:β->DataW H}{lt:α->α->Bool}
theorem OV (hb:∀ a b,(kf a).before (kf b)=lt a b)(a:α)(b:β)(l:List (α×β)):DataW.insert (kf a,ef b) (l.map fun p=>(kf p.1,ef p.2))=(jL lt (a,b) l).map fun p=>(kf p.1,ef p.2):=by
 induction l with
 |nil=>rfl
 |cons y r ih=>
  simp only[auY,DataW.insert,jL,hb];split
  ·simp
  ·simp[ih]
section
variable [BEq α]
theorem CP (hs:∀ a b,(kf a).sameKey (kf b)=(a==b))(a:α)(l:List (α×β)):((l.map fun p=>(kf p.1,ef p.2)).filter fun p=>!p.1.sameKey (kf a))=(gc a l).map fun p=>(kf p.1,ef p.2):=by
 induction l with
 |nil=>rfl
 |cons y r ih=>
  simp only[auY,awd,gc,hs];by_cases h:(!(y.1==a))=true
  ·rw[au8 h,au8 h,auY,ih];rfl
  ·rw[ava h,ava h,ih];rfl
theorem AO (hs:∀ a b,(kf a).sameKey (kf b)=(a==b))(hb:∀ a b,(kf a).before (kf b)=lt a b)(a:α)(b:β)(l:List (α×β)):(Cm kf ef l).put (kf a) (ef b)=Cm kf ef (ei lt a b l):=by
 show DataW.map _=DataW.map _;rw[CP hs,OV hb];rfl
theorem AP (hs:∀ a b,(kf a).sameKey (kf b)=(a==b))(a:α)(l:List (α×β)):(Cm kf ef l).del (kf a)=Cm kf ef (gc a l):=by
 show DataW.map _=DataW.map _;rw[CP hs]
theorem OW (hs:∀ a b,(kf a).sameKey (kf b)=(a==b))(a:α)(l:List (α×β)):(l.map fun p=>(kf p.1,ef p.2)).find? (fun p=>p.1.sameKey (kf a))=(l.find? fun p=>p.1==a).map fun p=>(kf p.1,ef p.2):=by
 rw[List.find?_map]
 congr 1
 ·congr 1
  funext p
  simp[Function.comp,hs]
theorem kI (hs:∀ a b,(kf a).sameKey (kf b)=(a==b))(a:α)(l:List (α×β))(z:DataW H):(Cm kf ef l).atKey (kf a) z=match bF a l with|some b=>ef b|none=>z:=by
 show(match (l.map fun p=>(kf p.1,ef p.2)).find? (fun p=>p.1.sameKey (kf a))with|some p=>p.2|none=>z)=_;rw[OW hs];unfold bF
 cases l.find? fun p=>p.1==a<;>rfl
theorem pI (hs:∀ a b,(kf a).sameKey (kf b)=(a==b))(a:α)(l:List (α×β)):Maps.has (Cm kf ef l) (kf a)=(bF a l).isSome:=by
 show(l.map fun p=>(kf p.1,ef p.2)).any (fun p=>p.1.sameKey (kf a))=_;unfold bF;rw[avI];simp[hs]
end
theorem eP (l:List (α×β)):Maps.size (Cm kf ef l)=l.length:=by
 show(l.map _).length=_;simp
theorem rG [BEq α](a:α)(l:List (α×β)):(gc a l).length<=l.length:=avc _ _
theorem CQ (x:α×β)(l:List (α×β)):(jL lt x l).length=l.length+1:=by
 induction l with
 |nil=>rfl
 |cons y r ih=>
  unfold jL;split
  ·simp
  ·simp[ih]
end
theorem zt {H:Type}{P:Program}{k:TypeId}{R:Value->Option (DataW H×List MemPlace)}{w:World}{b n:Nat}{D:DataW H}(h:w.ownsMap P k R b n D):w.ownsMap P k R b (Maps.size D) D:=by
 obtain⟨es,clock,hb,F,hs,rfl⟩:=h;exact⟨es,clock,hb,F,by simp[Maps.size,length_sorted],rfl⟩
theorem vC {H:Type}{P:Program}{k:TypeId}{R:Value->Option (DataW H×List MemPlace)}{w w':World}{b n:Nat}{D:DataW H}{S:Nat->Prop}(h:w.ownsMap P k R b n D)(m:ah S w w')(hS:¬ S b):w'.ownsMap P k R b n D:=by
 have aL:=h.lt;obtain⟨es,clock,hb,F,hs,hD⟩:=h;exact⟨es,clock,m.obj hb hS,F,hs,hD⟩
theorem gS {w w':World}{b:Nat}(h:w.grownBy w' (some b)):ah (·=b) w w':=
 ⟨h.os,h.tape,h.output,h.size,fun k hk hS=>h.block k hk (fun e=>hS (by cases e;rfl))⟩
theorem sS {w w':World}{b:Nat}(h:ah (·=b) w w'):w.grownBy w' (some b):=
 ⟨h.os,h.tape,h.output,h.size,fun k hk hS=>h.block k hk (fun e=>hS (by rw[e]))⟩
theorem qF {w w':World}(h:w.grownBy w' none):af w w':=⟨h.os,h.tape,h.output,h.size,fun k hk _=>h.block k hk (by simp)⟩
theorem Gm {w w':World}(h:af w w'):w.grownBy w' none:=⟨h.os,h.tape,h.output,h.size,fun k hk _=>h.block k hk id⟩
def jm:Value->Option (DataW Value×List MemPlace)
 | .pointer a=>some (.held (.pointer a),[])
 |_=>none
theorem jw (a b:List UInt8):(Lit.string a).sameKey (.string b)=(a==b):=rfl
theorem Gn (a b:List UInt8):(Lit.string a).before (.string b)=bytesBefore a b:=rfl
theorem cN (a b:Int):(Lit.int .i64 a).sameKey (.int .i64 b)=(a==b):=by
 show decide _=_;rw[avI];simp
theorem vD (a b:Int):(Lit.int .i64 a).before (.int .i64 b)=decide (a<b):=rfl
def oG (k:Int):DataW Value:=.lit (.int .i64 k)
def yG (a:Nat):DataW Value:=.held (.pointer (some ⟨a,0,none⟩))
abbrev Oh (l:List (List UInt8×Int)):DataW Value:=Cm Lit.string oG l
abbrev Oi (l:List (Int×Nat)):DataW Value:=Cm (Lit.int .i64) yG l
section
variable {P:Program}{tm tk te:TypeId}{w:World}{b:Nat}
def fg (P:Program)(tk te:TypeId)(w:World)(b:Nat)(l:List (List UInt8×Int)):Prop:=w.ownsMap P tk (plainElem P te) b l.length (Oh l)
def dD (P:Program)(tk:TypeId)(w:World)(b:Nat)(l:List (Int×Nat)):Prop:=w.ownsMap P tk jm b l.length (Oi l)
theorem fg.mod {l:List (List UInt8×Int)}{w':World}{S:Nat->Prop}(h:fg P tk te w b l)(m:ah S w w')(hS:¬ S b):fg P tk te w' b l:=vC h m hS
theorem dD.mod {l:List (Int×Nat)}{w':World}{S:Nat->Prop}(h:dD P tk w b l)(m:ah S w w')(hS:¬ S b):dD P tk w' b l:=vC h m hS
theorem fg.lt {l:List (List UInt8×Int)}(h:fg P tk te w b l):b<w.heap.size:=World.ownsMap.lt h
theorem dD.lt {l:List (Int×Nat)}(h:dD P tk w b l):b<w.heap.size:=World.ownsMap.lt h
theorem uM (hk:P.underlying tk=some .string)(s:List UInt8)(hs:s.length<=140737488355328):keyOf P tk (.string ⟨s.toArray⟩)=some (.string s):=
 Go.WideMaps.keyOf_string_mk (s:=⟨s.toArray⟩) hk (by show s.toArray.size<=_;unfold maxLen;simp;omega)
theorem Ub {k:Int}(h:-9223372036854775808<=k/\k<=9223372036854775807):(Lit.int .i64 k).wf=true:=by
 exact WalkArith.wf_i64 h
theorem lG (hk:P.underlying tk=some (.int .i64))(k:Int)(h:-9223372036854775808<=k/\k<=9223372036854775807):keyOf P tk (.int .i64 k)=some (.int .i64 k):=keyOf_int_mk hk (Ub h)
theorem AQ {a b:Int}(h:oG a=oG b):a=b:=by
 unfold oG at h;simpa using h
theorem fg.look {l:List (List UInt8×Int)}(h:fg P tk te w b l)(ht:P.underlying tm=some (.map tk te))(hk:P.underlying tk=some .string)(he:P.underlying te=some (.int .i64))(hz:(zeroValue te).run P w=.ok (.int .i64 0) w)(s:List UInt8)(hs:s.length<=140737488355328):
  (Instr.lookup tm (.map (some b)) (.string ⟨s.toArray⟩) true).run P w=.ok (.tuple #[.int .i64 ((bF s l).getD 0),.bool (bF s l).isSome]) w:=by
 obtain⟨v,ps,bh,hv⟩:=World.ownsMap.look_ok h (string_keyed hk) ht hz (plainElem_int he (Ub (by decide))) (uM hk s hs);rw[pI jw]at bh;rw[kI jw]at hv;obtain⟨a,rfl,hc,_⟩:=plainElem_int_inv he hv;rw[bh]
 congr 4
 cases hg:bF s l with
 |none=>rw[hg]at hc;simp at hc;simp[hc]
 |some x=>rw[hg]at hc;simp[oG]at hc;simp[hc]
theorem fg.look1 {l:List (List UInt8×Int)}(h:fg P tk te w b l)(ht:P.underlying tm=some (.map tk te))(hk:P.underlying tk=some .string)(he:P.underlying te=some (.int .i64))(hz:(zeroValue te).run P w=.ok (.int .i64 0) w)(s:List UInt8)(hs:s.length<=140737488355328):
  (Instr.lookup tm (.map (some b)) (.string ⟨s.toArray⟩) false).run P w=.ok (.int .i64 ((bF s l).getD 0)) w:=by
 obtain⟨v,ps,bh,hv⟩:=World.ownsMap.lookup h (string_keyed hk) ht hz (plainElem_int he (Ub (by decide))) (uM hk s hs);rw[kI jw]at hv;obtain⟨a,rfl,hc,_⟩:=plainElem_int_inv he hv;rw[bh]
 congr 2
 cases hg:bF s l with
 |none=>rw[hg]at hc;simp at hc;simp[hc]
 |some x=>rw[hg]at hc;simp[oG]at hc;simp[hc]
theorem fg.store {l:List (List UInt8×Int)}(h:fg P tk te w b l)(ht:P.underlying tm=some (.map tk te))(hk:P.underlying tk=some .string)(he:P.underlying te=some (.int .i64))(s:List UInt8)(hs:s.length<=140737488355328)(k:Int)(sB:-9223372036854775808<=k/\k<=9223372036854775807)(hl:l.length<140737488355328):
  ∃ w',(Instr.mapUpdate tm (.map (some b)) (.string ⟨s.toArray⟩) (.int .i64 k)).run P w=.ok () w'/\fg P tk te w' b (ei bytesBefore s k l)/\ah (·=b) w w':=by
 obtain⟨w',bh,bu,NS⟩:=World.ownsMap.store h (string_keyed hk) ht (by unfold maxLen;omega) (uM hk s hs) (plainElem_int he (Ub sB));refine⟨w',bh,?_,gS NS.grown⟩;have h1:=zt bu;have e:(Oh l).put (.string s) (.lit (.int .i64 k))=Oh (ei bytesBefore s k l):=AO (ef:=oG) jw Gn s k l;rw[e,eP]at h1;exact h1
theorem fg.drop {l:List (List UInt8×Int)}(h:fg P tk te w b l)(ht:P.underlying tm=some (.map tk te))(hk:P.underlying tk=some .string)(s:List UInt8)(hs:s.length<=140737488355328)(ty:TypeId):
  ∃ w',(Builtin.delete_ #[tm,tk] ty #[.map (some b),.string ⟨s.toArray⟩]).run P w=.ok (.tuple #[]) w'/\fg P tk te w' b (gc s l)/\ah (·=b) w w':=by
 obtain⟨w',bh,bu,NS⟩:=World.ownsMap.drop h (string_keyed hk) ht (uM hk s hs) ty;refine⟨w',bh,?_,gS NS.grown⟩;have h1:=zt bu;rw[AP jw,eP]at h1;exact h1
theorem fg.len {l:List (List UInt8×Int)}(h:fg P tk te w b l)(ht:P.underlying tm=some (.map tk te))(ty:TypeId):(Builtin.len_ #[tm] ty #[.map (some b)]).run P w=.ok (.int .i64 (l.length:Int)) w:=by
 have:=World.ownsMap.len h ht ty
 rwa [eP]at this
theorem fg.made (w:World):fg P tk te (w.alloc (.map #[] 0)) w.heap.size []:=World.ownsMap_made w P tk _
theorem dD.look {l:List (Int×Nat)}(h:dD P tk w b l)(ht:P.underlying tm=some (.map tk te))(hk:P.underlying tk=some (.int .i64))(hz:(zeroValue te).run P w=.ok (.pointer none) w)(k:Int)(sB:-9223372036854775808<=k/\k<=9223372036854775807):
  (Instr.lookup tm (.map (some b)) (.int .i64 k) true).run P w=.ok (.tuple #[.pointer ((bF k l).map fun a=>⟨a,0,none⟩),.bool (bF k l).isSome]) w:=by
 obtain⟨v,ps,bh,hv⟩:=World.ownsMap.look_ok h (int_keyed hk) ht hz (zd:=.held (.pointer none)) (zp:=[]) rfl (lG hk k sB);rw[pI cN]at bh;rw[kI cN]at hv;have hv':v=.pointer ((bF k l).map fun a=>⟨a,0,none⟩):=by
  cases v<;>simp[jm]at hv
  cases hg:bF k l with
  |none=>rw[hg]at hv;simp at hv;simp[hv]
  |some x=>rw[hg]at hv;simp[yG]at hv;simp[hv]
 rw[bh,hv']
theorem dD.look1 {l:List (Int×Nat)}(h:dD P tk w b l)(ht:P.underlying tm=some (.map tk te))(hk:P.underlying tk=some (.int .i64))(hz:(zeroValue te).run P w=.ok (.pointer none) w)(k:Int)(sB:-9223372036854775808<=k/\k<=9223372036854775807):
  (Instr.lookup tm (.map (some b)) (.int .i64 k) false).run P w=.ok (.pointer ((bF k l).map fun a=>⟨a,0,none⟩)) w:=by
 obtain⟨v,ps,bh,hv⟩:=World.ownsMap.lookup h (int_keyed hk) ht hz (zd:=.held (.pointer none)) (zp:=[]) rfl (lG hk k sB);rw[kI cN]at hv;have hv':v=.pointer ((bF k l).map fun a=>⟨a,0,none⟩):=by
  cases v<;>simp[jm]at hv
  cases hg:bF k l with
  |none=>rw[hg]at hv;simp at hv;simp[hv]
  |some x=>rw[hg]at hv;simp[yG]at hv;simp[hv]
 rw[bh,hv']
theorem dD.store {l:List (Int×Nat)}(h:dD P tk w b l)(ht:P.underlying tm=some (.map tk te))(hk:P.underlying tk=some (.int .i64))(k:Int)(sB:-9223372036854775808<=k/\k<=9223372036854775807)(a:Nat)(hl:l.length<140737488355328):
  ∃ w',(Instr.mapUpdate tm (.map (some b)) (.int .i64 k) (.pointer (some ⟨a,0,none⟩))).run P w=.ok () w'/\dD P tk w' b (ei (fun a b=>decide (a<b)) k a l)/\ah (·=b) w w':=by
 obtain⟨w',bh,bu,NS⟩:=World.ownsMap.store h (int_keyed hk) ht (by unfold maxLen;omega) (lG hk k sB) (val:=.pointer (some ⟨a,0,none⟩)) (d:=yG a) (ps:=[]) rfl;refine⟨w',bh,?_,gS NS.grown⟩;have h1:=zt bu;have e:(Oi l).put (.int .i64 k) (yG a)=Oi (ei (fun a b=>decide (a<b)) k a l):=AO (ef:=yG) cN vD k a l;rw[e,eP]at h1;exact h1
theorem dD.drop {l:List (Int×Nat)}(h:dD P tk w b l)(ht:P.underlying tm=some (.map tk te))(hk:P.underlying tk=some (.int .i64))(k:Int)(sB:-9223372036854775808<=k/\k<=9223372036854775807)(ty:TypeId):
  ∃ w',(Builtin.delete_ #[tm,tk] ty #[.map (some b),.int .i64 k]).run P w=.ok (.tuple #[]) w'/\dD P tk w' b (gc k l)/\ah (·=b) w w':=by
 obtain⟨w',bh,bu,NS⟩:=World.ownsMap.drop h (int_keyed hk) ht (lG hk k sB) ty;refine⟨w',bh,?_,gS NS.grown⟩;have h1:=zt bu;rw[AP cN,eP]at h1;exact h1
theorem dD.len {l:List (Int×Nat)}(h:dD P tk w b l)(ht:P.underlying tm=some (.map tk te))(ty:TypeId):(Builtin.len_ #[tm] ty #[.map (some b)]).run P w=.ok (.int .i64 (l.length:Int)) w:=by
 have:=World.ownsMap.len h ht ty
 rwa [eP]at this
theorem dD.made (w:World):dD P tk (w.alloc (.map #[] 0)) w.heap.size []:=World.ownsMap_made w P tk _
end
end
section
open Go.RowKit Go.Maps
theorem tT {w w':World}{b:Nat}(h:w.mapTurned w' b):w'.heap.size=w.heap.size:=by
 obtain⟨es,clock,es',aiK,_,rfl⟩:=h;simp[ChangeMaps.setBlock]
structure nX (P:Program)(te:TypeId)(R:Value->Option (DataW Value×List MemPlace)){β:Type}(ef:β->DataW Value)(mk:β->Value)(ok:β->Prop)(z:β):Prop where
 mkR:∀ x,ok x->R (mk x)=some (ef x,[])
 inv:∀ v ps x,R v=some (ef x,ps)->v=mk x
 zero:∀ w,(zeroValue te).run P w=.ok (mk z) w
 zok:ok z
 any:∀ v y,R v=some y->∃ c,v=mk c/\y.1=ef c
 inj:∀ a b,ef a=ef b->a=b
 mkinj:∀ a b,mk a=mk b->a=b
def CR (s:List UInt8):DataW Value:=.lit (.string s)
def OX (s:Bool):DataW Value:=.lit (.bool s)
theorem OY {P:Program}{te:TypeId}(he:P.underlying te=some .string)(hz:∀ w,(zeroValue te).run P w=.ok (.string ⟨#[]⟩) w):nX P te (plainElem P te) CR (fun s=>.string ⟨s.toArray⟩) (fun s=>s.length<=140737488355328) [] where
 mkR s hs:=plainElem_string he (s:=⟨s.toArray⟩) (by show s.toArray.size<=_;unfold maxLen;simp;omega)
 inv v ps x h:=by
  obtain⟨s,rfl,hz,_⟩:=plainElem_string_inv he h;have:x=s.data.toList:=by simpa[CR]using awe Prod.fst hz
  subst this;simp
 zero w:=hz w
 zok:=by simp
 any v y h:=by
  obtain⟨s,rfl,hz,_⟩:=plainElem_string_inv he h;exact⟨s.data.toList,by simp,by rw[hz];rfl⟩
 inj a b h:=by simpa[CR]using h
 mkinj a b h:=by simpa using h
theorem KV {P:Program}{te:TypeId}(he:P.underlying te=some .bool)(hz:∀ w,(zeroValue te).run P w=.ok (.bool false) w):nX P te (plainElem P te) OX Value.bool (fun _=>True) false where
 mkR s _:=plainElem_bool he s
 inv v ps x h:=by
  unfold plainElem at h;rw[he]at h
  cases v<;>simp[OX]at h
  simp[h]
 zero w:=hz w
 zok:=trivial
 any v y h:=by
  unfold plainElem at h;rw[he]at h
  cases v<;>simp at h
  rename_i x
  exact⟨x,rfl,by rw[<-h];rfl⟩
 inj a b h:=by simpa[OX]using h
 mkinj a b h:=by simpa using h
section
variable {P:Program}{tm tk te:TypeId}{w:World}{b:Nat}{β:Type}{R:Value->Option (DataW Value×List MemPlace)}{ef:β->DataW Value}{mk:β->Value}{ok:β->Prop}{z:β}
def fh (P:Program)(tk:TypeId)(R:Value->Option (DataW Value×List MemPlace))(ef:β->DataW Value)(w:World)(b:Nat)(l:List (Int×β)):Prop:=w.ownsMap P tk R b l.length (Cm (Lit.int .i64) ef l)
theorem fh.mod {l:List (Int×β)}{w':World}{S:Nat->Prop}(h:fh P tk R ef w b l)(m:ah S w w')(hS:¬ S b):fh P tk R ef w' b l:=vC h m hS
theorem fh.same {l:List (Int×β)}{w':World}(h:fh P tk R ef w b l)(m:w'.heap[b]?=w.heap[b]?):fh P tk R ef w' b l:=by
 obtain⟨es,clock,hb,F,hs,hD⟩:=h;exact⟨es,clock,m.trans hb,F,hs,hD⟩
theorem fh.lt {l:List (Int×β)}(h:fh P tk R ef w b l):b<w.heap.size:=World.ownsMap.lt h
theorem fh.look {l:List (Int×β)}(h:fh P tk R ef w b l)(E:nX P te R ef mk ok z)(ht:P.underlying tm=some (.map tk te))(hk:P.underlying tk=some (.int .i64))(k:Int)(sB:-9223372036854775808<=k/\k<=9223372036854775807):
  (Instr.lookup tm (.map (some b)) (.int .i64 k) true).run P w=.ok (.tuple #[mk ((bF k l).getD z),.bool (bF k l).isSome]) w:=by
 obtain⟨v,ps,bh,hv⟩:=World.ownsMap.look_ok h (int_keyed hk) ht (E.zero w) (E.mkR z E.zok) (lG hk k sB);rw[pI cN]at bh;rw[kI cN]at hv;rw[bh]
 cases hg:bF k l with
 |none=>rw[hg]at hv;rw[E.inv v ps z hv];rfl
 |some x=>rw[hg]at hv;rw[E.inv v ps x hv];rfl
theorem fh.look1 {l:List (Int×β)}(h:fh P tk R ef w b l)(E:nX P te R ef mk ok z)(ht:P.underlying tm=some (.map tk te))(hk:P.underlying tk=some (.int .i64))(k:Int)(sB:-9223372036854775808<=k/\k<=9223372036854775807):
  (Instr.lookup tm (.map (some b)) (.int .i64 k) false).run P w=.ok (mk ((bF k l).getD z)) w:=by
 obtain⟨v,ps,bh,hv⟩:=World.ownsMap.lookup h (int_keyed hk) ht (E.zero w) (E.mkR z E.zok) (lG hk k sB);rw[kI cN]at hv;rw[bh]
 cases hg:bF k l with
 |none=>rw[hg]at hv;rw[E.inv v ps z hv];rfl
 |some x=>rw[hg]at hv;rw[E.inv v ps x hv];rfl
abbrev j4 (a b:Int):Bool:=decide (a<b)
theorem fh.store {l:List (Int×β)}(h:fh P tk R ef w b l)(E:nX P te R ef mk ok z)(ht:P.underlying tm=some (.map tk te))(hk:P.underlying tk=some (.int .i64))(k:Int)(sB:-9223372036854775808<=k/\k<=9223372036854775807)(x:β)(hx:ok x)(hl:l.length<140737488355328):
  ∃ w',(Instr.mapUpdate tm (.map (some b)) (.int .i64 k) (mk x)).run P w=.ok () w'/\fh P tk R ef w' b (ei j4 k x l)/\ah (·=b) w w'/\w'.heap.size=w.heap.size:=by
 obtain⟨w',bh,bu,NS⟩:=World.ownsMap.store h (int_keyed hk) ht (by unfold maxLen;omega) (lG hk k sB) (E.mkR x hx);refine⟨w',bh,?_,gS NS.grown,tT NS⟩;have h1:=zt bu;have e:(Cm (Lit.int .i64) ef l).put (.int .i64 k) (ef x)=Cm (Lit.int .i64) ef (ei j4 k x l):=AO cN vD k x l;rw[e,eP]at h1;exact h1
theorem fh.drop {l:List (Int×β)}(h:fh P tk R ef w b l)(ht:P.underlying tm=some (.map tk te))(hk:P.underlying tk=some (.int .i64))(k:Int)(sB:-9223372036854775808<=k/\k<=9223372036854775807)(ty:TypeId):
  ∃ w',(Builtin.delete_ #[tm,tk] ty #[.map (some b),.int .i64 k]).run P w=.ok (.tuple #[]) w'/\fh P tk R ef w' b (gc k l)/\ah (·=b) w w'/\w'.heap.size=w.heap.size:=by
 obtain⟨w',bh,bu,NS⟩:=World.ownsMap.drop h (int_keyed hk) ht (lG hk k sB) ty;refine⟨w',bh,?_,gS NS.grown,tT NS⟩;have h1:=zt bu;rw[AP cN,eP]at h1;exact h1
theorem fh.clear {l:List (Int×β)}(h:fh P tk R ef w b l)(ht:P.underlying tm=some (.map tk te))(ty:TypeId):
  ∃ w',(Builtin.clear_ #[tm] ty #[.map (some b)]).run P w=.ok (.tuple #[]) w'/\fh P tk R ef w' b []/\ah (·=b) w w'/\w'.heap.size=w.heap.size:=by
 obtain⟨es,clock,hb,F,hs,hD⟩:=h;refine⟨{ w with heap:=w.heap.setIfInBounds b (.map #[] clock) },?_,?_,⟨rfl,rfl,rfl,?_,?_⟩,by simp⟩
 ·simp[Builtin.clear_,run_underlying ht,MapKept.run_getObj_map hb,MapKept.run_setObj_map _ hb,Result.andThen]
 ·exact⟨#[],clock,(MapKept.heap_set hb).1,⟨by simp,MapKept.stamped_empty _,by simp⟩,au4 _,rfl⟩
 ·simp
 ·intro i hi hS;exact(MapKept.heap_set hb).2 i hS
theorem fh.at {l:List (Int×β)}(E:nX P te R ef mk ok z){x:Int}{c:β}{y:DataW Value×List MemPlace}(hv:R (mk c)=some y)(qt:∀ zd,(Cm (Lit.int .i64) ef l).atKey (.int .i64 x) zd=y.1):bF x l=some c:=by
 obtain⟨c',h1,h2⟩:=E.any _ _ hv;have h3:=E.mkinj _ _ h1;subst h3
 cases hg:bF x l with
 |none=>
  have h4:=qt (.held (.pointer none));have h5:=qt (.lit (.bool true));rw[kI cN,hg]at h4 h5;exact absurd (h4.trans h5.symm) (by simp)
 |some d=>
  have h4:=qt (.held (.pointer none));rw[kI cN,hg,h2]at h4;rw[E.inj _ _ h4]
theorem KW {l:List (Int×β)}(E:nX P te R ef mk ok z)(hk:P.underlying tk=some (.int .i64)){aB:Array Oper}{rest:List Oper}{o:Oper}{a:Act}{Q:Exit->Act->World->Prop}(hg:o.guard=none)(it:Operand)(hop:o.op=Op.next it false)
  (r:Nat) (left:Lit->Bool) (j6:Nat) (hit:a.eval it=.pointer (some ⟨r,0,none⟩)) (h:w.ranges P tk R b r l.length (Cm (Lit.int .i64) ef l) left j6)
  (aex:j6=0->(∀ kl,left kl=false)->wpList P aB Q rest (a.put o.dst (.tuple #[.bool false])) w)
  (afN:∀(x:Int) (c:β) (w':World) (sG:Nat),(-9223372036854775808<=x/\x<=9223372036854775807)->left (.int .i64 x)=true->bF x l=some c->w'.ranges P tk R b r l.length (Cm (Lit.int .i64) ef l) (fun z=>left z&&!z.sameKey (.int .i64 x)) sG->sG<j6->
   ah (·=r) w w'->w'.heap.size=w.heap.size->(Instr.entry (.pointer (some ⟨r,0,none⟩))).run P w'=.ok (.tuple #[.int .i64 x,mk c]) w'->wpList P aB Q rest (a.put o.dst (.tuple #[.bool true,.int .i64 x,mk c])) w'):
  wpList P aB Q (o::rest) a w:=by
 refine wpList_next_ranges w hg it hop tk (int_keyed hk) R (Value.int .i64) mk (fun key kl h=>by obtain⟨x,rfl,_⟩:=Maps.keyOf_int_inv hk h;exact⟨x,rfl⟩) (fun v y h=>by obtain⟨c,hc,_⟩:=E.any v y h;exact⟨c,hc⟩) b r l.length _ left j6 hit h aex ?_;intro x c kl y w' sG Je AE hv qt TZ aL hgr cV hen;obtain⟨x',hx,rfl,Z0⟩:=Maps.keyOf_int_inv hk Je;have:x=x':=by simpa using hx
 subst this;refine afN x c w' sG ?_ AE (fh.at E hv qt) TZ aL (gS hgr) cV hen;have:=Z0;simp[Lit.wf,IntKind.min,IntKind.max,IntKind.signed,IntKind.bits]at this;omega
theorem fh.made (w:World):fh P tk R ef (w.alloc (.map #[] 0)) w.heap.size ([]:List (Int×β)):=World.ownsMap_made w P tk _
end
end
end Go.Proofs.YtkghpdcloaiflaaGreatDoor
section
namespace Go
structure zu where
 objs:Array Obj
 drawn:Nat
instance:Inhabited zu:=⟨⟨#[],0⟩⟩
def World.ext (w:World)(x:zu):World:={ w with heap:=w.heap++x.objs,drawn:=x.drawn }
end Go
namespace Go.Proofs.YtkghpdcloaiflaaGreatDoor
open _root_.Go.Proofs.Tryz
open Go.RowKit
section
variable {w:World}{x y:zu}
theorem sT {k:Nat}(h:k<w.heap.size):(w.ext x).heap[k]?=w.heap[k]?:=by
 show(w.heap++x.objs)[k]?=_;rw[Array.getElem?_append_left h]
@[go_sem] theorem acx:(w.ext x).heap.size=w.heap.size+x.objs.size:=by simp[World.ext]
@[go_sem] theorem acy {b:Nat}(h:b<w.heap.size)(i:Nat):(w.ext x).cell? ⟨b,i,none⟩=w.cell? ⟨b,i,none⟩:=World.cell?_of_block (a:=⟨b,i,none⟩) (sT h)
@[go_sem] theorem YP {b:Nat}(h:b<w.heap.size)(i:Nat):(w.ext x).frozen? ⟨b,i,none⟩=w.frozen? ⟨b,i,none⟩:=World.frozen?_of_block (a:=⟨b,i,none⟩) (sT h)
theorem aC (w:World)(x:zu):af w (w.ext x):=⟨rfl,rfl,rfl,by simp[World.ext],fun _ hk _=>sT hk⟩
theorem gT {w w':World}(h:af w w'):∃ x,w'=w.ext x:=by
 refine⟨⟨w'.heap.extract w.heap.size w'.heap.size,w'.drawn⟩,?_⟩;obtain⟨os,tape,output,size,block⟩:=h;have e:w.heap++w'.heap.extract w.heap.size w'.heap.size=w'.heap:=by
  apply Array.ext_getElem?;intro i;by_cases hi:i<w.heap.size
  ·rw[Array.getElem?_append_left hi,block i hi id]
  ·rw[Array.getElem?_append_right (by omega),Array.getElem?_extract];split
   ·rw[show w.heap.size+(i-w.heap.size)=i by omega]
   ·rw[Array.getElem?_eq_none (by omega)]
 show w'={ w with heap:=w.heap++_,drawn:=_ };rw[e,<-os,<-tape,<-output]
end
theorem bB {P:Program}{f:FuncId}{args:Array Value}{w:World}{x:zu}{v:Value}
  (h:Calls P f args (w.ext x) fun e w'=>e=.returned v/\af (w.ext x) w'):Calls P f args (w.ext x) fun e w''=>e=.returned v/\∃ y,w''=w.ext y:=
 h.mono fun _ _ ⟨he,hk⟩=>⟨he,gT ((aC w x).keep hk)⟩
theorem ir {P:Program}{id:Nat}{Q:Exit->Act->World->Prop}{a:Act}{w:World}{l:List Oper}(m n:Nat)(hm:P.follows .mixedOrders=true)(hB:Region.lexMidB .any l.toArray m n=true)
  (hQ:∀ c o v a w,Q (.panic c) (Act.put a o v) w->Q (.panic c) a w)
  (h:lY P l.toArray (wpQuiet P l.toArray (fun w'=>∃ x,w'=w.ext x) (fun a'=>∀ w',(∃ x,w'=w.ext x)->wpList P l.toArray Q (l.drop n) a' w') ((l.take n).drop m)) (l.take m) a):(Code.region id l.toArray true).wp P Q a w:=
 yD m n (fun w'=>∃ x,w'=w.ext x) hm hB hQ (gT ((ah.refl _ w).drawn _)) h
theorem rH {P:Program}{id:Nat}{Q:Exit->Act->World->Prop}{a:Act}{w:World}{l:List Oper}(n:Nat)(hm:P.follows .mixedOrders=true)(hB:Region.lexTailB .any l.toArray n=true)
  (h:wpQuiet P l.toArray (fun w'=>∃ x,w'=w.ext x) (fun a'=>∀ w',(∃ x,w'=w.ext x)->wpList P l.toArray Q (l.drop n) a' w') (l.take n) a):(Code.region id l.toArray true).wp P Q a w:=
 ni n (fun w'=>∃ x,w'=w.ext x) hm hB (gT ((ah.refl _ w).drawn _)) h
theorem cO {P:Program}{id:Nat}{Q:Exit->Act->World->Prop}{a:Act}{w:World}{l:List Oper}(hm:P.follows .mixedOrders=true)(hB:Region.lexB .any l.toArray=true)
  (h:wpQuiet P l.toArray (fun w'=>∃ x,w'=w.ext x) (fun a'=>∀ w',(∃ x,w'=w.ext x)->Q .normal a' w') l a):(Code.region id l.toArray true).wp P Q a w:=
 wp_region_quiet (C:=fun w'=>∃ x,w'=w.ext x) hm hB (gT ((ah.refl _ w).drawn _)) (by simpa using h)
end Go.Proofs.YtkghpdcloaiflaaGreatDoor
end
namespace Go.Proofs.YtkghpdcloaiflaaGreatDoor
open _root_.Go.Proofs.Tryz
def jX (c:UInt8):List UInt8->List (List UInt8)
 |[]=>[[]]
 |b::l=>if b=c then []::jX c l else match jX c l with
  |[]=>[[b]]
  |x::r=>(b::x)::r
theorem vE (c:UInt8)(l:List UInt8):jX c l≠[]:=by
 cases l with
 |nil=>simp[jX]
 |cons b l=>
  unfold jX;split
  ·simp
  ·split<;>simp
theorem vG (c b:UInt8)(l:List UInt8)(h:b≠c):jX c (b::l)=match jX c l with|[]=>[[b]]|x::r=>(b::x)::r:=by rw[jX,ava h]
theorem Gp (c:UInt8)(l:List UInt8):Lib.splitK [c] 0 (Lib.count l [c]) l=jX c l:=by
 induction l with
 |nil=>rw[Lib.count_one];rfl
 |cons b l ih=>
  unfold jX;by_cases h:b=c
  ·subst h;have R4:Lib.index (b::l) [b]=((0:Nat):Int):=by rw[Lib.index];simp[List.isPrefixOf]
   rw[au8 rfl,Lib.count_cons_eq,Nat.add_comm,Lib.splitK,R4,<-ih];simp
  ·rw[ava h,Lib.count_cons_ne b c l h];have hp:([c]:List UInt8).isPrefixOf (b::l)=false:=by simp[List.isPrefixOf,Ne.symm h]
   have R4:Lib.index (b::l) [c]=if Lib.index l [c]==-1 then -1 else Lib.index l [c]+1:=by rw[Lib.index,hp];simp
   by_cases hm:Lib.index l [c] = -1
   ·have h0:Lib.count l [c]=0:=Lib.count_miss hm;rw[h0]at ih ⊢;rw[<-ih];rfl
   ·have hge:=Lib.index_ge l [c];obtain⟨j,hj⟩:∃ j:Nat,Lib.index l [c]=j:=⟨(Lib.index l [c]).toNat,by omega⟩
    have hk:=Lib.count_hit (by simp) hj;rw[hk,Nat.add_comm]at ih ⊢;have BW:(Lib.index l [c]==-1)=false:=by rw[avK];exact hm
    have AD:(Lib.index (b::l) [c]==-1)=false:=by rw[avK,R4,BW];simp;omega
    rw[Lib.splitK,BW,hj]at ih;rw[Lib.splitK,AD,R4,BW,hj,<-ih];have e1:((j:Int)+1).toNat=j+1:=by omega
    simp[e1]
theorem vH (c:UInt8)(l:List UInt8):(Lib.splitB ⟨#[c]⟩ 0 (Lib.countB ⟨l.toArray⟩ ⟨#[c]⟩) ⟨l.toArray⟩)=(jX c l).map (fun x=>⟨x.toArray⟩):=by
 have h:=Lib.splitB_data ⟨#[c]⟩ 0 (Lib.countB ⟨l.toArray⟩ ⟨#[c]⟩) ⟨l.toArray⟩;have e:Lib.splitK [c] 0 (Lib.countB ⟨l.toArray⟩ ⟨#[c]⟩) l=jX c l:=Gp c l;have h':(Lib.splitB ⟨#[c]⟩ 0 (Lib.countB ⟨l.toArray⟩ ⟨#[c]⟩) ⟨l.toArray⟩).map (·.data.toList)=jX c l:=h.trans e;rw[<-h',avr];have:((fun x:List UInt8=>(⟨x.toArray⟩:ByteArray))∘fun s:ByteArray=>s.data.toList)=id:=by
  funext s;cases s;rfl
 rw[this,List.map_id]
theorem Gq (c:UInt8)(l:List UInt8):Lib.countB ⟨l.toArray⟩ ⟨#[c]⟩+1=(jX c l).length:=by
 have h:=Lib.splitB_all ⟨#[c]⟩ (au4 1) 0 _ ⟨l.toArray⟩ rfl;rw[<-h,vH,avv]
theorem Uc (c:UInt8)(l:List UInt8):(jX c l).length=l.count c+1:=by
 induction l with
 |nil=>rfl
 |cons b l ih=>
  unfold jX;by_cases h:b=c
  ·subst h;rw[au8 rfl,au0,ih,List.count_cons_self]
  ·rw[ava h,List.count_cons_of_ne (by simpa using h),<-ih]
   cases hs:jX c l with
   |nil=>exact absurd hs (vE c l)
   |cons x r=>simp
theorem vI (c:UInt8)(l:List UInt8):[c].intercalate (jX c l)=l:=by
 induction l with
 |nil=>simp[jX,List.intercalate]
 |cons b l ih=>
  unfold jX;by_cases h:b=c
  ·subst h;rw[au8 rfl]
   cases hs:jX b l with
   |nil=>exact absurd hs (vE b l)
   |cons x r=>rw[hs]at ih;simp[List.intercalate]at ih ⊢;exact ih
  ·rw[ava h]
   cases hs:jX c l with
   |nil=>exact absurd hs (vE c l)
   |cons x r=>
    rw[hs]at ih
    cases r with
    |nil=>simp[List.intercalate]at ih ⊢;exact ih
    |cons y r=>simp[List.intercalate]at ih ⊢;exact ih
theorem KX (c:UInt8)(l:List UInt8):∀ i,((jX c l).getD i []).length<=l.length:=by
 induction l with
 |nil=>intro i;cases i<;>simp[jX]
 |cons b l ih=>
  intro i;by_cases h:b=c
  ·rw[jX,au8 h]
   cases i with
   |zero=>simp
   |succ i=>have:=ih i;simp at this ⊢;omega
  ·rw[vG c b l h]
   cases hs:jX c l with
   |nil=>cases i<;>simp
   |cons x r=>
    rw[hs]at ih
    cases i with
    |zero=>have:=ih 0;simp at this ⊢;omega
    |succ i=>have:=ih (i+1);simp at this ⊢;omega
theorem Ud (c:UInt8)(l:List UInt8)(h:c∉l):jX c l=[l]:=by
 induction l with
 |nil=>rfl
 |cons b l ih=>
  unfold jX;rw[ava (by intro e;subst e;simp at h),ih (by intro e;exact h (by simp[e]))]
theorem OZ (c:UInt8)(x l:List UInt8)(h:c∉x):jX c (x++c::l)=x::jX c l:=by
 induction x with
 |nil=>simp[jX]
 |cons b x ih=>
  rw[avG,vG c b _ (by intro e;subst e;simp at h),ih (by intro e;exact h (by simp[e]))]
theorem CT (c:UInt8)(xs:List (List UInt8))(dV:xs≠[])(h:∀ x∈xs,c∉x):jX c ([c].intercalate xs)=xs:=by
 induction xs with
 |nil=>exact absurd rfl dV
 |cons x xs ih=>
  cases xs with
  |nil=>simp only[List.intercalate,List.intersperse,List.flatten_cons,List.flatten_nil,List.append_nil];exact Ud c x (h x (by simp))
  |cons y ys=>
   have e:[c].intercalate (x::y::ys)=x++c::[c].intercalate (y::ys):=by simp[List.intercalate]
   rw[e,OZ c x _ (h x (by simp)),ih (by simp) (fun z hz=>h z (by simp[hz]))]
end Go.Proofs.YtkghpdcloaiflaaGreatDoor
