import Derived.Test.YtkghpdcloaiflaaGreatDoorE02
import Derived.Maps.RangeWalk
import Derived.Maps.OwnSet
import Derived.WalkArith
import Derived.Maps.StringElems
import Derived.Lib.SplitLaws
import Derived.Lib.Join
namespace Go.Proofs.YtkghpdcloaiflaaGreatDoor
open _root_.Go.Proofs.Tryz
def KZ:az:=[115,116,105,108,108,97,103,101,32,118,111,108,117,109,101,33]
def nw (s:az)(n:Nat):az:=let t:=s++List.replicate (n-s.length) 0;t++KX KZ t
def d5 (p:az):az:=nw ([UInt8.ofNat (p.length%256),UInt8.ofNat (p.length/256%256)]++p) 248
def kJ (s:az):Except Int az:=
 if s.length≠256 then .error 82 else
  let n:=(s.getD 0 0).toNat+256*(s.getD 1 0).toNat
  if 240<n then .error 82 else
   if d5 ((s.drop 2).take n)=s then .ok ((s.drop 2).take n)else .error 82
theorem JD (k s:az):(KX k s).length=8:=by unfold KX;simp[CQ,uY]
theorem vM {s:az}{n:Nat}(h:s.length<=n):(nw s n).length=n+8:=by
 unfold nw;simp[JD];omega
theorem ti {p:az}(h:p.length<=240):(d5 p).length=256:=by
 unfold d5;rw[vM (by simp;omega)]
theorem yE {p:az}(h:p.length<=240):kJ (d5 p)=.ok p:=by
 have hl:=ti h;obtain⟨r,hr⟩:∃ r,d5 p=UInt8.ofNat (p.length%256)::UInt8.ofNat (p.length/256%256)::(p++r):=by
  unfold d5 nw;simp
 unfold kJ;rw[auK (by omega)];have e:((d5 p).getD 0 0).toNat+256*((d5 p).getD 1 0).toNat=p.length:=by
  rw[hr];simp;omega
 have e2:((d5 p).drop 2).take p.length=p:=by rw[hr];simp
 simp only[e,e2];rw[auK (by omega),auI trivial]
def eO (d:Dk)(n:Nat):az:=d.get (4*n)++d.get (4*n+1)++d.get (4*n+2)++d.get (4*n+3)
def iw (d:Dk):Rd:=fun n=>if 1<=n/\n<(d.size/4:Nat)then kJ (eO d n.toNat)else .error 81
def jM (d:Dk)(n:Nat)(s:az):Nat->Dk
 |0=>d
 |k+1=>(jM d n s k).put (4*n+k) ((s.drop (k*64)).take 64)
theorem jy (d:Dk)(n:Nat)(s:az):∀ k,(jM d n s k).size=d.size
 |0=>rfl
 |k+1=>by rw[jM,fF,jy d n s k]
theorem qG (d:Dk)(n:Nat)(s:az)(m:Nat):∀ k,k<=4->(jM d n s k).get m=if 4*n<=m/\m<4*n+k then(s.drop ((m-4*n)*64)).take 64 else d.get m
 |0,_=>by rw[auK (by omega)];rfl
 |k+1,h=>by
  rw[jM,JC,qG d n s m k (by omega)];by_cases hm:m=4*n+k
  ·rw[auI hm,auI (by omega),show m-4*n=k by omega]
  ·rw[auK hm];by_cases h2:4*n<=m/\m<4*n+k
   ·rw[auI h2,auI (by omega)]
   ·rw[auK h2,auK (by omega)]
theorem CU {d:Dk}{n:Nat}(h1:1<=n)(h2:n<d.size/4){p:az}(hp:p.length<=240):iw (jM d n (d5 p) 4)=l8 (iw d) n p:=by
 funext k
 unfold iw l8;rw[jy];have hl:=ti hp;by_cases hk:1<=k/\k<(d.size/4:Nat)
 ·rw[auI hk];by_cases rl:k=n
  ·rw[auI rl];subst rl;have e:eO (jM d n (d5 p) 4) ((n:Int).toNat)=d5 p:=by
    unfold eO;rw[avc];simp only[qG d n (d5 p) _ 4 (auE 4)];rw[auI (by omega),auI (by omega),auI (by omega),auI (by omega)];rw[show 4*n-4*n=0 by omega,show 4*n+1-4*n=1 by omega,show 4*n+2-4*n=2 by omega,show 4*n+3-4*n=3 by omega];have:d5 p=(d5 p).take (64+64+64+64):=by rw[avl (by omega)]
    conv=>rhs;rw[this]
    simp only[List.take_add,Nat.zero_mul,avr,avi]
   rw[e,yE hp]
  ·rw[auK rl];have e:eO (jM d n (d5 p) 4) k.toNat=eO d k.toNat:=by
    unfold eO;have:k.toNat≠n:=by omega
    simp only[qG d n (d5 p) _ 4 (auE 4)];rw[auK (by omega),auK (by omega),auK (by omega),auK (by omega)]
   rw[e];exact(auI hk).symm
 ·rw[auK hk];by_cases rl:k=n
  ·omega
  ·rw[auK rl];exact(auK hk).symm
theorem AQ (d:Dk):iw d.sync=iw d:=by
 funext k
 unfold iw;rw[dF];by_cases hk:1<=k/\k<(d.size/4:Nat)
 ·rw[auI hk,auI hk];have e:eO d.sync k.toNat=eO d k.toNat:=by
   unfold eO;rw[rN _ (by omega),rN _ (by omega),rN _ (by omega),rN _ (by omega)]
  rw[e]
 ·rw[auK hk,auK hk]
def JE (n:Nat):az:=(List.range 6).map fun i=>UInt8.ofNat (n/256 ^ i%256)
def CV (text:az)(num:Nat):az:=nw ([82,84]++JE num++[UInt8.ofNat (text.length%256)]++text) 56
theorem K0 {text:az}(h:text.length<=40)(num:Nat):(CV text num).length=64:=by
 unfold CV;rw[vM (by simp[JE];omega)]
def kK (d:Dk)(text:az)(num:Nat):Dk:=(d.put (num%2) (CV text num)).sync
theorem qH (d:Dk)(text:az)(num:Nat):(kK d text num).size=d.size:=by unfold kK;rw[dF,fF]
theorem ud (d:Dk)(n:Nat)(hn:n<4)(s:az):iw (d.put n s)=iw d:=by
 funext k
 unfold iw;rw[fF];by_cases hk:1<=k/\k<(d.size/4:Nat)
 ·rw[auI hk,auI hk];have e:eO (d.put n s) k.toNat=eO d k.toNat:=by
   unfold eO;simp only[JC];rw[auK (by omega),auK (by omega),auK (by omega),auK (by omega)]
  rw[e]
 ·rw[auK hk,auK hk]
theorem vN (d:Dk)(text:az)(num:Nat):iw (kK d text num)=iw d:=by unfold kK;rw[AQ,ud _ _ (by omega)]
section
open Go.RowKit Go.Maps
section
variable {α β H:Type}
def jN (lt:α->α->Bool)(x:α×β):List (α×β)->List (α×β)
 |[]=>[x]
 |y::r=>if lt x.1 y.1 then x::y::r else y::jN lt x r
section
variable [BEq α]
def gm (a:α)(l:List (α×β)):List (α×β):=l.filter fun p=>!(p.1==a)
def em (lt:α->α->Bool)(a:α)(b:β)(l:List (α×β)):List (α×β):=jN lt (a,b) (gm a l)
def bF (a:α)(l:List (α×β)):Option β:=(l.find? fun p=>p.1==a).map (·.2)
end
def Cp (kf:α->Lit)(ef:β->DataW H)(l:List (α×β)):DataW H:=.map (l.map fun p=>(kf p.1,ef p.2))
variable {kf:α->Lit}{ef:β->DataW H}{lt:α->α->Bool}
theorem OX (hb:∀ a b,(kf a).before (kf b)=lt a b)(a:α)(b:β)(l:List (α×β)):DataW.insert (kf a,ef b) (l.map fun p=>(kf p.1,ef p.2))=(jN lt (a,b) l).map fun p=>(kf p.1,ef p.2):=by
 induction l with
 |nil=>rfl
 |cons y r ih=>
  simp only[auy,DataW.insert,jN,hb];split
  ·simp
  ·simp[ih]
section
variable [BEq α]
theorem CW (hs:∀ a b,(kf a).sameKey (kf b)=(a==b))(a:α)(l:List (α×β)):((l.map fun p=>(kf p.1,ef p.2)).filter fun p=>!p.1.sameKey (kf a))=(gm a l).map fun p=>(kf p.1,ef p.2):=by
 induction l with
 |nil=>rfl
 |cons y r ih=>
  simp only[auy,avN,gm,hs];by_cases h:(!(y.1==a))=true
  ·rw[auI h,auI h,auy,ih];rfl
  ·rw[auK h,auK h,ih];rfl
theorem AR (hs:∀ a b,(kf a).sameKey (kf b)=(a==b))(hb:∀ a b,(kf a).before (kf b)=lt a b)(a:α)(b:β)(l:List (α×β)):(Cp kf ef l).put (kf a) (ef b)=Cp kf ef (em lt a b l):=by
 show DataW.map _=DataW.map _;rw[CW hs,OX hb];rfl
theorem AS (hs:∀ a b,(kf a).sameKey (kf b)=(a==b))(a:α)(l:List (α×β)):(Cp kf ef l).del (kf a)=Cp kf ef (gm a l):=by
 show DataW.map _=DataW.map _;rw[CW hs]
theorem OY (hs:∀ a b,(kf a).sameKey (kf b)=(a==b))(a:α)(l:List (α×β)):(l.map fun p=>(kf p.1,ef p.2)).find? (fun p=>p.1.sameKey (kf a))=(l.find? fun p=>p.1==a).map fun p=>(kf p.1,ef p.2):=by
 rw[List.find?_map]
 congr 1
 ·congr 1
  funext p
  simp[Function.comp,hs]
theorem kL (hs:∀ a b,(kf a).sameKey (kf b)=(a==b))(a:α)(l:List (α×β))(z:DataW H):(Cp kf ef l).atKey (kf a) z=match bF a l with|some b=>ef b|none=>z:=by
 show(match (l.map fun p=>(kf p.1,ef p.2)).find? (fun p=>p.1.sameKey (kf a))with|some p=>p.2|none=>z)=_;rw[OY hs];unfold bF
 cases l.find? fun p=>p.1==a<;>rfl
theorem pM (hs:∀ a b,(kf a).sameKey (kf b)=(a==b))(a:α)(l:List (α×β)):Maps.has (Cp kf ef l) (kf a)=(bF a l).isSome:=by
 show(l.map fun p=>(kf p.1,ef p.2)).any (fun p=>p.1.sameKey (kf a))=_;unfold bF;rw[avh];simp[hs]
end
theorem eV (l:List (α×β)):Maps.size (Cp kf ef l)=l.length:=by
 show(l.map _).length=_;simp
theorem rO [BEq α](a:α)(l:List (α×β)):(gm a l).length<=l.length:=auM _ _
theorem CX (x:α×β)(l:List (α×β)):(jN lt x l).length=l.length+1:=by
 induction l with
 |nil=>rfl
 |cons y r ih=>
  unfold jN;split
  ·simp
  ·simp[ih]
end
theorem zu {H:Type}{P:Program}{k:TypeId}{R:Value->Option (DataW H×List MemPlace)}{w:World}{b n:Nat}{D:DataW H}(h:w.ownsMap P k R b n D):w.ownsMap P k R b (Maps.size D) D:=by
 obtain⟨es,clock,hb,F,hs,rfl⟩:=h;exact⟨es,clock,hb,F,by simp[Maps.size,length_sorted],rfl⟩
theorem vO {H:Type}{P:Program}{k:TypeId}{R:Value->Option (DataW H×List MemPlace)}{w w':World}{b n:Nat}{D:DataW H}{S:Nat->Prop}(h:w.ownsMap P k R b n D)(m:ah S w w')(hS:¬ S b):w'.ownsMap P k R b n D:=by
 have aL:=h.lt;obtain⟨es,clock,hb,F,hs,hD⟩:=h;exact⟨es,clock,m.obj hb hS,F,hs,hD⟩
theorem gY {w w':World}{b:Nat}(h:w.grownBy w' (some b)):ah (·=b) w w':=
 ⟨h.os,h.tape,h.output,h.size,fun k hk hS=>h.block k hk (fun e=>hS (by cases e;rfl))⟩
theorem tl {w w':World}{b:Nat}(h:ah (·=b) w w'):w.grownBy w' (some b):=
 ⟨h.os,h.tape,h.output,h.size,fun k hk hS=>h.block k hk (fun e=>hS (by rw[e]))⟩
theorem qI {w w':World}(h:w.grownBy w' none):af w w':=⟨h.os,h.tape,h.output,h.size,fun k hk _=>h.block k hk (by simp)⟩
theorem Gl {w w':World}(h:af w w'):w.grownBy w' none:=⟨h.os,h.tape,h.output,h.size,fun k hk _=>h.block k hk id⟩
def jr:Value->Option (DataW Value×List MemPlace)
 | .pointer a=>some (.held (.pointer a),[])
 |_=>none
theorem jz (a b:List UInt8):(Lit.string a).sameKey (.string b)=(a==b):=rfl
theorem Gm (a b:List UInt8):(Lit.string a).before (.string b)=bytesBefore a b:=rfl
theorem cN (a b:Int):(Lit.int .i64 a).sameKey (.int .i64 b)=(a==b):=by
 show decide _=_;rw[avh];simp
theorem vP (a b:Int):(Lit.int .i64 a).before (.int .i64 b)=decide (a<b):=rfl
def oN (k:Int):DataW Value:=.lit (.int .i64 k)
def yF (a:Nat):DataW Value:=.held (.pointer (some ⟨a,0,none⟩))
abbrev Ol (l:List (List UInt8×Int)):DataW Value:=Cp Lit.string oN l
abbrev Om (l:List (Int×Nat)):DataW Value:=Cp (Lit.int .i64) yF l
section
variable {P:Program}{tm tk te:TypeId}{w:World}{b:Nat}
def fu (P:Program)(tk te:TypeId)(w:World)(b:Nat)(l:List (List UInt8×Int)):Prop:=w.ownsMap P tk (plainElem P te) b l.length (Ol l)
def dG (P:Program)(tk:TypeId)(w:World)(b:Nat)(l:List (Int×Nat)):Prop:=w.ownsMap P tk jr b l.length (Om l)
theorem fu.mod {l:List (List UInt8×Int)}{w':World}{S:Nat->Prop}(h:fu P tk te w b l)(m:ah S w w')(hS:¬ S b):fu P tk te w' b l:=vO h m hS
theorem dG.mod {l:List (Int×Nat)}{w':World}{S:Nat->Prop}(h:dG P tk w b l)(m:ah S w w')(hS:¬ S b):dG P tk w' b l:=vO h m hS
theorem fu.lt {l:List (List UInt8×Int)}(h:fu P tk te w b l):b<w.heap.size:=World.ownsMap.lt h
theorem dG.lt {l:List (Int×Nat)}(h:dG P tk w b l):b<w.heap.size:=World.ownsMap.lt h
theorem uZ (hk:P.underlying tk=some .string)(s:List UInt8)(hs:s.length<=140737488355328):keyOf P tk (.string ⟨s.toArray⟩)=some (.string s):=
 Go.WideMaps.keyOf_string_mk (s:=⟨s.toArray⟩) hk (by show s.toArray.size<=_;unfold maxLen;simp;omega)
theorem T7 {k:Int}(h:-9223372036854775808<=k/\k<=9223372036854775807):(Lit.int .i64 k).wf=true:=by
 exact WalkArith.wf_i64 h
theorem lM (hk:P.underlying tk=some (.int .i64))(k:Int)(h:-9223372036854775808<=k/\k<=9223372036854775807):keyOf P tk (.int .i64 k)=some (.int .i64 k):=keyOf_int_mk hk (T7 h)
theorem AT {a b:Int}(h:oN a=oN b):a=b:=by
 unfold oN at h;simpa using h
theorem fu.look {l:List (List UInt8×Int)}(h:fu P tk te w b l)(ht:P.underlying tm=some (.map tk te))(hk:P.underlying tk=some .string)(he:P.underlying te=some (.int .i64))(hz:(zeroValue te).run P w=.ok (.int .i64 0) w)(s:List UInt8)(hs:s.length<=140737488355328):
  (Instr.lookup tm (.map (some b)) (.string ⟨s.toArray⟩) true).run P w=.ok (.tuple #[.int .i64 ((bF s l).getD 0),.bool (bF s l).isSome]) w:=by
 obtain⟨v,ps,bi,hv⟩:=World.ownsMap.look_ok h (string_keyed hk) ht hz (plainElem_int he (T7 (by decide))) (uZ hk s hs);rw[pM jz]at bi;rw[kL jz]at hv;obtain⟨a,rfl,hc,_⟩:=plainElem_int_inv he hv;rw[bi]
 congr 4
 cases hg:bF s l with
 |none=>rw[hg]at hc;simp at hc;simp[hc]
 |some x=>rw[hg]at hc;simp[oN]at hc;simp[hc]
theorem fu.look1 {l:List (List UInt8×Int)}(h:fu P tk te w b l)(ht:P.underlying tm=some (.map tk te))(hk:P.underlying tk=some .string)(he:P.underlying te=some (.int .i64))(hz:(zeroValue te).run P w=.ok (.int .i64 0) w)(s:List UInt8)(hs:s.length<=140737488355328):
  (Instr.lookup tm (.map (some b)) (.string ⟨s.toArray⟩) false).run P w=.ok (.int .i64 ((bF s l).getD 0)) w:=by
 obtain⟨v,ps,bi,hv⟩:=World.ownsMap.lookup h (string_keyed hk) ht hz (plainElem_int he (T7 (by decide))) (uZ hk s hs);rw[kL jz]at hv;obtain⟨a,rfl,hc,_⟩:=plainElem_int_inv he hv;rw[bi]
 congr 2
 cases hg:bF s l with
 |none=>rw[hg]at hc;simp at hc;simp[hc]
 |some x=>rw[hg]at hc;simp[oN]at hc;simp[hc]
theorem fu.store {l:List (List UInt8×Int)}(h:fu P tk te w b l)(ht:P.underlying tm=some (.map tk te))(hk:P.underlying tk=some .string)(he:P.underlying te=some (.int .i64))(s:List UInt8)(hs:s.length<=140737488355328)(k:Int)(sR:-9223372036854775808<=k/\k<=9223372036854775807)(hl:l.length<140737488355328):
  ∃ w',(Instr.mapUpdate tm (.map (some b)) (.string ⟨s.toArray⟩) (.int .i64 k)).run P w=.ok () w'/\fu P tk te w' b (em bytesBefore s k l)/\ah (·=b) w w':=by
 obtain⟨w',bi,bw,Jm⟩:=World.ownsMap.store h (string_keyed hk) ht (by unfold maxLen;omega) (uZ hk s hs) (plainElem_int he (T7 sR));refine⟨w',bi,?_,gY Jm.grown⟩;have h1:=zu bw;have e:(Ol l).put (.string s) (.lit (.int .i64 k))=Ol (em bytesBefore s k l):=AR (ef:=oN) jz Gm s k l;rw[e,eV]at h1;exact h1
theorem fu.drop {l:List (List UInt8×Int)}(h:fu P tk te w b l)(ht:P.underlying tm=some (.map tk te))(hk:P.underlying tk=some .string)(s:List UInt8)(hs:s.length<=140737488355328)(ty:TypeId):
  ∃ w',(Builtin.delete_ #[tm,tk] ty #[.map (some b),.string ⟨s.toArray⟩]).run P w=.ok (.tuple #[]) w'/\fu P tk te w' b (gm s l)/\ah (·=b) w w':=by
 obtain⟨w',bi,bw,Jm⟩:=World.ownsMap.drop h (string_keyed hk) ht (uZ hk s hs) ty;refine⟨w',bi,?_,gY Jm.grown⟩;have h1:=zu bw;rw[AS jz,eV]at h1;exact h1
theorem fu.len {l:List (List UInt8×Int)}(h:fu P tk te w b l)(ht:P.underlying tm=some (.map tk te))(ty:TypeId):(Builtin.len_ #[tm] ty #[.map (some b)]).run P w=.ok (.int .i64 (l.length:Int)) w:=by
 have:=World.ownsMap.len h ht ty
 rwa [eV]at this
theorem fu.made (w:World):fu P tk te (w.alloc (.map #[] 0)) w.heap.size []:=World.ownsMap_made w P tk _
theorem dG.look {l:List (Int×Nat)}(h:dG P tk w b l)(ht:P.underlying tm=some (.map tk te))(hk:P.underlying tk=some (.int .i64))(hz:(zeroValue te).run P w=.ok (.pointer none) w)(k:Int)(sR:-9223372036854775808<=k/\k<=9223372036854775807):
  (Instr.lookup tm (.map (some b)) (.int .i64 k) true).run P w=.ok (.tuple #[.pointer ((bF k l).map fun a=>⟨a,0,none⟩),.bool (bF k l).isSome]) w:=by
 obtain⟨v,ps,bi,hv⟩:=World.ownsMap.look_ok h (int_keyed hk) ht hz (zd:=.held (.pointer none)) (zp:=[]) rfl (lM hk k sR);rw[pM cN]at bi;rw[kL cN]at hv;have hv':v=.pointer ((bF k l).map fun a=>⟨a,0,none⟩):=by
  cases v<;>simp[jr]at hv
  cases hg:bF k l with
  |none=>rw[hg]at hv;simp at hv;simp[hv]
  |some x=>rw[hg]at hv;simp[yF]at hv;simp[hv]
 rw[bi,hv']
theorem dG.look1 {l:List (Int×Nat)}(h:dG P tk w b l)(ht:P.underlying tm=some (.map tk te))(hk:P.underlying tk=some (.int .i64))(hz:(zeroValue te).run P w=.ok (.pointer none) w)(k:Int)(sR:-9223372036854775808<=k/\k<=9223372036854775807):
  (Instr.lookup tm (.map (some b)) (.int .i64 k) false).run P w=.ok (.pointer ((bF k l).map fun a=>⟨a,0,none⟩)) w:=by
 obtain⟨v,ps,bi,hv⟩:=World.ownsMap.lookup h (int_keyed hk) ht hz (zd:=.held (.pointer none)) (zp:=[]) rfl (lM hk k sR);rw[kL cN]at hv;have hv':v=.pointer ((bF k l).map fun a=>⟨a,0,none⟩):=by
  cases v<;>simp[jr]at hv
  cases hg:bF k l with
  |none=>rw[hg]at hv;simp at hv;simp[hv]
  |some x=>rw[hg]at hv;simp[yF]at hv;simp[hv]
 rw[bi,hv']
theorem dG.store {l:List (Int×Nat)}(h:dG P tk w b l)(ht:P.underlying tm=some (.map tk te))(hk:P.underlying tk=some (.int .i64))(k:Int)(sR:-9223372036854775808<=k/\k<=9223372036854775807)(a:Nat)(hl:l.length<140737488355328):
  ∃ w',(Instr.mapUpdate tm (.map (some b)) (.int .i64 k) (.pointer (some ⟨a,0,none⟩))).run P w=.ok () w'/\dG P tk w' b (em (fun a b=>decide (a<b)) k a l)/\ah (·=b) w w':=by
 obtain⟨w',bi,bw,Jm⟩:=World.ownsMap.store h (int_keyed hk) ht (by unfold maxLen;omega) (lM hk k sR) (val:=.pointer (some ⟨a,0,none⟩)) (d:=yF a) (ps:=[]) rfl;refine⟨w',bi,?_,gY Jm.grown⟩;have h1:=zu bw;have e:(Om l).put (.int .i64 k) (yF a)=Om (em (fun a b=>decide (a<b)) k a l):=AR (ef:=yF) cN vP k a l;rw[e,eV]at h1;exact h1
theorem dG.drop {l:List (Int×Nat)}(h:dG P tk w b l)(ht:P.underlying tm=some (.map tk te))(hk:P.underlying tk=some (.int .i64))(k:Int)(sR:-9223372036854775808<=k/\k<=9223372036854775807)(ty:TypeId):
  ∃ w',(Builtin.delete_ #[tm,tk] ty #[.map (some b),.int .i64 k]).run P w=.ok (.tuple #[]) w'/\dG P tk w' b (gm k l)/\ah (·=b) w w':=by
 obtain⟨w',bi,bw,Jm⟩:=World.ownsMap.drop h (int_keyed hk) ht (lM hk k sR) ty;refine⟨w',bi,?_,gY Jm.grown⟩;have h1:=zu bw;rw[AS cN,eV]at h1;exact h1
theorem dG.len {l:List (Int×Nat)}(h:dG P tk w b l)(ht:P.underlying tm=some (.map tk te))(ty:TypeId):(Builtin.len_ #[tm] ty #[.map (some b)]).run P w=.ok (.int .i64 (l.length:Int)) w:=by
 have:=World.ownsMap.len h ht ty
 rwa [eV]at this
theorem dG.made (w:World):dG P tk (w.alloc (.map #[] 0)) w.heap.size []:=World.ownsMap_made w P tk _
end
end
section
open Go.RowKit Go.Maps
theorem ue {w w':World}{b:Nat}(h:w.mapTurned w' b):w'.heap.size=w.heap.size:=by
 obtain⟨es,clock,es',ajQ,_,rfl⟩:=h;simp[ChangeMaps.setBlock]
structure oe (P:Program)(te:TypeId)(R:Value->Option (DataW Value×List MemPlace)){β:Type}(ef:β->DataW Value)(mk:β->Value)(ok:β->Prop)(z:β):Prop where
 mkR:∀ x,ok x->R (mk x)=some (ef x,[])
 inv:∀ v ps x,R v=some (ef x,ps)->v=mk x
 zero:∀ w,(zeroValue te).run P w=.ok (mk z) w
 zok:ok z
 any:∀ v y,R v=some y->∃ c,v=mk c/\y.1=ef c
 inj:∀ a b,ef a=ef b->a=b
 mkinj:∀ a b,mk a=mk b->a=b
def CY (s:List UInt8):DataW Value:=.lit (.string s)
def OZ (s:Bool):DataW Value:=.lit (.bool s)
theorem O0 {P:Program}{te:TypeId}(he:P.underlying te=some .string)(hz:∀ w,(zeroValue te).run P w=.ok (.string ⟨#[]⟩) w):oe P te (plainElem P te) CY (fun s=>.string ⟨s.toArray⟩) (fun s=>s.length<=140737488355328) [] where
 mkR s hs:=plainElem_string he (s:=⟨s.toArray⟩) (by show s.toArray.size<=_;unfold maxLen;simp;omega)
 inv v ps x h:=by
  obtain⟨s,rfl,hz,_⟩:=plainElem_string_inv he h;have:x=s.data.toList:=by simpa[CY]using avO Prod.fst hz
  subst this;simp
 zero w:=hz w
 zok:=by simp
 any v y h:=by
  obtain⟨s,rfl,hz,_⟩:=plainElem_string_inv he h;exact⟨s.data.toList,by simp,by rw[hz];rfl⟩
 inj a b h:=by simpa[CY]using h
 mkinj a b h:=by simpa using h
theorem K5 {P:Program}{te:TypeId}(he:P.underlying te=some .bool)(hz:∀ w,(zeroValue te).run P w=.ok (.bool false) w):oe P te (plainElem P te) OZ Value.bool (fun _=>True) false where
 mkR s _:=plainElem_bool he s
 inv v ps x h:=by
  unfold plainElem at h;rw[he]at h
  cases v<;>simp[OZ]at h
  simp[h]
 zero w:=hz w
 zok:=trivial
 any v y h:=by
  unfold plainElem at h;rw[he]at h
  cases v<;>simp at h
  rename_i x
  exact⟨x,rfl,by rw[<-h];rfl⟩
 inj a b h:=by simpa[OZ]using h
 mkinj a b h:=by simpa using h
section
variable {P:Program}{tm tk te:TypeId}{w:World}{b:Nat}{β:Type}{R:Value->Option (DataW Value×List MemPlace)}{ef:β->DataW Value}{mk:β->Value}{ok:β->Prop}{z:β}
def fy (P:Program)(tk:TypeId)(R:Value->Option (DataW Value×List MemPlace))(ef:β->DataW Value)(w:World)(b:Nat)(l:List (Int×β)):Prop:=w.ownsMap P tk R b l.length (Cp (Lit.int .i64) ef l)
theorem fy.mod {l:List (Int×β)}{w':World}{S:Nat->Prop}(h:fy P tk R ef w b l)(m:ah S w w')(hS:¬ S b):fy P tk R ef w' b l:=vO h m hS
theorem fy.same {l:List (Int×β)}{w':World}(h:fy P tk R ef w b l)(m:w'.heap[b]?=w.heap[b]?):fy P tk R ef w' b l:=by
 obtain⟨es,clock,hb,F,hs,hD⟩:=h;exact⟨es,clock,m.trans hb,F,hs,hD⟩
theorem fy.lt {l:List (Int×β)}(h:fy P tk R ef w b l):b<w.heap.size:=World.ownsMap.lt h
theorem fy.look {l:List (Int×β)}(h:fy P tk R ef w b l)(E:oe P te R ef mk ok z)(ht:P.underlying tm=some (.map tk te))(hk:P.underlying tk=some (.int .i64))(k:Int)(sR:-9223372036854775808<=k/\k<=9223372036854775807):
  (Instr.lookup tm (.map (some b)) (.int .i64 k) true).run P w=.ok (.tuple #[mk ((bF k l).getD z),.bool (bF k l).isSome]) w:=by
 obtain⟨v,ps,bi,hv⟩:=World.ownsMap.look_ok h (int_keyed hk) ht (E.zero w) (E.mkR z E.zok) (lM hk k sR);rw[pM cN]at bi;rw[kL cN]at hv;rw[bi]
 cases hg:bF k l with
 |none=>rw[hg]at hv;rw[E.inv v ps z hv];rfl
 |some x=>rw[hg]at hv;rw[E.inv v ps x hv];rfl
theorem fy.look1 {l:List (Int×β)}(h:fy P tk R ef w b l)(E:oe P te R ef mk ok z)(ht:P.underlying tm=some (.map tk te))(hk:P.underlying tk=some (.int .i64))(k:Int)(sR:-9223372036854775808<=k/\k<=9223372036854775807):
  (Instr.lookup tm (.map (some b)) (.int .i64 k) false).run P w=.ok (mk ((bF k l).getD z)) w:=by
 obtain⟨v,ps,bi,hv⟩:=World.ownsMap.lookup h (int_keyed hk) ht (E.zero w) (E.mkR z E.zok) (lM hk k sR);rw[kL cN]at hv;rw[bi]
 cases hg:bF k l with
 |none=>rw[hg]at hv;rw[E.inv v ps z hv];rfl
 |some x=>rw[hg]at hv;rw[E.inv v ps x hv];rfl
abbrev j6 (a b:Int):Bool:=decide (a<b)
theorem fy.store {l:List (Int×β)}(h:fy P tk R ef w b l)(E:oe P te R ef mk ok z)(ht:P.underlying tm=some (.map tk te))(hk:P.underlying tk=some (.int .i64))(k:Int)(sR:-9223372036854775808<=k/\k<=9223372036854775807)(x:β)(hx:ok x)(hl:l.length<140737488355328):
  ∃ w',(Instr.mapUpdate tm (.map (some b)) (.int .i64 k) (mk x)).run P w=.ok () w'/\fy P tk R ef w' b (em j6 k x l)/\ah (·=b) w w'/\w'.heap.size=w.heap.size:=by
 obtain⟨w',bi,bw,Jm⟩:=World.ownsMap.store h (int_keyed hk) ht (by unfold maxLen;omega) (lM hk k sR) (E.mkR x hx);refine⟨w',bi,?_,gY Jm.grown,ue Jm⟩;have h1:=zu bw;have e:(Cp (Lit.int .i64) ef l).put (.int .i64 k) (ef x)=Cp (Lit.int .i64) ef (em j6 k x l):=AR cN vP k x l;rw[e,eV]at h1;exact h1
theorem fy.drop {l:List (Int×β)}(h:fy P tk R ef w b l)(ht:P.underlying tm=some (.map tk te))(hk:P.underlying tk=some (.int .i64))(k:Int)(sR:-9223372036854775808<=k/\k<=9223372036854775807)(ty:TypeId):
  ∃ w',(Builtin.delete_ #[tm,tk] ty #[.map (some b),.int .i64 k]).run P w=.ok (.tuple #[]) w'/\fy P tk R ef w' b (gm k l)/\ah (·=b) w w'/\w'.heap.size=w.heap.size:=by
 obtain⟨w',bi,bw,Jm⟩:=World.ownsMap.drop h (int_keyed hk) ht (lM hk k sR) ty;refine⟨w',bi,?_,gY Jm.grown,ue Jm⟩;have h1:=zu bw;rw[AS cN,eV]at h1;exact h1
theorem fy.clear {l:List (Int×β)}(h:fy P tk R ef w b l)(ht:P.underlying tm=some (.map tk te))(ty:TypeId):
  ∃ w',(Builtin.clear_ #[tm] ty #[.map (some b)]).run P w=.ok (.tuple #[]) w'/\fy P tk R ef w' b []/\ah (·=b) w w'/\w'.heap.size=w.heap.size:=by
 obtain⟨es,clock,hb,F,hs,hD⟩:=h;refine⟨{ w with heap:=w.heap.setIfInBounds b (.map #[] clock) },?_,?_,⟨rfl,rfl,rfl,?_,?_⟩,by simp⟩
 ·simp[Builtin.clear_,run_underlying ht,MapKept.run_getObj_map hb,MapKept.run_setObj_map _ hb,Result.andThen]
 ·exact⟨#[],clock,(MapKept.heap_set hb).1,⟨by simp,MapKept.stamped_empty _,by simp⟩,auE _,rfl⟩
 ·simp
 ·intro i hi hS;exact(MapKept.heap_set hb).2 i hS
theorem fy.at {l:List (Int×β)}(E:oe P te R ef mk ok z){x:Int}{c:β}{y:DataW Value×List MemPlace}(hv:R (mk c)=some y)(ni:∀ zd,(Cp (Lit.int .i64) ef l).atKey (.int .i64 x) zd=y.1):bF x l=some c:=by
 obtain⟨c',h1,h2⟩:=E.any _ _ hv;have h3:=E.mkinj _ _ h1;subst h3
 cases hg:bF x l with
 |none=>
  have h4:=ni (.held (.pointer none));have h5:=ni (.lit (.bool true));rw[kL cN,hg]at h4 h5;exact absurd (h4.trans h5.symm) (by simp)
 |some d=>
  have h4:=ni (.held (.pointer none));rw[kL cN,hg,h2]at h4;rw[E.inj _ _ h4]
theorem La {l:List (Int×β)}(E:oe P te R ef mk ok z)(hk:P.underlying tk=some (.int .i64)){aD:Array Oper}{rest:List Oper}{o:Oper}{a:Act}{Q:Exit->Act->World->Prop}(hg:o.guard=none)(it:Operand)(hop:o.op=Op.next it false)
  (r:Nat) (left:Lit->Bool) (j8:Nat) (hit:a.eval it=.pointer (some ⟨r,0,none⟩)) (h:w.ranges P tk R b r l.length (Cp (Lit.int .i64) ef l) left j8)
  (ade:j8=0->(∀ kl,left kl=false)->wpList P aD Q rest (a.put o.dst (.tuple #[.bool false])) w)
  (afj:∀(x:Int) (c:β) (w':World) (sU:Nat),(-9223372036854775808<=x/\x<=9223372036854775807)->left (.int .i64 x)=true->bF x l=some c->w'.ranges P tk R b r l.length (Cp (Lit.int .i64) ef l) (fun z=>left z&&!z.sameKey (.int .i64 x)) sU->sU<j8->
   ah (·=r) w w'->w'.heap.size=w.heap.size->(Instr.entry (.pointer (some ⟨r,0,none⟩))).run P w'=.ok (.tuple #[.int .i64 x,mk c]) w'->wpList P aD Q rest (a.put o.dst (.tuple #[.bool true,.int .i64 x,mk c])) w'):
  wpList P aD Q (o::rest) a w:=by
 refine wpList_next_ranges w hg it hop tk (int_keyed hk) R (Value.int .i64) mk (fun key kl h=>by obtain⟨x,rfl,_⟩:=Maps.keyOf_int_inv hk h;exact⟨x,rfl⟩) (fun v y h=>by obtain⟨c,hc,_⟩:=E.any v y h;exact⟨c,hc⟩) b r l.length _ left j8 hit h ade ?_;intro x c kl y w' sU IR AI hv ni TH aL hgr cK hen;obtain⟨x',hx,rfl,ZJ⟩:=Maps.keyOf_int_inv hk IR;have:x=x':=by simpa using hx
 subst this;refine afj x c w' sU ?_ AI (fy.at E hv ni) TH aL (gY hgr) cK hen;have:=ZJ;simp[Lit.wf,IntKind.min,IntKind.max,IntKind.signed,IntKind.bits]at this;omega
theorem fy.made (w:World):fy P tk R ef (w.alloc (.map #[] 0)) w.heap.size ([]:List (Int×β)):=World.ownsMap_made w P tk _
end
end
end Go.Proofs.YtkghpdcloaiflaaGreatDoor
section
namespace Go
structure zv where
 objs:Array Obj
 drawn:Nat
instance:Inhabited zv:=⟨⟨#[],0⟩⟩
def World.ext (w:World)(x:zv):World:={ w with heap:=w.heap++x.objs,drawn:=x.drawn }
end Go
namespace Go.Proofs.YtkghpdcloaiflaaGreatDoor
open _root_.Go.Proofs.Tryz
open Go.RowKit
section
variable {w:World}{x y:zv}
theorem tq {k:Nat}(h:k<w.heap.size):(w.ext x).heap[k]?=w.heap[k]?:=by
 show(w.heap++x.objs)[k]?=_;rw[Array.getElem?_append_left h]
@[go_sem] theorem aci:(w.ext x).heap.size=w.heap.size+x.objs.size:=by simp[World.ext]
@[go_sem] theorem acj {b:Nat}(h:b<w.heap.size)(i:Nat):(w.ext x).cell? ⟨b,i,none⟩=w.cell? ⟨b,i,none⟩:=World.cell?_of_block (a:=⟨b,i,none⟩) (tq h)
@[go_sem] theorem YD {b:Nat}(h:b<w.heap.size)(i:Nat):(w.ext x).frozen? ⟨b,i,none⟩=w.frozen? ⟨b,i,none⟩:=World.frozen?_of_block (a:=⟨b,i,none⟩) (tq h)
theorem ay (w:World)(x:zv):af w (w.ext x):=⟨rfl,rfl,rfl,by simp[World.ext],fun _ hk _=>tq hk⟩
theorem gZ {w w':World}(h:af w w'):∃ x,w'=w.ext x:=by
 refine⟨⟨w'.heap.extract w.heap.size w'.heap.size,w'.drawn⟩,?_⟩;obtain⟨os,tape,output,size,block⟩:=h;have e:w.heap++w'.heap.extract w.heap.size w'.heap.size=w'.heap:=by
  apply Array.ext_getElem?;intro i;by_cases hi:i<w.heap.size
  ·rw[Array.getElem?_append_left hi,block i hi id]
  ·rw[Array.getElem?_append_right (by omega),Array.getElem?_extract];split
   ·rw[show w.heap.size+(i-w.heap.size)=i by omega]
   ·rw[Array.getElem?_eq_none (by omega)]
 show w'={ w with heap:=w.heap++_,drawn:=_ };rw[e,<-os,<-tape,<-output]
end
theorem aZ {P:Program}{f:FuncId}{args:Array Value}{w:World}{x:zv}{v:Value}
  (h:Calls P f args (w.ext x) fun e w'=>e=.returned v/\af (w.ext x) w'):Calls P f args (w.ext x) fun e w''=>e=.returned v/\∃ y,w''=w.ext y:=
 h.mono fun _ _ ⟨he,hk⟩=>⟨he,gZ ((ay w x).keep hk)⟩
theorem iy {P:Program}{id:Nat}{Q:Exit->Act->World->Prop}{a:Act}{w:World}{l:List Oper}(m n:Nat)(hm:P.follows .mixedOrders=true)(hB:Region.lexMidB .any l.toArray m n=true)
  (hQ:∀ c o v a w,Q (.panic c) (Act.put a o v) w->Q (.panic c) a w)
  (h:l7 P l.toArray (wpQuiet P l.toArray (fun w'=>∃ x,w'=w.ext x) (fun a'=>∀ w',(∃ x,w'=w.ext x)->wpList P l.toArray Q (l.drop n) a' w') ((l.take n).drop m)) (l.take m) a):(Code.region id l.toArray true).wp P Q a w:=
 yC m n (fun w'=>∃ x,w'=w.ext x) hm hB hQ (gZ ((ah.refl _ w).drawn _)) h
theorem rP {P:Program}{id:Nat}{Q:Exit->Act->World->Prop}{a:Act}{w:World}{l:List Oper}(n:Nat)(hm:P.follows .mixedOrders=true)(hB:Region.lexTailB .any l.toArray n=true)
  (h:wpQuiet P l.toArray (fun w'=>∃ x,w'=w.ext x) (fun a'=>∀ w',(∃ x,w'=w.ext x)->wpList P l.toArray Q (l.drop n) a' w') (l.take n) a):(Code.region id l.toArray true).wp P Q a w:=
 nk n (fun w'=>∃ x,w'=w.ext x) hm hB (gZ ((ah.refl _ w).drawn _)) h
theorem bA {P:Program}{id:Nat}{Q:Exit->Act->World->Prop}{a:Act}{w:World}{l:List Oper}(hm:P.follows .mixedOrders=true)(hB:Region.lexB .any l.toArray=true)
  (h:wpQuiet P l.toArray (fun w'=>∃ x,w'=w.ext x) (fun a'=>∀ w',(∃ x,w'=w.ext x)->Q .normal a' w') l a):(Code.region id l.toArray true).wp P Q a w:=
 wp_region_quiet (C:=fun w'=>∃ x,w'=w.ext x) hm hB (gZ ((ah.refl _ w).drawn _)) (by simpa using h)
end Go.Proofs.YtkghpdcloaiflaaGreatDoor
end
namespace Go.Proofs.YtkghpdcloaiflaaGreatDoor
open _root_.Go.Proofs.Tryz
def jZ (c:UInt8):List UInt8->List (List UInt8)
 |[]=>[[]]
 |b::l=>if b=c then []::jZ c l else match jZ c l with
  |[]=>[[b]]
  |x::r=>(b::x)::r
theorem vQ (c:UInt8)(l:List UInt8):jZ c l≠[]:=by
 cases l with
 |nil=>simp[jZ]
 |cons b l=>
  unfold jZ;split
  ·simp
  ·split<;>simp
theorem vR (c b:UInt8)(l:List UInt8)(h:b≠c):jZ c (b::l)=match jZ c l with|[]=>[[b]]|x::r=>(b::x)::r:=by rw[jZ,auK h]
theorem Gn (c:UInt8)(l:List UInt8):Lib.splitK [c] 0 (Lib.count l [c]) l=jZ c l:=by
 induction l with
 |nil=>rw[Lib.count_one];rfl
 |cons b l ih=>
  unfold jZ;by_cases h:b=c
  ·subst h;have WD:Lib.index (b::l) [b]=((0:Nat):Int):=by rw[Lib.index];simp[List.isPrefixOf]
   rw[auI rfl,Lib.count_cons_eq,Nat.add_comm,Lib.splitK,WD,<-ih];simp
  ·rw[auK h,Lib.count_cons_ne b c l h];have hp:([c]:List UInt8).isPrefixOf (b::l)=false:=by simp[List.isPrefixOf,Ne.symm h]
   have WD:Lib.index (b::l) [c]=if Lib.index l [c]==-1 then -1 else Lib.index l [c]+1:=by rw[Lib.index,hp];simp
   by_cases hm:Lib.index l [c] = -1
   ·have h0:Lib.count l [c]=0:=Lib.count_miss hm;rw[h0]at ih ⊢;rw[<-ih];rfl
   ·have hge:=Lib.index_ge l [c];obtain⟨j,hj⟩:∃ j:Nat,Lib.index l [c]=j:=⟨(Lib.index l [c]).toNat,by omega⟩
    have hk:=Lib.count_hit (by simp) hj;rw[hk,Nat.add_comm]at ih ⊢;have Cl:(Lib.index l [c]==-1)=false:=by rw[avj];exact hm
    have AK:(Lib.index (b::l) [c]==-1)=false:=by rw[avj,WD,Cl];simp;omega
    rw[Lib.splitK,Cl,hj]at ih;rw[Lib.splitK,AK,WD,Cl,hj,<-ih];have e1:((j:Int)+1).toNat=j+1:=by omega
    simp[e1]
theorem vS (c:UInt8)(l:List UInt8):(Lib.splitB ⟨#[c]⟩ 0 (Lib.countB ⟨l.toArray⟩ ⟨#[c]⟩) ⟨l.toArray⟩)=(jZ c l).map (fun x=>⟨x.toArray⟩):=by
 have h:=Lib.splitB_data ⟨#[c]⟩ 0 (Lib.countB ⟨l.toArray⟩ ⟨#[c]⟩) ⟨l.toArray⟩;have e:Lib.splitK [c] 0 (Lib.countB ⟨l.toArray⟩ ⟨#[c]⟩) l=jZ c l:=Gn c l;have h':(Lib.splitB ⟨#[c]⟩ 0 (Lib.countB ⟨l.toArray⟩ ⟨#[c]⟩) ⟨l.toArray⟩).map (·.data.toList)=jZ c l:=h.trans e;rw[<-h',au0];have:((fun x:List UInt8=>(⟨x.toArray⟩:ByteArray))∘fun s:ByteArray=>s.data.toList)=id:=by
  funext s;cases s;rfl
 rw[this,List.map_id]
theorem Gp (c:UInt8)(l:List UInt8):Lib.countB ⟨l.toArray⟩ ⟨#[c]⟩+1=(jZ c l).length:=by
 have h:=Lib.splitB_all ⟨#[c]⟩ (auE 1) 0 _ ⟨l.toArray⟩ rfl;rw[<-h,vS,au4]
theorem T8 (c:UInt8)(l:List UInt8):(jZ c l).length=l.count c+1:=by
 induction l with
 |nil=>rfl
 |cons b l ih=>
  unfold jZ;by_cases h:b=c
  ·subst h;rw[auI rfl,auA,ih,List.count_cons_self]
  ·rw[auK h,List.count_cons_of_ne (by simpa using h),<-ih]
   cases hs:jZ c l with
   |nil=>exact absurd hs (vQ c l)
   |cons x r=>simp
theorem vT (c:UInt8)(l:List UInt8):[c].intercalate (jZ c l)=l:=by
 induction l with
 |nil=>simp[jZ,List.intercalate]
 |cons b l ih=>
  unfold jZ;by_cases h:b=c
  ·subst h;rw[auI rfl]
   cases hs:jZ b l with
   |nil=>exact absurd hs (vQ b l)
   |cons x r=>rw[hs]at ih;simp[List.intercalate]at ih ⊢;exact ih
  ·rw[auK h]
   cases hs:jZ c l with
   |nil=>exact absurd hs (vQ c l)
   |cons x r=>
    rw[hs]at ih
    cases r with
    |nil=>simp[List.intercalate]at ih ⊢;exact ih
    |cons y r=>simp[List.intercalate]at ih ⊢;exact ih
theorem Lb (c:UInt8)(l:List UInt8):∀ i,((jZ c l).getD i []).length<=l.length:=by
 induction l with
 |nil=>intro i;cases i<;>simp[jZ]
 |cons b l ih=>
  intro i;by_cases h:b=c
  ·rw[jZ,auI h]
   cases i with
   |zero=>simp
   |succ i=>have:=ih i;simp at this ⊢;omega
  ·rw[vR c b l h]
   cases hs:jZ c l with
   |nil=>cases i<;>simp
   |cons x r=>
    rw[hs]at ih
    cases i with
    |zero=>have:=ih 0;simp at this ⊢;omega
    |succ i=>have:=ih (i+1);simp at this ⊢;omega
theorem T9 (c:UInt8)(l:List UInt8)(h:c∉l):jZ c l=[l]:=by
 induction l with
 |nil=>rfl
 |cons b l ih=>
  unfold jZ;rw[auK (by intro e;subst e;simp at h),ih (by intro e;exact h (by simp[e]))]
theorem O3 (c:UInt8)(x l:List UInt8)(h:c∉x):jZ c (x++c::l)=x::jZ c l:=by
 induction x with
 |nil=>simp[jZ]
 |cons b x ih=>
  rw[avf,vR c b _ (by intro e;subst e;simp at h),ih (by intro e;exact h (by simp[e]))]
theorem CZ (c:UInt8)(xs:List (List UInt8))(dW:xs≠[])(h:∀ x∈xs,c∉x):jZ c ([c].intercalate xs)=xs:=by
 induction xs with
 |nil=>exact absurd rfl dW
 |cons x xs ih=>
  cases xs with
  |nil=>simp only[List.intercalate,List.intersperse,List.flatten_cons,List.flatten_nil,List.append_nil];exact T9 c x (h x (by simp))
  |cons y ys=>
   have e:[c].intercalate (x::y::ys)=x++c::[c].intercalate (y::ys):=by simp[List.intercalate]
   rw[e,O3 c x _ (h x (by simp)),ih (by simp) (fun z hz=>h z (by simp[hz]))]
end Go.Proofs.YtkghpdcloaiflaaGreatDoor
