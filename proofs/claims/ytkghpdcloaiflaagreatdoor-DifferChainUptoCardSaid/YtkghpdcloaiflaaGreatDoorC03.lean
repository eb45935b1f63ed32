import Derived.Test.YtkghpdcloaiflaaGreatDoorC02
import Derived.Maps.RangeWalk
import Derived.Maps.OwnSet
import Derived.WalkArith
import Derived.Maps.StringElems
import Derived.Lib.SplitLaws
import Derived.Lib.Join
namespace Go.Proofs.YtkghpdcloaiflaaGreatDoor
open _root_.Go.Proofs.Tryz
def Ky:ay:=[115,116,105,108,108,97,103,101,32,118,111,108,117,109,101,33]
def mW (s:ay)(n:Nat):ay:=let t:=s++List.replicate (n-s.length) 0;t++NL Ky t
def dU (p:ay):ay:=mW ([UInt8.ofNat (p.length%256),UInt8.ofNat (p.length/256%256)]++p) 248
def kv (s:ay):Except Int ay:=
 if s.length≠256 then .error 82 else
  let n:=(s.getD 0 0).toNat+256*(s.getD 1 0).toNat
  if 240<n then .error 82 else
   if dU ((s.drop 2).take n)=s then .ok ((s.drop 2).take n)else .error 82
theorem Jf (k s:ay):(NL k s).length=8:=by unfold NL;simp[Cj,uD]
theorem vo {s:ay}{n:Nat}(h:s.length<=n):(mW s n).length=n+8:=by
 unfold mW;simp[Jf];omega
theorem sI {p:ay}(h:p.length<=240):(dU p).length=256:=by
 unfold dU;rw[vo (by simp;omega)]
theorem yo {p:ay}(h:p.length<=240):kv (dU p)=.ok p:=by
 have hl:=sI h;obtain⟨r,hr⟩:∃ r,dU p=UInt8.ofNat (p.length%256)::UInt8.ofNat (p.length/256%256)::(p++r):=by
  unfold dU mW;simp
 unfold kv;rw[atR (by omega)];have e:((dU p).getD 0 0).toNat+256*((dU p).getD 1 0).toNat=p.length:=by
  rw[hr];simp;omega
 have e2:((dU p).drop 2).take p.length=p:=by rw[hr];simp
 simp only[e,e2];rw[atR (by omega),atP trivial]
def eF (d:Dk)(n:Nat):ay:=d.get (4*n)++d.get (4*n+1)++d.get (4*n+2)++d.get (4*n+3)
def ik (d:Dk):Rd:=fun n=>if 1<=n/\n<(d.size/4:Nat)then kv (eF d n.toNat)else .error 81
def jA (d:Dk)(n:Nat)(s:ay):Nat->Dk
 |0=>d
 |k+1=>(jA d n s k).put (4*n+k) ((s.drop (k*64)).take 64)
theorem jn (d:Dk)(n:Nat)(s:ay):∀ k,(jA d n s k).size=d.size
 |0=>rfl
 |k+1=>by rw[jA,fu,jn d n s k]
theorem qr (d:Dk)(n:Nat)(s:ay)(m:Nat):∀ k,k<=4->(jA d n s k).get m=if 4*n<=m/\m<4*n+k then(s.drop ((m-4*n)*64)).take 64 else d.get m
 |0,_=>by rw[atR (by omega)];rfl
 |k+1,h=>by
  rw[jA,Je,qr d n s m k (by omega)];by_cases hm:m=4*n+k
  ·rw[atP hm,atP (by omega),show m-4*n=k by omega]
  ·rw[atR hm];by_cases h2:4*n<=m/\m<4*n+k
   ·rw[atP h2,atP (by omega)]
   ·rw[atR h2,atR (by omega)]
theorem Cn {d:Dk}{n:Nat}(h1:1<=n)(h2:n<d.size/4){p:ay}(hp:p.length<=240):ik (jA d n (dU p) 4)=lW (ik d) n p:=by
 funext k
 unfold ik lW;rw[jn];have hl:=sI hp;by_cases hk:1<=k/\k<(d.size/4:Nat)
 ·rw[atP hk];by_cases qX:k=n
  ·rw[atP qX];subst qX;have e:eF (jA d n (dU p) 4) ((n:Int).toNat)=dU p:=by
    unfold eF;rw[auo];simp only[qr d n (dU p) _ 4 (atL 4)];rw[atP (by omega),atP (by omega),atP (by omega),atP (by omega)];rw[show 4*n-4*n=0 by omega,show 4*n+1-4*n=1 by omega,show 4*n+2-4*n=2 by omega,show 4*n+3-4*n=3 by omega];have:dU p=(dU p).take (64+64+64+64):=by rw[aux (by omega)]
    conv=>rhs;rw[this]
    simp only[List.take_add,Nat.zero_mul,auC,auu]
   rw[e,yo hp]
  ·rw[atR qX];have e:eF (jA d n (dU p) 4) k.toNat=eF d k.toNat:=by
    unfold eF;have:k.toNat≠n:=by omega
    simp only[qr d n (dU p) _ 4 (atL 4)];rw[atR (by omega),atR (by omega),atR (by omega),atR (by omega)]
   rw[e];exact(atP hk).symm
 ·rw[atR hk];by_cases qX:k=n
  ·omega
  ·rw[atR qX];exact(atR hk).symm
theorem Au (d:Dk):ik d.sync=ik d:=by
 funext k
 unfold ik;rw[dB];by_cases hk:1<=k/\k<(d.size/4:Nat)
 ·rw[atP hk,atP hk];have e:eF d.sync k.toNat=eF d k.toNat:=by
   unfold eF;rw[rr _ (by omega),rr _ (by omega),rr _ (by omega),rr _ (by omega)]
  rw[e]
 ·rw[atR hk,atR hk]
def Jg (n:Nat):ay:=(List.range 6).map fun i=>UInt8.ofNat (n/256 ^ i%256)
def Co (text:ay)(num:Nat):ay:=mW ([82,84]++Jg num++[UInt8.ofNat (text.length%256)]++text) 56
theorem Kz {text:ay}(h:text.length<=40)(num:Nat):(Co text num).length=64:=by
 unfold Co;rw[vo (by simp[Jg];omega)]
def kw (d:Dk)(text:ay)(num:Nat):Dk:=(d.put (num%2) (Co text num)).sync
theorem qs (d:Dk)(text:ay)(num:Nat):(kw d text num).size=d.size:=by unfold kw;rw[dB,fu]
theorem tJ (d:Dk)(n:Nat)(hn:n<4)(s:ay):ik (d.put n s)=ik d:=by
 funext k
 unfold ik;rw[fu];by_cases hk:1<=k/\k<(d.size/4:Nat)
 ·rw[atP hk,atP hk];have e:eF (d.put n s) k.toNat=eF d k.toNat:=by
   unfold eF;simp only[Je];rw[atR (by omega),atR (by omega),atR (by omega),atR (by omega)]
  rw[e]
 ·rw[atR hk,atR hk]
theorem vq (d:Dk)(text:ay)(num:Nat):ik (kw d text num)=ik d:=by unfold kw;rw[Au,tJ _ _ (by omega)]
section
open Go.RowKit Go.Maps
section
variable {α β H:Type}
def jB (lt:α->α->Bool)(x:α×β):List (α×β)->List (α×β)
 |[]=>[x]
 |y::r=>if lt x.1 y.1 then x::y::r else y::jB lt x r
section
variable [BEq α]
def fZ (a:α)(l:List (α×β)):List (α×β):=l.filter fun p=>!(p.1==a)
def ee (lt:α->α->Bool)(a:α)(b:β)(l:List (α×β)):List (α×β):=jB lt (a,b) (fZ a l)
def bD (a:α)(l:List (α×β)):Option β:=(l.find? fun p=>p.1==a).map (·.2)
end
def BP (kf:α->Lit)(ef:β->DataW H)(l:List (α×β)):DataW H:=.map (l.map fun p=>(kf p.1,ef p.2))
variable {kf:α->Lit}{ef:β->DataW H}{lt:α->α->Bool}
theorem OA (hb:∀ a b,(kf a).before (kf b)=lt a b)(a:α)(b:β)(l:List (α×β)):DataW.insert (kf a,ef b) (l.map fun p=>(kf p.1,ef p.2))=(jB lt (a,b) l).map fun p=>(kf p.1,ef p.2):=by
 induction l with
 |nil=>rfl
 |cons y r ih=>
  simp only[atF,DataW.insert,jB,hb];split
  ·simp
  ·simp[ih]
section
variable [BEq α]
theorem Cp (hs:∀ a b,(kf a).sameKey (kf b)=(a==b))(a:α)(l:List (α×β)):((l.map fun p=>(kf p.1,ef p.2)).filter fun p=>!p.1.sameKey (kf a))=(fZ a l).map fun p=>(kf p.1,ef p.2):=by
 induction l with
 |nil=>rfl
 |cons y r ih=>
  simp only[atF,auY,fZ,hs];by_cases h:(!(y.1==a))=true
  ·rw[atP h,atP h,atF,ih];rfl
  ·rw[atR h,atR h,ih];rfl
theorem Av (hs:∀ a b,(kf a).sameKey (kf b)=(a==b))(hb:∀ a b,(kf a).before (kf b)=lt a b)(a:α)(b:β)(l:List (α×β)):(BP kf ef l).put (kf a) (ef b)=BP kf ef (ee lt a b l):=by
 show DataW.map _=DataW.map _;rw[Cp hs,OA hb];rfl
theorem Aw (hs:∀ a b,(kf a).sameKey (kf b)=(a==b))(a:α)(l:List (α×β)):(BP kf ef l).del (kf a)=BP kf ef (fZ a l):=by
 show DataW.map _=DataW.map _;rw[Cp hs]
theorem OB (hs:∀ a b,(kf a).sameKey (kf b)=(a==b))(a:α)(l:List (α×β)):(l.map fun p=>(kf p.1,ef p.2)).find? (fun p=>p.1.sameKey (kf a))=(l.find? fun p=>p.1==a).map fun p=>(kf p.1,ef p.2):=by
 rw[List.find?_map]
 congr 1
 ·congr 1
  funext p
  simp[Function.comp,hs]
theorem kx (hs:∀ a b,(kf a).sameKey (kf b)=(a==b))(a:α)(l:List (α×β))(z:DataW H):(BP kf ef l).atKey (kf a) z=match bD a l with|some b=>ef b|none=>z:=by
 show(match (l.map fun p=>(kf p.1,ef p.2)).find? (fun p=>p.1.sameKey (kf a))with|some p=>p.2|none=>z)=_;rw[OB hs];unfold bD
 cases l.find? fun p=>p.1==a<;>rfl
theorem py (hs:∀ a b,(kf a).sameKey (kf b)=(a==b))(a:α)(l:List (α×β)):Maps.has (BP kf ef l) (kf a)=(bD a l).isSome:=by
 show(l.map fun p=>(kf p.1,ef p.2)).any (fun p=>p.1.sameKey (kf a))=_;unfold bD;rw[aut];simp[hs]
end
theorem eK (l:List (α×β)):Maps.size (BP kf ef l)=l.length:=by
 show(l.map _).length=_;simp
theorem rt [BEq α](a:α)(l:List (α×β)):(fZ a l).length<=l.length:=atU _ _
theorem Cq (x:α×β)(l:List (α×β)):(jB lt x l).length=l.length+1:=by
 induction l with
 |nil=>rfl
 |cons y r ih=>
  unfold jB;split
  ·simp
  ·simp[ih]
end
theorem yZ {H:Type}{P:Program}{k:TypeId}{R:Value->Option (DataW H×List MemPlace)}{w:World}{b n:Nat}{D:DataW H}(h:w.ownsMap P k R b n D):w.ownsMap P k R b (Maps.size D) D:=by
 obtain⟨es,clock,hb,F,hs,rfl⟩:=h;exact⟨es,clock,hb,F,by simp[Maps.size,length_sorted],rfl⟩
theorem vr {H:Type}{P:Program}{k:TypeId}{R:Value->Option (DataW H×List MemPlace)}{w w':World}{b n:Nat}{D:DataW H}{S:Nat->Prop}(h:w.ownsMap P k R b n D)(m:ah S w w')(hS:¬ S b):w'.ownsMap P k R b n D:=by
 have aM:=h.lt;obtain⟨es,clock,hb,F,hs,hD⟩:=h;exact⟨es,clock,m.obj hb hS,F,hs,hD⟩
theorem gQ {w w':World}{b:Nat}(h:w.grownBy w' (some b)):ah (·=b) w w':=
 ⟨h.os,h.tape,h.output,h.size,fun k hk hS=>h.block k hk (fun e=>hS (by cases e;rfl))⟩
theorem sJ {w w':World}{b:Nat}(h:ah (·=b) w w'):w.grownBy w' (some b):=
 ⟨h.os,h.tape,h.output,h.size,fun k hk hS=>h.block k hk (fun e=>hS (by rw[e]))⟩
theorem qt {w w':World}(h:w.grownBy w' none):af w w':=⟨h.os,h.tape,h.output,h.size,fun k hk _=>h.block k hk (by simp)⟩
theorem FN {w w':World}(h:af w w'):w.grownBy w' none:=⟨h.os,h.tape,h.output,h.size,fun k hk _=>h.block k hk id⟩
def jg:Value->Option (DataW Value×List MemPlace)
 | .pointer a=>some (.held (.pointer a),[])
 |_=>none
theorem jo (a b:List UInt8):(Lit.string a).sameKey (.string b)=(a==b):=rfl
theorem FP (a b:List UInt8):(Lit.string a).before (.string b)=bytesBefore a b:=rfl
theorem cM (a b:Int):(Lit.int .i64 a).sameKey (.int .i64 b)=(a==b):=by
 show decide _=_;rw[aut];simp
theorem vt (a b:Int):(Lit.int .i64 a).before (.int .i64 b)=decide (a<b):=rfl
def oy (k:Int):DataW Value:=.lit (.int .i64 k)
def yq (a:Nat):DataW Value:=.held (.pointer (some ⟨a,0,none⟩))
abbrev NN (l:List (List UInt8×Int)):DataW Value:=BP Lit.string oy l
abbrev NP (l:List (Int×Nat)):DataW Value:=BP (Lit.int .i64) yq l
section
variable {P:Program}{tm tk te:TypeId}{w:World}{b:Nat}
def eZ (P:Program)(tk te:TypeId)(w:World)(b:Nat)(l:List (List UInt8×Int)):Prop:=w.ownsMap P tk (plainElem P te) b l.length (NN l)
def dC (P:Program)(tk:TypeId)(w:World)(b:Nat)(l:List (Int×Nat)):Prop:=w.ownsMap P tk jg b l.length (NP l)
theorem eZ.mod {l:List (List UInt8×Int)}{w':World}{S:Nat->Prop}(h:eZ P tk te w b l)(m:ah S w w')(hS:¬ S b):eZ P tk te w' b l:=vr h m hS
theorem dC.mod {l:List (Int×Nat)}{w':World}{S:Nat->Prop}(h:dC P tk w b l)(m:ah S w w')(hS:¬ S b):dC P tk w' b l:=vr h m hS
theorem eZ.lt {l:List (List UInt8×Int)}(h:eZ P tk te w b l):b<w.heap.size:=World.ownsMap.lt h
theorem dC.lt {l:List (Int×Nat)}(h:dC P tk w b l):b<w.heap.size:=World.ownsMap.lt h
theorem uE (hk:P.underlying tk=some .string)(s:List UInt8)(hs:s.length<=140737488355328):keyOf P tk (.string ⟨s.toArray⟩)=some (.string s):=
 Go.WideMaps.keyOf_string_mk (s:=⟨s.toArray⟩) hk (by show s.toArray.size<=_;unfold maxLen;simp;omega)
theorem Tt {k:Int}(h:-9223372036854775808<=k/\k<=9223372036854775807):(Lit.int .i64 k).wf=true:=by
 exact WalkArith.wf_i64 h
theorem lG (hk:P.underlying tk=some (.int .i64))(k:Int)(h:-9223372036854775808<=k/\k<=9223372036854775807):keyOf P tk (.int .i64 k)=some (.int .i64 k):=keyOf_int_mk hk (Tt h)
theorem Ax {a b:Int}(h:oy a=oy b):a=b:=by
 unfold oy at h;simpa using h
theorem eZ.look {l:List (List UInt8×Int)}(h:eZ P tk te w b l)(ht:P.underlying tm=some (.map tk te))(hk:P.underlying tk=some .string)(he:P.underlying te=some (.int .i64))(hz:(zeroValue te).run P w=.ok (.int .i64 0) w)(s:List UInt8)(hs:s.length<=140737488355328):
  (Instr.lookup tm (.map (some b)) (.string ⟨s.toArray⟩) true).run P w=.ok (.tuple #[.int .i64 ((bD s l).getD 0),.bool (bD s l).isSome]) w:=by
 obtain⟨v,ps,bh,hv⟩:=World.ownsMap.look_ok h (string_keyed hk) ht hz (plainElem_int he (Tt (by decide))) (uE hk s hs);rw[py jo]at bh;rw[kx jo]at hv;obtain⟨a,rfl,hc,_⟩:=plainElem_int_inv he hv;rw[bh]
 congr 4
 cases hg:bD s l with
 |none=>rw[hg]at hc;simp at hc;simp[hc]
 |some x=>rw[hg]at hc;simp[oy]at hc;simp[hc]
theorem eZ.look1 {l:List (List UInt8×Int)}(h:eZ P tk te w b l)(ht:P.underlying tm=some (.map tk te))(hk:P.underlying tk=some .string)(he:P.underlying te=some (.int .i64))(hz:(zeroValue te).run P w=.ok (.int .i64 0) w)(s:List UInt8)(hs:s.length<=140737488355328):
  (Instr.lookup tm (.map (some b)) (.string ⟨s.toArray⟩) false).run P w=.ok (.int .i64 ((bD s l).getD 0)) w:=by
 obtain⟨v,ps,bh,hv⟩:=World.ownsMap.lookup h (string_keyed hk) ht hz (plainElem_int he (Tt (by decide))) (uE hk s hs);rw[kx jo]at hv;obtain⟨a,rfl,hc,_⟩:=plainElem_int_inv he hv;rw[bh]
 congr 2
 cases hg:bD s l with
 |none=>rw[hg]at hc;simp at hc;simp[hc]
 |some x=>rw[hg]at hc;simp[oy]at hc;simp[hc]
theorem eZ.store {l:List (List UInt8×Int)}(h:eZ P tk te w b l)(ht:P.underlying tm=some (.map tk te))(hk:P.underlying tk=some .string)(he:P.underlying te=some (.int .i64))(s:List UInt8)(hs:s.length<=140737488355328)(k:Int)(rZ:-9223372036854775808<=k/\k<=9223372036854775807)(hl:l.length<140737488355328):
  ∃ w',(Instr.mapUpdate tm (.map (some b)) (.string ⟨s.toArray⟩) (.int .i64 k)).run P w=.ok () w'/\eZ P tk te w' b (ee bytesBefore s k l)/\ah (·=b) w w':=by
 obtain⟨w',bh,bt,Iq⟩:=World.ownsMap.store h (string_keyed hk) ht (by unfold maxLen;omega) (uE hk s hs) (plainElem_int he (Tt rZ));refine⟨w',bh,?_,gQ Iq.grown⟩;have h1:=yZ bt;have e:(NN l).put (.string s) (.lit (.int .i64 k))=NN (ee bytesBefore s k l):=Av (ef:=oy) jo FP s k l;rw[e,eK]at h1;exact h1
theorem eZ.drop {l:List (List UInt8×Int)}(h:eZ P tk te w b l)(ht:P.underlying tm=some (.map tk te))(hk:P.underlying tk=some .string)(s:List UInt8)(hs:s.length<=140737488355328)(ty:TypeId):
  ∃ w',(Builtin.delete_ #[tm,tk] ty #[.map (some b),.string ⟨s.toArray⟩]).run P w=.ok (.tuple #[]) w'/\eZ P tk te w' b (fZ s l)/\ah (·=b) w w':=by
 obtain⟨w',bh,bt,Iq⟩:=World.ownsMap.drop h (string_keyed hk) ht (uE hk s hs) ty;refine⟨w',bh,?_,gQ Iq.grown⟩;have h1:=yZ bt;rw[Aw jo,eK]at h1;exact h1
theorem eZ.len {l:List (List UInt8×Int)}(h:eZ P tk te w b l)(ht:P.underlying tm=some (.map tk te))(ty:TypeId):(Builtin.len_ #[tm] ty #[.map (some b)]).run P w=.ok (.int .i64 (l.length:Int)) w:=by
 have:=World.ownsMap.len h ht ty
 rwa [eK]at this
theorem eZ.made (w:World):eZ P tk te (w.alloc (.map #[] 0)) w.heap.size []:=World.ownsMap_made w P tk _
theorem dC.look {l:List (Int×Nat)}(h:dC P tk w b l)(ht:P.underlying tm=some (.map tk te))(hk:P.underlying tk=some (.int .i64))(hz:(zeroValue te).run P w=.ok (.pointer none) w)(k:Int)(rZ:-9223372036854775808<=k/\k<=9223372036854775807):
  (Instr.lookup tm (.map (some b)) (.int .i64 k) true).run P w=.ok (.tuple #[.pointer ((bD k l).map fun a=>⟨a,0,none⟩),.bool (bD k l).isSome]) w:=by
 obtain⟨v,ps,bh,hv⟩:=World.ownsMap.look_ok h (int_keyed hk) ht hz (zd:=.held (.pointer none)) (zp:=[]) rfl (lG hk k rZ);rw[py cM]at bh;rw[kx cM]at hv;have Z2:v=.pointer ((bD k l).map fun a=>⟨a,0,none⟩):=by
  cases v<;>simp[jg]at hv
  cases hg:bD k l with
  |none=>rw[hg]at hv;simp at hv;simp[hv]
  |some x=>rw[hg]at hv;simp[yq]at hv;simp[hv]
 rw[bh,Z2]
theorem dC.look1 {l:List (Int×Nat)}(h:dC P tk w b l)(ht:P.underlying tm=some (.map tk te))(hk:P.underlying tk=some (.int .i64))(hz:(zeroValue te).run P w=.ok (.pointer none) w)(k:Int)(rZ:-9223372036854775808<=k/\k<=9223372036854775807):
  (Instr.lookup tm (.map (some b)) (.int .i64 k) false).run P w=.ok (.pointer ((bD k l).map fun a=>⟨a,0,none⟩)) w:=by
 obtain⟨v,ps,bh,hv⟩:=World.ownsMap.lookup h (int_keyed hk) ht hz (zd:=.held (.pointer none)) (zp:=[]) rfl (lG hk k rZ);rw[kx cM]at hv;have Z2:v=.pointer ((bD k l).map fun a=>⟨a,0,none⟩):=by
  cases v<;>simp[jg]at hv
  cases hg:bD k l with
  |none=>rw[hg]at hv;simp at hv;simp[hv]
  |some x=>rw[hg]at hv;simp[yq]at hv;simp[hv]
 rw[bh,Z2]
theorem dC.store {l:List (Int×Nat)}(h:dC P tk w b l)(ht:P.underlying tm=some (.map tk te))(hk:P.underlying tk=some (.int .i64))(k:Int)(rZ:-9223372036854775808<=k/\k<=9223372036854775807)(a:Nat)(hl:l.length<140737488355328):
  ∃ w',(Instr.mapUpdate tm (.map (some b)) (.int .i64 k) (.pointer (some ⟨a,0,none⟩))).run P w=.ok () w'/\dC P tk w' b (ee (fun a b=>decide (a<b)) k a l)/\ah (·=b) w w':=by
 obtain⟨w',bh,bt,Iq⟩:=World.ownsMap.store h (int_keyed hk) ht (by unfold maxLen;omega) (lG hk k rZ) (val:=.pointer (some ⟨a,0,none⟩)) (d:=yq a) (ps:=[]) rfl;refine⟨w',bh,?_,gQ Iq.grown⟩;have h1:=yZ bt;have e:(NP l).put (.int .i64 k) (yq a)=NP (ee (fun a b=>decide (a<b)) k a l):=Av (ef:=yq) cM vt k a l;rw[e,eK]at h1;exact h1
theorem dC.drop {l:List (Int×Nat)}(h:dC P tk w b l)(ht:P.underlying tm=some (.map tk te))(hk:P.underlying tk=some (.int .i64))(k:Int)(rZ:-9223372036854775808<=k/\k<=9223372036854775807)(ty:TypeId):
  ∃ w',(Builtin.delete_ #[tm,tk] ty #[.map (some b),.int .i64 k]).run P w=.ok (.tuple #[]) w'/\dC P tk w' b (fZ k l)/\ah (·=b) w w':=by
 obtain⟨w',bh,bt,Iq⟩:=World.ownsMap.drop h (int_keyed hk) ht (lG hk k rZ) ty;refine⟨w',bh,?_,gQ Iq.grown⟩;have h1:=yZ bt;rw[Aw cM,eK]at h1;exact h1
theorem dC.len {l:List (Int×Nat)}(h:dC P tk w b l)(ht:P.underlying tm=some (.map tk te))(ty:TypeId):(Builtin.len_ #[tm] ty #[.map (some b)]).run P w=.ok (.int .i64 (l.length:Int)) w:=by
 have:=World.ownsMap.len h ht ty
 rwa [eK]at this
theorem dC.made (w:World):dC P tk (w.alloc (.map #[] 0)) w.heap.size []:=World.ownsMap_made w P tk _
end
end
section
open Go.RowKit Go.Maps
theorem tK {w w':World}{b:Nat}(h:w.mapTurned w' b):w'.heap.size=w.heap.size:=by
 obtain⟨es,clock,es',ais,_,rfl⟩:=h;simp[ChangeMaps.setBlock]
structure nQ (P:Program)(te:TypeId)(R:Value->Option (DataW Value×List MemPlace)){β:Type}(ef:β->DataW Value)(mk:β->Value)(ok:β->Prop)(z:β):Prop where
 mkR:∀ x,ok x->R (mk x)=some (ef x,[])
 inv:∀ v ps x,R v=some (ef x,ps)->v=mk x
 zero:∀ w,(zeroValue te).run P w=.ok (mk z) w
 zok:ok z
 any:∀ v y,R v=some y->∃ c,v=mk c/\y.1=ef c
 inj:∀ a b,ef a=ef b->a=b
 mkinj:∀ a b,mk a=mk b->a=b
def Cr (s:List UInt8):DataW Value:=.lit (.string s)
def OC (s:Bool):DataW Value:=.lit (.bool s)
theorem OD {P:Program}{te:TypeId}(he:P.underlying te=some .string)(hz:∀ w,(zeroValue te).run P w=.ok (.string ⟨#[]⟩) w):nQ P te (plainElem P te) Cr (fun s=>.string ⟨s.toArray⟩) (fun s=>s.length<=140737488355328) [] where
 mkR s hs:=plainElem_string he (s:=⟨s.toArray⟩) (by show s.toArray.size<=_;unfold maxLen;simp;omega)
 inv v ps x h:=by
  obtain⟨s,rfl,hz,_⟩:=plainElem_string_inv he h;have:x=s.data.toList:=by simpa[Cr]using auZ Prod.fst hz
  subst this;simp
 zero w:=hz w
 zok:=by simp
 any v y h:=by
  obtain⟨s,rfl,hz,_⟩:=plainElem_string_inv he h;exact⟨s.data.toList,by simp,by rw[hz];rfl⟩
 inj a b h:=by simpa[Cr]using h
 mkinj a b h:=by simpa using h
theorem KA {P:Program}{te:TypeId}(he:P.underlying te=some .bool)(hz:∀ w,(zeroValue te).run P w=.ok (.bool false) w):nQ P te (plainElem P te) OC Value.bool (fun _=>True) false where
 mkR s _:=plainElem_bool he s
 inv v ps x h:=by
  unfold plainElem at h;rw[he]at h
  cases v<;>simp[OC]at h
  simp[h]
 zero w:=hz w
 zok:=trivial
 any v y h:=by
  unfold plainElem at h;rw[he]at h
  cases v<;>simp at h
  rename_i x
  exact⟨x,rfl,by rw[<-h];rfl⟩
 inj a b h:=by simpa[OC]using h
 mkinj a b h:=by simpa using h
section
variable {P:Program}{tm tk te:TypeId}{w:World}{b:Nat}{β:Type}{R:Value->Option (DataW Value×List MemPlace)}{ef:β->DataW Value}{mk:β->Value}{ok:β->Prop}{z:β}
def fg (P:Program)(tk:TypeId)(R:Value->Option (DataW Value×List MemPlace))(ef:β->DataW Value)(w:World)(b:Nat)(l:List (Int×β)):Prop:=w.ownsMap P tk R b l.length (BP (Lit.int .i64) ef l)
theorem fg.mod {l:List (Int×β)}{w':World}{S:Nat->Prop}(h:fg P tk R ef w b l)(m:ah S w w')(hS:¬ S b):fg P tk R ef w' b l:=vr h m hS
theorem fg.same {l:List (Int×β)}{w':World}(h:fg P tk R ef w b l)(m:w'.heap[b]?=w.heap[b]?):fg P tk R ef w' b l:=by
 obtain⟨es,clock,hb,F,hs,hD⟩:=h;exact⟨es,clock,m.trans hb,F,hs,hD⟩
theorem fg.lt {l:List (Int×β)}(h:fg P tk R ef w b l):b<w.heap.size:=World.ownsMap.lt h
theorem fg.look {l:List (Int×β)}(h:fg P tk R ef w b l)(E:nQ P te R ef mk ok z)(ht:P.underlying tm=some (.map tk te))(hk:P.underlying tk=some (.int .i64))(k:Int)(rZ:-9223372036854775808<=k/\k<=9223372036854775807):
  (Instr.lookup tm (.map (some b)) (.int .i64 k) true).run P w=.ok (.tuple #[mk ((bD k l).getD z),.bool (bD k l).isSome]) w:=by
 obtain⟨v,ps,bh,hv⟩:=World.ownsMap.look_ok h (int_keyed hk) ht (E.zero w) (E.mkR z E.zok) (lG hk k rZ);rw[py cM]at bh;rw[kx cM]at hv;rw[bh]
 cases hg:bD k l with
 |none=>rw[hg]at hv;rw[E.inv v ps z hv];rfl
 |some x=>rw[hg]at hv;rw[E.inv v ps x hv];rfl
theorem fg.look1 {l:List (Int×β)}(h:fg P tk R ef w b l)(E:nQ P te R ef mk ok z)(ht:P.underlying tm=some (.map tk te))(hk:P.underlying tk=some (.int .i64))(k:Int)(rZ:-9223372036854775808<=k/\k<=9223372036854775807):
  (Instr.lookup tm (.map (some b)) (.int .i64 k) false).run P w=.ok (mk ((bD k l).getD z)) w:=by
 obtain⟨v,ps,bh,hv⟩:=World.ownsMap.lookup h (int_keyed hk) ht (E.zero w) (E.mkR z E.zok) (lG hk k rZ);rw[kx cM]at hv;rw[bh]
 cases hg:bD k l with
 |none=>rw[hg]at hv;rw[E.inv v ps z hv];rfl
 |some x=>rw[hg]at hv;rw[E.inv v ps x hv];rfl
abbrev jQ (a b:Int):Bool:=decide (a<b)
theorem fg.store {l:List (Int×β)}(h:fg P tk R ef w b l)(E:nQ P te R ef mk ok z)(ht:P.underlying tm=some (.map tk te))(hk:P.underlying tk=some (.int .i64))(k:Int)(rZ:-9223372036854775808<=k/\k<=9223372036854775807)(x:β)(hx:ok x)(hl:l.length<140737488355328):
  ∃ w',(Instr.mapUpdate tm (.map (some b)) (.int .i64 k) (mk x)).run P w=.ok () w'/\fg P tk R ef w' b (ee jQ k x l)/\ah (·=b) w w'/\w'.heap.size=w.heap.size:=by
 obtain⟨w',bh,bt,Iq⟩:=World.ownsMap.store h (int_keyed hk) ht (by unfold maxLen;omega) (lG hk k rZ) (E.mkR x hx);refine⟨w',bh,?_,gQ Iq.grown,tK Iq⟩;have h1:=yZ bt;have e:(BP (Lit.int .i64) ef l).put (.int .i64 k) (ef x)=BP (Lit.int .i64) ef (ee jQ k x l):=Av cM vt k x l;rw[e,eK]at h1;exact h1
theorem fg.drop {l:List (Int×β)}(h:fg P tk R ef w b l)(ht:P.underlying tm=some (.map tk te))(hk:P.underlying tk=some (.int .i64))(k:Int)(rZ:-9223372036854775808<=k/\k<=9223372036854775807)(ty:TypeId):
  ∃ w',(Builtin.delete_ #[tm,tk] ty #[.map (some b),.int .i64 k]).run P w=.ok (.tuple #[]) w'/\fg P tk R ef w' b (fZ k l)/\ah (·=b) w w'/\w'.heap.size=w.heap.size:=by
 obtain⟨w',bh,bt,Iq⟩:=World.ownsMap.drop h (int_keyed hk) ht (lG hk k rZ) ty;refine⟨w',bh,?_,gQ Iq.grown,tK Iq⟩;have h1:=yZ bt;rw[Aw cM,eK]at h1;exact h1
theorem fg.clear {l:List (Int×β)}(h:fg P tk R ef w b l)(ht:P.underlying tm=some (.map tk te))(ty:TypeId):
  ∃ w',(Builtin.clear_ #[tm] ty #[.map (some b)]).run P w=.ok (.tuple #[]) w'/\fg P tk R ef w' b []/\ah (·=b) w w'/\w'.heap.size=w.heap.size:=by
 obtain⟨es,clock,hb,F,hs,hD⟩:=h;refine⟨{ w with heap:=w.heap.setIfInBounds b (.map #[] clock) },?_,?_,⟨rfl,rfl,rfl,?_,?_⟩,by simp⟩
 ·simp[Builtin.clear_,run_underlying ht,MapKept.run_getObj_map hb,MapKept.run_setObj_map _ hb,Result.andThen]
 ·exact⟨#[],clock,(MapKept.heap_set hb).1,⟨by simp,MapKept.stamped_empty _,by simp⟩,atL _,rfl⟩
 ·simp
 ·intro i hi hS;exact(MapKept.heap_set hb).2 i hS
theorem fg.at {l:List (Int×β)}(E:nQ P te R ef mk ok z){x:Int}{c:β}{y:DataW Value×List MemPlace}(hv:R (mk c)=some y)(nE:∀ zd,(BP (Lit.int .i64) ef l).atKey (.int .i64 x) zd=y.1):bD x l=some c:=by
 obtain⟨c',h1,h2⟩:=E.any _ _ hv;have h3:=E.mkinj _ _ h1;subst h3
 cases hg:bD x l with
 |none=>
  have h4:=nE (.held (.pointer none));have h5:=nE (.lit (.bool true));rw[kx cM,hg]at h4 h5;exact absurd (h4.trans h5.symm) (by simp)
 |some d=>
  have h4:=nE (.held (.pointer none));rw[kx cM,hg,h2]at h4;rw[E.inj _ _ h4]
theorem KB {l:List (Int×β)}(E:nQ P te R ef mk ok z)(hk:P.underlying tk=some (.int .i64)){aC:Array Oper}{rest:List Oper}{o:Oper}{a:Act}{Q:Exit->Act->World->Prop}(hg:o.guard=none)(it:Operand)(hop:o.op=Op.next it false)
  (r:Nat) (left:Lit->Bool) (jS:Nat) (hit:a.eval it=.pointer (some ⟨r,0,none⟩)) (h:w.ranges P tk R b r l.length (BP (Lit.int .i64) ef l) left jS)
  (adm:jS=0->(∀ kl,left kl=false)->wpList P aC Q rest (a.put o.dst (.tuple #[.bool false])) w)
  (adG:∀(x:Int) (c:β) (w':World) (rW:Nat),(-9223372036854775808<=x/\x<=9223372036854775807)->left (.int .i64 x)=true->bD x l=some c->w'.ranges P tk R b r l.length (BP (Lit.int .i64) ef l) (fun z=>left z&&!z.sameKey (.int .i64 x)) rW->rW<jS->
   ah (·=r) w w'->w'.heap.size=w.heap.size->(Instr.entry (.pointer (some ⟨r,0,none⟩))).run P w'=.ok (.tuple #[.int .i64 x,mk c]) w'->wpList P aC Q rest (a.put o.dst (.tuple #[.bool true,.int .i64 x,mk c])) w'):
  wpList P aC Q (o::rest) a w:=by
 refine wpList_next_ranges w hg it hop tk (int_keyed hk) R (Value.int .i64) mk (fun key kl h=>by obtain⟨x,rfl,_⟩:=Maps.keyOf_int_inv hk h;exact⟨x,rfl⟩) (fun v y h=>by obtain⟨c,hc,_⟩:=E.any v y h;exact⟨c,hc⟩) b r l.length _ left jS hit h adm ?_;intro x c kl y w' rW IQ Al hv nE SR aM hgr cA hen;obtain⟨x',hx,rfl,Z8⟩:=Maps.keyOf_int_inv hk IQ;have:x=x':=by simpa using hx
 subst this;refine adG x c w' rW ?_ Al (fg.at E hv nE) SR aM (gQ hgr) cA hen;have:=Z8;simp[Lit.wf,IntKind.min,IntKind.max,IntKind.signed,IntKind.bits]at this;omega
theorem fg.made (w:World):fg P tk R ef (w.alloc (.map #[] 0)) w.heap.size ([]:List (Int×β)):=World.ownsMap_made w P tk _
end
end
end Go.Proofs.YtkghpdcloaiflaaGreatDoor
section
namespace Go
structure za where
 objs:Array Obj
 drawn:Nat
instance:Inhabited za:=⟨⟨#[],0⟩⟩
def World.ext (w:World)(x:za):World:={ w with heap:=w.heap++x.objs,drawn:=x.drawn }
end Go
namespace Go.Proofs.YtkghpdcloaiflaaGreatDoor
open _root_.Go.Proofs.Tryz
open Go.RowKit
section
variable {w:World}{x y:za}
theorem sK {k:Nat}(h:k<w.heap.size):(w.ext x).heap[k]?=w.heap[k]?:=by
 show(w.heap++x.objs)[k]?=_;rw[Array.getElem?_append_left h]
@[go_sem] theorem abF:(w.ext x).heap.size=w.heap.size+x.objs.size:=by simp[World.ext]
@[go_sem] theorem abG {b:Nat}(h:b<w.heap.size)(i:Nat):(w.ext x).cell? ⟨b,i,none⟩=w.cell? ⟨b,i,none⟩:=World.cell?_of_block (a:=⟨b,i,none⟩) (sK h)
@[go_sem] theorem XY {b:Nat}(h:b<w.heap.size)(i:Nat):(w.ext x).frozen? ⟨b,i,none⟩=w.frozen? ⟨b,i,none⟩:=World.frozen?_of_block (a:=⟨b,i,none⟩) (sK h)
theorem aD (w:World)(x:za):af w (w.ext x):=⟨rfl,rfl,rfl,by simp[World.ext],fun _ hk _=>sK hk⟩
theorem gR {w w':World}(h:af w w'):∃ x,w'=w.ext x:=by
 refine⟨⟨w'.heap.extract w.heap.size w'.heap.size,w'.drawn⟩,?_⟩;obtain⟨os,tape,output,size,block⟩:=h;have e:w.heap++w'.heap.extract w.heap.size w'.heap.size=w'.heap:=by
  apply Array.ext_getElem?;intro i;by_cases hi:i<w.heap.size
  ·rw[Array.getElem?_append_left hi,block i hi id]
  ·rw[Array.getElem?_append_right (by omega),Array.getElem?_extract];split
   ·rw[show w.heap.size+(i-w.heap.size)=i by omega]
   ·rw[Array.getElem?_eq_none (by omega)]
 show w'={ w with heap:=w.heap++_,drawn:=_ };rw[e,<-os,<-tape,<-output]
end
theorem bw {P:Program}{f:FuncId}{args:Array Value}{w:World}{x:za}{v:Value}
  (h:Calls P f args (w.ext x) fun e w'=>e=.returned v/\af (w.ext x) w'):Calls P f args (w.ext x) fun e w''=>e=.returned v/\∃ y,w''=w.ext y:=
 h.mono fun _ _ ⟨he,hk⟩=>⟨he,gR ((aD w x).keep hk)⟩
theorem il {P:Program}{id:Nat}{Q:Exit->Act->World->Prop}{a:Act}{w:World}{l:List Oper}(m n:Nat)(hm:P.follows .mixedOrders=true)(hB:Region.lexMidB .any l.toArray m n=true)
  (hQ:∀ c o v a w,Q (.panic c) (Act.put a o v) w->Q (.panic c) a w)
  (h:lV P l.toArray (wpQuiet P l.toArray (fun w'=>∃ x,w'=w.ext x) (fun a'=>∀ w',(∃ x,w'=w.ext x)->wpList P l.toArray Q (l.drop n) a' w') ((l.take n).drop m)) (l.take m) a):(Code.region id l.toArray true).wp P Q a w:=
 ym m n (fun w'=>∃ x,w'=w.ext x) hm hB hQ (gR ((ah.refl _ w).drawn _)) h
theorem ru {P:Program}{id:Nat}{Q:Exit->Act->World->Prop}{a:Act}{w:World}{l:List Oper}(n:Nat)(hm:P.follows .mixedOrders=true)(hB:Region.lexTailB .any l.toArray n=true)
  (h:wpQuiet P l.toArray (fun w'=>∃ x,w'=w.ext x) (fun a'=>∀ w',(∃ x,w'=w.ext x)->wpList P l.toArray Q (l.drop n) a' w') (l.take n) a):(Code.region id l.toArray true).wp P Q a w:=
 mU n (fun w'=>∃ x,w'=w.ext x) hm hB (gR ((ah.refl _ w).drawn _)) h
theorem cN {P:Program}{id:Nat}{Q:Exit->Act->World->Prop}{a:Act}{w:World}{l:List Oper}(hm:P.follows .mixedOrders=true)(hB:Region.lexB .any l.toArray=true)
  (h:wpQuiet P l.toArray (fun w'=>∃ x,w'=w.ext x) (fun a'=>∀ w',(∃ x,w'=w.ext x)->Q .normal a' w') l a):(Code.region id l.toArray true).wp P Q a w:=
 wp_region_quiet (C:=fun w'=>∃ x,w'=w.ext x) hm hB (gR ((ah.refl _ w).drawn _)) (by simpa using h)
end Go.Proofs.YtkghpdcloaiflaaGreatDoor
end
namespace Go.Proofs.YtkghpdcloaiflaaGreatDoor
open _root_.Go.Proofs.Tryz
def jM (c:UInt8):List UInt8->List (List UInt8)
 |[]=>[[]]
 |b::l=>if b=c then []::jM c l else match jM c l with
  |[]=>[[b]]
  |x::r=>(b::x)::r
theorem vu (c:UInt8)(l:List UInt8):jM c l≠[]:=by
 cases l with
 |nil=>simp[jM]
 |cons b l=>
  unfold jM;split
  ·simp
  ·split<;>simp
theorem vw (c b:UInt8)(l:List UInt8)(h:b≠c):jM c (b::l)=match jM c l with|[]=>[[b]]|x::r=>(b::x)::r:=by rw[jM,atR h]
theorem FQ (c:UInt8)(l:List UInt8):Lib.splitK [c] 0 (Lib.count l [c]) l=jM c l:=by
 induction l with
 |nil=>rw[Lib.count_one];rfl
 |cons b l ih=>
  unfold jM;by_cases h:b=c
  ·subst h;have Vz:Lib.index (b::l) [b]=((0:Nat):Int):=by rw[Lib.index];simp[List.isPrefixOf]
   rw[atP rfl,Lib.count_cons_eq,Nat.add_comm,Lib.splitK,Vz,<-ih];simp
  ·rw[atR h,Lib.count_cons_ne b c l h];have hp:([c]:List UInt8).isPrefixOf (b::l)=false:=by simp[List.isPrefixOf,Ne.symm h]
   have Vz:Lib.index (b::l) [c]=if Lib.index l [c]==-1 then -1 else Lib.index l [c]+1:=by rw[Lib.index,hp];simp
   by_cases hm:Lib.index l [c] = -1
   ·have h0:Lib.count l [c]=0:=Lib.count_miss hm;rw[h0]at ih ⊢;rw[<-ih];rfl
   ·have hge:=Lib.index_ge l [c];obtain⟨j,hj⟩:∃ j:Nat,Lib.index l [c]=j:=⟨(Lib.index l [c]).toNat,by omega⟩
    have hk:=Lib.count_hit (by simp) hj;rw[hk,Nat.add_comm]at ih ⊢;have By:(Lib.index l [c]==-1)=false:=by rw[auv];exact hm
    have Aq:(Lib.index (b::l) [c]==-1)=false:=by rw[auv,Vz,By];simp;omega
    rw[Lib.splitK,By,hj]at ih;rw[Lib.splitK,Aq,Vz,By,hj,<-ih];have e1:((j:Int)+1).toNat=j+1:=by omega
    simp[e1]
theorem vx (c:UInt8)(l:List UInt8):(Lib.splitB ⟨#[c]⟩ 0 (Lib.countB ⟨l.toArray⟩ ⟨#[c]⟩) ⟨l.toArray⟩)=(jM c l).map (fun x=>⟨x.toArray⟩):=by
 have h:=Lib.splitB_data ⟨#[c]⟩ 0 (Lib.countB ⟨l.toArray⟩ ⟨#[c]⟩) ⟨l.toArray⟩;have e:Lib.splitK [c] 0 (Lib.countB ⟨l.toArray⟩ ⟨#[c]⟩) l=jM c l:=FQ c l;have h':(Lib.splitB ⟨#[c]⟩ 0 (Lib.countB ⟨l.toArray⟩ ⟨#[c]⟩) ⟨l.toArray⟩).map (·.data.toList)=jM c l:=h.trans e;rw[<-h',auc];have:((fun x:List UInt8=>(⟨x.toArray⟩:ByteArray))∘fun s:ByteArray=>s.data.toList)=id:=by
  funext s;cases s;rfl
 rw[this,List.map_id]
theorem FS (c:UInt8)(l:List UInt8):Lib.countB ⟨l.toArray⟩ ⟨#[c]⟩+1=(jM c l).length:=by
 have h:=Lib.splitB_all ⟨#[c]⟩ (atL 1) 0 _ ⟨l.toArray⟩ rfl;rw[<-h,vx,aug]
theorem Tu (c:UInt8)(l:List UInt8):(jM c l).length=l.count c+1:=by
 induction l with
 |nil=>rfl
 |cons b l ih=>
  unfold jM;by_cases h:b=c
  ·subst h;rw[atP rfl,atH,ih,List.count_cons_self]
  ·rw[atR h,List.count_cons_of_ne (by simpa using h),<-ih]
   cases hs:jM c l with
   |nil=>exact absurd hs (vu c l)
   |cons x r=>simp
theorem vy (c:UInt8)(l:List UInt8):[c].intercalate (jM c l)=l:=by
 induction l with
 |nil=>simp[jM,List.intercalate]
 |cons b l ih=>
  unfold jM;by_cases h:b=c
  ·subst h;rw[atP rfl]
   cases hs:jM b l with
   |nil=>exact absurd hs (vu b l)
   |cons x r=>rw[hs]at ih;simp[List.intercalate]at ih ⊢;exact ih
  ·rw[atR h]
   cases hs:jM c l with
   |nil=>exact absurd hs (vu c l)
   |cons x r=>
    rw[hs]at ih
    cases r with
    |nil=>simp[List.intercalate]at ih ⊢;exact ih
    |cons y r=>simp[List.intercalate]at ih ⊢;exact ih
theorem KC (c:UInt8)(l:List UInt8):∀ i,((jM c l).getD i []).length<=l.length:=by
 induction l with
 |nil=>intro i;cases i<;>simp[jM]
 |cons b l ih=>
  intro i;by_cases h:b=c
  ·rw[jM,atP h]
   cases i with
   |zero=>simp
   |succ i=>have:=ih i;simp at this ⊢;omega
  ·rw[vw c b l h]
   cases hs:jM c l with
   |nil=>cases i<;>simp
   |cons x r=>
    rw[hs]at ih
    cases i with
    |zero=>have:=ih 0;simp at this ⊢;omega
    |succ i=>have:=ih (i+1);simp at this ⊢;omega
theorem Tv (c:UInt8)(l:List UInt8)(h:c∉l):jM c l=[l]:=by
 induction l with
 |nil=>rfl
 |cons b l ih=>
  unfold jM;rw[atR (by intro e;subst e;simp at h),ih (by intro e;exact h (by simp[e]))]
theorem OE (c:UInt8)(x l:List UInt8)(h:c∉x):jM c (x++c::l)=x::jM c l:=by
 induction x with
 |nil=>simp[jM]
 |cons b x ih=>
  rw[aur,vw c b _ (by intro e;subst e;simp at h),ih (by intro e;exact h (by simp[e]))]
theorem Cs (c:UInt8)(xs:List (List UInt8))(dZ:xs≠[])(h:∀ x∈xs,c∉x):jM c ([c].intercalate xs)=xs:=by
 induction xs with
 |nil=>exact absurd rfl dZ
 |cons x xs ih=>
  cases xs with
  |nil=>simp only[List.intercalate,List.intersperse,List.flatten_cons,List.flatten_nil,List.append_nil];exact Tv c x (h x (by simp))
  |cons y ys=>
   have e:[c].intercalate (x::y::ys)=x++c::[c].intercalate (y::ys):=by simp[List.intercalate]
   rw[e,OE c x _ (h x (by simp)),ih (by simp) (fun z hz=>h z (by simp[hz]))]
end Go.Proofs.YtkghpdcloaiflaaGreatDoor
