import Derived.Test.YtkghpdcloaiflaaGreatDoorH02
import Derived.Maps.RangeWalk
import Derived.Maps.OwnSet
import Derived.WalkArith
import Derived.Maps.StringElems
import Derived.Lib.SplitLaws
import Derived.Lib.Join
namespace Go.Proofs.YtkghpdcloaiflaaGreatDoor
open _root_.Go.Proofs.Tryz
variable {P:Program}{S:Nat->Prop}{b n:Nat}{l:List (Int×Nat)}{w w':World}
def Le:ay:=[115,116,105,108,108,97,103,101,32,118,111,108,117,109,101,33]
def mQ (s:ay)(n:Nat):ay:=let t:=s++List.replicate (n-s.length) 0;t++Oz Le t
def dN (p:ay):ay:=mQ ([UInt8.ofNat (p.length%256),UInt8.ofNat (p.length/256%256)]++p) 248
def kq (s:ay):Except Int ay:=
 if s.length≠256 then .error 82 else
  let n:=(s.getD 0 0).toNat+256*(s.getD 1 0).toNat
  if 240<n then .error 82 else
   if dN ((s.drop 2).take n)=s then .ok ((s.drop 2).take n)else .error 82
theorem JS (k s:ay):(Oz k s).length=8:=by unfold Oz;simp[CV,uO]
theorem vB {s:ay}(h:s.length<=n):(mQ s n).length=n+8:=by
 unfold mQ;simp[JS];omega
theorem sO {p:ay}(h:p.length<=240):(dN p).length=256:=by
 unfold dN;rw[vB (by simp;omega)]
theorem yI {p:ay}(h:p.length<=240):kq (dN p)=.ok p:=by
 have hl:=sO h;obtain⟨r,hr⟩:∃ r,dN p=UInt8.ofNat (p.length%256)::UInt8.ofNat (p.length/256%256)::(p++r):=by
  unfold dN mQ;simp
 unfold kq;rw[awf J];have e:((dN p).getD 0 0).toNat+256*((dN p).getD 1 0).toNat=p.length:=by
  rw[hr];simp;omega
 have e2:((dN p).drop 2).take p.length=p:=by rw[hr];simp
 simp only[e,e2];rw[awf J,awd trivial]
def eI (d:Dk)(n:Nat):ay:=d.get (4*n)++d.get (4*n+1)++d.get (4*n+2)++d.get (4*n+3)
def il (d:Dk):Rd:=λn=>if 1<=n/\n<(d.size/4:Nat)then kq (eI d n.toNat)else .error 81
def jG (d:Dk)(n:Nat)(s:ay):Nat->Dk
 |0=>d
 |k+1=>(jG d n s k).put (4*n+k) ((s.drop (k*64)).take 64)
theorem jr (d:Dk)(n:Nat)(s:ay):∀ k,(jG d n s k).size=d.size
 |0=>rfl
 |k+1=>by rw[jG,ft,jr d n s k]
theorem qA (d:Dk)(n:Nat)(s:ay)(m:Nat):∀ k,k<=4->(jG d n s k).get m=if 4*n<=m/\m<4*n+k then(s.drop ((m-4*n)*64)).take 64 else d.get m
 |0,_=>by rw[awf J];rfl
 |k+1,h=>by
  rw[jG,JR,qA d n s m k J];by_cases hm:m=4*n+k
  ·rw[awd hm,awd J,show m-4*n=k by omega]
  ·rw[awf hm];by_cases h2:4*n<=m/\m<4*n+k
   ·rw[awd h2,awd J]
   ·rw[awf h2,awf J]
theorem CX {d:Dk}(h1:1<=n)(h2:n<d.size/4){p:ay}(hp:p.length<=240):il (jG d n (dN p) 4)=lM (il d) n p:=by
 funext k
 unfold il lM;rw[jr];have hl:=sO hp;by_cases hk:1<=k/\k<(d.size/4:Nat)
 ·rw[awd hk];by_cases rq:k=n
  ·rw[awd rq];subst rq;have e:eI (jG d n (dN p) 4) ((n:Int).toNat)=dN p:=by
    unfold eI;rw[awH];simp only[qA d n (dN p) _ 4 (av9 4)];rw[awd J,awd J,awd J,awd J];rw[show 4*n-4*n=0 by omega,show 4*n+1-4*n=1 by omega,show 4*n+2-4*n=2 by omega,show 4*n+3-4*n=3 by omega];have:dN p=(dN p).take (64+64+64+64):=by rw[awQ J]
    conv=>rhs;rw[this]
    simp only[List.take_add,Nat.zero_mul,awV,awN]
   rw[e,yI hp]
  ·rw[awf rq];have e:eI (jG d n (dN p) 4) k.toNat=eI d k.toNat:=by
    unfold eI;have:k.toNat≠n:=J
    simp only[qA d n (dN p) _ 4 (av9 4)];rw[awf J,awf J,awf J,awf J]
   rw[e];exact(awd hk).symm
 ·rw[awf hk];by_cases rq:k=n
  ·omega
  ·rw[awf rq];exact(awf hk).symm
theorem AQ (d:Dk):il d.sync=il d:=by
 funext k
 unfold il;rw[dx];by_cases hk:1<=k/\k<(d.size/4:Nat)
 ·rw[awd hk,awd hk];have e:eI d.sync k.toNat=eI d k.toNat:=by
   unfold eI;rw[rD _ J,rD _ J,rD _ J,rD _ J]
  rw[e]
 ·rw[awf hk,awf hk]
def JT (n:Nat):ay:=(List.range 6).map λi=>UInt8.ofNat (n/256 ^ i%256)
def CY (text:ay)(num:Nat):ay:=mQ ([82,84]++JT num++[UInt8.ofNat (text.length%256)]++text) 56
theorem Lf {text:ay}(h:text.length<=40)(num:Nat):(CY text num).length=64:=by
 unfold CY;rw[vB (by simp[JT];omega)]
def ku (d:Dk)(text:ay)(num:Nat):Dk:=(d.put (num%2) (CY text num)).sync
theorem qB (d:Dk)(text:ay)(num:Nat):(ku d text num).size=d.size:=by unfold ku;rw[dx,ft]
theorem tX (d:Dk)(n:Nat)(hn:n<4)(s:ay):il (d.put n s)=il d:=by
 funext k
 unfold il;rw[ft];by_cases hk:1<=k/\k<(d.size/4:Nat)
 ·rw[awd hk,awd hk];have e:eI (d.put n s) k.toNat=eI d k.toNat:=by
   unfold eI;simp only[JR];rw[awf J,awf J,awf J,awf J]
  rw[e]
 ·rw[awf hk,awf hk]
theorem vC (d:Dk)(text:ay)(num:Nat):il (ku d text num)=il d:=by unfold ku;rw[AQ,tX _ _ J]
section
open Go.RowKit Go.Maps
section
variable {α β H:Type}
def jH (lt:α->α->Bool)(x:α×β):List (α×β)->List (α×β)
 |[]=>[x]
 |y::r=>if lt x.1 y.1 then x::y::r else y::jH lt x r
section
variable [BEq α]
def iO (a:α)(l:List (α×β)):List (α×β):=l.filter λp=>!(p.1==a)
def ee (lt:α->α->Bool)(a:α)(b:β)(l:List (α×β)):List (α×β):=jH lt (a,b) (iO a l)
def bM (a:α)(l:List (α×β)):Option β:=(l.find? λp=>p.1==a).map (·.2)
end
def Cw (kf:α->Lit)(ef:β->DataW H)(l:List (α×β)):DataW H:=.map (l.map λp=>(kf p.1,ef p.2))
variable {kf:α->Lit}{ef:β->DataW H}{lt:α->α->Bool}
theorem Pg (hb:∀ a b,(kf a).before (kf b)=lt a b)(a:α)(b:β)(l:List (α×β)):DataW.insert (kf a,ef b) (l.map λp=>(kf p.1,ef p.2))=(jH lt (a,b) l).map λp=>(kf p.1,ef p.2):=by
 induction l with
 |nil=>rfl
 |cons y r ih=>
  simp only[av3,DataW.insert,jH,hb];split
  ·simp
  ·simp[ih]
section
variable [BEq α]
theorem CZ (hs:∀ a b,(kf a).sameKey (kf b)=(a==b))(a:α)(l:List (α×β)):((l.map λp=>(kf p.1,ef p.2)).filter λp=>!p.1.sameKey (kf a))=(iO a l).map λp=>(kf p.1,ef p.2):=by
 induction l with
 |nil=>rfl
 |cons y r ih=>
  simp only[av3,axh,iO,hs];by_cases h:(!(y.1==a))=true
  ·rw[awd h,awd h,av3,ih];rfl
  ·rw[awf h,awf h,ih];rfl
theorem AR (hs:∀ a b,(kf a).sameKey (kf b)=(a==b))(hb:∀ a b,(kf a).before (kf b)=lt a b)(a:α)(b:β)(l:List (α×β)):(Cw kf ef l).put (kf a) (ef b)=Cw kf ef (ee lt a b l):=by
 show DataW.map _=DataW.map _;rw[CZ hs,Pg hb];rfl
theorem JU (hs:∀ a b,(kf a).sameKey (kf b)=(a==b))(a:α)(l:List (α×β)):(Cw kf ef l).del (kf a)=Cw kf ef (iO a l):=by
 show DataW.map _=DataW.map _;rw[CZ hs]
theorem Ph (hs:∀ a b,(kf a).sameKey (kf b)=(a==b))(a:α)(l:List (α×β)):(l.map λp=>(kf p.1,ef p.2)).find? (λp=>p.1.sameKey (kf a))=(l.find? λp=>p.1==a).map λp=>(kf p.1,ef p.2):=by
 rw[List.find?_map]
 congr 1
 ·congr 1
  funext p
  simp[Function.comp,hs]
theorem mR (hs:∀ a b,(kf a).sameKey (kf b)=(a==b))(a:α)(l:List (α×β))(z:DataW H):(Cw kf ef l).atKey (kf a) z=match bM a l with|some b=>ef b|none=>z:=by
 show(match (l.map λp=>(kf p.1,ef p.2)).find? (λp=>p.1.sameKey (kf a))with|some p=>p.2|none=>z)=_;rw[Ph hs];unfold bM
 cases l.find? λp=>p.1==a<;>rfl
theorem rE (hs:∀ a b,(kf a).sameKey (kf b)=(a==b))(a:α)(l:List (α×β)):Maps.has (Cw kf ef l) (kf a)=(bM a l).isSome:=by
 show(l.map λp=>(kf p.1,ef p.2)).any (λp=>p.1.sameKey (kf a))=_;unfold bM;rw[awM];simp[hs]
end
theorem fu (l:List (α×β)):Maps.size (Cw kf ef l)=l.length:=by
 show(l.map _).length=_;simp
theorem vD [BEq α](a:α)(l:List (α×β)):(iO a l).length<=l.length:=awh _ _
theorem C0 (x:α×β)(l:List (α×β)):(jH lt x l).length=l.length+1:=by
 induction l with
 |nil=>rfl
 |cons y r ih=>
  unfold jH;split
  ·simp
  ·simp[ih]
end
theorem C3 {H:Type}{k:TypeId}{R:Value->Option (DataW H×List MemPlace)}{D:DataW H}(h:w.ownsMap P k R b n D):w.ownsMap P k R b (Maps.size D) D:=by
 obtain⟨es,clock,hb,F,hs,rfl⟩:=h;exact⟨es,clock,hb,F,by simp[Maps.size,length_sorted],rfl⟩
theorem vE {H:Type}{k:TypeId}{R:Value->Option (DataW H×List MemPlace)}{D:DataW H}(h:w.ownsMap P k R b n D)(m:ai S w w')(hS:¬ S b):w'.ownsMap P k R b n D:=by
 have aP:=h.lt;obtain⟨es,clock,hb,F,hs,hD⟩:=h;exact⟨es,clock,m.obj hb hS,F,hs,hD⟩
theorem iP (h:w.grownBy w' (some b)):ai (·=b) w w':=
 ⟨h.os,h.tape,h.output,h.size,λk hk hS=>h.block k hk (λe=>hS (by cases e;rfl))⟩
theorem sP (h:ai (·=b) w w'):w.grownBy w' (some b):=
 ⟨h.os,h.tape,h.output,h.size,λk hk hS=>h.block k hk (λe=>hS (by rw[e]))⟩
theorem vG (h:w.grownBy w' none):af w w':=⟨h.os,h.tape,h.output,h.size,λk hk _=>h.block k hk sp7⟩
def ji:Value->Option (DataW Value×List MemPlace)
 | .pointer a=>some (.held (.pointer a),[])
 |_=>none
theorem rF (a b:List UInt8):(Lit.string a).sameKey (.string b)=(a==b):=rfl
theorem Gz (a b:List UInt8):(Lit.string a).before (.string b)=bytesBefore a b:=rfl
theorem cN (a b:Int):(Lit.int .i64 a).sameKey (.int .i64 b)=(a==b):=by
 show decide _=_;rw[awM];simp
theorem vH (a b:Int):(Lit.int .i64 a).before (.int .i64 b)=decide (a<b):=rfl
def GA (k:Int):DataW Value:=.lit (.int .i64 k)
def yJ (a:Nat):DataW Value:=.held (.pointer (some ⟨a,0,none⟩))
abbrev XK (l:List (List UInt8×Int)):DataW Value:=Cw Lit.string GA l
abbrev OA (l:List (Int×Nat)):DataW Value:=Cw (Lit.int .i64) yJ l
section
variable {P:Program}{tm tk te:TypeId}{w:World}{b:Nat}
def iC (P:Program)(tk te:TypeId)(w:World)(b:Nat)(l:List (List UInt8×Int)):Prop:=w.ownsMap P tk (plainElem P te) b l.length (XK l)
def dJ (P:Program)(tk:TypeId)(w:World)(b:Nat)(l:List (Int×Nat)):Prop:=w.ownsMap P tk ji b l.length (OA l)
theorem iC.mod {l:List (List UInt8×Int)}(h:iC P tk te w b l)(m:ai S w w')(hS:¬ S b):iC P tk te w' b l:=vE h m hS
theorem dJ.mod (h:dJ P tk w b l)(m:ai S w w')(hS:¬ S b):dJ P tk w' b l:=vE h m hS
theorem iC.lt {l:List (List UInt8×Int)}(h:iC P tk te w b l):b<w.heap.size:=World.ownsMap.lt h
theorem dJ.lt (h:dJ P tk w b l):b<w.heap.size:=World.ownsMap.lt h
theorem AS (hk:P.underlying tk=some .string)(s:List UInt8)(hs:s.length<=140737488355328):keyOf P tk (.string ⟨s.toArray⟩)=some (.string s):=
 Go.WideMaps.keyOf_string_mk (s:=⟨s.toArray⟩) hk (by show s.toArray.size<=_;unfold maxLen;simp;omega)
theorem UU {k:Int}(h:-9223372036854775808<=k/\k<=9223372036854775807):(Lit.int .i64 k).wf=true:=by
 exact WalkArith.wf_i64 h
theorem lq (hk:P.underlying tk=some (.int .i64))(k:Int)(h:-9223372036854775808<=k/\k<=9223372036854775807):keyOf P tk (.int .i64 k)=some (.int .i64 k):=keyOf_int_mk hk (UU h)
theorem iC.look {l:List (List UInt8×Int)}(h:iC P tk te w b l)(ht:P.underlying tm=some (.map tk te))(hk:P.underlying tk=some .string)(he:P.underlying te=some (.int .i64))(hz:(zeroValue te).run P w=.ok (.int .i64 0) w)(s:List UInt8)(hs:s.length<=140737488355328):
  (Instr.lookup tm (.map (some b)) (.string ⟨s.toArray⟩) true).run P w=.ok (.tuple #[.int .i64 ((bM s l).getD 0),.bool (bM s l).isSome]) w:=by
 obtain⟨v,ps,bN,hv⟩:=World.ownsMap.look_ok h (string_keyed hk) ht hz (plainElem_int he (UU dc7)) (AS hk s hs);rw[rE rF]at bN;rw[mR rF]at hv;obtain⟨a,rfl,hc,_⟩:=plainElem_int_inv he hv;rw[bN]
 congr 4
 cases hg:bM s l with
 |none=>rw[hg]at hc;simp at hc;simp[hc]
 |some x=>rw[hg]at hc;simp[GA]at hc;simp[hc]
theorem iC.look1 {l:List (List UInt8×Int)}(h:iC P tk te w b l)(ht:P.underlying tm=some (.map tk te))(hk:P.underlying tk=some .string)(he:P.underlying te=some (.int .i64))(hz:(zeroValue te).run P w=.ok (.int .i64 0) w)(s:List UInt8)(hs:s.length<=140737488355328):
  (Instr.lookup tm (.map (some b)) (.string ⟨s.toArray⟩) false).run P w=.ok (.int .i64 ((bM s l).getD 0)) w:=by
 obtain⟨v,ps,bN,hv⟩:=World.ownsMap.lookup h (string_keyed hk) ht hz (plainElem_int he (UU dc7)) (AS hk s hs);rw[mR rF]at hv;obtain⟨a,rfl,hc,_⟩:=plainElem_int_inv he hv;rw[bN]
 congr 2
 cases hg:bM s l with
 |none=>rw[hg]at hc;simp at hc;simp[hc]
 |some x=>rw[hg]at hc;simp[GA]at hc;simp[hc]
theorem iC.store {l:List (List UInt8×Int)}(h:iC P tk te w b l)(ht:P.underlying tm=some (.map tk te))(hk:P.underlying tk=some .string)(he:P.underlying te=some (.int .i64))(s:List UInt8)(hs:s.length<=140737488355328)(k:Int)(tP:-9223372036854775808<=k/\k<=9223372036854775807)(hl:l.length<140737488355328):
  ∃ w',(Instr.mapUpdate tm (.map (some b)) (.string ⟨s.toArray⟩) (.int .i64 k)).run P w=.ok () w'/\iC P tk te w' b (ee bytesBefore s k l)/\ai (·=b) w w':=by
 obtain⟨w',bN,bC,Tx⟩:=World.ownsMap.store h (string_keyed hk) ht (by unfold maxLen;omega) (AS hk s hs) (plainElem_int he (UU tP));refine⟨w',bN,?_,iP Tx.grown⟩;have h1:=C3 bC;have e:(XK l).put (.string s) (.lit (.int .i64 k))=XK (ee bytesBefore s k l):=AR (ef:=GA) rF Gz s k l;rw[e,fu]at h1;exact h1
theorem iC.len {l:List (List UInt8×Int)}(h:iC P tk te w b l)(ht:P.underlying tm=some (.map tk te))(ty:TypeId):(Builtin.len_ #[tm] ty #[.map (some b)]).run P w=.ok (.int .i64 (l.length:Int)) w:=by
 have:=World.ownsMap.len h ht ty
 rwa [fu]at this
theorem iC.made (w:World):iC P tk te (w.alloc (.map #[] 0)) w.heap.size []:=World.ownsMap_made w P tk _
theorem dJ.look (h:dJ P tk w b l)(ht:P.underlying tm=some (.map tk te))(hk:P.underlying tk=some (.int .i64))(hz:(zeroValue te).run P w=.ok (.pointer none) w)(k:Int)(tP:-9223372036854775808<=k/\k<=9223372036854775807):
  (Instr.lookup tm (.map (some b)) (.int .i64 k) true).run P w=.ok (.tuple #[.pointer ((bM k l).map λa=>⟨a,0,none⟩),.bool (bM k l).isSome]) w:=by
 obtain⟨v,ps,bN,hv⟩:=World.ownsMap.look_ok h (int_keyed hk) ht hz (zd:=.held (.pointer none)) (zp:=[]) rfl (lq hk k tP);rw[rE cN]at bN;rw[mR cN]at hv;have hv':v=.pointer ((bM k l).map λa=>⟨a,0,none⟩):=by
  cases v<;>simp[ji]at hv
  cases hg:bM k l with
  |none=>rw[hg]at hv;simp at hv;simp[hv]
  |some x=>rw[hg]at hv;simp[yJ]at hv;simp[hv]
 rw[bN,hv']
theorem dJ.look1 (h:dJ P tk w b l)(ht:P.underlying tm=some (.map tk te))(hk:P.underlying tk=some (.int .i64))(hz:(zeroValue te).run P w=.ok (.pointer none) w)(k:Int)(tP:-9223372036854775808<=k/\k<=9223372036854775807):
  (Instr.lookup tm (.map (some b)) (.int .i64 k) false).run P w=.ok (.pointer ((bM k l).map λa=>⟨a,0,none⟩)) w:=by
 obtain⟨v,ps,bN,hv⟩:=World.ownsMap.lookup h (int_keyed hk) ht hz (zd:=.held (.pointer none)) (zp:=[]) rfl (lq hk k tP);rw[mR cN]at hv;have hv':v=.pointer ((bM k l).map λa=>⟨a,0,none⟩):=by
  cases v<;>simp[ji]at hv
  cases hg:bM k l with
  |none=>rw[hg]at hv;simp at hv;simp[hv]
  |some x=>rw[hg]at hv;simp[yJ]at hv;simp[hv]
 rw[bN,hv']
theorem dJ.store (h:dJ P tk w b l)(ht:P.underlying tm=some (.map tk te))(hk:P.underlying tk=some (.int .i64))(k:Int)(tP:-9223372036854775808<=k/\k<=9223372036854775807)(a:Nat)(hl:l.length<140737488355328):
  ∃ w',(Instr.mapUpdate tm (.map (some b)) (.int .i64 k) (.pointer (some ⟨a,0,none⟩))).run P w=.ok () w'/\dJ P tk w' b (ee (λa b=>decide (a<b)) k a l)/\ai (·=b) w w':=by
 obtain⟨w',bN,bC,Tx⟩:=World.ownsMap.store h (int_keyed hk) ht (by unfold maxLen;omega) (lq hk k tP) (val:=.pointer (some ⟨a,0,none⟩)) (d:=yJ a) (ps:=[]) rfl;refine⟨w',bN,?_,iP Tx.grown⟩;have h1:=C3 bC;have e:(OA l).put (.int .i64 k) (yJ a)=OA (ee (λa b=>decide (a<b)) k a l):=AR (ef:=yJ) cN vH k a l;rw[e,fu]at h1;exact h1
theorem dJ.drop (h:dJ P tk w b l)(ht:P.underlying tm=some (.map tk te))(hk:P.underlying tk=some (.int .i64))(k:Int)(tP:-9223372036854775808<=k/\k<=9223372036854775807)(ty:TypeId):
  ∃ w',(Builtin.delete_ #[tm,tk] ty #[.map (some b),.int .i64 k]).run P w=.ok (.tuple #[]) w'/\dJ P tk w' b (iO k l)/\ai (·=b) w w':=by
 obtain⟨w',bN,bC,Tx⟩:=World.ownsMap.drop h (int_keyed hk) ht (lq hk k tP) ty;refine⟨w',bN,?_,iP Tx.grown⟩;have h1:=C3 bC;rw[JU cN,fu]at h1;exact h1
theorem dJ.len (h:dJ P tk w b l)(ht:P.underlying tm=some (.map tk te))(ty:TypeId):(Builtin.len_ #[tm] ty #[.map (some b)]).run P w=.ok (.int .i64 (l.length:Int)) w:=by
 have:=World.ownsMap.len h ht ty
 rwa [fu]at this
theorem dJ.made (w:World):dJ P tk (w.alloc (.map #[] 0)) w.heap.size []:=World.ownsMap_made w P tk _
end
theorem tY (h:w.mapTurned w' b):w'.heap.size=w.heap.size:=by
 obtain⟨es,clock,es',alP,_,rfl⟩:=h;simp[ChangeMaps.setBlock]
structure nM (P:Program)(te:TypeId)(R:Value->Option (DataW Value×List MemPlace)){β:Type}(ef:β->DataW Value)(mk:β->Value)(ok:β->Prop)(z:β):Prop where
 mkR:∀ x,ok x->R (mk x)=some (ef x,[])
 inv:∀ v ps x,R v=some (ef x,ps)->v=mk x
 zero:∀ w,(zeroValue te).run P w=.ok (mk z) w
 zok:ok z
 any:∀ v y,R v=some y->∃ c,v=mk c/\y.1=ef c
 inj:∀ a b,ef a=ef b->a=b
 mkinj:∀ a b,mk a=mk b->a=b
def C4 (s:List UInt8):DataW Value:=.lit (.string s)
def Pi (s:Bool):DataW Value:=.lit (.bool s)
theorem Pj {te:TypeId}(he:P.underlying te=some .string)(hz:∀ w,(zeroValue te).run P w=.ok (.string ⟨#[]⟩) w):nM P te (plainElem P te) C4 (λs=>.string ⟨s.toArray⟩) (λs=>s.length<=140737488355328) [] where
 mkR s hs:=plainElem_string he (s:=⟨s.toArray⟩) (by show s.toArray.size<=_;unfold maxLen;simp;omega)
 inv v ps x h:=by
  obtain⟨s,rfl,hz,_⟩:=plainElem_string_inv he h;have:x=s.data.toList:=by simpa[C4]using axi Prod.fst hz
  subst this;simp
 zero w:=hz w
 zok:=by simp
 any v y h:=by
  obtain⟨s,rfl,hz,_⟩:=plainElem_string_inv he h;exact⟨s.data.toList,by simp,by rw[hz];rfl⟩
 inj a b h:=by simpa[C4]using h
 mkinj a b h:=by simpa using h
theorem Lg {te:TypeId}(he:P.underlying te=some .bool)(hz:∀ w,(zeroValue te).run P w=.ok (.bool false) w):nM P te (plainElem P te) Pi Value.bool (λ_=>True) false where
 mkR s _:=plainElem_bool he s
 inv v ps x h:=by
  unfold plainElem at h;rw[he]at h
  cases v<;>simp[Pi]at h
  simp[h]
 zero w:=hz w
 zok:=trivial
 any v y h:=by
  unfold plainElem at h;rw[he]at h
  cases v<;>simp at h
  rename_i x
  exact⟨x,rfl,by rw[<-h];rfl⟩
 inj a b h:=by simpa[Pi]using h
 mkinj a b h:=by simpa using h
section
variable {P:Program}{tm tk te:TypeId}{w:World}{b:Nat}{β:Type}{R:Value->Option (DataW Value×List MemPlace)}{ef:β->DataW Value}{mk:β->Value}{ok:β->Prop}{z:β}
def eY (P:Program)(tk:TypeId)(R:Value->Option (DataW Value×List MemPlace))(ef:β->DataW Value)(w:World)(b:Nat)(l:List (Int×β)):Prop:=w.ownsMap P tk R b l.length (Cw (Lit.int .i64) ef l)
theorem eY.mod {l:List (Int×β)}(h:eY P tk R ef w b l)(m:ai S w w')(hS:¬ S b):eY P tk R ef w' b l:=vE h m hS
theorem eY.same {l:List (Int×β)}(h:eY P tk R ef w b l)(m:w'.heap[b]?=w.heap[b]?):eY P tk R ef w' b l:=by
 obtain⟨es,clock,hb,F,hs,hD⟩:=h;exact⟨es,clock,m.trans hb,F,hs,hD⟩
theorem eY.lt {l:List (Int×β)}(h:eY P tk R ef w b l):b<w.heap.size:=World.ownsMap.lt h
theorem eY.look {l:List (Int×β)}(h:eY P tk R ef w b l)(E:nM P te R ef mk ok z)(ht:P.underlying tm=some (.map tk te))(hk:P.underlying tk=some (.int .i64))(k:Int)(tP:-9223372036854775808<=k/\k<=9223372036854775807):
  (Instr.lookup tm (.map (some b)) (.int .i64 k) true).run P w=.ok (.tuple #[mk ((bM k l).getD z),.bool (bM k l).isSome]) w:=by
 obtain⟨v,ps,bN,hv⟩:=World.ownsMap.look_ok h (int_keyed hk) ht (E.zero w) (E.mkR z E.zok) (lq hk k tP);rw[rE cN]at bN;rw[mR cN]at hv;rw[bN]
 cases hg:bM k l with
 |none=>rw[hg]at hv;rw[E.inv v ps z hv];rfl
 |some x=>rw[hg]at hv;rw[E.inv v ps x hv];rfl
theorem eY.look1 {l:List (Int×β)}(h:eY P tk R ef w b l)(E:nM P te R ef mk ok z)(ht:P.underlying tm=some (.map tk te))(hk:P.underlying tk=some (.int .i64))(k:Int)(tP:-9223372036854775808<=k/\k<=9223372036854775807):
  (Instr.lookup tm (.map (some b)) (.int .i64 k) false).run P w=.ok (mk ((bM k l).getD z)) w:=by
 obtain⟨v,ps,bN,hv⟩:=World.ownsMap.lookup h (int_keyed hk) ht (E.zero w) (E.mkR z E.zok) (lq hk k tP);rw[mR cN]at hv;rw[bN]
 cases hg:bM k l with
 |none=>rw[hg]at hv;rw[E.inv v ps z hv];rfl
 |some x=>rw[hg]at hv;rw[E.inv v ps x hv];rfl
abbrev jS (a b:Int):Bool:=decide (a<b)
theorem eY.store {l:List (Int×β)}(h:eY P tk R ef w b l)(E:nM P te R ef mk ok z)(ht:P.underlying tm=some (.map tk te))(hk:P.underlying tk=some (.int .i64))(k:Int)(tP:-9223372036854775808<=k/\k<=9223372036854775807)(x:β)(hx:ok x)(hl:l.length<140737488355328):
  ∃ w',(Instr.mapUpdate tm (.map (some b)) (.int .i64 k) (mk x)).run P w=.ok () w'/\eY P tk R ef w' b (ee jS k x l)/\ai (·=b) w w'/\w'.heap.size=w.heap.size:=by
 obtain⟨w',bN,bC,Tx⟩:=World.ownsMap.store h (int_keyed hk) ht (by unfold maxLen;omega) (lq hk k tP) (E.mkR x hx);refine⟨w',bN,?_,iP Tx.grown,tY Tx⟩;have h1:=C3 bC;have e:(Cw (Lit.int .i64) ef l).put (.int .i64 k) (ef x)=Cw (Lit.int .i64) ef (ee jS k x l):=AR cN vH k x l;rw[e,fu]at h1;exact h1
theorem eY.drop {l:List (Int×β)}(h:eY P tk R ef w b l)(ht:P.underlying tm=some (.map tk te))(hk:P.underlying tk=some (.int .i64))(k:Int)(tP:-9223372036854775808<=k/\k<=9223372036854775807)(ty:TypeId):
  ∃ w',(Builtin.delete_ #[tm,tk] ty #[.map (some b),.int .i64 k]).run P w=.ok (.tuple #[]) w'/\eY P tk R ef w' b (iO k l)/\ai (·=b) w w'/\w'.heap.size=w.heap.size:=by
 obtain⟨w',bN,bC,Tx⟩:=World.ownsMap.drop h (int_keyed hk) ht (lq hk k tP) ty;refine⟨w',bN,?_,iP Tx.grown,tY Tx⟩;have h1:=C3 bC;rw[JU cN,fu]at h1;exact h1
theorem eY.clear {l:List (Int×β)}(h:eY P tk R ef w b l)(ht:P.underlying tm=some (.map tk te))(ty:TypeId):
  ∃ w',(Builtin.clear_ #[tm] ty #[.map (some b)]).run P w=.ok (.tuple #[]) w'/\eY P tk R ef w' b []/\ai (·=b) w w'/\w'.heap.size=w.heap.size:=by
 obtain⟨es,clock,hb,F,hs,hD⟩:=h;refine⟨{ w with heap:=w.heap.setIfInBounds b (.map #[] clock) },?_,?_,⟨rfl,rfl,rfl,?_,?_⟩,by simp⟩
 ·simp[Builtin.clear_,run_underlying ht,MapKept.run_getObj_map hb,MapKept.run_setObj_map _ hb,Result.andThen]
 ·exact⟨#[],clock,(MapKept.heap_set hb).1,⟨by simp,MapKept.stamped_empty _,by simp⟩,av9 _,rfl⟩
 ·simp
 ·intro i hi hS;exact(MapKept.heap_set hb).2 i hS
theorem eY.at {l:List (Int×β)}(E:nM P te R ef mk ok z){x:Int}{c:β}{y:DataW Value×List MemPlace}(hv:R (mk c)=some y)(uE:∀ zd,(Cw (Lit.int .i64) ef l).atKey (.int .i64 x) zd=y.1):bM x l=some c:=by
 obtain⟨c',h1,h2⟩:=E.any _ _ hv;have h3:=E.mkinj _ _ h1;subst h3
 cases hg:bM x l with
 |none=>
  have h4:=uE (.held (.pointer none));have h5:=uE (.lit (.bool true));rw[mR cN,hg]at h4 h5;exact absurd (h4.trans h5.symm) sp7
 |some d=>
  have h4:=uE (.held (.pointer none));rw[mR cN,hg,h2]at h4;rw[E.inj _ _ h4]
theorem Lh {l:List (Int×β)}(E:nM P te R ef mk ok z)(hk:P.underlying tk=some (.int .i64)){aF:Array Oper}{rest:List Oper}{o:Oper}{a:Act}{Q:Exit->Act->World->Prop}(hg:o.guard=none)(it:Operand)(hop:o.op=Op.next it false)
  (r:Nat) (left:Lit->Bool) (lZ:Nat) (hit:a.eval it=.pointer (some ⟨r,0,none⟩)) (h:w.ranges P tk R b r l.length (Cw (Lit.int .i64) ef l) left lZ)
  (aeO:lZ=0->(∀ kl,left kl=false)->wpList P aF Q rest (a.put o.dst (.tuple #[.bool false])) w)
  (aeZ:∀(x:Int) (c:β) (w':World) (yg:Nat),(-9223372036854775808<=x/\x<=9223372036854775807)->left (.int .i64 x)=true->bM x l=some c->w'.ranges P tk R b r l.length (Cw (Lit.int .i64) ef l) (λz=>left z&&!z.sameKey (.int .i64 x)) yg->yg<lZ->
   ai (·=r) w w'->w'.heap.size=w.heap.size->(Instr.entry (.pointer (some ⟨r,0,none⟩))).run P w'=.ok (.tuple #[.int .i64 x,mk c]) w'->wpList P aF Q rest (a.put o.dst (.tuple #[.bool true,.int .i64 x,mk c])) w'):
  wpList P aF Q (o::rest) a w:=by
 refine wpList_next_ranges w hg it hop tk (int_keyed hk) R (Value.int .i64) mk (λkey kl h=>by obtain⟨x,rfl,_⟩:=Maps.keyOf_int_inv hk h;exact⟨x,rfl⟩) (λv y h=>by obtain⟨c,hc,_⟩:=E.any v y h;exact⟨c,hc⟩) b r l.length _ left lZ hit h aeO ?_;intro x c kl y w' yg Xf FZ hv uE hrg aP hgr cJ hen;obtain⟨x',hx,rfl,hwf⟩:=Maps.keyOf_int_inv hk Xf;have:x=x':=by simpa using hx
 subst this;refine aeZ x c w' yg ?_ FZ (eY.at E hv uE) hrg aP (iP hgr) cJ hen;have:=hwf;simp[Lit.wf,IntKind.min,IntKind.max,IntKind.signed,IntKind.bits]at this;omega
theorem eY.made (w:World):eY P tk R ef (w.alloc (.map #[] 0)) w.heap.size ([]:List (Int×β)):=World.ownsMap_made w P tk _
end
end
end Go.Proofs.YtkghpdcloaiflaaGreatDoor
section
namespace Go
structure zu where
 objs:Array Obj
 drawn:Nat
instance:Inhabited zu:=⟨⟨#[],0⟩⟩
def World.ext (w:World)(x:zu):World:={ w with heap:=w.heap++x.objs,drawn:=x.drawn }
end Go
namespace Go.Proofs.YtkghpdcloaiflaaGreatDoor
open _root_.Go.Proofs.Tryz
variable {P:Program}{Q:Exit->Act->World->Prop}{a:Act}{id:Nat}{l:List Oper}{w:World}
open Go.RowKit
section
variable {w:World}{x y:zu}
theorem sQ {k:Nat}(h:k<w.heap.size):(w.ext x).heap[k]?=w.heap[k]?:=by
 show(w.heap++x.objs)[k]?=_;rw[Array.getElem?_append_left h]
@[go_sem] theorem ac8:(w.ext x).heap.size=w.heap.size+x.objs.size:=by simp[World.ext]
@[go_sem] theorem ac9 {b:Nat}(h:b<w.heap.size)(i:Nat):(w.ext x).cell? ⟨b,i,none⟩=w.cell? ⟨b,i,none⟩:=World.cell?_of_block (a:=⟨b,i,none⟩) (sQ h)
@[go_sem] theorem Zz {b:Nat}(h:b<w.heap.size)(i:Nat):(w.ext x).frozen? ⟨b,i,none⟩=w.frozen? ⟨b,i,none⟩:=World.frozen?_of_block (a:=⟨b,i,none⟩) (sQ h)
theorem aC (w:World)(x:zu):af w (w.ext x):=⟨rfl,rfl,rfl,by simp[World.ext],λ_ hk _=>sQ hk⟩
theorem gP {w':World}(h:af w w'):∃ x,w'=w.ext x:=by
 refine⟨⟨w'.heap.extract w.heap.size w'.heap.size,w'.drawn⟩,?_⟩;obtain⟨os,tape,output,size,block⟩:=h;have e:w.heap++w'.heap.extract w.heap.size w'.heap.size=w'.heap:=by
  apply Array.ext_getElem?;intro i;by_cases hi:i<w.heap.size
  ·rw[Array.getElem?_append_left hi,block i hi id]
  ·rw[Array.getElem?_append_right J,Array.getElem?_extract];split
   ·rw[show w.heap.size+(i-w.heap.size)=i by omega]
   ·rw[Array.getElem?_eq_none J]
 show w'={ w with heap:=w.heap++_,drawn:=_ };rw[e,<-os,<-tape,<-output]
end
theorem ar {f:FuncId}{args:Array Value}{x:zu}{v:Value}
  (h:Calls P f args (w.ext x) λe w'=>e=.returned v/\af (w.ext x) w'):Calls P f args (w.ext x) λe w''=>e=.returned v/\∃ y,w''=w.ext y:=
 h.mono λ_ _ ⟨he,hk⟩=>⟨he,gP ((aC w x).keep hk)⟩
theorem im (m n:Nat)(hm:P.follows .mixedOrders=true)(hB:Region.lexMidB .any l.toArray m n=true)
  (hQ:∀ c o v a w,Q (.panic c) (Act.put a o v) w->Q (.panic c) a w)
  (h:lL P l.toArray (wpQuiet P l.toArray (λw'=>∃ x,w'=w.ext x) (λa'=>∀ w',(∃ x,w'=w.ext x)->wpList P l.toArray Q (l.drop n) a' w') ((l.take n).drop m)) (l.take m) a):(Code.region id l.toArray true).wp P Q a w:=
 yG m n (λw'=>∃ x,w'=w.ext x) hm hB hQ (gP ((ai.refl _ w).drawn _)) h
theorem rG (n:Nat)(hm:P.follows .mixedOrders=true)(hB:Region.lexTailB .any l.toArray n=true)
  (h:wpQuiet P l.toArray (λw'=>∃ x,w'=w.ext x) (λa'=>∀ w',(∃ x,w'=w.ext x)->wpList P l.toArray Q (l.drop n) a' w') (l.take n) a):(Code.region id l.toArray true).wp P Q a w:=
 mN n (λw'=>∃ x,w'=w.ext x) hm hB (gP ((ai.refl _ w).drawn _)) h
theorem cl (hm:P.follows .mixedOrders=true)(hB:Region.lexB .any l.toArray=true)
  (h:wpQuiet P l.toArray (λw'=>∃ x,w'=w.ext x) (λa'=>∀ w',(∃ x,w'=w.ext x)->Q .normal a' w') l a):(Code.region id l.toArray true).wp P Q a w:=
 wp_region_quiet (C:=λw'=>∃ x,w'=w.ext x) hm hB (gP ((ai.refl _ w).drawn _)) (by simpa using h)
end Go.Proofs.YtkghpdcloaiflaaGreatDoor
end
namespace Go.Proofs.YtkghpdcloaiflaaGreatDoor
open _root_.Go.Proofs.Tryz
def jN (c:UInt8):List UInt8->List (List UInt8)
 |[]=>[[]]
 |b::l=>if b=c then []::jN c l else match jN c l with
  |[]=>[[b]]
  |x::r=>(b::x)::r
theorem vI (c:UInt8)(l:List UInt8):jN c l≠[]:=by
 cases l with
 |nil=>simp[jN]
 |cons b l=>
  unfold jN;split
  ·simp
  ·split<;>simp
theorem vJ (c b:UInt8)(l:List UInt8)(h:b≠c):jN c (b::l)=match jN c l with|[]=>[[b]]|x::r=>(b::x)::r:=by rw[jN,awf h]
theorem GB (c:UInt8)(l:List UInt8):Lib.splitK [c] 0 (Lib.count l [c]) l=jN c l:=by
 induction l with
 |nil=>rw[Lib.count_one];rfl
 |cons b l ih=>
  unfold jN;by_cases h:b=c
  ·subst h;have OZ:Lib.index (b::l) [b]=((0:Nat):Int):=by rw[Lib.index];simp[List.isPrefixOf]
   rw[awd rfl,Lib.count_cons_eq,Nat.add_comm,Lib.splitK,OZ,<-ih];simp
  ·rw[awf h,Lib.count_cons_ne b c l h];have hp:([c]:List UInt8).isPrefixOf (b::l)=false:=by simp[List.isPrefixOf,Ne.symm h]
   have OZ:Lib.index (b::l) [c]=if Lib.index l [c]==-1 then -1 else Lib.index l [c]+1:=by rw[Lib.index,hp];simp
   by_cases hm:Lib.index l [c] = -1
   ·have h0:Lib.count l [c]=0:=Lib.count_miss hm;rw[h0]at ih ⊢;rw[<-ih];rfl
   ·have hge:=Lib.index_ge l [c];obtain⟨j,hj⟩:∃ j:Nat,Lib.index l [c]=j:=⟨(Lib.index l [c]).toNat,J⟩
    have hk:=Lib.count_hit sp7 hj;rw[hk,Nat.add_comm]at ih ⊢;have FS:(Lib.index l [c]==-1)=false:=by rw[awO];exact hm
    have Fy:(Lib.index (b::l) [c]==-1)=false:=by rw[awO,OZ,FS];simp;omega
    rw[Lib.splitK,FS,hj]at ih;rw[Lib.splitK,Fy,OZ,FS,hj,<-ih];have e1:((j:Int)+1).toNat=j+1:=J
    simp[e1]
theorem vK (c:UInt8)(l:List UInt8):(Lib.splitB ⟨#[c]⟩ 0 (Lib.countB ⟨l.toArray⟩ ⟨#[c]⟩) ⟨l.toArray⟩)=(jN c l).map (λx=>⟨x.toArray⟩):=by
 have h:=Lib.splitB_data ⟨#[c]⟩ 0 (Lib.countB ⟨l.toArray⟩ ⟨#[c]⟩) ⟨l.toArray⟩;have e:Lib.splitK [c] 0 (Lib.countB ⟨l.toArray⟩ ⟨#[c]⟩) l=jN c l:=GB c l;have h':(Lib.splitB ⟨#[c]⟩ 0 (Lib.countB ⟨l.toArray⟩ ⟨#[c]⟩) ⟨l.toArray⟩).map (·.data.toList)=jN c l:=h.trans e;rw[<-h',awv];have:((λx:List UInt8=>(⟨x.toArray⟩:ByteArray))∘λs:ByteArray=>s.data.toList)=id:=by
  funext s;cases s;rfl
 rw[this,List.map_id]
theorem GC (c:UInt8)(l:List UInt8):Lib.countB ⟨l.toArray⟩ ⟨#[c]⟩+1=(jN c l).length:=by
 have h:=Lib.splitB_all ⟨#[c]⟩ (av9 1) 0 _ ⟨l.toArray⟩ rfl;rw[<-h,vK,awz]
theorem UV (c:UInt8)(l:List UInt8):(jN c l).length=l.count c+1:=by
 induction l with
 |nil=>rfl
 |cons b l ih=>
  unfold jN;by_cases h:b=c
  ·subst h;rw[awd rfl,av5,ih,List.count_cons_self]
  ·rw[awf h,List.count_cons_of_ne (by simpa using h),<-ih]
   cases hs:jN c l with
   |nil=>exact absurd hs (vI c l)
   |cons x r=>simp
theorem vL (c:UInt8)(l:List UInt8):[c].intercalate (jN c l)=l:=by
 induction l with
 |nil=>simp[jN,List.intercalate]
 |cons b l ih=>
  unfold jN;by_cases h:b=c
  ·subst h;rw[awd rfl]
   cases hs:jN b l with
   |nil=>exact absurd hs (vI b l)
   |cons x r=>rw[hs]at ih;simp[List.intercalate]at ih ⊢;exact ih
  ·rw[awf h]
   cases hs:jN c l with
   |nil=>exact absurd hs (vI c l)
   |cons x r=>
    rw[hs]at ih
    cases r with
    |nil=>simp[List.intercalate]at ih ⊢;exact ih
    |cons y r=>simp[List.intercalate]at ih ⊢;exact ih
theorem Li (c:UInt8)(l:List UInt8):∀ i,((jN c l).getD i []).length<=l.length:=by
 induction l with
 |nil=>intro i;cases i<;>simp[jN]
 |cons b l ih=>
  intro i;by_cases h:b=c
  ·rw[jN,awd h]
   cases i with
   |zero=>simp
   |succ i=>have:=ih i;simp at this ⊢;omega
  ·rw[vJ c b l h]
   cases hs:jN c l with
   |nil=>cases i<;>simp
   |cons x r=>
    rw[hs]at ih
    cases i with
    |zero=>have:=ih 0;simp at this ⊢;omega
    |succ i=>have:=ih (i+1);simp at this ⊢;omega
theorem UW (c:UInt8)(l:List UInt8)(h:c∉l):jN c l=[l]:=by
 induction l with
 |nil=>rfl
 |cons b l ih=>
  unfold jN;rw[awf (by intro e;subst e;simp at h),ih (by intro e;exact h (by simp[e]))]
theorem Pk (c:UInt8)(x l:List UInt8)(h:c∉x):jN c (x++c::l)=x::jN c l:=by
 induction x with
 |nil=>simp[jN]
 |cons b x ih=>
  rw[awK,vJ c b _ (by intro e;subst e;simp at h),ih (by intro e;exact h (by simp[e]))]
theorem C5 (c:UInt8)(xs:List (List UInt8))(eG:xs≠[])(h:∀ x∈xs,c∉x):jN c ([c].intercalate xs)=xs:=by
 induction xs with
 |nil=>exact absurd rfl eG
 |cons x xs ih=>
  cases xs with
  |nil=>simp only[List.intercalate,List.intersperse,List.flatten_cons,List.flatten_nil,List.append_nil];exact UW c x (h x sp7)
  |cons y ys=>
   have e:[c].intercalate (x::y::ys)=x++c::[c].intercalate (y::ys):=by simp[List.intercalate]
   rw[e,Pk c x _ (h x sp7),ih sp7 (λz hz=>h z (by simp[hz]))]
end Go.Proofs.YtkghpdcloaiflaaGreatDoor
