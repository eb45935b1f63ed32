import Derived.Test.YtkghpdcloaiflaaGreatDoorC09
namespace Go.Proofs.YtkghpdcloaiflaaGreatDoor
open _root_.Go.Proofs.Tryz
section
section
open Go.RowKit
abbrev Nm:=List (List UInt8×Int)
abbrev fN (s:List UInt8)(l:Nm):Nm:=fZ s l
abbrev l5 (s:List UInt8)(k:Int)(l:Nm):Nm:=ee bytesBefore s k l
abbrev jD (s:List UInt8)(l:Nm):Option Int:=bD s l
structure Nd where
 num:Int
 dir:Bool
 links:Int
 data:List UInt8
 names:Nm
abbrev Tr:=List Nd
def Tr.get (T:Tr)(k:Int):Option Nd:=T.find? fun n=>n.num==k
def Tr.upd (T:Tr)(k:Int)(f:Nd->Nd):Tr:=T.map fun x=>if x.num==k then f x else x
def Tr.add (n:Nd):Tr->Tr
 |[]=>[n]
 |y::r=>if n.num<y.num then n::y::r else y::Tr.add n r
def Tr.drop (T:Tr)(k:Int):Tr:=T.filter fun n=>!(n.num==k)
def Tr.new:Tr:=[⟨1,true,1,[],[]⟩]
def aW (T:Tr):Int->List (List UInt8)->Except Int Int
 |k,[]=>.ok k
 |k,s::r=>match T.get k with
  |none=>.error 141
  |some n=>if n.dir=true then(match jD s n.names with|none=>.error 141|some j=>aW T j r)else .error 143
def zk (T:Tr)(path:List UInt8):Except Int Int:=match bd path with
 |none=>.error 140
 |some l=>aW T 1 l
def gp (T:Tr)(path:List UInt8):Except Int (Int×List UInt8):=
 let l:=(bd path).getD []
 if l=[]then .error 142 else match aW T 1 l.dropLast with
  | .error e=>.error e
  | .ok k=>match T.get k with
   |none=>.error 141
   |some up=>if up.dir=false then .error 143 else if(jD (l.getLastD []) up.names).isSome=true then .error 142 else if 60<=up.names.length then .error 145 else .ok (k,l.getLastD [])
def dW (T:Tr):Nat->Int->Int
 |0,k=>k
 |f+1,k=>if(T.get k).isSome=true then dW T f (k+1)else k
def Tr.named (T:Tr)(k:Int)(f:Nm->Nm):Tr:=T.upd k fun n=>{ n with names:=f n.names }
def ga (T:Tr)(c:bT):Tr×Int:=match gp T c.path with
 | .error e=>(T,e)
 | .ok (k,s)=>if 60<=T.length then(T,145)else
  let num:=dW T T.length 2
  ((Tr.add ⟨num,c.kind==1,1,[],[]⟩ T).named k (l5 s num),0)
def oc (c:bT)(d:List UInt8):List UInt8:=
 let s:=d.take c.pos.toNat++c.data
 if c.kind=2/\s.length<d.length then s++d.drop s.length else s
def dL (T:Tr)(c:bT):Tr×Int:=match zk T c.path with
 | .error e=>(T,e)
 | .ok k=>match T.get k with
  |none=>(T,141)
  |some n=>if n.dir=true then(T,143)else if(n.data.length:Int)<c.pos\/c.kind=2/\16384<c.pos+c.data.length then(T,145)else
   (T.upd k fun n=>{ n with data:=oc c n.data },0)
def iU (T:Tr)(c:bT):Tr×Int:=match zk T c.path with
 | .error e=>(T,e)
 | .ok j=>match T.get j with
  |none=>(T,141)
  |some n=>if n.dir=true then(T,143)else match gp T c.dest with
   | .error e=>(T,e)
   | .ok (k,s)=>((T.named k (l5 s j)).upd j fun n=>{ n with links:=n.links+1 },0)
def fC (T:Tr):Nat->Int->Nat
 |0,_=>0
 |f+1,k=>match T.get k with
  |none=>0
  |some n=>n.names.foldl (fun m p=>max m (1+fC T f p.2)) 0
def cd (T:Tr)(c:bT):Tr×Int:=if c.path=[47]then(T,144)else match zk T c.path with
 | .error e=>(T,e)
 | .ok j=>if Lib.hasPrefix c.dest (c.path++[47])=true then(T,144)else match gp T c.dest with
  | .error e=>(T,e)
  | .ok (k,s)=>if 8<((bd c.dest).getD []).length+fC T 9 j then(T,145)else
   let l:=(bd c.path).getD []
   match aW T 1 l.dropLast with
   | .error e=>(T,e)
   | .ok o=>((T.named o (fN (l.getLastD []))).named k (l5 s j),0)
def dF (T:Tr)(c:bT):Tr×Int:=if c.path=[47]then(T,144)else match zk T c.path with
 | .error e=>(T,e)
 | .ok j=>match T.get j with
  |none=>(T,141)
  |some n=>if n.names≠[]then(T,144)else
   let l:=(bd c.path).getD []
   match aW T 1 l.dropLast with
   | .error e=>(T,e)
   | .ok o=>
    let T':=T.named o (fN (l.getLastD []))
    (if n.links=1 then T'.drop j else T'.upd j fun n=>{ n with links:=n.links-1 },0)
def qy (T:Tr)(c:bT):Tr×Int:=if c.ok=false then(T,1)else
 if c.kind=0\/c.kind=1 then ga T c else if c.kind=2\/c.kind=3 then dL T c else if c.kind=4 then iU T c else if c.kind=5 then cd T c else if c.kind=6 then dF T c else(T,1)
def aO (n:Nat):List UInt8:=if h:n<128 then [UInt8.ofNat n]else UInt8.ofNat (n%128+128)::aO (n/128)
 termination_by n
 decreasing_by omega
def lK (p:List UInt8×Int):List UInt8:=aO p.1.length++p.1++aO p.2.toNat
def l6 (l:Nm):List UInt8:=aO l.length++l.flatMap lK
def vL (was:Option (List UInt8))(p:List UInt8×Int):Bool:=aH p.1&&(match was with|none=>true|some s=>bytesBefore s p.1)&&decide (1<=p.2)&&decide (p.2<=65535)
def fT:Option (List UInt8)->Nm->Bool
 |_,[]=>true
 |was,p::r=>vL was p&&fT (some p.1) r
def oI (l:Nm):Bool:=decide (l.length<=4096)&&fT none l
structure Nt where
 num:Int
 dir:Bool
 links:Int
 data:List UInt8
deriving DecidableEq
def Nd.told (n:Nd):Nt:=⟨n.num,n.dir,n.links,if n.dir=true then l6 n.names else n.data⟩
def ar (T:Tr):List Nt:=T.map Nd.told
end
section
open Go.RowKit
section
variable {T:Tr}
abbrev dd (T:Tr):Prop:=T.Pairwise fun a b=>a.num<b.num
theorem ax (hs:dd T){k:Int}{n:Nd}:T.get k=some n↔n∈T/\n.num=k:=by
 unfold Tr.get
 induction T with
 |nil=>simp
 |cons y r ih=>
  obtain⟨h1,h2⟩:=auQ.1 hs;rw[List.find?_cons];by_cases h:y.num=k
  ·rw[auq.2 h]
   constructor
   ·intro e;obtain rfl:=auR e;exact⟨by simp,h⟩
   ·rintro⟨hm,hk⟩;rcases at9.1 hm with rfl|hm
    ·rfl
    ·have:=h1 n hm;omega
  ·rw[au2 h];show List.find? _ r=some n↔_;rw[ih h2]
   constructor
   ·rintro⟨hm,hk⟩;exact⟨by simp[hm],hk⟩
   ·rintro⟨hm,hk⟩;rcases at9.1 hm with rfl|hm
    ·exact absurd hk h
    ·exact⟨hm,hk⟩
theorem jq {k:Int}:T.get k=none↔∀ n∈T,n.num≠k:=by
 unfold Tr.get;rw[auL];simp
theorem lL (hs:dd T){a b:Nd}(ha:a∈T)(hb:b∈T)(h:a.num=b.num):a=b:=
 auR (((ax hs).2 ⟨ha,h⟩).symm.trans ((ax hs).2 ⟨hb,rfl⟩))
theorem oJ {k:Int}{f:Nd->Nd}(hf:∀ n,(f n).num=n.num):(T.upd k f).map (·.num)=T.map (·.num):=by
 unfold Tr.upd;rw[auc];refine aud fun n _=>?_;show(if n.num==k then f n else n).num=n.num;split
 ·exact hf n
 ·rfl
theorem qz {T:Tr}:dd T↔(T.map (·.num)).Pairwise (·<·):=by rw[List.pairwise_map]
theorem iV {k:Int}{f:Nd->Nd}(hf:∀ n,(f n).num=n.num)(hs:dd T):dd (T.upd k f):=by
 rw[qz,oJ hf];exact qz.1 hs
theorem Jp {k:Int}{f:Nd->Nd}:(T.upd k f).length=T.length:=by simp[Tr.upd]
theorem uI {k:Int}{f:Nd->Nd}{m:Nd}:m∈T.upd k f↔∃ n∈T,(if n.num==k then f n else n)=m:=by simp[Tr.upd]
theorem TC {k j:Int}{f:Nd->Nd}(hf:∀ n,(f n).num=n.num):(T.upd k f).get j=if j=k then(T.get j).map f else T.get j:=by
 unfold Tr.get Tr.upd
 induction T with
 |nil=>simp
 |cons y r ih=>
  rw[atF,List.find?_cons,List.find?_cons];by_cases hy:y.num=k
  ·rw[auq.2 hy];simp only[if_true,hf];by_cases hj:y.num=j
   ·rw[auq.2 hj,atP (by omega)];rfl
   ·rw[au2 hj];exact ih
  ·rw[au2 hy];simp only[Bool.false_eq_true,if_false];by_cases hj:y.num=j
   ·rw[auq.2 hj,atR (by omega)]
   ·rw[au2 hj];exact ih
theorem df {n m:Nd}:m∈Tr.add n T↔m=n\/m∈T:=by
 induction T with
 |nil=>simp[Tr.add]
 |cons y r ih=>
  unfold Tr.add;split
  ·simp
  ·simp[ih];constructor
   ·rintro(h|h|h)<;>simp[h]
   ·rintro(h|h|h)<;>simp[h]
theorem kH {n:Nd}(hs:dd T)(hn:∀ m∈T,m.num≠n.num):dd (Tr.add n T):=by
 induction T with
 |nil=>simp[Tr.add]
 |cons y r ih=>
  obtain⟨h1,h2⟩:=auQ.1 hs;unfold Tr.add;split
  ·rename_i h
   refine auQ.2 ⟨fun m hm=>?_,hs⟩;rcases at9.1 hm with rfl|hm
   ·exact h
   ·have:=h1 m hm;omega
  ·rename_i h
   have:=hn y (by simp);refine auQ.2 ⟨fun m hm=>?_,ih h2 fun m hm=>hn m (by simp[hm])⟩;rcases df.1 hm with rfl|hm
   ·omega
   ·exact h1 m hm
theorem TD {n:Nd}:(Tr.add n T).length=T.length+1:=by
 induction T with
 |nil=>rfl
 |cons y r ih=>
  unfold Tr.add;split
  ·simp
  ·simp[ih]
theorem uJ {n:Nd}(hs:dd T)(hn:∀ m∈T,m.num≠n.num)(k:Int):(Tr.add n T).get k=if k=n.num then some n else T.get k:=by
 by_cases h:k=n.num
 ·subst h;rw[atP rfl];exact(ax (kH hs hn)).2 ⟨df.2 (.inl rfl),rfl⟩
 ·rw[atR h]
  cases hg:T.get k with
  |none=>
   rw[jq]at hg ⊢;intro m hm;rcases df.1 hm with rfl|hm
   ·exact fun e=>h e.symm
   ·exact hg m hm
  |some m=>
   obtain⟨hm,hk⟩:=(ax hs).1 hg;exact(ax (kH hs hn)).2 ⟨df.2 (.inr hm),hk⟩
theorem cQ {k:Int}{m:Nd}:m∈T.drop k↔m∈T/\m.num≠k:=by simp[Tr.drop]
theorem CQ {k:Int}(hs:dd T):dd (T.drop k):=hs.filter _
def gq (l:Nm)(j:Int):Nat:=l.countP fun p=>p.2==j
def jS (T:Tr)(j:Int):Nat:=(T.map fun n=>gq n.names j).sum
theorem Jq {k:Int}{f:Nd->Nd}(hs:dd T){n:Nd}(hn:n∈T)(hk:n.num=k)(j:Int):jS (T.upd k f) j+gq n.names j=jS T j+gq (f n).names j:=by
 unfold jS Tr.upd;rw[auc]
 induction T with
 |nil=>cases hn
 |cons y r ih=>
  obtain⟨h1,h2⟩:=auQ.1 hs;simp only[atF,atG,Function.comp];rcases at9.1 hn with rfl|hm
  ·have e2:(r.map ((fun n=>gq n.names j)∘fun x=>if(x.num==k)=true then f x else x))=r.map fun n=>gq n.names j:=by
    refine aud fun m hm=>?_;have:=h1 m hm;simp only[Function.comp];rw[atR (by simp;omega)]
   have e3:(if(n.num==k)=true then f n else n)=f n:=atP (auq.2 hk);rw[e3];have e4:=auZ List.sum e2;simp only[Function.comp_def]at e4 ⊢;omega
  ·have:=h1 n hm;have e3:(if(y.num==k)=true then f y else y)=y:=atR (by simp;omega);rw[e3];have:=ih h2 hm;simp only[Function.comp_def]at this ⊢;omega
theorem TE {n:Nd}(j:Int):jS (Tr.add n T) j=gq n.names j+jS T j:=by
 induction T with
 |nil=>simp[jS,Tr.add]
 |cons y r ih=>
  unfold Tr.add;split
  ·simp[jS]
  ·unfold jS at*;simp only[atF,atG];rw[ih];omega
theorem vM {n:Nd}(hs:dd T)(hn:n∈T)(j:Int):jS (T.drop n.num) j+gq n.names j=jS T j:=by
 unfold jS Tr.drop
 induction T with
 |nil=>cases hn
 |cons y r ih=>
  obtain⟨h1,h2⟩:=auQ.1 hs;rw[auY];rcases at9.1 hn with rfl|hm
  ·rw[auq.2 rfl];have e:r.filter (fun m=>!(m.num==n.num))=r:=List.filter_eq_self.2 fun m hm=>by
    have:=h1 m hm;rw[au2 (by omega)];rfl
   simp only[Bool.not_true,Bool.false_eq_true,if_false];rw[e];simp only[atF,atG];omega
  ·have:=h1 n hm;rw[au2 (by omega)];simp only[Bool.not_false,if_true,atF,atG];have:=ih h2 hm;omega
end
section
variable {l:Nm}
abbrev eU (l:Nm):Prop:=l.Pairwise fun a b=>bytesBefore a.1 b.1=true
theorem CR {x p:List UInt8×Int}:p∈jB bytesBefore x l↔p=x\/p∈l:=by
 induction l with
 |nil=>simp[jB]
 |cons y r ih=>
  unfold jB;split
  ·simp
  ·simp[ih];constructor
   ·rintro(h|h|h)<;>simp[h]
   ·rintro(h|h|h)<;>simp[h]
theorem kI {s:List UInt8}{p:List UInt8×Int}:p∈fZ s l↔p∈l/\p.1≠s:=by simp[fZ]
theorem O3 {s:List UInt8}{k:Int}{p:List UInt8×Int}:p∈ee bytesBefore s k l↔p=(s,k)\/(p∈l/\p.1≠s):=by
 unfold ee;rw[CR,kI]
theorem CT {x:List UInt8×Int}(hs:eU l)(hx:∀ p∈l,p.1≠x.1):eU (jB bytesBefore x l):=by
 induction l with
 |nil=>simp[jB]
 |cons y r ih=>
  obtain⟨h1,h2⟩:=auQ.1 hs;unfold jB;split
  ·rename_i h
   refine auQ.2 ⟨fun m hm=>?_,hs⟩;rcases at9.1 hm with rfl|hm
   ·exact h
   ·exact WideShapes.bytes_trans _ _ _ h (h1 m hm)
  ·rename_i h
   have hy:=hx y (by simp);refine auQ.2 ⟨fun m hm=>?_,ih h2 fun m hm=>hx m (by simp[hm])⟩;rcases CR.1 hm with rfl|hm
   ·rcases WideAt.bytes_total _ _ hy with h'|h'
    ·exact h'
    ·exact absurd h' h
   ·exact h1 m hm
theorem oK {s:List UInt8}(hs:eU l):eU (fZ s l):=hs.filter _
theorem CU {s:List UInt8}{k:Int}(hs:eU l):eU (ee bytesBefore s k l):=
 CT (oK hs) fun _ hp=>(kI.1 hp).2
theorem vN (hs:eU l){a b:List UInt8×Int}(ha:a∈l)(hb:b∈l)(h:a.1=b.1):a=b:=by
 induction l with
 |nil=>cases ha
 |cons y r ih=>
  obtain⟨h1,h2⟩:=auQ.1 hs;have irr:∀ m∈r,y.1≠m.1:=fun m hm e=>by
   have:=h1 m hm;rw[e,WideAt.bytes_irrefl]at this;cases this
  rcases at9.1 ha with e1|ha1<;>rcases at9.1 hb with e2|hb1
  ·rw[e1,e2]
  ·exact absurd (e1▸h) (irr b hb1)
  ·exact absurd (e2▸h.symm) (irr a ha1)
  ·exact ih h2 ha1 hb1
theorem cq (hs:eU l){s:List UInt8}{k:Int}:bD s l=some k↔(s,k)∈l:=by
 unfold bD
 constructor
 ·intro h;obtain⟨p,hp,rfl⟩:=auX.1 h;have h1:=auI hp;have h2:=auJ hp;rw[<-auq.1 h1];exact h2
 ·intro h
  cases hf:l.find? fun p=>p.1==s with
  |none=>exact absurd (auL.1 hf _ h) (by simp)
  |some p=>
   have h1:=auI hf;have h2:=auJ hf;have:=vN hs h2 h (auq.1 h1);subst this;rfl
theorem mr {s:List UInt8}:bD s l=none↔∀ p∈l,p.1≠s:=by
 unfold bD;rw[Option.map_eq_none_iff,auL];simp
theorem zl {s:List UInt8}(h:bD s l=none):fZ s l=l:=by
 rw[mr]at h;exact List.filter_eq_self.2 fun p hp=>by rw[au2 (h p hp)];rfl
theorem O4 {s:List UInt8}{k:Int}:(ee bytesBefore s k l).length=(fZ s l).length+1:=Cq _ _
theorem KR {x:List UInt8×Int}(j:Int):gq (jB bytesBefore x l) j=gq l j+(if x.2=j then 1 else 0):=by
 unfold gq
 induction l with
 |nil=>simp[jB,List.countP_cons]
 |cons y r ih=>
  unfold jB;split
  ·rw[List.countP_cons];simp
  ·rw[List.countP_cons,List.countP_cons,ih];omega
theorem O5 {s:List UInt8}{k:Int}(h:bD s l=none)(j:Int):gq (ee bytesBefore s k l) j=gq l j+(if k=j then 1 else 0):=by
 unfold ee;rw[zl h,KR]
theorem CV (hs:eU l){s:List UInt8}{k:Int}(h:bD s l=some k)(j:Int):gq (fZ s l) j+(if k=j then 1 else 0)=gq l j:=by
 have hm:=(cq hs).1 h;unfold gq fZ;clear h
 induction l with
 |nil=>cases hm
 |cons y r ih=>
  obtain⟨h1,h2⟩:=auQ.1 hs;rw[auY,List.countP_cons];rcases at9.1 hm with rfl|hm
  ·have e:r.filter (fun p=>!(p.1==s))=r:=List.filter_eq_self.2 fun p hp=>by
    have:=h1 p hp;rw[au2 (fun e=>by rw[e,WideAt.bytes_irrefl]at this;cases this)];rfl
   simp only[beq_self_eq_true,Bool.not_true,Bool.false_eq_true,if_false];rw[e];simp
  ·have h3:=h1 _ hm;rw[au2 (fun e=>by rw[e,WideAt.bytes_irrefl]at h3;cases h3)];simp only[Bool.not_false,if_true];rw[List.countP_cons];have:=ih h2 hm;omega
end
structure mR (T:Tr)(d:Int->Nat)(off:Int->Int):Prop where
 sorted:dd T
 nums:∀ n∈T,1<=n.num/\n.num<=65535
 root:∃ r∈T,r.num=1/\r.dir=true/\r.links=1
 many:T.length<=60
 file:∀ n∈T,n.dir=false->n.names=[]/\n.data.length<=16384
 dirs:∀ n∈T,n.dir=true->n.data=[]
 snames:∀ n∈T,eU n.names
 names:∀ n∈T,n.names.length<=60/\∀ p∈n.names,aH p.1=true
 closed:∀ n∈T,∀ p∈n.names,p.2≠1/\∃ m∈T,m.num=p.2
 count:∀ n∈T,n.num≠1->(jS T n.num:Int)+off n.num=n.links/\1<=n.links/\(n.dir=true->n.links=1)
 droot:d 1=0
 deep:∀ n∈T,n.names≠[]->d n.num<=7
 depth:∀ n∈T,∀ p∈n.names,∀ m∈T,m.num=p.2->m.dir=true->d p.2=d n.num+1
abbrev WF (T:Tr)(d:Int->Nat):Prop:=mR T d (fun _=>0)
section
variable {T:Tr}{d:Int->Nat}{off:Int->Int}
theorem Gb:WF Tr.new (fun _=>0) where
 sorted:=by simp[Tr.new]
 nums:=by simp[Tr.new]
 root:=⟨_,by simp[Tr.new];rfl,rfl,rfl,rfl⟩
 many:=by simp[Tr.new]
 file:=by simp[Tr.new]
 dirs:=by simp[Tr.new]
 snames:=by simp[Tr.new]
 names:=by simp[Tr.new]
 closed:=by simp[Tr.new]
 count:=by simp[Tr.new]
 droot:=rfl
 deep:=by simp
 depth:=by simp[Tr.new]
theorem mR.get1 (h:mR T d off):∃ r,T.get 1=some r/\r.dir=true:=by
 obtain⟨r,hr,h1,h2,_⟩:=h.root;exact⟨r,(ax h.sorted).2 ⟨hr,h1⟩,h2⟩
theorem uK (h:mR T d off):∀(l:List (List UInt8)) (j k:Int),(∃ n∈T,n.num=j)->aW T j l=.ok k->(∃ n∈T,n.num=k)/\(∀ n,T.get j=some n->n.dir=true->∀ m,T.get k=some m->m.dir=true->d k=d j+l.length):=by
 intro l
 induction l with
 |nil=>
  intro j k hj hf;have e:j=k:=by simpa[aW]using hf
  subst e;exact⟨hj,fun _ _ _ _ _ _=>by simp⟩
 |cons s r ih=>
  intro j k hj hf;unfold aW at hf;split at hf
  ·cases hf
  ·rename_i n hn
   split at hf
   ·rename_i hd
    split at hf
    ·cases hf
    ·rename_i i hi
     obtain⟨hm,hk⟩:=(ax h.sorted).1 hn;have hp:=(cq (h.snames n hm)).1 hi;obtain⟨dZ,m,hmT,Ff⟩:=h.closed n hm _ hp;obtain⟨h1,h2⟩:=ih i k ⟨m,hmT,Ff⟩ hf;refine⟨h1,fun n' UZ hd' x hx mT=>?_⟩;have hgm:=(ax h.sorted).2 ⟨hmT,Ff⟩;by_cases nY:m.dir=true
     ·have:=h2 m hgm nY x hx mT;have e:=h.depth n hm _ hp m hmT Ff nY;rw[<-hk];simp only[atH];simp only at e;omega
     ·
      cases r with
      |nil=>
       have e:i=k:=by simpa[aW]using hf
       subst e;rw[hgm]at hx;obtain rfl:=auR hx;exact absurd mT nY
      |cons s2 r2=>
       unfold aW at hf;rw[hgm]at hf;simp[nY]at hf
   ·cases hf
theorem kc (k:Int)(s:List UInt8)(r:List (List UInt8)):aW T k (s::r)=match T.get k with
  |none=>.error 141
  |some n=>if n.dir=true then(match jD s n.names with|none=>.error 141|some j=>aW T j r)else .error 143:=rfl
theorem tQ (p q:List (List UInt8)):∀ j,aW T j (p++q)=match aW T j p with | .ok y=>aW T y q | .error e=>.error e:=by
 induction p with
 |nil=>intro j;rfl
 |cons s r ih=>
  intro j;rw[aur,kc,kc]
  cases T.get j with
  |none=>rfl
  |some n=>
   by_cases hd:n.dir=true
   ·simp only[hd,if_true]
    cases hn:jD s n.names with
    |none=>rfl
    |some i=>exact ih i
   ·simp only[hd];rfl
theorem gV {j x:Int}{p:List (List UInt8)}{s:List UInt8}:aW T j (p++[s])=.ok x↔∃ y n,aW T j p=.ok y/\T.get y=some n/\n.dir=true/\jD s n.names=some x:=by
 rw[tQ]
 cases hp:aW T j p with
 |error e=>simp
 |ok y=>
  simp only[aW]
  cases hg:T.get y with
  |none=>simp[hg]
  |some n=>
   by_cases hd:n.dir=true
   ·simp only[hd,if_true]
    cases hn:jD s n.names with
    |none=>simp[hg,hn]
    |some i=>simp[hg,hn,hd]
   ·simp only[hd];simp[hg,hd]
theorem CW (h:mR T d off){k:Int}(hk:∀ m∈T,m.num≠k){n:Nd}(hn:n∈T){p:List UInt8×Int}(hp:p∈n.names):p.2≠k:=by
 obtain⟨_,m,hm,e⟩:=h.closed n hn p hp;exact fun e2=>hk m hm (e.trans e2)
theorem O6 {j:Int}(h:∀ n∈T,∀ p∈n.names,p.2≠j):jS T j=0:=by
 unfold jS;rw[List.sum_eq_zero_iff_forall_eq_nat];intro x hx;obtain⟨n,hn,rfl⟩:=aui.1 hx;unfold gq;rw[List.countP_eq_zero];intro p hp e;exact h n hn p hp (auq.1 e)
theorem AF {j:Int}{n:Nd}(hn:n∈T){p:List UInt8×Int}(hp:p∈n.names)(e:p.2=j):1<=jS T j:=by
 rcases Nat.eq_zero_or_pos (jS T j)with h|h
 ·unfold jS at h;rw[List.sum_eq_zero_iff_forall_eq_nat]at h;have:=h _ (aui.2 ⟨n,hn,rfl⟩);unfold gq at this;rw[List.countP_eq_zero]at this;exact absurd (auq.2 e) (this p hp)
 ·exact h
theorem CX (h:mR T d off){k:Int}{up:Nd}{f:Nm->Nm}{BJ:Int->Int}(hk:T.get k=some up)(hd:up.dir=true)(Hs:eU (f up.names))(Hl:(f up.names).length<=60)
  (Hp:∀ p∈f up.names,p∈up.names\/(aH p.1=true/\p.2≠1/\∃ nj,T.get p.2=some nj/\(nj.dir=true->d p.2=d k+1))) (H7:f up.names≠[]->d k<=7)
  (Hc:∀ x,(gq (f up.names) x:Int)+BJ x=gq up.names x+off x):mR (T.named k f) d BJ:=by
 obtain⟨uU,qX⟩:=(ax h.sorted).1 hk;have hf:∀ n:Nd,({ n with names:=f n.names }:Nd).num=n.num:=fun _=>rfl;have hex:∀ x,(∃ m∈T.named k f,m.num=x)↔∃ m∈T,m.num=x:=fun x=>by
  have e:=oJ (T:=T) (k:=k) hf;have:x∈(T.named k f).map (·.num)↔x∈T.map (·.num):=by unfold Tr.named;rw[e]
  simpa using this
 have eR:∀ m∈T.named k f,∃ n∈T,n.num=m.num/\n.dir=m.dir/\n.links=m.links/\n.data=m.data/\((n.num≠k/\m.names=n.names)\/(n=up/\m.names=f up.names)):=by
  intro m hm;obtain⟨n,hn,rfl⟩:=uI.1 hm;refine⟨n,hn,?_⟩;by_cases e:n.num=k
  ·rw[atP (auq.2 e)];have e2:=lL h.sorted hn uU (by omega);exact⟨rfl,rfl,rfl,rfl,.inr ⟨e2,by rw[<-e2]⟩⟩
  ·rw[atR (by simpa using e)];exact⟨rfl,rfl,rfl,rfl,.inl ⟨e,rfl⟩⟩
 refine⟨iV hf h.sorted,?_,?_,by unfold Tr.named;rw[Jp];exact h.many,?_,?_,?_,?_,?_,?_,h.droot,?_,?_⟩
 ·intro m hm;obtain⟨n,hn,e,_⟩:=eR m hm;rw[<-e];exact h.nums n hn
 ·obtain⟨r,hr,h1,h2,h3⟩:=h.root;obtain⟨m,hm,e⟩:=(hex 1).2 ⟨r,hr,h1⟩;obtain⟨n,hn,e1,e2,e3,_⟩:=eR m hm;have e6:=lL h.sorted hn hr (by omega);exact⟨m,hm,e,by rw[<-e2,e6];exact h2,by rw[<-e3,e6];exact h3⟩
 ·intro m hm nY;obtain⟨n,hn,e1,e2,e3,e4,e5⟩:=eR m hm;rw[<-e2]at nY;rw[<-e4];have:=h.file n hn nY;rcases e5 with⟨_,e5⟩|⟨e6,_⟩
  ·rw[e5];exact this
  ·rw[e6,hd]at nY;cases nY
 ·intro m hm nY;obtain⟨n,hn,e1,e2,e3,e4,e5⟩:=eR m hm;rw[<-e4];exact h.dirs n hn (e2.trans nY)
 ·intro m hm;obtain⟨n,hn,e1,e2,e3,e4,⟨_,e5⟩|⟨_,e5⟩⟩:=eR m hm<;>rw[e5]
  ·exact h.snames n hn
  ·exact Hs
 ·intro m hm;obtain⟨n,hn,e1,e2,e3,e4,⟨_,e5⟩|⟨_,e5⟩⟩:=eR m hm<;>rw[e5]
  ·exact h.names n hn
  ·refine⟨Hl,fun p hp=>?_⟩;rcases Hp p hp with hp|hp
   ·exact(h.names up uU).2 p hp
   ·exact hp.1
 ·intro m hm p hp;rw[hex];obtain⟨n,hn,e1,e2,e3,e4,⟨_,e5⟩|⟨_,e5⟩⟩:=eR m hm<;>rw[e5]at hp
  ·exact h.closed n hn p hp
  ·rcases Hp p hp with hp|⟨_,h1,nj,Kt,_⟩
   ·exact h.closed up uU p hp
   ·obtain⟨a,b⟩:=(ax h.sorted).1 Kt;exact⟨h1,nj,a,b⟩
 ·intro m hm h1;obtain⟨n,hn,e1,e2,e3,e4,_⟩:=eR m hm;have:=h.count n hn (by rw[e1];exact h1);have hc:jS (T.named k f) m.num+gq up.names m.num=jS T m.num+gq (f up.names) m.num:=Jq (f:=fun n=>{ n with names:=f n.names }) h.sorted uU qX m.num;have hp:=Hc m.num;rw[<-e2,<-e3];refine⟨?_,this.2⟩;have t1:=this.1;rw[e1]at t1;omega
 ·intro m hm dZ;obtain⟨n,hn,e1,e2,e3,e4,⟨_,e5⟩|⟨e6,e5⟩⟩:=eR m hm
  ·rw[e5]at dZ;rw[<-e1];exact h.deep n hn dZ
  ·rw[<-e1,e6,qX];rw[e5]at dZ;exact H7 dZ
 ·intro m hm p hp x hx Oo mT;obtain⟨nx,pq,f1,f2,_⟩:=eR x hx;obtain⟨n,hn,e1,e2,e3,e4,e5⟩:=eR m hm;rw[<-e1];rcases e5 with⟨_,e5⟩|⟨e6,e5⟩
  ·rw[e5]at hp;exact h.depth n hn p hp nx pq (f1.trans Oo) (f2.trans mT)
  ·rw[e5]at hp;rcases Hp p hp with hp|⟨_,_,nj,Kt,hdj⟩
   ·rw[e6];exact h.depth up uU p hp nx pq (f1.trans Oo) (f2.trans mT)
   ·have e7:nx=nj:=auR (((ax h.sorted).2 ⟨pq,f1.trans Oo⟩).symm.trans Kt);rw[e6,qX];exact hdj (by rw[<-e7];exact f2.trans mT)
theorem Gc (h:mR T d off){k j:Int}{s:List UInt8}{up:Nd}(hk:T.get k=some up)(hd:up.dir=true)(hs:jD s up.names=none)(hl:up.names.length<60)(cC:aH s=true)
  (hj:j≠1) {nj:Nd} (Kt:T.get j=some nj) (h7:d k<=7) (hdj:nj.dir=true->d j=d k+1):mR (T.named k (l5 s j)) d (fun x=>off x-if j=x then 1 else 0):=by
 obtain⟨uU,qX⟩:=(ax h.sorted).1 hk;refine CX h hk hd (CU (h.snames up uU)) (by rw[O4,zl hs];omega) (fun p hp=>?_) (fun _=>h7) (fun x=>?_)
 ·rcases O3.1 hp with rfl|⟨hp,_⟩
  ·exact .inr ⟨cC,hj,nj,Kt,hdj⟩
  ·exact .inl hp
 ·have h1:gq (l5 s j up.names) x=gq up.names x+(if j=x then 1 else 0):=O5 hs x;by_cases h2:j=x
  ·rw[atP h2]at h1;simp only[atP h2];omega
  ·rw[atR h2]at h1;simp only[atR h2];omega
theorem O7 (h:mR T d off){k j:Int}{s:List UInt8}{up:Nd}(hk:T.get k=some up)(hs:jD s up.names=some j):mR (T.named k (fN s)) d (fun x=>off x+if j=x then 1 else 0):=by
 obtain⟨uU,qX⟩:=(ax h.sorted).1 hk;have tB:=(cq (h.snames up uU)).1 hs;have dZ:up.names≠[]:=List.ne_nil_of_mem tB;have hd:up.dir=true:=by
  cases hd:up.dir with
  |true=>rfl
  |false=>exact absurd (h.file up uU hd).1 dZ
 refine CX h hk hd (oK (h.snames up uU)) (atE (rt _ _) (h.names up uU).1) (fun p hp=>.inl (kI.1 hp).1) (fun _=>by rw[<-qX];exact h.deep up uU dZ) (fun x=>?_);have h1:gq (fN s up.names) x+(if j=x then 1 else 0)=gq up.names x:=CV (h.snames up uU) hs x;by_cases h2:j=x
 ·rw[atP h2]at h1;simp only[atP h2];omega
 ·rw[atR h2]at h1;simp only[atR h2];omega
theorem Gd (h:mR T d off){k:Int}{n0:Nd}{f:Nd->Nd}{BJ:Int->Int}(hk:T.get k=some n0)(hf:∀ n,(f n).num=n.num/\(f n).dir=n.dir/\(f n).names=n.names)
  (ae1:n0.dir=false->(f n0).data.length<=16384) (ahp:n0.dir=true->(f n0).data=[]) (oa:k=1->(f n0).links=n0.links)
  (Hc:k≠1->(f n0).links=n0.links+BJ k-off k/\1<=(f n0).links/\(n0.dir=true->(f n0).links=1)) (Ho:∀ n∈T,n.num≠k->BJ n.num=off n.num):mR (T.upd k f) d BJ:=by
 obtain⟨uU,qX⟩:=(ax h.sorted).1 hk;have Rn:∀ n,(f n).num=n.num:=fun n=>(hf n).1;have hex:∀ x,(∃ m∈T.upd k f,m.num=x)↔∃ m∈T,m.num=x:=fun x=>by
  have e:=oJ (T:=T) (k:=k) Rn;have:x∈(T.upd k f).map (·.num)↔x∈T.map (·.num):=by rw[e]
  simpa using this
 have eR:∀ m∈T.upd k f,∃ n∈T,n.num=m.num/\n.dir=m.dir/\n.names=m.names/\((n.num≠k/\m.links=n.links/\m.data=n.data)\/(n=n0/\m.links=(f n0).links/\m.data=(f n0).data)):=by
  intro m hm;obtain⟨n,hn,rfl⟩:=uI.1 hm;refine⟨n,hn,?_⟩;by_cases e:n.num=k
  ·rw[atP (auq.2 e)];have e2:=lL h.sorted hn uU (by omega);exact⟨(hf n).1.symm,(hf n).2.1.symm,(hf n).2.2.symm,.inr ⟨e2,by rw[e2],by rw[e2]⟩⟩
  ·rw[atR (by simpa using e)];exact⟨rfl,rfl,rfl,.inl ⟨e,rfl,rfl⟩⟩
 have Sz:∀ x,jS (T.upd k f) x=jS T x:=fun x=>by
  have:=Jq (f:=f) h.sorted uU qX x;rw[(hf n0).2.2]at this;omega
 refine⟨iV Rn h.sorted,?_,?_,by rw[Jp];exact h.many,?_,?_,?_,?_,?_,?_,h.droot,?_,?_⟩
 ·intro m hm;obtain⟨n,hn,e,_⟩:=eR m hm;rw[<-e];exact h.nums n hn
 ·obtain⟨r,hr,h1,h2,h3⟩:=h.root;obtain⟨m,hm,e⟩:=(hex 1).2 ⟨r,hr,h1⟩;obtain⟨n,hn,e1,e2,e3,e4⟩:=eR m hm;have e6:=lL h.sorted hn hr (by omega);refine⟨m,hm,e,by rw[<-e2,e6];exact h2,?_⟩;rcases e4 with⟨_,e4,_⟩|⟨e5,e4,_⟩
  ·rw[e4,e6];exact h3
  ·rw[e4,oa (by rw[<-qX,<-e5];omega),<-e5,e6];exact h3
 ·intro m hm nY;obtain⟨n,hn,e1,e2,e3,e4⟩:=eR m hm;rw[<-e2]at nY;rw[<-e3];have:=h.file n hn nY;refine⟨this.1,?_⟩;rcases e4 with⟨_,_,e4⟩|⟨e5,_,e4⟩<;>rw[e4]
  ·exact this.2
  ·exact ae1 (by rw[<-e5];exact nY)
 ·intro m hm nY;obtain⟨n,hn,e1,e2,e3,e4⟩:=eR m hm;rw[<-e2]at nY;rcases e4 with⟨_,_,e4⟩|⟨e5,_,e4⟩<;>rw[e4]
  ·exact h.dirs n hn nY
  ·exact ahp (by rw[<-e5];exact nY)
 ·intro m hm;obtain⟨n,hn,e1,e2,e3,e4⟩:=eR m hm;rw[<-e3];exact h.snames n hn
 ·intro m hm;obtain⟨n,hn,e1,e2,e3,e4⟩:=eR m hm;rw[<-e3];exact h.names n hn
 ·intro m hm p hp;rw[hex];obtain⟨n,hn,e1,e2,e3,e4⟩:=eR m hm;rw[<-e3]at hp;exact h.closed n hn p hp
 ·intro m hm h1;obtain⟨n,hn,e1,e2,e3,e4⟩:=eR m hm;have h2:=h.count n hn (by rw[e1];exact h1);rw[Sz,<-e1,<-e2];rcases e4 with⟨e5,e4,_⟩|⟨e5,e4,_⟩<;>rw[e4]
  ·rw[Ho n hn e5];exact h2
  ·have hnk:n.num=k:=by rw[e5];exact qX
   have h3:=Hc (by rw[<-hnk,e1];exact h1);rw[e5]at h2 ⊢;rw[qX]at h2 ⊢;refine⟨?_,h3.2⟩;omega
 ·intro m hm dZ;obtain⟨n,hn,e1,e2,e3,e4⟩:=eR m hm;rw[<-e3]at dZ;rw[<-e1];exact h.deep n hn dZ
 ·intro m hm p hp x hx Oo mT;obtain⟨nx,pq,f1,f2,_⟩:=eR x hx;obtain⟨n,hn,e1,e2,e3,e4⟩:=eR m hm;rw[<-e1];rw[<-e3]at hp;exact h.depth n hn p hp nx pq (f1.trans Oo) (f2.trans mT)
theorem Ya (h:mR T d off){n0:Nd}(hn:∀ m∈T,m.num≠n0.num)(h1:1<n0.num)(h2:n0.num<=65535)(hl:n0.links=1)(pp:n0.names=[])(hdt:n0.data=[])(hT:T.length<60)(v:Nat):
  mR (Tr.add n0 T) (fun x=>if x=n0.num then v else d x) (fun x=>if x=n0.num then 1 else off x):=by
 have dZ:∀ n∈T,∀ p∈n.names,p.2≠n0.num:=fun n hnT p hp=>CW h hn hnT hp;refine⟨kH h.sorted hn,?_,?_,by rw[TD];omega,?_,?_,?_,?_,?_,?_,?_,?_,?_⟩
 ·intro m hm;rcases df.1 hm with rfl|hm
  ·exact⟨by omega,h2⟩
  ·exact h.nums m hm
 ·obtain⟨r,hr,h⟩:=h.root;exact⟨r,df.2 (.inr hr),h⟩
 ·intro m hm nY;rcases df.1 hm with rfl|hm
  ·exact⟨pp,by rw[hdt];simp⟩
  ·exact h.file m hm nY
 ·intro m hm nY;rcases df.1 hm with rfl|hm
  ·exact hdt
  ·exact h.dirs m hm nY
 ·intro m hm;rcases df.1 hm with rfl|hm
  ·rw[pp];exact List.Pairwise.nil
  ·exact h.snames m hm
 ·intro m hm;rcases df.1 hm with rfl|hm
  ·rw[pp];simp
  ·exact h.names m hm
 ·intro m hm p hp;rcases df.1 hm with rfl|hm
  ·rw[pp]at hp;cases hp
  ·obtain⟨a,x,hx,e⟩:=h.closed m hm p hp;exact⟨a,x,df.2 (.inr hx),e⟩
 ·intro m hm mM;rw[TE,pp];rcases df.1 hm with rfl|hm
  ·rw[atP rfl,O6 dZ];exact⟨by rw[hl];rfl,by omega,fun _=>hl⟩
  ·rw[atR (hn m hm)];have:=h.count m hm mM;exact⟨by simp only[gq,List.countP_nil];omega,this.2⟩
 ·rw[atR (by omega)];exact h.droot
 ·intro m hm Ff;rcases df.1 hm with rfl|hm
  ·exact absurd pp Ff
  ·rw[atR (hn m hm)];exact h.deep m hm Ff
 ·intro m hm p hp x hx Oo mT;rcases df.1 hm with rfl|hm
  ·rw[pp]at hp;cases hp
  ·have e:=dZ m hm p hp;rw[atR e,atR (hn m hm)];rcases df.1 hx with rfl|hx
   ·exact absurd Oo.symm e
   ·exact h.depth m hm p hp x hx Oo mT
theorem TF (h:mR T d off){n0:Nd}(hn:n0∈T)(h1:n0.num≠1)(hc:jS T n0.num=0)(pp:n0.names=[]):mR (T.drop n0.num) d off:=by
 have dZ:∀ n∈T,∀ p∈n.names,p.2≠n0.num:=fun n hnT p hp e=>by
  have:=AF hnT hp e;omega
 refine⟨CQ h.sorted,fun m hm=>h.nums m (cQ.1 hm).1,?_,atE (atU _ _) h.many,fun m hm=>h.file m (cQ.1 hm).1,fun m hm=>h.dirs m (cQ.1 hm).1,fun m hm=>h.snames m (cQ.1 hm).1,fun m hm=>h.names m (cQ.1 hm).1,?_,?_,h.droot,fun m hm=>h.deep m (cQ.1 hm).1,fun m hm p hp x hx=>h.depth m (cQ.1 hm).1 p hp x (cQ.1 hx).1⟩
 ·obtain⟨r,hr,e,h2⟩:=h.root;exact⟨r,cQ.2 ⟨hr,by omega⟩,e,h2⟩
 ·intro m hm p hp;obtain⟨a,x,hx,e⟩:=h.closed m (cQ.1 hm).1 p hp;exact⟨a,x,cQ.2 ⟨hx,by rw[e];exact dZ m (cQ.1 hm).1 p hp⟩,e⟩
 ·intro m hm mM;have hcd:=vM h.sorted hn m.num;rw[pp]at hcd;have:=h.count m (cQ.1 hm).1 mM;exact⟨by simp only[gq,List.countP_nil]at hcd;omega,this.2⟩
theorem TG (h:mR T d off){d':Int->Nat}(h0:d' 1=0)(h1:∀ n∈T,n.names≠[]->d' n.num<=7)(h2:∀ n∈T,∀ p∈n.names,∀ m∈T,m.num=p.2->m.dir=true->d' p.2=d' n.num+1):mR T d' off:=
 { h with droot:=h0,deep:=h1,depth:=h2 }
theorem Ge (h:mR T d off){BJ:Int->Int}(ho:∀ n∈T,n.num≠1->BJ n.num=off n.num):mR T d BJ:=
 { h with count:=fun n hn h1=>by rw[ho n hn h1];exact h.count n hn h1 }
end
end
section
open Go.RowKit
section
variable {T:Tr}{d:Int->Nat}{off:Int->Int}
theorem eM {k j:Int}{f:Nm->Nm}:(T.named k f).get j=if j=k then(T.get j).map (fun n=>{ n with names:=f n.names })else T.get j:=
 TC (f:=fun n=>{ n with names:=f n.names }) fun _=>rfl
theorem fD {α:Type}(l:List α):l=[]\/∃ p s,l=p++[s]:=by
 rcases List.eq_nil_or_concat l with h|⟨p,s,h⟩
 ·exact .inl h
 ·exact .inr ⟨p,s,by rw[h,List.concat_eq_append]⟩
theorem Jr {α:Type}(z:α){l:List α}(h:l≠[]):l=l.dropLast++[l.getLastD z]:=by
 rcases fD l with h1|⟨p,s,rfl⟩
 ·exact absurd h1 h
 ·simp
theorem vO {s:List UInt8}{l:List (List UInt8)}(h:bd s=some l):l.length<=8/\∀ x∈l,aH x=true:=by
 obtain⟨r,_,⟨_,rfl⟩|⟨_,_,h1,h2⟩⟩:=iT h
 ·simp
 ·exact⟨h1,at3.1 h2⟩
theorem KS {s:List UInt8}(h:bd s=some []):s=[47]:=by
 obtain⟨r,rfl,⟨rfl,_⟩|⟨_,h1,_⟩⟩:=iT h
 ·rfl
 ·exact absurd h1.symm (vu 47 r)
theorem AG (l q:List (List UInt8))(hl:l≠[])(hq:q≠[]):[(47:UInt8)].intercalate (l++q)=[(47:UInt8)].intercalate l++47::[(47:UInt8)].intercalate q:=by
 induction l with
 |nil=>exact absurd rfl hl
 |cons x l ih=>
  cases l with
  |nil=>
   cases q with
   |nil=>exact absurd rfl hq
   |cons y q=>simp[List.intercalate]
  |cons y l=>
   have e:∀ m:List (List UInt8),[(47:UInt8)].intercalate (x::y::m)=x++47::[(47:UInt8)].intercalate (y::m):=fun m=>by simp[List.intercalate]
   rw[aur,aur,e,e,<-aur,ih (by simp)];simp
theorem CY {a b:List UInt8}{l q:List (List UInt8)}(ha:bd a=some l)(hb:bd b=some (l++q))(hl:l≠[])(hq:q≠[]):Lib.hasPrefix b (a++[47])=true:=by
 obtain⟨r,rfl,⟨_,e⟩|⟨_,e1,_⟩⟩:=iT ha
 ·exact absurd e hl
 ·obtain⟨r2,rfl,⟨_,e⟩|⟨_,e2,_⟩⟩:=iT hb
  ·simp at e;exact absurd e.1 hl
  ·have j1:=vy 47 r;have j2:=vy 47 r2;rw[<-e1]at j1;rw[<-e2,AG l q hl hq,j1]at j2;unfold Lib.hasPrefix;rw[List.isPrefixOf_iff_prefix];exact⟨[(47:UInt8)].intercalate q,by rw[<-j2];simp⟩
theorem zm (h:mR T d off){path:List UInt8}{k:Int}(ha:zk T path=.ok k):∃ l n,bd path=some l/\aW T 1 l=.ok k/\T.get k=some n:=by
 unfold zk at ha
 cases hp:bd path with
 |none=>rw[hp]at ha;cases ha
 |some l=>
  rw[hp]at ha;obtain⟨r,hr,h1,_⟩:=h.root;obtain⟨n,hn,hk⟩:=(uK h l 1 k ⟨r,hr,h1⟩ ha).1;exact⟨l,n,rfl,ha,(ax h.sorted).2 ⟨hn,hk⟩⟩
theorem pC (h:mR T d off){path s:List UInt8}{k:Int}(hr:gp T path=.ok (k,s)):∃ p up,bd path=some (p++[s])/\p.length<=7/\aH s=true/\aW T 1 p=.ok k/\T.get k=some up/\up.dir=true/\jD s up.names=none/\up.names.length<60/\d k=p.length:=by
 unfold gp at hr
 cases hp:bd path with
 |none=>rw[hp]at hr;simp at hr
 |some l=>
  rw[hp]at hr;simp only[aun]at hr;split at hr
  ·cases hr
  ·rename_i hl
   split at hr
   ·cases hr
   ·rename_i k' hf
    split at hr
    ·cases hr
    ·rename_i up hu
     split at hr
     ·cases hr
     ·rename_i hd
      split at hr
      ·cases hr
      ·rename_i hn
       split at hr
       ·cases hr
       ·rename_i sC
        simp only[Except.ok.injEq,Prod.mk.injEq]at hr;obtain⟨rfl,rfl⟩:=hr;have hs:=Jr [] hl;obtain⟨h8,cC⟩:=vO hp;have aU:=auZ List.length hs;simp only[at0,atH,auV]at aU;obtain⟨r,hr,h1,EM,_⟩:=h.root;have aeG:up.dir=true:=by simpa using hd
        refine⟨l.dropLast,up,by rw[<-hs],by omega,cC _ (by rw[hs];simp),hf,hu,aeG,by simpa using hn,by omega,?_⟩;have:=(uK h _ 1 k' ⟨r,hr,h1⟩ hf).2 r ((ax h.sorted).2 ⟨hr,h1⟩) EM up hu aeG;rw[this,h.droot];omega
theorem O8 {f:Nat}{k j:Int}(hj:k<=j)(ZT:j<k+f)(hg:T.get j=none):T.get (dW T f k)=none/\k<=dW T f k/\dW T f k<=j:=by
 induction f generalizing k with
 |zero=>omega
 |succ f ih=>
  unfold dW;by_cases hk:(T.get k).isSome=true
  ·rw[atP hk];have dZ:j≠k:=fun e=>by rw[e]at hg;rw[hg]at hk;cases hk
   have:=ih (k:=k+1) (by omega) (by omega);exact⟨this.1,by omega,this.2.2⟩
  ·rw[atR hk];exact⟨by simpa using hk,Int.le_refl _,hj⟩
theorem vP {k:Int}{n:Nd}(hn:n∈T)(hk:n.num=k):T.countP (fun m=>decide (k+1<=m.num))+1<=T.countP (fun m=>decide (k<=m.num)):=by
 induction T with
 |nil=>cases hn
 |cons y r ih=>
  rw[List.countP_cons,List.countP_cons];rcases at9.1 hn with rfl|hm
  ·have:r.countP (fun m=>decide (k+1<=m.num))<=r.countP (fun m=>decide (k<=m.num)):=List.countP_mono_left fun m _ h=>by simp at h ⊢;omega
   rw[atR (by simp;omega),atP (by simp;omega)];omega
  ·have:=ih hm;by_cases h1:k+1<=y.num
   ·rw[atP (by simpa using h1),atP (by simp;omega)];omega
   ·rw[atR (by simpa using h1)];split<;>omega
theorem Gf {f:Nat}{k:Int}(h:∀ j,k<=j->j<k+f->∃ n∈T,n.num=j):f<=T.countP (fun m=>decide (k<=m.num)):=by
 induction f generalizing k with
 |zero=>omega
 |succ f ih=>
  obtain⟨n,hn,hk⟩:=h k (by omega) (by omega);have h1:=vP hn hk;have h2:=ih (k:=k+1) fun j h1 h2=>h j (by omega) (by omega);omega
theorem mR.fresh (h:mR T d off):T.get (dW T T.length 2)=none/\2<=dW T T.length 2/\dW T T.length 2<=T.length+1:=by
 have:∃ j,2<=j/\j<2+(T.length:Int)/\T.get j=none:=by
  apply auG;intro hc;have h1:=Gf (T:=T) (k:=2) (f:=T.length) fun j h1 h2=>by
   cases hg:T.get j with
   |none=>exact absurd ⟨j,h1,h2,hg⟩ hc
   |some n=>exact⟨n,(ax h.sorted).1 hg⟩
  obtain⟨r,hr,Kq,_⟩:=h.root;have h2:=vP hr Kq;have h3:=List.countP_le_length (p:=fun m:Nd=>decide (1<=m.num)) (l:=T);have h4:T.countP (fun m=>decide ((1:Int)+1<=m.num))=T.countP (fun m=>decide (2<=m.num)):=rfl;omega
 obtain⟨j,h1,h2,h3⟩:=this;have:=O8 h1 h2 h3;exact⟨this.1,this.2.1,by omega⟩
theorem O9 (h:WF T d)(c:bT):∃ d',WF (ga T c).1 d':=by
 unfold ga;split
 ·exact⟨d,h⟩
 ·rename_i k s hr
  obtain⟨p,up,hp,pk,cC,hf,hg,hd,hn,sC,yR⟩:=pC h hr;split
  ·exact⟨d,h⟩
  ·rename_i hT
   obtain⟨f1,f2,f3⟩:=mR.fresh h;generalize dy:dW T T.length 2=num at*;have dZ:=jq.1 f1;obtain⟨uU,qX⟩:=(ax h.sorted).1 hg;have Z5:k≠num:=fun e=>dZ up uU (by omega)
   let n0:Nd:=⟨num,c.kind==1,1,[],[]⟩
   have h1:=Ya (n0:=n0) h dZ (by show 1<num;omega) (by show num<=65535;have:=h.many;omega) rfl rfl rfl (by omega) (d k+1);have g1:(Tr.add n0 T).get k=some up:=by rw[uJ h.sorted dZ,atR Z5];exact hg
   have g2:(Tr.add n0 T).get num=some n0:=by rw[uJ h.sorted dZ];exact atP rfl
   have h2:=Gc (j:=num) h1 g1 hd hn sC cC (by omega) g2 (by show(if k=num then _ else d k)<=7;rw[atR Z5];omega) (fun _=>by show(if num=num then _ else _)=(if k=num then _ else _)+1;rw[atP rfl,atR Z5]);refine⟨_,Ge h2 fun n hn h1=>?_⟩;show(0:Int)=(if n.num=num then 1 else 0)-if num=n.num then 1 else 0;by_cases e:n.num=num
   ·rw[atP e,atP e.symm];omega
   ·rw[atR e,atR (fun e2=>e e2.symm)];omega
theorem TH {c:bT}{b:List UInt8}(h0:0<=c.pos)(hb:b.length<=16384)(hp:c.pos<=b.length)(h2:c.kind=2->c.pos+c.data.length<=16384)(h3:c.kind≠2->c.data=[]):(oc c b).length<=16384:=by
 unfold oc;have h1:(b.take c.pos.toNat++c.data).length<=16384:=by
  rw[at0,atO];by_cases h:c.kind=2
  ·have:=h2 h;omega
  ·rw[h3 h];simp;omega
 simp only;split
 ·rename_i h
  rw[at0,List.length_drop];omega
 ·exact h1
theorem KT (h:WF T d)(c:bT)(h0:0<=c.pos)(h3:c.kind≠2->c.data=[]):WF (dL T c).1 d:=by
 unfold dL;split
 ·exact h
 ·rename_i k ha
  split
  ·exact h
  ·rename_i n hg
   split
   ·exact h
   ·rename_i hd
    split
    ·exact h
    ·rename_i hb
     have hdf:n.dir=false:=by simpa using hd
     obtain⟨hm,hk⟩:=(ax h.sorted).1 hg;refine Gd h hg (fun _=>⟨rfl,rfl,rfl⟩) (fun _=>?_) (fun e=>absurd e hd) (fun _=>rfl) (fun h1=>?_) (fun _ _ _=>rfl)
     ·exact TH h0 (h.file n hm hdf).2 (by omega) (fun h2=>by
       apply Decidable.byContradiction;intro h4;exact hb (.inr ⟨h2,by omega⟩)) h3
     ·have:=h.count n hm (by omega);exact⟨by show n.links=n.links+0-0;omega,this.2⟩
theorem Pa (h:WF T d)(c:bT):WF (iU T c).1 d:=by
 unfold iU;split
 ·exact h
 ·rename_i j ha
  split
  ·exact h
  ·rename_i n hg
   split
   ·exact h
   ·rename_i hd
    split
    ·exact h
    ·rename_i k s hr
     obtain⟨p,up,hp,pk,cC,hf,JT,yR,hn,sC,VV⟩:=pC h hr;obtain⟨hm,hj⟩:=(ax h.sorted).1 hg;obtain⟨r,Kq,tC⟩:=mR.get1 h;have SP:j≠1:=fun e=>by rw[e,Kq]at hg;obtain rfl:=auR hg;exact hd tC
     have yc:j≠k:=fun e=>by rw[e,JT]at hg;obtain rfl:=auR hg;exact hd yR
     have h1:=Gc (j:=j) h JT yR hn sC cC SP hg (by omega) (fun e=>absurd e hd);have g1:(T.named k (l5 s j)).get j=some n:=by rw[eM,atR yc];exact hg
     have hc:=h.count n hm (by omega);refine Gd h1 g1 (fun _=>⟨rfl,rfl,rfl⟩) (fun _=>(h.file n hm (by simpa using hd)).2) (fun e=>absurd e hd) (fun e=>absurd e SP) (fun _=>?_) (fun m _ hmj=>?_)
     ·refine⟨by show n.links+1=n.links+0-(0-if j=j then 1 else 0);rw[atP rfl];omega,by show 1<=n.links+1;omega,fun e=>absurd e hd⟩
     ·show(0:Int)=0-if j=m.num then 1 else 0;rw[atR (fun e=>hmj e.symm)];omega
theorem uL (h:mR T d off){path:List UInt8}{j:Int}(ha:zk T path=.ok j)(dZ:path≠[47]):∃ p s o up,bd path=some (p++[s])/\aW T 1 (p++[s])=.ok j/\aW T 1 p=.ok o/\T.get o=some up/\up.dir=true/\jD s up.names=some j:=by
 obtain⟨l,n,hp,hf,hg⟩:=zm h ha;have hl:l≠[]:=fun e=>by rw[e]at hp;exact dZ (KS hp)
 have hs:=Jr [] hl;rw[hs]at hf hp;obtain⟨o,up,h1,h2,h3,h4⟩:=gV.1 hf;exact⟨_,_,o,up,hp,hf,h1,h2,h3,h4⟩
theorem Gg (h:WF T d)(c:bT):WF (dF T c).1 d:=by
 unfold dF;split
 ·exact h
 ·rename_i dZ
  split
  ·exact h
  ·rename_i j ha
   split
   ·exact h
   ·rename_i n hg
    split
    ·exact h
    ·rename_i pp
     have pp:n.names=[]:=by simpa using pp
     obtain⟨p,s,o,up,hp,hf,N6,No,uR,hs⟩:=uL h ha dZ;simp only[hp,aun,List.dropLast_concat,List.getLastD_concat,N6];obtain⟨hm,hj⟩:=(ax h.sorted).1 hg;obtain⟨VJ,IL⟩:=(ax h.sorted).1 No;have tB:=(cq (h.snames up VJ)).1 hs;have SP:=(h.closed up VJ _ tB).1;have hjo:j≠o:=fun e=>by
      rw[e,No]at hg;obtain rfl:=auR hg;rw[pp]at tB;cases tB
     have h1:=O7 h No hs;have g1:(T.named o (fN s)).get j=some n:=by rw[eM,atR hjo];exact hg
     obtain⟨mM,_⟩:=(ax h1.sorted).1 g1;have hc:=h1.count n mM (by rw[hj];exact SP);split
     ·rename_i uV
      have h2:=TF h1 mM (by rw[hj];exact SP) (by
       have:=hc.1;rw[atP hj.symm]at this;omega) pp
      rw[hj]at h2;refine Ge h2 fun m gO _=>?_;show(0:Int)=0+if j=m.num then 1 else 0;rw[atR (fun e=>(cQ.1 gO).2 e.symm)];omega
     ·rename_i uV
      have hd:¬ n.dir=true:=fun e=>uV (hc.2.2 e);refine Gd h1 g1 (fun _=>⟨rfl,rfl,rfl⟩) (fun _=>(h.file n hm (by simpa using hd)).2) (fun e=>absurd e hd) (fun e=>absurd e SP) (fun _=>?_) (fun m _ hmj=>?_)
      ·refine⟨by show n.links-1=n.links+0-(0+if j=j then 1 else 0);rw[atP rfl];omega,by show 1<=n.links-1;omega,fun e=>absurd e hd⟩
      ·show(0:Int)=0+if j=m.num then 1 else 0;rw[atR (fun e=>hmj e.symm)];omega
theorem zn {T1:Tr}(hm:∀ k n1,T1.get k=some n1->∃ n,T.get k=some n/\(n1.dir=true->n.dir=true)/\∀ s i,jD s n1.names=some i->jD s n.names=some i):∀(p:List (List UInt8)) (j k:Int),aW T1 j p=.ok k->aW T j p=.ok k:=by
 intro p
 induction p with
 |nil=>intro j k h;exact h
 |cons s r ih=>
  intro j k h;unfold aW at h ⊢
  cases hg:T1.get j with
  |none=>rw[hg]at h;cases h
  |some n1=>
   rw[hg]at h;obtain⟨n,hn,hd,hs⟩:=hm j n1 hg;rw[hn];simp only at h ⊢;split at h
   ·rename_i h1
    rw[atP (hd h1)]
    cases hi:jD s n1.names with
    |none=>rw[hi]at h;cases h
    |some i=>
     rw[hi]at h;rw[hs s i hi];exact ih i k h
   ·cases h
theorem vQ (h:mR T d off){k:Int}(hc:jS T k<=1){y y':Nd}(hy:y∈T)(Tc:y'∈T){p p':List UInt8×Int}(hp:p∈y.names)(BU:p'∈y'.names)(e:p.2=k)(e':p'.2=k):y=y'/\p=p':=by
 have pos:∀ {l:Nm} {q:List UInt8×Int},q∈l->q.2=k->1<=gq l k:=fun {l q} hq eq=>by
  unfold gq;exact List.countP_pos_iff.2 ⟨q,hq,auq.2 eq⟩
 have hyy:y=y':=by
  apply auG;intro dZ;have h1:=vM h.sorted hy k;have hm:y'∈T.drop y.num:=cQ.2 ⟨Tc,fun e=>dZ (lL h.sorted hy Tc e.symm)⟩;have h2:=AF hm BU e';have h3:=pos hp e;omega
 subst hyy;refine⟨rfl,?_⟩;apply auG;intro dZ;have hs:=h.snames y hy;have h1:=CV hs ((cq hs).2 hp:bD p.1 y.names=some p.2) k;rw[atP e]at h1;have h2:p'∈fZ p.1 y.names:=kI.2 ⟨BU,fun e2=>dZ (vN hs hp BU e2.symm)⟩;have h3:=pos h2 e';have h4:gq y.names k<=jS T k:=by have:=vM h.sorted hy k;omega
 omega
theorem Yb (h:WF T d){k:Int}{n:Nd}(hg:T.get k=some n)(hd:n.dir=true)(h1:k≠1):jS T k<=1:=by
 obtain⟨hm,hk⟩:=(ax h.sorted).1 hg;have:=h.count n hm (by omega);rw[hk]at this;have:=this.2.2 hd;omega
theorem Gh (h:WF T d):∀(m:Nat) (p q:List (List UInt8)) (k:Int) (n:Nd),p.length=m->aW T 1 p=.ok k->aW T 1 q=.ok k->T.get k=some n->n.dir=true->p=q:=by
 intro m
 induction m with
 |zero=>
  intro p q k n hm hp hq hg hd;obtain rfl:=auk.1 hm;have e:1=k:=by simpa[aW]using hp
  subst e;rcases fD q with rfl|⟨q',s,rfl⟩
  ·rfl
  ·obtain⟨y,ny,_,hy,_,hs⟩:=gV.1 hq;obtain⟨Oc,_⟩:=(ax h.sorted).1 hy;exact absurd rfl (h.closed ny Oc _ ((cq (h.snames ny Oc)).1 hs)).1
 |succ m ih=>
  intro p q k n hm hp hq hg hd;rcases fD p with rfl|⟨p',s,rfl⟩
  ·simp at hm
  ·obtain⟨y,ny,hpy,hy,hyd,hs⟩:=gV.1 hp;obtain⟨Oc,hyn⟩:=(ax h.sorted).1 hy;have tB:=(cq (h.snames ny Oc)).1 hs;have hk1:=(h.closed ny Oc _ tB).1;rcases fD q with rfl|⟨q',s',rfl⟩
   ·have e:1=k:=by simpa[aW]using hq
    exact absurd e.symm hk1
   ·obtain⟨z,nz,hpz,hz,hzd,hs'⟩:=gV.1 hq;obtain⟨hzm,hzn⟩:=(ax h.sorted).1 hz;have aiH:=(cq (h.snames nz hzm)).1 hs';obtain⟨e1,e2⟩:=vQ h (Yb h hg hd hk1) Oc hzm tB aiH rfl rfl;subst e1;have e3:s=s':=auZ Prod.fst e2;have e4:y=z:=by omega
    subst e3 e4;rw[ih p' q' y ny (by simpa using hm) hpy hpz hy hyd]
theorem TJ {α:Type}(g:α->Nat):∀(l:List α) (m:Nat),m<=l.foldl (fun m p=>max m (g p)) m/\∀ p∈l,g p<=l.foldl (fun m p=>max m (g p)) m:=by
 intro l
 induction l with
 |nil=>intro m;simp
 |cons x r ih=>
  intro m;have h:=ih (max m (g x));simp only[List.foldl_cons];refine⟨by omega,fun p hp=>?_⟩;rcases at9.1 hp with rfl|hp
  ·omega
  ·exact h.2 p hp
theorem TL (h:mR T d off):∀(p:List (List UInt8)) (f:Nat) (j y:Int),aW T j p=.ok y->p.length<=f->p.length<=fC T f j:=by
 intro p
 induction p with
 |nil=>intro f j y _ _;simp
 |cons s r ih=>
  intro f j y hf hl
  cases f with
  |zero=>simp at hl
  |succ f=>
   unfold aW at hf;unfold fC
   cases hg:T.get j with
   |none=>rw[hg]at hf;cases hf
   |some n=>
    rw[hg]at hf;simp only at hf ⊢;split at hf
    ·cases hi:jD s n.names with
     |none=>rw[hi]at hf;cases hf
     |some i=>
      rw[hi]at hf;obtain⟨hm,_⟩:=(ax h.sorted).1 hg;have tB:=(cq (h.snames n hm)).1 hi;have h1:=(TJ (fun p:List UInt8×Int=>1+fC T f p.2) n.names 0).2 _ tB;have h2:=ih f i y hf (by simpa using hl);simp only[atH];simp only at h1;omega
    ·cases hf
end
end
section
open Go.RowKit
section
variable {T:Tr}{d:Int->Nat}
theorem Gi {o:Int}{s:List UInt8}(h:WF T d):∀ k n1,(T.named o (fN s)).get k=some n1->∃ n,T.get k=some n/\(n1.dir=true->n.dir=true)/\∀ x i,jD x n1.names=some i->jD x n.names=some i:=by
 intro k n1 hg;rw[eM]at hg;by_cases hk:k=o
 ·rw[atP hk]at hg;obtain⟨n,hn,rfl⟩:=auX.1 hg;obtain⟨hm,_⟩:=(ax h.sorted).1 hn;refine⟨n,hn,id,fun x i hx=>?_⟩;rw[cq (oK (h.snames n hm))]at hx;exact(cq (h.snames n hm)).2 (kI.1 hx).1
 ·rw[atR hk]at hg;exact⟨n1,hg,id,fun _ _ h=>h⟩
structure Ren (T:Tr)(d:Int->Nat)(c:bT)(p1:List (List UInt8))(s1:List UInt8)(o:Int)(p2:List (List UInt8))(s2:List UInt8)(k j:Int)(J2 JS nj:Nd):Prop where
 path:bd c.path=some (p1++[s1])
 dest:bd c.dest=some (p2++[s2])
 fj:aW T 1 (p1++[s1])=.ok j
 fo:aW T 1 p1=.ok o
 fk:aW T 1 p2=.ok k
 go:T.get o=some J2
 gk:T.get k=some JS
 gj:T.get j=some nj
 dirO:J2.dir=true
 dirK:JS.dir=true
 was:jD s1 J2.names=some j
 new:jD s2 JS.names=none
 room:JS.names.length<60
 ok:aH s2=true
 apart:Lib.hasPrefix c.dest (c.path++[47])=false
 dk:d k=p2.length
 long:p2.length+1+fC T 9 j<=8
 j1:j≠1
theorem vR {T:Tr}:∀(l:List (List UInt8)) (k e:Int),aW T k l=.error e->e=141\/e=143:=by
 intro l
 induction l with
 |nil=>intro k e h;cases h
 |cons s r ih=>
  intro k e h;rw[kc]at h;split at h
  ·cases h;exact .inl rfl
  ·split at h
   ·split at h
    ·cases h;exact .inl rfl
    ·exact ih _ _ h
   ·cases h;exact .inr rfl
theorem vS {T:Tr}{path:List UInt8}{e:Int}(h:zk T path=.error e):140<=e:=by
 unfold zk at h;split at h
 ·cases h;decide
 ·rcases vR _ _ _ h with rfl|rfl<;>decide
theorem rC {T:Tr}{path:List UInt8}{e:Int}(h:gp T path=.error e):140<=e:=by
 unfold gp at h;simp only at h;split at h
 ·cases h;decide
 ·split at h
  ·rename_i h1
   cases h
   rcases vR _ _ _ h1 with rfl|rfl<;>decide
  ·split at h
   ·cases h;decide
   ·split at h
    ·cases h;decide
    ·split at h
     ·cases h;decide
     ·split at h
      ·cases h;decide
      ·cases h
theorem KU (h:WF T d)(c:bT):(∃ e,cd T c=(T,e)/\140<=e)\/∃ p1 s1 o p2 s2 k j J2 JS nj,Ren T d c p1 s1 o p2 s2 k j J2 JS nj/\cd T c=((T.named o (fN s1)).named k (l5 s2 j),0):=by
 unfold cd;by_cases hr:c.path=[47]
 ·rw[atP hr];exact .inl ⟨_,rfl,by decide⟩
 ·rw[atR hr]
  cases ha:zk T c.path with
  |error e=>exact .inl ⟨e,rfl,vS ha⟩
  |ok j=>
   by_cases hp:Lib.hasPrefix c.dest (c.path++[47])=true
   ·simp only[hp,if_true];exact .inl ⟨_,rfl,by decide⟩
   ·simp only[hp]
    cases WP:gp T c.dest with
    |error e=>exact .inl ⟨e,rfl,rC WP⟩
    |ok x=>
     obtain⟨k,s2⟩:=x;obtain⟨p2,JS,hd,pk,cC,hfk,JT,yR,hn,sC,VV⟩:=pC h WP;obtain⟨p1,s1,o,J2,XL,hfj,N6,No,uR,hs⟩:=uL h ha hr;obtain⟨l,nj,hl,EO,hgj⟩:=zm h ha;simp only[hd,aun,XL,List.dropLast_concat,List.getLastD_concat,N6];by_cases h8:8<(p2++[s2]).length+fC T 9 j
     ·rw[atP h8];exact .inl ⟨_,rfl,by decide⟩
     ·rw[atR h8];obtain⟨VJ,_⟩:=(ax h.sorted).1 No;refine .inr ⟨p1,s1,o,p2,s2,k,j,J2,JS,nj,⟨XL,hd,hfj,N6,hfk,No,JT,hgj,uR,yR,hs,hn,sC,cC,by simpa using hp,VV,?_,(h.closed J2 VJ _ ((cq (h.snames J2 VJ)).1 hs)).1⟩,rfl⟩;simp only[at0,atH,auV]at h8;omega
theorem TM {c:bT}{p1 p2:List (List UInt8)}{s1 s2:List UInt8}{o k j:Int}{J2 JS nj:Nd}(h:WF T d)(r:Ren T d c p1 s1 o p2 s2 k j J2 JS nj)(_hd:nj.dir=true):∀ p,aW T j p≠.ok k:=by
 intro p hp;have h1:aW T 1 (p1++[s1]++p)=.ok k:=by rw[tQ,r.fj];exact hp
 have h2:=Gh h _ _ _ _ _ rfl h1 r.fk r.gk r.dirK;have h3:=CY r.path (q:=p++[s2]) (by rw[r.dest,<-h2];simp) (by simp) (by simp);rw[r.apart]at h3;cases h3
theorem Yc {c:bT}{p1 p2:List (List UInt8)}{s1 s2:List UInt8}{o k j:Int}{J2 JS nj:Nd}(h:WF T d)(r:Ren T d c p1 s1 o p2 s2 k j J2 JS nj):∃ d',WF ((T.named o (fN s1)).named k (l5 s2 j)) d':=by
 have h1:=O7 h r.go r.was;have Wq:=Gi (o:=o) (s:=s1) h;obtain⟨aqv,gk',dk',nk',lk'⟩:∃ up',(T.named o (fN s1)).get k=some up'/\up'.dir=true/\jD s2 up'.names=none/\up'.names.length<60:=by
  rw[eM];by_cases e:k=o
  ·rw[atP e,r.gk];refine⟨_,rfl,r.dirK,?_,Nat.lt_of_le_of_lt (rt _ _) r.room⟩;rw[mr];intro p hp;exact mr.1 r.new p (kI.1 hp).1
  ·rw[atR e];exact⟨JS,r.gk,r.dirK,r.new,r.room⟩
 obtain⟨nj',gj',dj'⟩:∃ n',(T.named o (fN s1)).get j=some n'/\n'.dir=nj.dir:=by
  rw[eM];by_cases e:j=o
  ·rw[atP e,r.gj];exact⟨_,rfl,rfl⟩
  ·rw[atR e];exact⟨nj,r.gj,rfl⟩
 have pk:p2.length<=7:=by have:=r.long;omega
 have fin:∀ d':Int->Nat,mR (T.named o (fN s1)) d' (fun x=>0+if j=x then 1 else 0)->d' k<=7->(nj'.dir=true->d' j=d' k+1)->WF ((T.named o (fN s1)).named k (l5 s2 j)) d':=by
  intro d' hw h7 hj;refine Ge (Gc hw gk' dk' nk' lk' r.ok r.j1 gj' h7 hj) fun n _ _=>?_;show(0:Int)=0+(if j=n.num then 1 else 0)-if j=n.num then 1 else 0;omega
 by_cases hd:nj.dir=true
 ·
  have aeC:nj'.dir=true:=dj'.trans hd;obtain⟨aef,ZM⟩:=(ax h1.sorted).1 gj';have hcj:jS (T.named o (fN s1)) j=0:=by
   have hc:=h1.count nj' aef (by rw[ZM];exact r.j1);have:=hc.2.2 aeC;have:=hc.1;rw[ZM,atP rfl]at this;omega
  have ad9:∀ n∈T.named o (fN s1),∀ p∈n.names,p.2≠j:=fun n hn p hp e=>by
   have:=AF hn hp e;omega
  let I7:Int->Prop:=fun x=>∃ p,aW (T.named o (fN s1)) j p=.ok x
  have aci:∀ p x m,aW (T.named o (fN s1)) j p=.ok x->(T.named o (fN s1)).get x=some m->m.dir=true->d x=d j+p.length:=fun p x m hf hg hm=>
   (uK h1 p j x ⟨nj',aef,ZM⟩ hf).2 nj' gj' aeC m hg hm
  classical
  let d':Int->Nat:=fun x=>if I7 x then d x-d j+(p2.length+1)else d x
  have hk:¬ I7 k:=fun⟨p,hp⟩=>TM h r hd p (zn Wq p j k hp);have hj:I7 j:=⟨[],rfl⟩
  have h1s:¬ I7 1:=by
   rintro⟨p,hp⟩;rcases fD p with rfl|⟨q,s,rfl⟩
   ·have e:j=1:=by simpa[aW]using hp
    exact r.j1 e
   ·obtain⟨y,ny,_,hy,_,hs⟩:=gV.1 hp;obtain⟨Oc,_⟩:=(ax h1.sorted).1 hy;exact absurd rfl (h1.closed ny Oc _ ((cq (h1.snames ny Oc)).1 hs)).1
  have hw:mR (T.named o (fN s1)) d' (fun x=>0+if j=x then 1 else 0):=by
   refine TG h1 ?_ (fun n hn dZ=>?_) (fun n hn p hp m hm Ns nY=>?_)
   ·show(if I7 1 then _ else d 1)=0;rw[atR h1s];exact h1.droot
   ·show(if I7 n.num then _ else d n.num)<=7;have hg:=(ax h1.sorted).2 ⟨hn,rfl⟩;have Nx:n.dir=true:=by
     cases Nx:n.dir with
     |true=>rfl
     |false=>exact absurd (h1.file n hn Nx).1 dZ
    by_cases hs:I7 n.num
    ·rw[atP hs];obtain⟨q,hq⟩:=hs;have e:=aci q n.num n hq hg Nx;have h7:=h1.deep n hn dZ;obtain⟨pe,sB⟩:=List.exists_mem_of_ne_nil _ dZ;have J0:aW (T.named o (fN s1)) j (q++[pe.1])=.ok pe.2:=gV.2 ⟨_,n,hq,hg,Nx,(cq (h1.snames n hn)).2 sB⟩;have h9:=TL h _ 9 j _ (zn Wq _ j _ J0) (by simp;omega);simp only[at0,atH,auV]at h9;have:=r.long;omega
    ·rw[atR hs];exact h1.deep n hn dZ
   ·have dZ:n.names≠[]:=List.ne_nil_of_mem hp;have hg:=(ax h1.sorted).2 ⟨hn,rfl⟩;have hgm:=(ax h1.sorted).2 ⟨hm,Ns⟩;have Nx:n.dir=true:=by
     cases Nx:n.dir with
     |true=>rfl
     |false=>exact absurd (h1.file n hn Nx).1 dZ
    have hde:=h1.depth n hn p hp m hm Ns nY;show(if I7 p.2 then _ else d p.2)=(if I7 n.num then _ else d n.num)+1;by_cases hs:I7 n.num
    ·have lh:I7 p.2:=by
      obtain⟨q,hq⟩:=hs;exact⟨q++[p.1],gV.2 ⟨_,n,hq,hg,Nx,(cq (h1.snames n hn)).2 hp⟩⟩
     rw[atP hs,atP lh];obtain⟨q,hq⟩:=hs;have e:=aci q n.num n hq hg Nx;omega
    ·have lh:¬ I7 p.2:=by
      rintro⟨q,hq⟩;rcases fD q with rfl|⟨q',s,rfl⟩
      ·have e:j=p.2:=by simpa[aW]using hq
       exact ad9 n hn p hp e.symm
      ·obtain⟨y,ny,hqy,hy,_,hys⟩:=gV.1 hq;obtain⟨Oc,hyn⟩:=(ax h1.sorted).1 hy;have tB:=(cq (h1.snames ny Oc)).1 hys;have hc:jS (T.named o (fN s1)) p.2<=1:=by
        have mM:m.num≠1:=by rw[Ns];exact(h1.closed n hn p hp).1
        have hc:=h1.count m hm mM;have:=hc.2.2 nY;have:=hc.1;rw[Ns,atR (fun e=>ad9 n hn p hp e.symm)]at this;omega
       obtain⟨e1,_⟩:=vQ h1 hc Oc hn tB hp rfl rfl;exact hs ⟨q',by rw[hqy,<-hyn,e1]⟩
     rw[atR hs,atR lh];exact hde
  refine⟨d',fin d' hw ?_ fun _=>?_⟩
  ·show(if I7 k then _ else d k)<=7;rw[atR hk,r.dk];exact pk
  ·show(if I7 j then _ else d j)=(if I7 k then _ else d k)+1;rw[atP hj,atR hk,r.dk];omega
 ·exact⟨d,fin d h1 (by rw[r.dk];exact pk) (fun e=>absurd (dj'▸e) hd)⟩
theorem Gj (h:WF T d)(c:bT):∃ d',WF (cd T c).1 d':=by
 rcases KU h c with⟨e,he,_⟩|⟨p1,s1,o,p2,s2,k,j,J2,JS,nj,r,he⟩
 ·rw[he];exact⟨d,h⟩
 ·rw[he];exact Yc h r
theorem Pd {c:bT}(h:c.ok=true):0<=c.pos/\c.pos<=16384:=by
 obtain⟨h9,hf,hb⟩:=oH h;have hk:=X9 h9;by_cases h23:c.k=2\/c.k=3
 ·have:=hf 3 (by rcases h23 with e|e<;>rw[e]<;>simp[fieldsOf]);simpa[bT.fieldOk]using this
 ·have:c.pos=0:=by
   rw[<-hb];rcases(by omega:c.k=0\/c.k=1\/c.k=4\/c.k=5\/c.k=6\/c.k=7\/c.k=8)with e|e|e|e|e|e|e<;>rw[e]<;>rfl
  omega
theorem Js {c:bT}(h:c.ok=true):c.data.length<=512/\(c.kind≠2->c.data=[]):=by
 obtain⟨h9,hf,hb⟩:=oH h;have hk:=X9 h9;by_cases h2:c.k=2
 ·have:=hf 4 (by rw[h2];simp[fieldsOf]);refine⟨by simpa[bT.fieldOk]using this,fun h=>?_⟩;rw[hk,h2]at h;exact absurd rfl h
 ·have:c.data=[]:=by
   rw[<-hb];rcases(by omega:c.k=0\/c.k=1\/c.k=3\/c.k=4\/c.k=5\/c.k=6\/c.k=7\/c.k=8)with e|e|e|e|e|e|e|e<;>rw[e]<;>rfl
  exact⟨by rw[this];simp,fun _=>this⟩
theorem Pe (h:WF T d)(c:bT):∃ d',WF (qy T c).1 d':=by
 unfold qy;by_cases cC:c.ok=false
 ·rw[atP cC];exact⟨d,h⟩
 ·rw[atR cC];have cC:c.ok=true:=by simpa using cC
  split
  ·exact O9 h c
  ·split
   ·exact⟨d,KT h c (Pd cC).1 (Js cC).2⟩
   ·split
    ·exact⟨d,Pa h c⟩
    ·split
     ·exact Gj h c
     ·split
      ·exact⟨d,Gg h c⟩
      ·exact⟨d,h⟩
end
end
end
end Go.Proofs.YtkghpdcloaiflaaGreatDoor
