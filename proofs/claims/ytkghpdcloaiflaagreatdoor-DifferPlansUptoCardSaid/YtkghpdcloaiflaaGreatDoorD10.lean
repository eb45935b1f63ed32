import Derived.Test.YtkghpdcloaiflaaGreatDoorD09
namespace Go.Proofs.YtkghpdcloaiflaaGreatDoor
open _root_.Go.Proofs.Tryz
section
section
open Go.RowKit
abbrev Nm:=List (List UInt8×Int)
abbrev fU (s:List UInt8)(l:Nm):Nm:=gm s l
abbrev me (s:List UInt8)(k:Int)(l:Nm):Nm:=eA bytesBefore s k l
abbrev jR (s:List UInt8)(l:Nm):Option Int:=bE s l
structure Nd where
 num:Int
 dir:Bool
 links:Int
 data:List UInt8
 names:Nm
abbrev Tr:=List Nd
def Tr.get (T:Tr)(k:Int):Option Nd:=T.find? fun n=>n.num==k
def Tr.upd (T:Tr)(k:Int)(f:Nd->Nd):Tr:=T.map fun x=>if x.num==k then f x else x
def Tr.add (n:Nd):Tr->Tr
 |[]=>[n]
 |y::r=>if n.num<y.num then n::y::r else y::Tr.add n r
def Tr.drop (T:Tr)(k:Int):Tr:=T.filter fun n=>!(n.num==k)
def Tr.new:Tr:=[⟨1,true,1,[],[]⟩]
def bd (T:Tr):Int->List (List UInt8)->Except Int Int
 |k,[]=>.ok k
 |k,s::r=>match T.get k with
  |none=>.error 141
  |some n=>if n.dir=true then(match jR s n.names with|none=>.error 141|some j=>bd T j r)else .error 143
def zF (T:Tr)(path:List UInt8):Except Int Int:=match bo path with
 |none=>.error 140
 |some l=>bd T 1 l
def gB (T:Tr)(path:List UInt8):Except Int (Int×List UInt8):=
 let l:=(bo path).getD []
 if l=[]then .error 142 else match bd T 1 l.dropLast with
  | .error e=>.error e
  | .ok k=>match T.get k with
   |none=>.error 141
   |some up=>if up.dir=false then .error 143 else if(jR (l.getLastD []) up.names).isSome=true then .error 142 else if 60<=up.names.length then .error 145 else .ok (k,l.getLastD [])
def ee (T:Tr):Nat->Int->Int
 |0,k=>k
 |f+1,k=>if(T.get k).isSome=true then ee T f (k+1)else k
def Tr.named (T:Tr)(k:Int)(f:Nm->Nm):Tr:=T.upd k fun n=>{ n with names:=f n.names }
def gp (T:Tr)(c:bU):Tr×Int:=match gB T c.path with
 | .error e=>(T,e)
 | .ok (k,s)=>if 60<=T.length then(T,145)else
  let num:=ee T T.length 2
  ((Tr.add ⟨num,c.kind==1,1,[],[]⟩ T).named k (me s num),0)
def oz (c:bU)(d:List UInt8):List UInt8:=
 let s:=d.take c.pos.toNat++c.data
 if c.kind=2/\s.length<d.length then s++d.drop s.length else s
def dT (T:Tr)(c:bU):Tr×Int:=match zF T c.path with
 | .error e=>(T,e)
 | .ok k=>match T.get k with
  |none=>(T,141)
  |some n=>if n.dir=true then(T,143)else if(n.data.length:Int)<c.pos\/c.kind=2/\16384<c.pos+c.data.length then(T,145)else
   (T.upd k fun n=>{ n with data:=oz c n.data },0)
def ja (T:Tr)(c:bU):Tr×Int:=match zF T c.path with
 | .error e=>(T,e)
 | .ok j=>match T.get j with
  |none=>(T,141)
  |some n=>if n.dir=true then(T,143)else match gB T c.dest with
   | .error e=>(T,e)
   | .ok (k,s)=>((T.named k (me s j)).upd j fun n=>{ n with links:=n.links+1 },0)
def fI (T:Tr):Nat->Int->Nat
 |0,_=>0
 |f+1,k=>match T.get k with
  |none=>0
  |some n=>n.names.foldl (fun m p=>max m (1+fI T f p.2)) 0
def cl (T:Tr)(c:bU):Tr×Int:=if c.path=[47]then(T,144)else match zF T c.path with
 | .error e=>(T,e)
 | .ok j=>if Lib.hasPrefix c.dest (c.path++[47])=true then(T,144)else match gB T c.dest with
  | .error e=>(T,e)
  | .ok (k,s)=>if 8<((bo c.dest).getD []).length+fI T 9 j then(T,145)else
   let l:=(bo c.path).getD []
   match bd T 1 l.dropLast with
   | .error e=>(T,e)
   | .ok o=>((T.named o (fU (l.getLastD []))).named k (me s j),0)
def dL (T:Tr)(c:bU):Tr×Int:=if c.path=[47]then(T,144)else match zF T c.path with
 | .error e=>(T,e)
 | .ok j=>match T.get j with
  |none=>(T,141)
  |some n=>if n.names≠[]then(T,144)else
   let l:=(bo c.path).getD []
   match bd T 1 l.dropLast with
   | .error e=>(T,e)
   | .ok o=>
    let T':=T.named o (fU (l.getLastD []))
    (if n.links=1 then T'.drop j else T'.upd j fun n=>{ n with links:=n.links-1 },0)
def qM (T:Tr)(c:bU):Tr×Int:=if c.ok=false then(T,1)else
 if c.kind=0\/c.kind=1 then gp T c else if c.kind=2\/c.kind=3 then dT T c else if c.kind=4 then ja T c else if c.kind=5 then cl T c else if c.kind=6 then dL T c else(T,1)
def aM (n:Nat):List UInt8:=if h:n<128 then [UInt8.ofNat n]else UInt8.ofNat (n%128+128)::aM (n/128)
 termination_by n
 decreasing_by omega
def lQ (p:List UInt8×Int):List UInt8:=aM p.1.length++p.1++aM p.2.toNat
def mg (l:Nm):List UInt8:=aM l.length++l.flatMap lQ
def wg (was:Option (List UInt8))(p:List UInt8×Int):Bool:=aG p.1&&(match was with|none=>true|some s=>bytesBefore s p.1)&&decide (1<=p.2)&&decide (p.2<=65535)
def gd:Option (List UInt8)->Nm->Bool
 |_,[]=>true
 |was,p::r=>wg was p&&gd (some p.1) r
def oV (l:Nm):Bool:=decide (l.length<=4096)&&gd none l
structure Nt where
 num:Int
 dir:Bool
 links:Int
 data:List UInt8
deriving DecidableEq
def Nd.told (n:Nd):Nt:=⟨n.num,n.dir,n.links,if n.dir=true then mg n.names else n.data⟩
def ar (T:Tr):List Nt:=T.map Nd.told
end
section
open Go.RowKit
section
variable {T:Tr}
abbrev dg (T:Tr):Prop:=T.Pairwise fun a b=>a.num<b.num
theorem ax (hs:dg T){k:Int}{n:Nd}:T.get k=some n↔n∈T/\n.num=k:=by
 unfold Tr.get
 induction T with
 |nil=>simp
 |cons y r ih=>
  obtain⟨h1,h2⟩:=avQ.1 hs;rw[List.find?_cons];by_cases h:y.num=k
  ·rw[avq.2 h]
   constructor
   ·intro e;obtain rfl:=avR e;exact⟨by simp,h⟩
   ·rintro⟨hm,hk⟩;rcases au8.1 hm with rfl|hm
    ·rfl
    ·have:=h1 n hm;omega
  ·rw[av3 h];show List.find? _ r=some n↔_;rw[ih h2]
   constructor
   ·rintro⟨hm,hk⟩;exact⟨by simp[hm],hk⟩
   ·rintro⟨hm,hk⟩;rcases au8.1 hm with rfl|hm
    ·exact absurd hk h
    ·exact⟨hm,hk⟩
theorem jC {k:Int}:T.get k=none↔∀ n∈T,n.num≠k:=by
 unfold Tr.get;rw[avL];simp
theorem lR (hs:dg T){a b:Nd}(ha:a∈T)(hb:b∈T)(h:a.num=b.num):a=b:=
 avR (((ax hs).2 ⟨ha,h⟩).symm.trans ((ax hs).2 ⟨hb,rfl⟩))
theorem oW {k:Int}{f:Nd->Nd}(hf:∀ n,(f n).num=n.num):(T.upd k f).map (·.num)=T.map (·.num):=by
 unfold Tr.upd;rw[avb];refine avc fun n _=>?_;show(if n.num==k then f n else n).num=n.num;split
 ·exact hf n
 ·rfl
theorem qN {T:Tr}:dg T↔(T.map (·.num)).Pairwise (·<·):=by rw[List.pairwise_map]
theorem jb {k:Int}{f:Nd->Nd}(hf:∀ n,(f n).num=n.num)(hs:dg T):dg (T.upd k f):=by
 rw[qN,oW hf];exact qN.1 hs
theorem JL {k:Int}{f:Nd->Nd}:(T.upd k f).length=T.length:=by simp[Tr.upd]
theorem uZ {k:Int}{f:Nd->Nd}{m:Nd}:m∈T.upd k f↔∃ n∈T,(if n.num==k then f n else n)=m:=by simp[Tr.upd]
theorem Ut {k j:Int}{f:Nd->Nd}(hf:∀ n,(f n).num=n.num):(T.upd k f).get j=if j=k then(T.get j).map f else T.get j:=by
 unfold Tr.get Tr.upd
 induction T with
 |nil=>simp
 |cons y r ih=>
  rw[auJ,List.find?_cons,List.find?_cons];by_cases hy:y.num=k
  ·rw[avq.2 hy];simp only[if_true,hf];by_cases hj:y.num=j
   ·rw[avq.2 hj,auT (by omega)];rfl
   ·rw[av3 hj];exact ih
  ·rw[av3 hy];simp only[Bool.false_eq_true,if_false];by_cases hj:y.num=j
   ·rw[avq.2 hj,auV (by omega)]
   ·rw[av3 hj];exact ih
theorem dq {n m:Nd}:m∈Tr.add n T↔m=n\/m∈T:=by
 induction T with
 |nil=>simp[Tr.add]
 |cons y r ih=>
  unfold Tr.add;split
  ·simp
  ·simp[ih];constructor
   ·rintro(h|h|h)<;>simp[h]
   ·rintro(h|h|h)<;>simp[h]
theorem kS {n:Nd}(hs:dg T)(hn:∀ m∈T,m.num≠n.num):dg (Tr.add n T):=by
 induction T with
 |nil=>simp[Tr.add]
 |cons y r ih=>
  obtain⟨h1,h2⟩:=avQ.1 hs;unfold Tr.add;split
  ·rename_i h
   refine avQ.2 ⟨fun m hm=>?_,hs⟩;rcases au8.1 hm with rfl|hm
   ·exact h
   ·have:=h1 m hm;omega
  ·rename_i h
   have:=hn y (by simp);refine avQ.2 ⟨fun m hm=>?_,ih h2 fun m hm=>hn m (by simp[hm])⟩;rcases dq.1 hm with rfl|hm
   ·omega
   ·exact h1 m hm
theorem Uu {n:Nd}:(Tr.add n T).length=T.length+1:=by
 induction T with
 |nil=>rfl
 |cons y r ih=>
  unfold Tr.add;split
  ·simp
  ·simp[ih]
theorem u9 {n:Nd}(hs:dg T)(hn:∀ m∈T,m.num≠n.num)(k:Int):(Tr.add n T).get k=if k=n.num then some n else T.get k:=by
 by_cases h:k=n.num
 ·subst h;rw[auT rfl];exact(ax (kS hs hn)).2 ⟨dq.2 (.inl rfl),rfl⟩
 ·rw[auV h]
  cases hg:T.get k with
  |none=>
   rw[jC]at hg ⊢;intro m hm;rcases dq.1 hm with rfl|hm
   ·exact fun e=>h e.symm
   ·exact hg m hm
  |some m=>
   obtain⟨hm,hk⟩:=(ax hs).1 hg;exact(ax (kS hs hn)).2 ⟨dq.2 (.inr hm),hk⟩
theorem cR {k:Int}{m:Nd}:m∈T.drop k↔m∈T/\m.num≠k:=by simp[Tr.drop]
theorem Di {k:Int}(hs:dg T):dg (T.drop k):=hs.filter _
def gC (l:Nm)(j:Int):Nat:=l.countP fun p=>p.2==j
def kg (T:Tr)(j:Int):Nat:=(T.map fun n=>gC n.names j).sum
theorem JM {k:Int}{f:Nd->Nd}(hs:dg T){n:Nd}(hn:n∈T)(hk:n.num=k)(j:Int):kg (T.upd k f) j+gC n.names j=kg T j+gC (f n).names j:=by
 unfold kg Tr.upd;rw[avb]
 induction T with
 |nil=>cases hn
 |cons y r ih=>
  obtain⟨h1,h2⟩:=avQ.1 hs;simp only[auJ,auK,Function.comp];rcases au8.1 hn with rfl|hm
  ·have e2:(r.map ((fun n=>gC n.names j)∘fun x=>if(x.num==k)=true then f x else x))=r.map fun n=>gC n.names j:=by
    refine avc fun m hm=>?_;have:=h1 m hm;simp only[Function.comp];rw[auV (by simp;omega)]
   have e3:(if(n.num==k)=true then f n else n)=f n:=auT (avq.2 hk);rw[e3];have e4:=avZ List.sum e2;simp only[Function.comp_def]at e4 ⊢;omega
  ·have:=h1 n hm;have e3:(if(y.num==k)=true then f y else y)=y:=auV (by simp;omega);rw[e3];have:=ih h2 hm;simp only[Function.comp_def]at this ⊢;omega
theorem Uv {n:Nd}(j:Int):kg (Tr.add n T) j=gC n.names j+kg T j:=by
 induction T with
 |nil=>simp[kg,Tr.add]
 |cons y r ih=>
  unfold Tr.add;split
  ·simp[kg]
  ·unfold kg at*;simp only[auJ,auK];rw[ih];omega
theorem wh {n:Nd}(hs:dg T)(hn:n∈T)(j:Int):kg (T.drop n.num) j+gC n.names j=kg T j:=by
 unfold kg Tr.drop
 induction T with
 |nil=>cases hn
 |cons y r ih=>
  obtain⟨h1,h2⟩:=avQ.1 hs;rw[avY];rcases au8.1 hn with rfl|hm
  ·rw[avq.2 rfl];have e:r.filter (fun m=>!(m.num==n.num))=r:=List.filter_eq_self.2 fun m hm=>by
    have:=h1 m hm;rw[av3 (by omega)];rfl
   simp only[Bool.not_true,Bool.false_eq_true,if_false];rw[e];simp only[auJ,auK];omega
  ·have:=h1 n hm;rw[av3 (by omega)];simp only[Bool.not_false,if_true,auJ,auK];have:=ih h2 hm;omega
end
section
variable {l:Nm}
abbrev fq (l:Nm):Prop:=l.Pairwise fun a b=>bytesBefore a.1 b.1=true
theorem Dj {x p:List UInt8×Int}:p∈jP bytesBefore x l↔p=x\/p∈l:=by
 induction l with
 |nil=>simp[jP]
 |cons y r ih=>
  unfold jP;split
  ·simp
  ·simp[ih];constructor
   ·rintro(h|h|h)<;>simp[h]
   ·rintro(h|h|h)<;>simp[h]
theorem kT {s:List UInt8}{p:List UInt8×Int}:p∈gm s l↔p∈l/\p.1≠s:=by simp[gm]
theorem Px {s:List UInt8}{k:Int}{p:List UInt8×Int}:p∈eA bytesBefore s k l↔p=(s,k)\/(p∈l/\p.1≠s):=by
 unfold eA;rw[Dj,kT]
theorem Dl {x:List UInt8×Int}(hs:fq l)(hx:∀ p∈l,p.1≠x.1):fq (jP bytesBefore x l):=by
 induction l with
 |nil=>simp[jP]
 |cons y r ih=>
  obtain⟨h1,h2⟩:=avQ.1 hs;unfold jP;split
  ·rename_i h
   refine avQ.2 ⟨fun m hm=>?_,hs⟩;rcases au8.1 hm with rfl|hm
   ·exact h
   ·exact WideShapes.bytes_trans _ _ _ h (h1 m hm)
  ·rename_i h
   have hy:=hx y (by simp);refine avQ.2 ⟨fun m hm=>?_,ih h2 fun m hm=>hx m (by simp[hm])⟩;rcases Dj.1 hm with rfl|hm
   ·rcases WideAt.bytes_total _ _ hy with h'|h'
    ·exact h'
    ·exact absurd h' h
   ·exact h1 m hm
theorem oX {s:List UInt8}(hs:fq l):fq (gm s l):=hs.filter _
theorem Dm {s:List UInt8}{k:Int}(hs:fq l):fq (eA bytesBefore s k l):=
 Dl (oX hs) fun _ hp=>(kT.1 hp).2
theorem wi (hs:fq l){a b:List UInt8×Int}(ha:a∈l)(hb:b∈l)(h:a.1=b.1):a=b:=by
 induction l with
 |nil=>cases ha
 |cons y r ih=>
  obtain⟨h1,h2⟩:=avQ.1 hs;have irr:∀ m∈r,y.1≠m.1:=fun m hm e=>by
   have:=h1 m hm;rw[e,WideAt.bytes_irrefl]at this;cases this
  rcases au8.1 ha with e1|ha1<;>rcases au8.1 hb with e2|hb1
  ·rw[e1,e2]
  ·exact absurd (e1▸h) (irr b hb1)
  ·exact absurd (e2▸h.symm) (irr a ha1)
  ·exact ih h2 ha1 hb1
theorem cA (hs:fq l){s:List UInt8}{k:Int}:bE s l=some k↔(s,k)∈l:=by
 unfold bE
 constructor
 ·intro h;obtain⟨p,hp,rfl⟩:=avX.1 h;have h1:=avI hp;have h2:=avJ hp;rw[<-avq.1 h1];exact h2
 ·intro h
  cases hf:l.find? fun p=>p.1==s with
  |none=>exact absurd (avL.1 hf _ h) (by simp)
  |some p=>
   have h1:=avI hf;have h2:=avJ hf;have:=wi hs h2 h (avq.1 h1);subst this;rfl
theorem mC {s:List UInt8}:bE s l=none↔∀ p∈l,p.1≠s:=by
 unfold bE;rw[Option.map_eq_none_iff,avL];simp
theorem zG {s:List UInt8}(h:bE s l=none):gm s l=l:=by
 rw[mC]at h;exact List.filter_eq_self.2 fun p hp=>by rw[av3 (h p hp)];rfl
theorem Py {s:List UInt8}{k:Int}:(eA bytesBefore s k l).length=(gm s l).length+1:=CW _ _
theorem Ln {x:List UInt8×Int}(j:Int):gC (jP bytesBefore x l) j=gC l j+(if x.2=j then 1 else 0):=by
 unfold gC
 induction l with
 |nil=>simp[jP,List.countP_cons]
 |cons y r ih=>
  unfold jP;split
  ·rw[List.countP_cons];simp
  ·rw[List.countP_cons,List.countP_cons,ih];omega
theorem Pz {s:List UInt8}{k:Int}(h:bE s l=none)(j:Int):gC (eA bytesBefore s k l) j=gC l j+(if k=j then 1 else 0):=by
 unfold eA;rw[zG h,Ln]
theorem Dn (hs:fq l){s:List UInt8}{k:Int}(h:bE s l=some k)(j:Int):gC (gm s l) j+(if k=j then 1 else 0)=gC l j:=by
 have hm:=(cA hs).1 h;unfold gC gm;clear h
 induction l with
 |nil=>cases hm
 |cons y r ih=>
  obtain⟨h1,h2⟩:=avQ.1 hs;rw[avY,List.countP_cons];rcases au8.1 hm with rfl|hm
  ·have e:r.filter (fun p=>!(p.1==s))=r:=List.filter_eq_self.2 fun p hp=>by
    have:=h1 p hp;rw[av3 (fun e=>by rw[e,WideAt.bytes_irrefl]at this;cases this)];rfl
   simp only[beq_self_eq_true,Bool.not_true,Bool.false_eq_true,if_false];rw[e];simp
  ·have h3:=h1 _ hm;rw[av3 (fun e=>by rw[e,WideAt.bytes_irrefl]at h3;cases h3)];simp only[Bool.not_false,if_true];rw[List.countP_cons];have:=ih h2 hm;omega
end
structure ng (T:Tr)(d:Int->Nat)(off:Int->Int):Prop where
 sorted:dg T
 nums:∀ n∈T,1<=n.num/\n.num<=65535
 root:∃ r∈T,r.num=1/\r.dir=true/\r.links=1
 many:T.length<=60
 file:∀ n∈T,n.dir=false->n.names=[]/\n.data.length<=16384
 dirs:∀ n∈T,n.dir=true->n.data=[]
 snames:∀ n∈T,fq n.names
 names:∀ n∈T,n.names.length<=60/\∀ p∈n.names,aG p.1=true
 closed:∀ n∈T,∀ p∈n.names,p.2≠1/\∃ m∈T,m.num=p.2
 count:∀ n∈T,n.num≠1->(kg T n.num:Int)+off n.num=n.links/\1<=n.links/\(n.dir=true->n.links=1)
 droot:d 1=0
 deep:∀ n∈T,n.names≠[]->d n.num<=7
 depth:∀ n∈T,∀ p∈n.names,∀ m∈T,m.num=p.2->m.dir=true->d p.2=d n.num+1
abbrev WF (T:Tr)(d:Int->Nat):Prop:=ng T d (fun _=>0)
section
variable {T:Tr}{d:Int->Nat}{off:Int->Int}
theorem GC:WF Tr.new (fun _=>0) where
 sorted:=by simp[Tr.new]
 nums:=by simp[Tr.new]
 root:=⟨_,by simp[Tr.new];rfl,rfl,rfl,rfl⟩
 many:=by simp[Tr.new]
 file:=by simp[Tr.new]
 dirs:=by simp[Tr.new]
 snames:=by simp[Tr.new]
 names:=by simp[Tr.new]
 closed:=by simp[Tr.new]
 count:=by simp[Tr.new]
 droot:=rfl
 deep:=by simp
 depth:=by simp[Tr.new]
theorem ng.get1 (h:ng T d off):∃ r,T.get 1=some r/\r.dir=true:=by
 obtain⟨r,hr,h1,h2,_⟩:=h.root;exact⟨r,(ax h.sorted).2 ⟨hr,h1⟩,h2⟩
theorem vd (h:ng T d off):∀(l:List (List UInt8)) (j k:Int),(∃ n∈T,n.num=j)->bd T j l=.ok k->(∃ n∈T,n.num=k)/\(∀ n,T.get j=some n->n.dir=true->∀ m,T.get k=some m->m.dir=true->d k=d j+l.length):=by
 intro l
 induction l with
 |nil=>
  intro j k hj hf;have e:j=k:=by simpa[bd]using hf
  subst e;exact⟨hj,fun _ _ _ _ _ _=>by simp⟩
 |cons s r ih=>
  intro j k hj hf;unfold bd at hf;split at hf
  ·cases hf
  ·rename_i n hn
   split at hf
   ·rename_i hd
    split at hf
    ·cases hf
    ·rename_i i hi
     obtain⟨hm,hk⟩:=(ax h.sorted).1 hn;have hp:=(cA (h.snames n hm)).1 hi;obtain⟨dZ,m,hmT,KO⟩:=h.closed n hm _ hp;obtain⟨h1,h2⟩:=ih i k ⟨m,hmT,KO⟩ hf;refine⟨h1,fun n' Wm hd' x hx nk=>?_⟩;have hgm:=(ax h.sorted).2 ⟨hmT,KO⟩;by_cases oy:m.dir=true
     ·have:=h2 m hgm oy x hx nk;have e:=h.depth n hm _ hp m hmT KO oy;rw[<-hk];simp only[auL];simp only at e;omega
     ·
      cases r with
      |nil=>
       have e:i=k:=by simpa[bd]using hf
       subst e;rw[hgm]at hx;obtain rfl:=avR hx;exact absurd nk oy
      |cons s2 r2=>
       unfold bd at hf;rw[hgm]at hf;simp[oy]at hf
   ·cases hf
theorem ky (k:Int)(s:List UInt8)(r:List (List UInt8)):bd T k (s::r)=match T.get k with
  |none=>.error 141
  |some n=>if n.dir=true then(match jR s n.names with|none=>.error 141|some j=>bd T j r)else .error 143:=rfl
theorem ue (p q:List (List UInt8)):∀ j,bd T j (p++q)=match bd T j p with | .ok y=>bd T y q | .error e=>.error e:=by
 induction p with
 |nil=>intro j;rfl
 |cons s r ih=>
  intro j;rw[avr,ky,ky]
  cases T.get j with
  |none=>rfl
  |some n=>
   by_cases hd:n.dir=true
   ·simp only[hd,if_true]
    cases hn:jR s n.names with
    |none=>rfl
    |some i=>exact ih i
   ·simp only[hd];rfl
theorem ij {j x:Int}{p:List (List UInt8)}{s:List UInt8}:bd T j (p++[s])=.ok x↔∃ y n,bd T j p=.ok y/\T.get y=some n/\n.dir=true/\jR s n.names=some x:=by
 rw[ue]
 cases hp:bd T j p with
 |error e=>simp
 |ok y=>
  simp only[bd]
  cases hg:T.get y with
  |none=>simp[hg]
  |some n=>
   by_cases hd:n.dir=true
   ·simp only[hd,if_true]
    cases hn:jR s n.names with
    |none=>simp[hg,hn]
    |some i=>simp[hg,hn,hd]
   ·simp only[hd];simp[hg,hd]
theorem Do (h:ng T d off){k:Int}(hk:∀ m∈T,m.num≠k){n:Nd}(hn:n∈T){p:List UInt8×Int}(hp:p∈n.names):p.2≠k:=by
 obtain⟨_,m,hm,e⟩:=h.closed n hn p hp;exact fun e2=>hk m hm (e.trans e2)
theorem PA {j:Int}(h:∀ n∈T,∀ p∈n.names,p.2≠j):kg T j=0:=by
 unfold kg;rw[List.sum_eq_zero_iff_forall_eq_nat];intro x hx;obtain⟨n,hn,rfl⟩:=avh.1 hx;unfold gC;rw[List.countP_eq_zero];intro p hp e;exact h n hn p hp (avq.1 e)
theorem A4 {j:Int}{n:Nd}(hn:n∈T){p:List UInt8×Int}(hp:p∈n.names)(e:p.2=j):1<=kg T j:=by
 rcases Nat.eq_zero_or_pos (kg T j)with h|h
 ·unfold kg at h;rw[List.sum_eq_zero_iff_forall_eq_nat]at h;have:=h _ (avh.2 ⟨n,hn,rfl⟩);unfold gC at this;rw[List.countP_eq_zero]at this;exact absurd (avq.2 e) (this p hp)
 ·exact h
theorem Dp (h:ng T d off){k:Int}{up:Nd}{f:Nm->Nm}{Ck:Int->Int}(hk:T.get k=some up)(hd:up.dir=true)(Hs:fq (f up.names))(Hl:(f up.names).length<=60)
  (Hp:∀ p∈f up.names,p∈up.names\/(aG p.1=true/\p.2≠1/\∃ nj,T.get p.2=some nj/\(nj.dir=true->d p.2=d k+1))) (H7:f up.names≠[]->d k<=7)
  (Hc:∀ x,(gC (f up.names) x:Int)+Ck x=gC up.names x+off x):ng (T.named k f) d Ck:=by
 obtain⟨vu,rm⟩:=(ax h.sorted).1 hk;have hf:∀ n:Nd,({ n with names:=f n.names }:Nd).num=n.num:=fun _=>rfl;have hex:∀ x,(∃ m∈T.named k f,m.num=x)↔∃ m∈T,m.num=x:=fun x=>by
  have e:=oW (T:=T) (k:=k) hf;have:x∈(T.named k f).map (·.num)↔x∈T.map (·.num):=by unfold Tr.named;rw[e]
  simpa using this
 have fi:∀ m∈T.named k f,∃ n∈T,n.num=m.num/\n.dir=m.dir/\n.links=m.links/\n.data=m.data/\((n.num≠k/\m.names=n.names)\/(n=up/\m.names=f up.names)):=by
  intro m hm;obtain⟨n,hn,rfl⟩:=uZ.1 hm;refine⟨n,hn,?_⟩;by_cases e:n.num=k
  ·rw[auT (avq.2 e)];have e2:=lR h.sorted hn vu (by omega);exact⟨rfl,rfl,rfl,rfl,.inr ⟨e2,by rw[<-e2]⟩⟩
  ·rw[auV (by simpa using e)];exact⟨rfl,rfl,rfl,rfl,.inl ⟨e,rfl⟩⟩
 refine⟨jb hf h.sorted,?_,?_,by unfold Tr.named;rw[JL];exact h.many,?_,?_,?_,?_,?_,?_,h.droot,?_,?_⟩
 ·intro m hm;obtain⟨n,hn,e,_⟩:=fi m hm;rw[<-e];exact h.nums n hn
 ·obtain⟨r,hr,h1,h2,h3⟩:=h.root;obtain⟨m,hm,e⟩:=(hex 1).2 ⟨r,hr,h1⟩;obtain⟨n,hn,e1,e2,e3,_⟩:=fi m hm;have e6:=lR h.sorted hn hr (by omega);exact⟨m,hm,e,by rw[<-e2,e6];exact h2,by rw[<-e3,e6];exact h3⟩
 ·intro m hm oy;obtain⟨n,hn,e1,e2,e3,e4,e5⟩:=fi m hm;rw[<-e2]at oy;rw[<-e4];have:=h.file n hn oy;rcases e5 with⟨_,e5⟩|⟨e6,_⟩
  ·rw[e5];exact this
  ·rw[e6,hd]at oy;cases oy
 ·intro m hm oy;obtain⟨n,hn,e1,e2,e3,e4,e5⟩:=fi m hm;rw[<-e4];exact h.dirs n hn (e2.trans oy)
 ·intro m hm;obtain⟨n,hn,e1,e2,e3,e4,⟨_,e5⟩|⟨_,e5⟩⟩:=fi m hm<;>rw[e5]
  ·exact h.snames n hn
  ·exact Hs
 ·intro m hm;obtain⟨n,hn,e1,e2,e3,e4,⟨_,e5⟩|⟨_,e5⟩⟩:=fi m hm<;>rw[e5]
  ·exact h.names n hn
  ·refine⟨Hl,fun p hp=>?_⟩;rcases Hp p hp with hp|hp
   ·exact(h.names up vu).2 p hp
   ·exact hp.1
 ·intro m hm p hp;rw[hex];obtain⟨n,hn,e1,e2,e3,e4,⟨_,e5⟩|⟨_,e5⟩⟩:=fi m hm<;>rw[e5]at hp
  ·exact h.closed n hn p hp
  ·rcases Hp p hp with hp|⟨_,h1,nj,Kt,_⟩
   ·exact h.closed up vu p hp
   ·obtain⟨a,b⟩:=(ax h.sorted).1 Kt;exact⟨h1,nj,a,b⟩
 ·intro m hm h1;obtain⟨n,hn,e1,e2,e3,e4,_⟩:=fi m hm;have:=h.count n hn (by rw[e1];exact h1);have hc:kg (T.named k f) m.num+gC up.names m.num=kg T m.num+gC (f up.names) m.num:=JM (f:=fun n=>{ n with names:=f n.names }) h.sorted vu rm m.num;have hp:=Hc m.num;rw[<-e2,<-e3];refine⟨?_,this.2⟩;have t1:=this.1;rw[e1]at t1;omega
 ·intro m hm dZ;obtain⟨n,hn,e1,e2,e3,e4,⟨_,e5⟩|⟨e6,e5⟩⟩:=fi m hm
  ·rw[e5]at dZ;rw[<-e1];exact h.deep n hn dZ
  ·rw[<-e1,e6,rm];rw[e5]at dZ;exact H7 dZ
 ·intro m hm p hp x hx Ox nk;obtain⟨nx,pD,f1,f2,_⟩:=fi x hx;obtain⟨n,hn,e1,e2,e3,e4,e5⟩:=fi m hm;rw[<-e1];rcases e5 with⟨_,e5⟩|⟨e6,e5⟩
  ·rw[e5]at hp;exact h.depth n hn p hp nx pD (f1.trans Ox) (f2.trans nk)
  ·rw[e5]at hp;rcases Hp p hp with hp|⟨_,_,nj,Kt,hdj⟩
   ·rw[e6];exact h.depth up vu p hp nx pD (f1.trans Ox) (f2.trans nk)
   ·have e7:nx=nj:=avR (((ax h.sorted).2 ⟨pD,f1.trans Ox⟩).symm.trans Kt);rw[e6,rm];exact hdj (by rw[<-e7];exact f2.trans nk)
theorem GD (h:ng T d off){k j:Int}{s:List UInt8}{up:Nd}(hk:T.get k=some up)(hd:up.dir=true)(hs:jR s up.names=none)(hl:up.names.length<60)(cg:aG s=true)
  (hj:j≠1) {nj:Nd} (Kt:T.get j=some nj) (h7:d k<=7) (hdj:nj.dir=true->d j=d k+1):ng (T.named k (me s j)) d (fun x=>off x-if j=x then 1 else 0):=by
 obtain⟨vu,rm⟩:=(ax h.sorted).1 hk;refine Dp h hk hd (Dm (h.snames up vu)) (by rw[Py,zG hs];omega) (fun p hp=>?_) (fun _=>h7) (fun x=>?_)
 ·rcases Px.1 hp with rfl|⟨hp,_⟩
  ·exact .inr ⟨cg,hj,nj,Kt,hdj⟩
  ·exact .inl hp
 ·have h1:gC (me s j up.names) x=gC up.names x+(if j=x then 1 else 0):=Pz hs x;by_cases h2:j=x
  ·rw[auT h2]at h1;simp only[auT h2];omega
  ·rw[auV h2]at h1;simp only[auV h2];omega
theorem PE (h:ng T d off){k j:Int}{s:List UInt8}{up:Nd}(hk:T.get k=some up)(hs:jR s up.names=some j):ng (T.named k (fU s)) d (fun x=>off x+if j=x then 1 else 0):=by
 obtain⟨vu,rm⟩:=(ax h.sorted).1 hk;have tN:=(cA (h.snames up vu)).1 hs;have dZ:up.names≠[]:=List.ne_nil_of_mem tN;have hd:up.dir=true:=by
  cases hd:up.dir with
  |true=>rfl
  |false=>exact absurd (h.file up vu hd).1 dZ
 refine Dp h hk hd (oX (h.snames up vu)) (auI (rJ _ _) (h.names up vu).1) (fun p hp=>.inl (kT.1 hp).1) (fun _=>by rw[<-rm];exact h.deep up vu dZ) (fun x=>?_);have h1:gC (fU s up.names) x+(if j=x then 1 else 0)=gC up.names x:=Dn (h.snames up vu) hs x;by_cases h2:j=x
 ·rw[auT h2]at h1;simp only[auT h2];omega
 ·rw[auV h2]at h1;simp only[auV h2];omega
theorem GE (h:ng T d off){k:Int}{n0:Nd}{f:Nd->Nd}{Ck:Int->Int}(hk:T.get k=some n0)(hf:∀ n,(f n).num=n.num/\(f n).dir=n.dir/\(f n).names=n.names)
  (adl:n0.dir=false->(f n0).data.length<=16384) (akx:n0.dir=true->(f n0).data=[]) (ox:k=1->(f n0).links=n0.links)
  (Hc:k≠1->(f n0).links=n0.links+Ck k-off k/\1<=(f n0).links/\(n0.dir=true->(f n0).links=1)) (Ho:∀ n∈T,n.num≠k->Ck n.num=off n.num):ng (T.upd k f) d Ck:=by
 obtain⟨vu,rm⟩:=(ax h.sorted).1 hk;have SJ:∀ n,(f n).num=n.num:=fun n=>(hf n).1;have hex:∀ x,(∃ m∈T.upd k f,m.num=x)↔∃ m∈T,m.num=x:=fun x=>by
  have e:=oW (T:=T) (k:=k) SJ;have:x∈(T.upd k f).map (·.num)↔x∈T.map (·.num):=by rw[e]
  simpa using this
 have fi:∀ m∈T.upd k f,∃ n∈T,n.num=m.num/\n.dir=m.dir/\n.names=m.names/\((n.num≠k/\m.links=n.links/\m.data=n.data)\/(n=n0/\m.links=(f n0).links/\m.data=(f n0).data)):=by
  intro m hm;obtain⟨n,hn,rfl⟩:=uZ.1 hm;refine⟨n,hn,?_⟩;by_cases e:n.num=k
  ·rw[auT (avq.2 e)];have e2:=lR h.sorted hn vu (by omega);exact⟨(hf n).1.symm,(hf n).2.1.symm,(hf n).2.2.symm,.inr ⟨e2,by rw[e2],by rw[e2]⟩⟩
  ·rw[auV (by simpa using e)];exact⟨rfl,rfl,rfl,.inl ⟨e,rfl,rfl⟩⟩
 have TA:∀ x,kg (T.upd k f) x=kg T x:=fun x=>by
  have:=JM (f:=f) h.sorted vu rm x;rw[(hf n0).2.2]at this;omega
 refine⟨jb SJ h.sorted,?_,?_,by rw[JL];exact h.many,?_,?_,?_,?_,?_,?_,h.droot,?_,?_⟩
 ·intro m hm;obtain⟨n,hn,e,_⟩:=fi m hm;rw[<-e];exact h.nums n hn
 ·obtain⟨r,hr,h1,h2,h3⟩:=h.root;obtain⟨m,hm,e⟩:=(hex 1).2 ⟨r,hr,h1⟩;obtain⟨n,hn,e1,e2,e3,e4⟩:=fi m hm;have e6:=lR h.sorted hn hr (by omega);refine⟨m,hm,e,by rw[<-e2,e6];exact h2,?_⟩;rcases e4 with⟨_,e4,_⟩|⟨e5,e4,_⟩
  ·rw[e4,e6];exact h3
  ·rw[e4,ox (by rw[<-rm,<-e5];omega),<-e5,e6];exact h3
 ·intro m hm oy;obtain⟨n,hn,e1,e2,e3,e4⟩:=fi m hm;rw[<-e2]at oy;rw[<-e3];have:=h.file n hn oy;refine⟨this.1,?_⟩;rcases e4 with⟨_,_,e4⟩|⟨e5,_,e4⟩<;>rw[e4]
  ·exact this.2
  ·exact adl (by rw[<-e5];exact oy)
 ·intro m hm oy;obtain⟨n,hn,e1,e2,e3,e4⟩:=fi m hm;rw[<-e2]at oy;rcases e4 with⟨_,_,e4⟩|⟨e5,_,e4⟩<;>rw[e4]
  ·exact h.dirs n hn oy
  ·exact akx (by rw[<-e5];exact oy)
 ·intro m hm;obtain⟨n,hn,e1,e2,e3,e4⟩:=fi m hm;rw[<-e3];exact h.snames n hn
 ·intro m hm;obtain⟨n,hn,e1,e2,e3,e4⟩:=fi m hm;rw[<-e3];exact h.names n hn
 ·intro m hm p hp;rw[hex];obtain⟨n,hn,e1,e2,e3,e4⟩:=fi m hm;rw[<-e3]at hp;exact h.closed n hn p hp
 ·intro m hm h1;obtain⟨n,hn,e1,e2,e3,e4⟩:=fi m hm;have h2:=h.count n hn (by rw[e1];exact h1);rw[TA,<-e1,<-e2];rcases e4 with⟨e5,e4,_⟩|⟨e5,e4,_⟩<;>rw[e4]
  ·rw[Ho n hn e5];exact h2
  ·have hnk:n.num=k:=by rw[e5];exact rm
   have h3:=Hc (by rw[<-hnk,e1];exact h1);rw[e5]at h2 ⊢;rw[rm]at h2 ⊢;refine⟨?_,h3.2⟩;omega
 ·intro m hm dZ;obtain⟨n,hn,e1,e2,e3,e4⟩:=fi m hm;rw[<-e3]at dZ;rw[<-e1];exact h.deep n hn dZ
 ·intro m hm p hp x hx Ox nk;obtain⟨nx,pD,f1,f2,_⟩:=fi x hx;obtain⟨n,hn,e1,e2,e3,e4⟩:=fi m hm;rw[<-e1];rw[<-e3]at hp;exact h.depth n hn p hp nx pD (f1.trans Ox) (f2.trans nk)
theorem YU (h:ng T d off){n0:Nd}(hn:∀ m∈T,m.num≠n0.num)(h1:1<n0.num)(h2:n0.num<=65535)(hl:n0.links=1)(nU:n0.names=[])(hdt:n0.data=[])(hT:T.length<60)(v:Nat):
  ng (Tr.add n0 T) (fun x=>if x=n0.num then v else d x) (fun x=>if x=n0.num then 1 else off x):=by
 have dZ:∀ n∈T,∀ p∈n.names,p.2≠n0.num:=fun n hnT p hp=>Do h hn hnT hp;refine⟨kS h.sorted hn,?_,?_,by rw[Uu];omega,?_,?_,?_,?_,?_,?_,?_,?_,?_⟩
 ·intro m hm;rcases dq.1 hm with rfl|hm
  ·exact⟨by omega,h2⟩
  ·exact h.nums m hm
 ·obtain⟨r,hr,h⟩:=h.root;exact⟨r,dq.2 (.inr hr),h⟩
 ·intro m hm oy;rcases dq.1 hm with rfl|hm
  ·exact⟨nU,by rw[hdt];simp⟩
  ·exact h.file m hm oy
 ·intro m hm oy;rcases dq.1 hm with rfl|hm
  ·exact hdt
  ·exact h.dirs m hm oy
 ·intro m hm;rcases dq.1 hm with rfl|hm
  ·rw[nU];exact List.Pairwise.nil
  ·exact h.snames m hm
 ·intro m hm;rcases dq.1 hm with rfl|hm
  ·rw[nU];simp
  ·exact h.names m hm
 ·intro m hm p hp;rcases dq.1 hm with rfl|hm
  ·rw[nU]at hp;cases hp
  ·obtain⟨a,x,hx,e⟩:=h.closed m hm p hp;exact⟨a,x,dq.2 (.inr hx),e⟩
 ·intro m hm mW;rw[Uv,nU];rcases dq.1 hm with rfl|hm
  ·rw[auT rfl,PA dZ];exact⟨by rw[hl];rfl,by omega,fun _=>hl⟩
  ·rw[auV (hn m hm)];have:=h.count m hm mW;exact⟨by simp only[gC,List.countP_nil];omega,this.2⟩
 ·rw[auV (by omega)];exact h.droot
 ·intro m hm KO;rcases dq.1 hm with rfl|hm
  ·exact absurd nU KO
  ·rw[auV (hn m hm)];exact h.deep m hm KO
 ·intro m hm p hp x hx Ox nk;rcases dq.1 hm with rfl|hm
  ·rw[nU]at hp;cases hp
  ·have e:=dZ m hm p hp;rw[auV e,auV (hn m hm)];rcases dq.1 hx with rfl|hx
   ·exact absurd Ox.symm e
   ·exact h.depth m hm p hp x hx Ox nk
theorem Uw (h:ng T d off){n0:Nd}(hn:n0∈T)(h1:n0.num≠1)(hc:kg T n0.num=0)(nU:n0.names=[]):ng (T.drop n0.num) d off:=by
 have dZ:∀ n∈T,∀ p∈n.names,p.2≠n0.num:=fun n hnT p hp e=>by
  have:=A4 hnT hp e;omega
 refine⟨Di h.sorted,fun m hm=>h.nums m (cR.1 hm).1,?_,auI (auX _ _) h.many,fun m hm=>h.file m (cR.1 hm).1,fun m hm=>h.dirs m (cR.1 hm).1,fun m hm=>h.snames m (cR.1 hm).1,fun m hm=>h.names m (cR.1 hm).1,?_,?_,h.droot,fun m hm=>h.deep m (cR.1 hm).1,fun m hm p hp x hx=>h.depth m (cR.1 hm).1 p hp x (cR.1 hx).1⟩
 ·obtain⟨r,hr,e,h2⟩:=h.root;exact⟨r,cR.2 ⟨hr,by omega⟩,e,h2⟩
 ·intro m hm p hp;obtain⟨a,x,hx,e⟩:=h.closed m (cR.1 hm).1 p hp;exact⟨a,x,cR.2 ⟨hx,by rw[e];exact dZ m (cR.1 hm).1 p hp⟩,e⟩
 ·intro m hm mW;have hcd:=wh h.sorted hn m.num;rw[nU]at hcd;have:=h.count m (cR.1 hm).1 mW;exact⟨by simp only[gC,List.countP_nil]at hcd;omega,this.2⟩
theorem Ux (h:ng T d off){d':Int->Nat}(h0:d' 1=0)(h1:∀ n∈T,n.names≠[]->d' n.num<=7)(h2:∀ n∈T,∀ p∈n.names,∀ m∈T,m.num=p.2->m.dir=true->d' p.2=d' n.num+1):ng T d' off:=
 { h with droot:=h0,deep:=h1,depth:=h2 }
theorem GF (h:ng T d off){Ck:Int->Int}(ho:∀ n∈T,n.num≠1->Ck n.num=off n.num):ng T d Ck:=
 { h with count:=fun n hn h1=>by rw[ho n hn h1];exact h.count n hn h1 }
end
end
section
open Go.RowKit
section
variable {T:Tr}{d:Int->Nat}{off:Int->Int}
theorem eY {k j:Int}{f:Nm->Nm}:(T.named k f).get j=if j=k then(T.get j).map (fun n=>{ n with names:=f n.names })else T.get j:=
 Ut (f:=fun n=>{ n with names:=f n.names }) fun _=>rfl
theorem fJ {α:Type}(l:List α):l=[]\/∃ p s,l=p++[s]:=by
 rcases List.eq_nil_or_concat l with h|⟨p,s,h⟩
 ·exact .inl h
 ·exact .inr ⟨p,s,by rw[h,List.concat_eq_append]⟩
theorem JN {α:Type}(z:α){l:List α}(h:l≠[]):l=l.dropLast++[l.getLastD z]:=by
 rcases fJ l with h1|⟨p,s,rfl⟩
 ·exact absurd h1 h
 ·simp
theorem wj {s:List UInt8}{l:List (List UInt8)}(h:bo s=some l):l.length<=8/\∀ x∈l,aG x=true:=by
 obtain⟨r,_,⟨_,rfl⟩|⟨_,_,h1,h2⟩⟩:=i7 h
 ·simp
 ·exact⟨h1,au5.1 h2⟩
theorem Lo {s:List UInt8}(h:bo s=some []):s=[47]:=by
 obtain⟨r,rfl,⟨rfl,_⟩|⟨_,h1,_⟩⟩:=i7 h
 ·rfl
 ·exact absurd h1.symm (vM 47 r)
theorem A5 (l q:List (List UInt8))(hl:l≠[])(hq:q≠[]):[(47:UInt8)].intercalate (l++q)=[(47:UInt8)].intercalate l++47::[(47:UInt8)].intercalate q:=by
 induction l with
 |nil=>exact absurd rfl hl
 |cons x l ih=>
  cases l with
  |nil=>
   cases q with
   |nil=>exact absurd rfl hq
   |cons y q=>simp[List.intercalate]
  |cons y l=>
   have e:∀ m:List (List UInt8),[(47:UInt8)].intercalate (x::y::m)=x++47::[(47:UInt8)].intercalate (y::m):=fun m=>by simp[List.intercalate]
   rw[avr,avr,e,e,<-avr,ih (by simp)];simp
theorem Dq {a b:List UInt8}{l q:List (List UInt8)}(ha:bo a=some l)(hb:bo b=some (l++q))(hl:l≠[])(hq:q≠[]):Lib.hasPrefix b (a++[47])=true:=by
 obtain⟨r,rfl,⟨_,e⟩|⟨_,e1,_⟩⟩:=i7 ha
 ·exact absurd e hl
 ·obtain⟨r2,rfl,⟨_,e⟩|⟨_,e2,_⟩⟩:=i7 hb
  ·simp at e;exact absurd e.1 hl
  ·have j1:=vP 47 r;have j2:=vP 47 r2;rw[<-e1]at j1;rw[<-e2,A5 l q hl hq,j1]at j2;unfold Lib.hasPrefix;rw[List.isPrefixOf_iff_prefix];exact⟨[(47:UInt8)].intercalate q,by rw[<-j2];simp⟩
theorem zH (h:ng T d off){path:List UInt8}{k:Int}(ha:zF T path=.ok k):∃ l n,bo path=some l/\bd T 1 l=.ok k/\T.get k=some n:=by
 unfold zF at ha
 cases hp:bo path with
 |none=>rw[hp]at ha;cases ha
 |some l=>
  rw[hp]at ha;obtain⟨r,hr,h1,_⟩:=h.root;obtain⟨n,hn,hk⟩:=(vd h l 1 k ⟨r,hr,h1⟩ ha).1;exact⟨l,n,rfl,ha,(ax h.sorted).2 ⟨hn,hk⟩⟩
theorem pP (h:ng T d off){path s:List UInt8}{k:Int}(hr:gB T path=.ok (k,s)):∃ p up,bo path=some (p++[s])/\p.length<=7/\aG s=true/\bd T 1 p=.ok k/\T.get k=some up/\up.dir=true/\jR s up.names=none/\up.names.length<60/\d k=p.length:=by
 unfold gB at hr
 cases hp:bo path with
 |none=>rw[hp]at hr;simp at hr
 |some l=>
  rw[hp]at hr;simp only[avm]at hr;split at hr
  ·cases hr
  ·rename_i hl
   split at hr
   ·cases hr
   ·rename_i k' hf
    split at hr
    ·cases hr
    ·rename_i up hu
     split at hr
     ·cases hr
     ·rename_i hd
      split at hr
      ·cases hr
      ·rename_i hn
       split at hr
       ·cases hr
       ·rename_i sQ
        simp only[Except.ok.injEq,Prod.mk.injEq]at hr;obtain⟨rfl,rfl⟩:=hr;have hs:=JN [] hl;obtain⟨h8,cg⟩:=wj hp;have aW:=avZ List.length hs;simp only[au3,auL,avV]at aW;obtain⟨r,hr,h1,Fu,_⟩:=h.root;have afV:up.dir=true:=by simpa using hd
        refine⟨l.dropLast,up,by rw[<-hs],by omega,cg _ (by rw[hs];simp),hf,hu,afV,by simpa using hn,by omega,?_⟩;have:=(vd h _ 1 k' ⟨r,hr,h1⟩ hf).2 r ((ax h.sorted).2 ⟨hr,h1⟩) Fu up hu afV;rw[this,h.droot];omega
theorem PG {f:Nat}{k j:Int}(hj:k<=j)(hj2:j<k+f)(hg:T.get j=none):T.get (ee T f k)=none/\k<=ee T f k/\ee T f k<=j:=by
 induction f generalizing k with
 |zero=>omega
 |succ f ih=>
  unfold ee;by_cases hk:(T.get k).isSome=true
  ·rw[auT hk];have dZ:j≠k:=fun e=>by rw[e]at hg;rw[hg]at hk;cases hk
   have:=ih (k:=k+1) (by omega) (by omega);exact⟨this.1,by omega,this.2.2⟩
  ·rw[auV hk];exact⟨by simpa using hk,Int.le_refl _,hj⟩
theorem wn {k:Int}{n:Nd}(hn:n∈T)(hk:n.num=k):T.countP (fun m=>decide (k+1<=m.num))+1<=T.countP (fun m=>decide (k<=m.num)):=by
 induction T with
 |nil=>cases hn
 |cons y r ih=>
  rw[List.countP_cons,List.countP_cons];rcases au8.1 hn with rfl|hm
  ·have:r.countP (fun m=>decide (k+1<=m.num))<=r.countP (fun m=>decide (k<=m.num)):=List.countP_mono_left fun m _ h=>by simp at h ⊢;omega
   rw[auV (by simp;omega),auT (by simp;omega)];omega
  ·have:=ih hm;by_cases h1:k+1<=y.num
   ·rw[auT (by simpa using h1),auT (by simp;omega)];omega
   ·rw[auV (by simpa using h1)];split<;>omega
theorem GG {f:Nat}{k:Int}(h:∀ j,k<=j->j<k+f->∃ n∈T,n.num=j):f<=T.countP (fun m=>decide (k<=m.num)):=by
 induction f generalizing k with
 |zero=>omega
 |succ f ih=>
  obtain⟨n,hn,hk⟩:=h k (by omega) (by omega);have h1:=wn hn hk;have h2:=ih (k:=k+1) fun j h1 h2=>h j (by omega) (by omega);omega
theorem ng.fresh (h:ng T d off):T.get (ee T T.length 2)=none/\2<=ee T T.length 2/\ee T T.length 2<=T.length+1:=by
 have:∃ j,2<=j/\j<2+(T.length:Int)/\T.get j=none:=by
  apply avG;intro hc;have h1:=GG (T:=T) (k:=2) (f:=T.length) fun j h1 h2=>by
   cases hg:T.get j with
   |none=>exact absurd ⟨j,h1,h2,hg⟩ hc
   |some n=>exact⟨n,(ax h.sorted).1 hg⟩
  obtain⟨r,hr,yt,_⟩:=h.root;have h2:=wn hr yt;have h3:=List.countP_le_length (p:=fun m:Nd=>decide (1<=m.num)) (l:=T);have h4:T.countP (fun m=>decide ((1:Int)+1<=m.num))=T.countP (fun m=>decide (2<=m.num)):=rfl;omega
 obtain⟨j,h1,h2,h3⟩:=this;have:=PG h1 h2 h3;exact⟨this.1,this.2.1,by omega⟩
theorem PI (h:WF T d)(c:bU):∃ d',WF (gp T c).1 d':=by
 unfold gp;split
 ·exact⟨d,h⟩
 ·rename_i k s hr
  obtain⟨p,up,hp,pE,cg,hf,hg,hd,hn,sQ,yW⟩:=pP h hr;split
  ·exact⟨d,h⟩
  ·rename_i hT
   obtain⟨f1,f2,f3⟩:=ng.fresh h;generalize dC:ee T T.length 2=num at*;have dZ:=jC.1 f1;obtain⟨vu,rm⟩:=(ax h.sorted).1 hg;have abb:k≠num:=fun e=>dZ up vu (by omega)
   let n0:Nd:=⟨num,c.kind==1,1,[],[]⟩
   have h1:=YU (n0:=n0) h dZ (by show 1<num;omega) (by show num<=65535;have:=h.many;omega) rfl rfl rfl (by omega) (d k+1);have g1:(Tr.add n0 T).get k=some up:=by rw[u9 h.sorted dZ,auV abb];exact hg
   have g2:(Tr.add n0 T).get num=some n0:=by rw[u9 h.sorted dZ];exact auT rfl
   have h2:=GD (j:=num) h1 g1 hd hn sQ cg (by omega) g2 (by show(if k=num then _ else d k)<=7;rw[auV abb];omega) (fun _=>by show(if num=num then _ else _)=(if k=num then _ else _)+1;rw[auT rfl,auV abb]);refine⟨_,GF h2 fun n hn h1=>?_⟩;show(0:Int)=(if n.num=num then 1 else 0)-if num=n.num then 1 else 0;by_cases e:n.num=num
   ·rw[auT e,auT e.symm];omega
   ·rw[auV e,auV (fun e2=>e e2.symm)];omega
theorem Uy {c:bU}{b:List UInt8}(h0:0<=c.pos)(hb:b.length<=16384)(hp:c.pos<=b.length)(h2:c.kind=2->c.pos+c.data.length<=16384)(h3:c.kind≠2->c.data=[]):(oz c b).length<=16384:=by
 unfold oz;have h1:(b.take c.pos.toNat++c.data).length<=16384:=by
  rw[au3,auS];by_cases h:c.kind=2
  ·have:=h2 h;omega
  ·rw[h3 h];simp;omega
 simp only;split
 ·rename_i h
  rw[au3,List.length_drop];omega
 ·exact h1
theorem Lp (h:WF T d)(c:bU)(h0:0<=c.pos)(h3:c.kind≠2->c.data=[]):WF (dT T c).1 d:=by
 unfold dT;split
 ·exact h
 ·rename_i k ha
  split
  ·exact h
  ·rename_i n hg
   split
   ·exact h
   ·rename_i hd
    split
    ·exact h
    ·rename_i hb
     have hdf:n.dir=false:=by simpa using hd
     obtain⟨hm,hk⟩:=(ax h.sorted).1 hg;refine GE h hg (fun _=>⟨rfl,rfl,rfl⟩) (fun _=>?_) (fun e=>absurd e hd) (fun _=>rfl) (fun h1=>?_) (fun _ _ _=>rfl)
     ·exact Uy h0 (h.file n hm hdf).2 (by omega) (fun h2=>by
       apply Decidable.byContradiction;intro h4;exact hb (.inr ⟨h2,by omega⟩)) h3
     ·have:=h.count n hm (by omega);exact⟨by show n.links=n.links+0-0;omega,this.2⟩
theorem PJ (h:WF T d)(c:bU):WF (ja T c).1 d:=by
 unfold ja;split
 ·exact h
 ·rename_i j ha
  split
  ·exact h
  ·rename_i n hg
   split
   ·exact h
   ·rename_i hd
    split
    ·exact h
    ·rename_i k s hr
     obtain⟨p,up,hp,pE,cg,hf,Kk,yW,hn,sQ,VY⟩:=pP h hr;obtain⟨hm,hj⟩:=(ax h.sorted).1 hg;obtain⟨r,yt,tT⟩:=ng.get1 h;have TT:j≠1:=fun e=>by rw[e,yt]at hg;obtain rfl:=avR hg;exact hd tT
     have yg:j≠k:=fun e=>by rw[e,Kk]at hg;obtain rfl:=avR hg;exact hd yW
     have h1:=GD (j:=j) h Kk yW hn sQ cg TT hg (by omega) (fun e=>absurd e hd);have g1:(T.named k (me s j)).get j=some n:=by rw[eY,auV yg];exact hg
     have hc:=h.count n hm (by omega);refine GE h1 g1 (fun _=>⟨rfl,rfl,rfl⟩) (fun _=>(h.file n hm (by simpa using hd)).2) (fun e=>absurd e hd) (fun e=>absurd e TT) (fun _=>?_) (fun m _ hmj=>?_)
     ·refine⟨by show n.links+1=n.links+0-(0-if j=j then 1 else 0);rw[auT rfl];omega,by show 1<=n.links+1;omega,fun e=>absurd e hd⟩
     ·show(0:Int)=0-if j=m.num then 1 else 0;rw[auV (fun e=>hmj e.symm)];omega
theorem ve (h:ng T d off){path:List UInt8}{j:Int}(ha:zF T path=.ok j)(dZ:path≠[47]):∃ p s o up,bo path=some (p++[s])/\bd T 1 (p++[s])=.ok j/\bd T 1 p=.ok o/\T.get o=some up/\up.dir=true/\jR s up.names=some j:=by
 obtain⟨l,n,hp,hf,hg⟩:=zH h ha;have hl:l≠[]:=fun e=>by rw[e]at hp;exact dZ (Lo hp)
 have hs:=JN [] hl;rw[hs]at hf hp;obtain⟨o,up,h1,h2,h3,h4⟩:=ij.1 hf;exact⟨_,_,o,up,hp,hf,h1,h2,h3,h4⟩
theorem GH (h:WF T d)(c:bU):WF (dL T c).1 d:=by
 unfold dL;split
 ·exact h
 ·rename_i dZ
  split
  ·exact h
  ·rename_i j ha
   split
   ·exact h
   ·rename_i n hg
    split
    ·exact h
    ·rename_i nU
     have nU:n.names=[]:=by simpa using nU
     obtain⟨p,s,o,up,hp,hf,OL,NI,tO,hs⟩:=ve h ha dZ;simp only[hp,avm,List.dropLast_concat,List.getLastD_concat,OL];obtain⟨hm,hj⟩:=(ax h.sorted).1 hg;obtain⟨We,Jm⟩:=(ax h.sorted).1 NI;have tN:=(cA (h.snames up We)).1 hs;have TT:=(h.closed up We _ tN).1;have hjo:j≠o:=fun e=>by
      rw[e,NI]at hg;obtain rfl:=avR hg;rw[nU]at tN;cases tN
     have h1:=PE h NI hs;have g1:(T.named o (fU s)).get j=some n:=by rw[eY,auV hjo];exact hg
     obtain⟨mW,_⟩:=(ax h1.sorted).1 g1;have hc:=h1.count n mW (by rw[hj];exact TT);split
     ·rename_i vq
      have h2:=Uw h1 mW (by rw[hj];exact TT) (by
       have:=hc.1;rw[auT hj.symm]at this;omega) nU
      rw[hj]at h2;refine GF h2 fun m gX _=>?_;show(0:Int)=0+if j=m.num then 1 else 0;rw[auV (fun e=>(cR.1 gX).2 e.symm)];omega
     ·rename_i vq
      have hd:¬ n.dir=true:=fun e=>vq (hc.2.2 e);refine GE h1 g1 (fun _=>⟨rfl,rfl,rfl⟩) (fun _=>(h.file n hm (by simpa using hd)).2) (fun e=>absurd e hd) (fun e=>absurd e TT) (fun _=>?_) (fun m _ hmj=>?_)
      ·refine⟨by show n.links-1=n.links+0-(0+if j=j then 1 else 0);rw[auT rfl];omega,by show 1<=n.links-1;omega,fun e=>absurd e hd⟩
      ·show(0:Int)=0+if j=m.num then 1 else 0;rw[auV (fun e=>hmj e.symm)];omega
theorem zI {T1:Tr}(hm:∀ k n1,T1.get k=some n1->∃ n,T.get k=some n/\(n1.dir=true->n.dir=true)/\∀ s i,jR s n1.names=some i->jR s n.names=some i):∀(p:List (List UInt8)) (j k:Int),bd T1 j p=.ok k->bd T j p=.ok k:=by
 intro p
 induction p with
 |nil=>intro j k h;exact h
 |cons s r ih=>
  intro j k h;unfold bd at h ⊢
  cases hg:T1.get j with
  |none=>rw[hg]at h;cases h
  |some n1=>
   rw[hg]at h;obtain⟨n,hn,hd,hs⟩:=hm j n1 hg;rw[hn];simp only at h ⊢;split at h
   ·rename_i h1
    rw[auT (hd h1)]
    cases hi:jR s n1.names with
    |none=>rw[hi]at h;cases h
    |some i=>
     rw[hi]at h;rw[hs s i hi];exact ih i k h
   ·cases h
theorem wt (h:ng T d off){k:Int}(hc:kg T k<=1){y y':Nd}(hy:y∈T)(hy':y'∈T){p p':List UInt8×Int}(hp:p∈y.names)(CA:p'∈y'.names)(e:p.2=k)(e':p'.2=k):y=y'/\p=p':=by
 have pos:∀ {l:Nm} {q:List UInt8×Int},q∈l->q.2=k->1<=gC l k:=fun {l q} hq eq=>by
  unfold gC;exact List.countP_pos_iff.2 ⟨q,hq,avq.2 eq⟩
 have hyy:y=y':=by
  apply avG;intro dZ;have h1:=wh h.sorted hy k;have hm:y'∈T.drop y.num:=cR.2 ⟨hy',fun e=>dZ (lR h.sorted hy hy' e.symm)⟩;have h2:=A4 hm CA e';have h3:=pos hp e;omega
 subst hyy;refine⟨rfl,?_⟩;apply avG;intro dZ;have hs:=h.snames y hy;have h1:=Dn hs ((cA hs).2 hp:bE p.1 y.names=some p.2) k;rw[auT e]at h1;have h2:p'∈gm p.1 y.names:=kT.2 ⟨CA,fun e2=>dZ (wi hs hp CA e2.symm)⟩;have h3:=pos h2 e';have h4:gC y.names k<=kg T k:=by have:=wh h.sorted hy k;omega
 omega
theorem YV (h:WF T d){k:Int}{n:Nd}(hg:T.get k=some n)(hd:n.dir=true)(h1:k≠1):kg T k<=1:=by
 obtain⟨hm,hk⟩:=(ax h.sorted).1 hg;have:=h.count n hm (by omega);rw[hk]at this;have:=this.2.2 hd;omega
theorem GI (h:WF T d):∀(m:Nat) (p q:List (List UInt8)) (k:Int) (n:Nd),p.length=m->bd T 1 p=.ok k->bd T 1 q=.ok k->T.get k=some n->n.dir=true->p=q:=by
 intro m
 induction m with
 |zero=>
  intro p q k n hm hp hq hg hd;obtain rfl:=avj.1 hm;have e:1=k:=by simpa[bd]using hp
  subst e;rcases fJ q with rfl|⟨q',s,rfl⟩
  ·rfl
  ·obtain⟨y,ny,_,hy,_,hs⟩:=ij.1 hq;obtain⟨Oz,_⟩:=(ax h.sorted).1 hy;exact absurd rfl (h.closed ny Oz _ ((cA (h.snames ny Oz)).1 hs)).1
 |succ m ih=>
  intro p q k n hm hp hq hg hd;rcases fJ p with rfl|⟨p',s,rfl⟩
  ·simp at hm
  ·obtain⟨y,ny,hpy,hy,hyd,hs⟩:=ij.1 hp;obtain⟨Oz,YH⟩:=(ax h.sorted).1 hy;have tN:=(cA (h.snames ny Oz)).1 hs;have hk1:=(h.closed ny Oz _ tN).1;rcases fJ q with rfl|⟨q',s',rfl⟩
   ·have e:1=k:=by simpa[bd]using hq
    exact absurd e.symm hk1
   ·obtain⟨z,nz,hpz,hz,hzd,hs'⟩:=ij.1 hq;obtain⟨hzm,hzn⟩:=(ax h.sorted).1 hz;have ahW:=(cA (h.snames nz hzm)).1 hs';obtain⟨e1,e2⟩:=wt h (YV h hg hd hk1) Oz hzm tN ahW rfl rfl;subst e1;have e3:s=s':=avZ Prod.fst e2;have e4:y=z:=by omega
    subst e3 e4;rw[ih p' q' y ny (by simpa using hm) hpy hpz hy hyd]
theorem Uz {α:Type}(g:α->Nat):∀(l:List α) (m:Nat),m<=l.foldl (fun m p=>max m (g p)) m/\∀ p∈l,g p<=l.foldl (fun m p=>max m (g p)) m:=by
 intro l
 induction l with
 |nil=>intro m;simp
 |cons x r ih=>
  intro m;have h:=ih (max m (g x));simp only[List.foldl_cons];refine⟨by omega,fun p hp=>?_⟩;rcases au8.1 hp with rfl|hp
  ·omega
  ·exact h.2 p hp
theorem UA (h:ng T d off):∀(p:List (List UInt8)) (f:Nat) (j y:Int),bd T j p=.ok y->p.length<=f->p.length<=fI T f j:=by
 intro p
 induction p with
 |nil=>intro f j y _ _;simp
 |cons s r ih=>
  intro f j y hf hl
  cases f with
  |zero=>simp at hl
  |succ f=>
   unfold bd at hf;unfold fI
   cases hg:T.get j with
   |none=>rw[hg]at hf;cases hf
   |some n=>
    rw[hg]at hf;simp only at hf ⊢;split at hf
    ·cases hi:jR s n.names with
     |none=>rw[hi]at hf;cases hf
     |some i=>
      rw[hi]at hf;obtain⟨hm,_⟩:=(ax h.sorted).1 hg;have tN:=(cA (h.snames n hm)).1 hi;have h1:=(Uz (fun p:List UInt8×Int=>1+fI T f p.2) n.names 0).2 _ tN;have h2:=ih f i y hf (by simpa using hl);simp only[auL];simp only at h1;omega
    ·cases hf
end
end
section
open Go.RowKit
section
variable {T:Tr}{d:Int->Nat}
theorem GJ {o:Int}{s:List UInt8}(h:WF T d):∀ k n1,(T.named o (fU s)).get k=some n1->∃ n,T.get k=some n/\(n1.dir=true->n.dir=true)/\∀ x i,jR x n1.names=some i->jR x n.names=some i:=by
 intro k n1 hg;rw[eY]at hg;by_cases hk:k=o
 ·rw[auT hk]at hg;obtain⟨n,hn,rfl⟩:=avX.1 hg;obtain⟨hm,_⟩:=(ax h.sorted).1 hn;refine⟨n,hn,id,fun x i hx=>?_⟩;rw[cA (oX (h.snames n hm))]at hx;exact(cA (h.snames n hm)).2 (kT.1 hx).1
 ·rw[auV hk]at hg;exact⟨n1,hg,id,fun _ _ h=>h⟩
structure Ren (T:Tr)(d:Int->Nat)(c:bU)(p1:List (List UInt8))(s1:List UInt8)(o:Int)(p2:List (List UInt8))(s2:List UInt8)(k j:Int)(Kj Kf nj:Nd):Prop where
 path:bo c.path=some (p1++[s1])
 dest:bo c.dest=some (p2++[s2])
 fj:bd T 1 (p1++[s1])=.ok j
 fo:bd T 1 p1=.ok o
 fk:bd T 1 p2=.ok k
 go:T.get o=some Kj
 gk:T.get k=some Kf
 gj:T.get j=some nj
 dirO:Kj.dir=true
 dirK:Kf.dir=true
 was:jR s1 Kj.names=some j
 new:jR s2 Kf.names=none
 room:Kf.names.length<60
 ok:aG s2=true
 apart:Lib.hasPrefix c.dest (c.path++[47])=false
 dk:d k=p2.length
 long:p2.length+1+fI T 9 j<=8
 j1:j≠1
theorem wu {T:Tr}:∀(l:List (List UInt8)) (k e:Int),bd T k l=.error e->e=141\/e=143:=by
 intro l
 induction l with
 |nil=>intro k e h;cases h
 |cons s r ih=>
  intro k e h;rw[ky]at h;split at h
  ·cases h;exact .inl rfl
  ·split at h
   ·split at h
    ·cases h;exact .inl rfl
    ·exact ih _ _ h
   ·cases h;exact .inr rfl
theorem ww {T:Tr}{path:List UInt8}{e:Int}(h:zF T path=.error e):140<=e:=by
 unfold zF at h;split at h
 ·cases h;decide
 ·rcases wu _ _ _ h with rfl|rfl<;>decide
theorem rQ {T:Tr}{path:List UInt8}{e:Int}(h:gB T path=.error e):140<=e:=by
 unfold gB at h;simp only at h;split at h
 ·cases h;decide
 ·split at h
  ·rename_i h1
   cases h
   rcases wu _ _ _ h1 with rfl|rfl<;>decide
  ·split at h
   ·cases h;decide
   ·split at h
    ·cases h;decide
    ·split at h
     ·cases h;decide
     ·split at h
      ·cases h;decide
      ·cases h
theorem Lq (h:WF T d)(c:bU):(∃ e,cl T c=(T,e)/\140<=e)\/∃ p1 s1 o p2 s2 k j Kj Kf nj,Ren T d c p1 s1 o p2 s2 k j Kj Kf nj/\cl T c=((T.named o (fU s1)).named k (me s2 j),0):=by
 unfold cl;by_cases hr:c.path=[47]
 ·rw[auT hr];exact .inl ⟨_,rfl,by decide⟩
 ·rw[auV hr]
  cases ha:zF T c.path with
  |error e=>exact .inl ⟨e,rfl,ww ha⟩
  |ok j=>
   by_cases hp:Lib.hasPrefix c.dest (c.path++[47])=true
   ·simp only[hp,if_true];exact .inl ⟨_,rfl,by decide⟩
   ·simp only[hp]
    cases Xw:gB T c.dest with
    |error e=>exact .inl ⟨e,rfl,rQ Xw⟩
    |ok x=>
     obtain⟨k,s2⟩:=x;obtain⟨p2,Kf,hd,pE,cg,hfk,Kk,yW,hn,sQ,VY⟩:=pP h Xw;obtain⟨p1,s1,o,Kj,XU,hfj,OL,NI,tO,hs⟩:=ve h ha hr;obtain⟨l,nj,hl,Fr,hgj⟩:=zH h ha;simp only[hd,avm,XU,List.dropLast_concat,List.getLastD_concat,OL];by_cases h8:8<(p2++[s2]).length+fI T 9 j
     ·rw[auT h8];exact .inl ⟨_,rfl,by decide⟩
     ·rw[auV h8];obtain⟨We,_⟩:=(ax h.sorted).1 NI;refine .inr ⟨p1,s1,o,p2,s2,k,j,Kj,Kf,nj,⟨XU,hd,hfj,OL,hfk,NI,Kk,hgj,tO,yW,hs,hn,sQ,cg,by simpa using hp,VY,?_,(h.closed Kj We _ ((cA (h.snames Kj We)).1 hs)).1⟩,rfl⟩;simp only[au3,auL,avV]at h8;omega
theorem UB {c:bU}{p1 p2:List (List UInt8)}{s1 s2:List UInt8}{o k j:Int}{Kj Kf nj:Nd}(h:WF T d)(r:Ren T d c p1 s1 o p2 s2 k j Kj Kf nj)(_hd:nj.dir=true):∀ p,bd T j p≠.ok k:=by
 intro p hp;have h1:bd T 1 (p1++[s1]++p)=.ok k:=by rw[ue,r.fj];exact hp
 have h2:=GI h _ _ _ _ _ rfl h1 r.fk r.gk r.dirK;have h3:=Dq r.path (q:=p++[s2]) (by rw[r.dest,<-h2];simp) (by simp) (by simp);rw[r.apart]at h3;cases h3
theorem YW {c:bU}{p1 p2:List (List UInt8)}{s1 s2:List UInt8}{o k j:Int}{Kj Kf nj:Nd}(h:WF T d)(r:Ren T d c p1 s1 o p2 s2 k j Kj Kf nj):∃ d',WF ((T.named o (fU s1)).named k (me s2 j)) d':=by
 have h1:=PE h r.go r.was;have XH:=GJ (o:=o) (s:=s1) h;obtain⟨ap5,gk',dk',nk',lk'⟩:∃ up',(T.named o (fU s1)).get k=some up'/\up'.dir=true/\jR s2 up'.names=none/\up'.names.length<60:=by
  rw[eY];by_cases e:k=o
  ·rw[auT e,r.gk];refine⟨_,rfl,r.dirK,?_,Nat.lt_of_le_of_lt (rJ _ _) r.room⟩;rw[mC];intro p hp;exact mC.1 r.new p (kT.1 hp).1
  ·rw[auV e];exact⟨Kf,r.gk,r.dirK,r.new,r.room⟩
 obtain⟨nj',gj',dj'⟩:∃ n',(T.named o (fU s1)).get j=some n'/\n'.dir=nj.dir:=by
  rw[eY];by_cases e:j=o
  ·rw[auT e,r.gj];exact⟨_,rfl,rfl⟩
  ·rw[auV e];exact⟨nj,r.gj,rfl⟩
 have pE:p2.length<=7:=by have:=r.long;omega
 have fin:∀ d':Int->Nat,ng (T.named o (fU s1)) d' (fun x=>0+if j=x then 1 else 0)->d' k<=7->(nj'.dir=true->d' j=d' k+1)->WF ((T.named o (fU s1)).named k (me s2 j)) d':=by
  intro d' hw h7 hj;refine GF (GD hw gk' dk' nk' lk' r.ok r.j1 gj' h7 hj) fun n _ _=>?_;show(0:Int)=0+(if j=n.num then 1 else 0)-if j=n.num then 1 else 0;omega
 by_cases hd:nj.dir=true
 ·
  have ac8:nj'.dir=true:=dj'.trans hd;obtain⟨afb,aay⟩:=(ax h1.sorted).1 gj';have hcj:kg (T.named o (fU s1)) j=0:=by
   have hc:=h1.count nj' afb (by rw[aay];exact r.j1);have:=hc.2.2 ac8;have:=hc.1;rw[aay,auT rfl]at this;omega
  have adf:∀ n∈T.named o (fU s1),∀ p∈n.names,p.2≠j:=fun n hn p hp e=>by
   have:=A4 hn hp e;omega
  let I8:Int->Prop:=fun x=>∃ p,bd (T.named o (fU s1)) j p=.ok x
  have adv:∀ p x m,bd (T.named o (fU s1)) j p=.ok x->(T.named o (fU s1)).get x=some m->m.dir=true->d x=d j+p.length:=fun p x m hf hg hm=>
   (vd h1 p j x ⟨nj',afb,aay⟩ hf).2 nj' gj' ac8 m hg hm
  classical
  let d':Int->Nat:=fun x=>if I8 x then d x-d j+(p2.length+1)else d x
  have hk:¬ I8 k:=fun⟨p,hp⟩=>UB h r hd p (zI XH p j k hp);have hj:I8 j:=⟨[],rfl⟩
  have h1s:¬ I8 1:=by
   rintro⟨p,hp⟩;rcases fJ p with rfl|⟨q,s,rfl⟩
   ·have e:j=1:=by simpa[bd]using hp
    exact r.j1 e
   ·obtain⟨y,ny,_,hy,_,hs⟩:=ij.1 hp;obtain⟨Oz,_⟩:=(ax h1.sorted).1 hy;exact absurd rfl (h1.closed ny Oz _ ((cA (h1.snames ny Oz)).1 hs)).1
  have hw:ng (T.named o (fU s1)) d' (fun x=>0+if j=x then 1 else 0):=by
   refine Ux h1 ?_ (fun n hn dZ=>?_) (fun n hn p hp m hm N0 oy=>?_)
   ·show(if I8 1 then _ else d 1)=0;rw[auV h1s];exact h1.droot
   ·show(if I8 n.num then _ else d n.num)<=7;have hg:=(ax h1.sorted).2 ⟨hn,rfl⟩;have Oc:n.dir=true:=by
     cases Oc:n.dir with
     |true=>rfl
     |false=>exact absurd (h1.file n hn Oc).1 dZ
    by_cases hs:I8 n.num
    ·rw[auT hs];obtain⟨q,hq⟩:=hs;have e:=adv q n.num n hq hg Oc;have h7:=h1.deep n hn dZ;obtain⟨pe,sS⟩:=List.exists_mem_of_ne_nil _ dZ;have KM:bd (T.named o (fU s1)) j (q++[pe.1])=.ok pe.2:=ij.2 ⟨_,n,hq,hg,Oc,(cA (h1.snames n hn)).2 sS⟩;have h9:=UA h _ 9 j _ (zI XH _ j _ KM) (by simp;omega);simp only[au3,auL,avV]at h9;have:=r.long;omega
    ·rw[auV hs];exact h1.deep n hn dZ
   ·have dZ:n.names≠[]:=List.ne_nil_of_mem hp;have hg:=(ax h1.sorted).2 ⟨hn,rfl⟩;have hgm:=(ax h1.sorted).2 ⟨hm,N0⟩;have Oc:n.dir=true:=by
     cases Oc:n.dir with
     |true=>rfl
     |false=>exact absurd (h1.file n hn Oc).1 dZ
    have hde:=h1.depth n hn p hp m hm N0 oy;show(if I8 p.2 then _ else d p.2)=(if I8 n.num then _ else d n.num)+1;by_cases hs:I8 n.num
    ·have jv:I8 p.2:=by
      obtain⟨q,hq⟩:=hs;exact⟨q++[p.1],ij.2 ⟨_,n,hq,hg,Oc,(cA (h1.snames n hn)).2 hp⟩⟩
     rw[auT hs,auT jv];obtain⟨q,hq⟩:=hs;have e:=adv q n.num n hq hg Oc;omega
    ·have jv:¬ I8 p.2:=by
      rintro⟨q,hq⟩;rcases fJ q with rfl|⟨q',s,rfl⟩
      ·have e:j=p.2:=by simpa[bd]using hq
       exact adf n hn p hp e.symm
      ·obtain⟨y,ny,hqy,hy,_,hys⟩:=ij.1 hq;obtain⟨Oz,YH⟩:=(ax h1.sorted).1 hy;have tN:=(cA (h1.snames ny Oz)).1 hys;have hc:kg (T.named o (fU s1)) p.2<=1:=by
        have mW:m.num≠1:=by rw[N0];exact(h1.closed n hn p hp).1
        have hc:=h1.count m hm mW;have:=hc.2.2 oy;have:=hc.1;rw[N0,auV (fun e=>adf n hn p hp e.symm)]at this;omega
       obtain⟨e1,_⟩:=wt h1 hc Oz hn tN hp rfl rfl;exact hs ⟨q',by rw[hqy,<-YH,e1]⟩
     rw[auV hs,auV jv];exact hde
  refine⟨d',fin d' hw ?_ fun _=>?_⟩
  ·show(if I8 k then _ else d k)<=7;rw[auV hk,r.dk];exact pE
  ·show(if I8 j then _ else d j)=(if I8 k then _ else d k)+1;rw[auT hj,auV hk,r.dk];omega
 ·exact⟨d,fin d h1 (by rw[r.dk];exact pE) (fun e=>absurd (dj'▸e) hd)⟩
theorem GK (h:WF T d)(c:bU):∃ d',WF (cl T c).1 d':=by
 rcases Lq h c with⟨e,he,_⟩|⟨p1,s1,o,p2,s2,k,j,Kj,Kf,nj,r,he⟩
 ·rw[he];exact⟨d,h⟩
 ·rw[he];exact YW h r
theorem PK {c:bU}(h:c.ok=true):0<=c.pos/\c.pos<=16384:=by
 obtain⟨h9,hf,hb⟩:=oU h;have hk:=YT h9;by_cases h23:c.k=2\/c.k=3
 ·have:=hf 3 (by rcases h23 with e|e<;>rw[e]<;>simp[fieldsOf]);simpa[bU.fieldOk]using this
 ·have:c.pos=0:=by
   rw[<-hb];rcases(by omega:c.k=0\/c.k=1\/c.k=4\/c.k=5\/c.k=6\/c.k=7\/c.k=8)with e|e|e|e|e|e|e<;>rw[e]<;>rfl
  omega
theorem JO {c:bU}(h:c.ok=true):c.data.length<=512/\(c.kind≠2->c.data=[]):=by
 obtain⟨h9,hf,hb⟩:=oU h;have hk:=YT h9;by_cases h2:c.k=2
 ·have:=hf 4 (by rw[h2];simp[fieldsOf]);refine⟨by simpa[bU.fieldOk]using this,fun h=>?_⟩;rw[hk,h2]at h;exact absurd rfl h
 ·have:c.data=[]:=by
   rw[<-hb];rcases(by omega:c.k=0\/c.k=1\/c.k=3\/c.k=4\/c.k=5\/c.k=6\/c.k=7\/c.k=8)with e|e|e|e|e|e|e|e<;>rw[e]<;>rfl
  exact⟨by rw[this];simp,fun _=>this⟩
theorem PM (h:WF T d)(c:bU):∃ d',WF (qM T c).1 d':=by
 unfold qM;by_cases cg:c.ok=false
 ·rw[auT cg];exact⟨d,h⟩
 ·rw[auV cg];have cg:c.ok=true:=by simpa using cg
  split
  ·exact PI h c
  ·split
   ·exact⟨d,Lp h c (PK cg).1 (JO cg).2⟩
   ·split
    ·exact⟨d,PJ h c⟩
    ·split
     ·exact GK h c
     ·split
      ·exact⟨d,GH h c⟩
      ·exact⟨d,h⟩
end
end
end
end Go.Proofs.YtkghpdcloaiflaaGreatDoor
