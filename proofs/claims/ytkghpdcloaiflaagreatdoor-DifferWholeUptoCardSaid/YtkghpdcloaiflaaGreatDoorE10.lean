import Derived.Test.YtkghpdcloaiflaaGreatDoorE09
namespace Go.Proofs.YtkghpdcloaiflaaGreatDoor
open _root_.Go.Proofs.Tryz
section
section
open Go.RowKit
abbrev Nm:=List (List UInt8×Int)
abbrev fT (s:List UInt8)(l:Nm):Nm:=gm s l
abbrev me (s:List UInt8)(k:Int)(l:Nm):Nm:=em bytesBefore s k l
abbrev jP (s:List UInt8)(l:Nm):Option Int:=bF s l
structure Nd where
 num:Int
 dir:Bool
 links:Int
 data:List UInt8
 names:Nm
abbrev Tr:=List Nd
def Tr.get (T:Tr)(k:Int):Option Nd:=T.find? fun n=>n.num==k
def Tr.upd (T:Tr)(k:Int)(f:Nd->Nd):Tr:=T.map fun x=>if x.num==k then f x else x
def Tr.add (n:Nd):Tr->Tr
 |[]=>[n]
 |y::r=>if n.num<y.num then n::y::r else y::Tr.add n r
def Tr.drop (T:Tr)(k:Int):Tr:=T.filter fun n=>!(n.num==k)
def Tr.new:Tr:=[⟨1,true,1,[],[]⟩]
def aX (T:Tr):Int->List (List UInt8)->Except Int Int
 |k,[]=>.ok k
 |k,s::r=>match T.get k with
  |none=>.error 141
  |some n=>if n.dir=true then(match jP s n.names with|none=>.error 141|some j=>aX T j r)else .error 143
def zE (T:Tr)(path:List UInt8):Except Int Int:=match bg path with
 |none=>.error 140
 |some l=>aX T 1 l
def gC (T:Tr)(path:List UInt8):Except Int (Int×List UInt8):=
 let l:=(bg path).getD []
 if l=[]then .error 142 else match aX T 1 l.dropLast with
  | .error e=>.error e
  | .ok k=>match T.get k with
   |none=>.error 141
   |some up=>if up.dir=false then .error 143 else if(jP (l.getLastD []) up.names).isSome=true then .error 142 else if 60<=up.names.length then .error 145 else .ok (k,l.getLastD [])
def d7 (T:Tr):Nat->Int->Int
 |0,k=>k
 |f+1,k=>if(T.get k).isSome=true then d7 T f (k+1)else k
def Tr.named (T:Tr)(k:Int)(f:Nm->Nm):Tr:=T.upd k fun n=>{ n with names:=f n.names }
def gp (T:Tr)(c:bP):Tr×Int:=match gC T c.path with
 | .error e=>(T,e)
 | .ok (k,s)=>if 60<=T.length then(T,145)else
  let num:=d7 T T.length 2
  ((Tr.add ⟨num,c.kind==1,1,[],[]⟩ T).named k (me s num),0)
def oB (c:bP)(d:List UInt8):List UInt8:=
 let s:=d.take c.pos.toNat++c.data
 if c.kind=2/\s.length<d.length then s++d.drop s.length else s
def dA (T:Tr)(c:bP):Tr×Int:=match zE T c.path with
 | .error e=>(T,e)
 | .ok k=>match T.get k with
  |none=>(T,141)
  |some n=>if n.dir=true then(T,143)else if(n.data.length:Int)<c.pos\/c.kind=2/\16384<c.pos+c.data.length then(T,145)else
   (T.upd k fun n=>{ n with data:=oB c n.data },0)
def iD (T:Tr)(c:bP):Tr×Int:=match zE T c.path with
 | .error e=>(T,e)
 | .ok j=>match T.get j with
  |none=>(T,141)
  |some n=>if n.dir=true then(T,143)else match gC T c.dest with
   | .error e=>(T,e)
   | .ok (k,s)=>((T.named k (me s j)).upd j fun n=>{ n with links:=n.links+1 },0)
def fI (T:Tr):Nat->Int->Nat
 |0,_=>0
 |f+1,k=>match T.get k with
  |none=>0
  |some n=>n.names.foldl (fun m p=>max m (1+fI T f p.2)) 0
def bY (T:Tr)(c:bP):Tr×Int:=if c.path=[47]then(T,144)else match zE T c.path with
 | .error e=>(T,e)
 | .ok j=>if Lib.hasPrefix c.dest (c.path++[47])=true then(T,144)else match gC T c.dest with
  | .error e=>(T,e)
  | .ok (k,s)=>if 8<((bg c.dest).getD []).length+fI T 9 j then(T,145)else
   let l:=(bg c.path).getD []
   match aX T 1 l.dropLast with
   | .error e=>(T,e)
   | .ok o=>((T.named o (fT (l.getLastD []))).named k (me s j),0)
def dx (T:Tr)(c:bP):Tr×Int:=if c.path=[47]then(T,144)else match zE T c.path with
 | .error e=>(T,e)
 | .ok j=>match T.get j with
  |none=>(T,141)
  |some n=>if n.names≠[]then(T,144)else
   let l:=(bg c.path).getD []
   match aX T 1 l.dropLast with
   | .error e=>(T,e)
   | .ok o=>
    let T':=T.named o (fT (l.getLastD []))
    (if n.links=1 then T'.drop j else T'.upd j fun n=>{ n with links:=n.links-1 },0)
def qN (T:Tr)(c:bP):Tr×Int:=if c.ok=false then(T,1)else
 if c.kind=0\/c.kind=1 then gp T c else if c.kind=2\/c.kind=3 then dA T c else if c.kind=4 then iD T c else if c.kind=5 then bY T c else if c.kind=6 then dx T c else(T,1)
def aP (n:Nat):List UInt8:=if h:n<128 then [UInt8.ofNat n]else UInt8.ofNat (n%128+128)::aP (n/128)
 termination_by n
 decreasing_by omega
def lQ (p:List UInt8×Int):List UInt8:=aP p.1.length++p.1++aP p.2.toNat
def mg (l:Nm):List UInt8:=aP l.length++l.flatMap lQ
def wn (was:Option (List UInt8))(p:List UInt8×Int):Bool:=aG p.1&&(match was with|none=>true|some s=>bytesBefore s p.1)&&decide (1<=p.2)&&decide (p.2<=65535)
def gd:Option (List UInt8)->Nm->Bool
 |_,[]=>true
 |was,p::r=>wn was p&&gd (some p.1) r
def oX (l:Nm):Bool:=decide (l.length<=4096)&&gd none l
structure Nt where
 num:Int
 dir:Bool
 links:Int
 data:List UInt8
deriving DecidableEq
def Nd.told (n:Nd):Nt:=⟨n.num,n.dir,n.links,if n.dir=true then mg n.names else n.data⟩
def ar (T:Tr):List Nt:=T.map Nd.told
end
section
open Go.RowKit
section
variable {T:Tr}
abbrev df (T:Tr):Prop:=T.Pairwise fun a b=>a.num<b.num
theorem ax (hs:df T){k:Int}{n:Nd}:T.get k=some n↔n∈T/\n.num=k:=by
 unfold Tr.get
 induction T with
 |nil=>simp
 |cons y r ih=>
  obtain⟨h1,h2⟩:=avF.1 hs;rw[List.find?_cons];by_cases h:y.num=k
  ·rw[ave.2 h]
   constructor
   ·intro e;obtain rfl:=avG e;exact⟨by simp,h⟩
   ·rintro⟨hm,hk⟩;rcases auX.1 hm with rfl|hm
    ·rfl
    ·have:=h1 n hm;omega
  ·rw[avR h];show List.find? _ r=some n↔_;rw[ih h2]
   constructor
   ·rintro⟨hm,hk⟩;exact⟨by simp[hm],hk⟩
   ·rintro⟨hm,hk⟩;rcases auX.1 hm with rfl|hm
    ·exact absurd hk h
    ·exact⟨hm,hk⟩
theorem jB {k:Int}:T.get k=none↔∀ n∈T,n.num≠k:=by
 unfold Tr.get;rw[avA];simp
theorem lR (hs:df T){a b:Nd}(ha:a∈T)(hb:b∈T)(h:a.num=b.num):a=b:=
 avG (((ax hs).2 ⟨ha,h⟩).symm.trans ((ax hs).2 ⟨hb,rfl⟩))
theorem oY {k:Int}{f:Nd->Nd}(hf:∀ n,(f n).num=n.num):(T.upd k f).map (·.num)=T.map (·.num):=by
 unfold Tr.upd;rw[au0];refine au1 fun n _=>?_;show(if n.num==k then f n else n).num=n.num;split
 ·exact hf n
 ·rfl
theorem qO {T:Tr}:df T↔(T.map (·.num)).Pairwise (·<·):=by rw[List.pairwise_map]
theorem jc {k:Int}{f:Nd->Nd}(hf:∀ n,(f n).num=n.num)(hs:df T):df (T.upd k f):=by
 rw[qO,oY hf];exact qO.1 hs
theorem JN {k:Int}{f:Nd->Nd}:(T.upd k f).length=T.length:=by simp[Tr.upd]
theorem vf {k:Int}{f:Nd->Nd}{m:Nd}:m∈T.upd k f↔∃ n∈T,(if n.num==k then f n else n)=m:=by simp[Tr.upd]
theorem Ug {k j:Int}{f:Nd->Nd}(hf:∀ n,(f n).num=n.num):(T.upd k f).get j=if j=k then(T.get j).map f else T.get j:=by
 unfold Tr.get Tr.upd
 induction T with
 |nil=>simp
 |cons y r ih=>
  rw[auy,List.find?_cons,List.find?_cons];by_cases hy:y.num=k
  ·rw[ave.2 hy];simp only[if_true,hf];by_cases hj:y.num=j
   ·rw[ave.2 hj,auI (by omega)];rfl
   ·rw[avR hj];exact ih
  ·rw[avR hy];simp only[Bool.false_eq_true,if_false];by_cases hj:y.num=j
   ·rw[ave.2 hj,auK (by omega)]
   ·rw[avR hj];exact ih
theorem dj {n m:Nd}:m∈Tr.add n T↔m=n\/m∈T:=by
 induction T with
 |nil=>simp[Tr.add]
 |cons y r ih=>
  unfold Tr.add;split
  ·simp
  ·simp[ih];constructor
   ·rintro(h|h|h)<;>simp[h]
   ·rintro(h|h|h)<;>simp[h]
theorem kT {n:Nd}(hs:df T)(hn:∀ m∈T,m.num≠n.num):df (Tr.add n T):=by
 induction T with
 |nil=>simp[Tr.add]
 |cons y r ih=>
  obtain⟨h1,h2⟩:=avF.1 hs;unfold Tr.add;split
  ·rename_i h
   refine avF.2 ⟨fun m hm=>?_,hs⟩;rcases auX.1 hm with rfl|hm
   ·exact h
   ·have:=h1 m hm;omega
  ·rename_i h
   have:=hn y (by simp);refine avF.2 ⟨fun m hm=>?_,ih h2 fun m hm=>hn m (by simp[hm])⟩;rcases dj.1 hm with rfl|hm
   ·omega
   ·exact h1 m hm
theorem Uh {n:Nd}:(Tr.add n T).length=T.length+1:=by
 induction T with
 |nil=>rfl
 |cons y r ih=>
  unfold Tr.add;split
  ·simp
  ·simp[ih]
theorem vg {n:Nd}(hs:df T)(hn:∀ m∈T,m.num≠n.num)(k:Int):(Tr.add n T).get k=if k=n.num then some n else T.get k:=by
 by_cases h:k=n.num
 ·subst h;rw[auI rfl];exact(ax (kT hs hn)).2 ⟨dj.2 (.inl rfl),rfl⟩
 ·rw[auK h]
  cases hg:T.get k with
  |none=>
   rw[jB]at hg ⊢;intro m hm;rcases dj.1 hm with rfl|hm
   ·exact fun e=>h e.symm
   ·exact hg m hm
  |some m=>
   obtain⟨hm,hk⟩:=(ax hs).1 hg;exact(ax (kT hs hn)).2 ⟨dj.2 (.inr hm),hk⟩
theorem cQ {k:Int}{m:Nd}:m∈T.drop k↔m∈T/\m.num≠k:=by simp[Tr.drop]
theorem Di {k:Int}(hs:df T):df (T.drop k):=hs.filter _
def gD (l:Nm)(j:Int):Nat:=l.countP fun p=>p.2==j
def j8 (T:Tr)(j:Int):Nat:=(T.map fun n=>gD n.names j).sum
theorem JO {k:Int}{f:Nd->Nd}(hs:df T){n:Nd}(hn:n∈T)(hk:n.num=k)(j:Int):j8 (T.upd k f) j+gD n.names j=j8 T j+gD (f n).names j:=by
 unfold j8 Tr.upd;rw[au0]
 induction T with
 |nil=>cases hn
 |cons y r ih=>
  obtain⟨h1,h2⟩:=avF.1 hs;simp only[auy,auz,Function.comp];rcases auX.1 hn with rfl|hm
  ·have e2:(r.map ((fun n=>gD n.names j)∘fun x=>if(x.num==k)=true then f x else x))=r.map fun n=>gD n.names j:=by
    refine au1 fun m hm=>?_;have:=h1 m hm;simp only[Function.comp];rw[auK (by simp;omega)]
   have e3:(if(n.num==k)=true then f n else n)=f n:=auI (ave.2 hk);rw[e3];have e4:=avO List.sum e2;simp only[Function.comp_def]at e4 ⊢;omega
  ·have:=h1 n hm;have e3:(if(y.num==k)=true then f y else y)=y:=auK (by simp;omega);rw[e3];have:=ih h2 hm;simp only[Function.comp_def]at this ⊢;omega
theorem Ui {n:Nd}(j:Int):j8 (Tr.add n T) j=gD n.names j+j8 T j:=by
 induction T with
 |nil=>simp[j8,Tr.add]
 |cons y r ih=>
  unfold Tr.add;split
  ·simp[j8]
  ·unfold j8 at*;simp only[auy,auz];rw[ih];omega
theorem wt {n:Nd}(hs:df T)(hn:n∈T)(j:Int):j8 (T.drop n.num) j+gD n.names j=j8 T j:=by
 unfold j8 Tr.drop
 induction T with
 |nil=>cases hn
 |cons y r ih=>
  obtain⟨h1,h2⟩:=avF.1 hs;rw[avN];rcases auX.1 hn with rfl|hm
  ·rw[ave.2 rfl];have e:r.filter (fun m=>!(m.num==n.num))=r:=List.filter_eq_self.2 fun m hm=>by
    have:=h1 m hm;rw[avR (by omega)];rfl
   simp only[Bool.not_true,Bool.false_eq_true,if_false];rw[e];simp only[auy,auz];omega
  ·have:=h1 n hm;rw[avR (by omega)];simp only[Bool.not_false,if_true,auy,auz];have:=ih h2 hm;omega
end
section
variable {l:Nm}
abbrev fq (l:Nm):Prop:=l.Pairwise fun a b=>bytesBefore a.1 b.1=true
theorem Dj {x p:List UInt8×Int}:p∈jN bytesBefore x l↔p=x\/p∈l:=by
 induction l with
 |nil=>simp[jN]
 |cons y r ih=>
  unfold jN;split
  ·simp
  ·simp[ih];constructor
   ·rintro(h|h|h)<;>simp[h]
   ·rintro(h|h|h)<;>simp[h]
theorem kU {s:List UInt8}{p:List UInt8×Int}:p∈gm s l↔p∈l/\p.1≠s:=by simp[gm]
theorem Pr {s:List UInt8}{k:Int}{p:List UInt8×Int}:p∈em bytesBefore s k l↔p=(s,k)\/(p∈l/\p.1≠s):=by
 unfold em;rw[Dj,kU]
theorem Dl {x:List UInt8×Int}(hs:fq l)(hx:∀ p∈l,p.1≠x.1):fq (jN bytesBefore x l):=by
 induction l with
 |nil=>simp[jN]
 |cons y r ih=>
  obtain⟨h1,h2⟩:=avF.1 hs;unfold jN;split
  ·rename_i h
   refine avF.2 ⟨fun m hm=>?_,hs⟩;rcases auX.1 hm with rfl|hm
   ·exact h
   ·exact WideShapes.bytes_trans _ _ _ h (h1 m hm)
  ·rename_i h
   have hy:=hx y (by simp);refine avF.2 ⟨fun m hm=>?_,ih h2 fun m hm=>hx m (by simp[hm])⟩;rcases Dj.1 hm with rfl|hm
   ·rcases WideAt.bytes_total _ _ hy with h'|h'
    ·exact h'
    ·exact absurd h' h
   ·exact h1 m hm
theorem oZ {s:List UInt8}(hs:fq l):fq (gm s l):=hs.filter _
theorem Dm {s:List UInt8}{k:Int}(hs:fq l):fq (em bytesBefore s k l):=
 Dl (oZ hs) fun _ hp=>(kU.1 hp).2
theorem wu (hs:fq l){a b:List UInt8×Int}(ha:a∈l)(hb:b∈l)(h:a.1=b.1):a=b:=by
 induction l with
 |nil=>cases ha
 |cons y r ih=>
  obtain⟨h1,h2⟩:=avF.1 hs;have irr:∀ m∈r,y.1≠m.1:=fun m hm e=>by
   have:=h1 m hm;rw[e,WideAt.bytes_irrefl]at this;cases this
  rcases auX.1 ha with e1|ha1<;>rcases auX.1 hb with e2|hb1
  ·rw[e1,e2]
  ·exact absurd (e1▸h) (irr b hb1)
  ·exact absurd (e2▸h.symm) (irr a ha1)
  ·exact ih h2 ha1 hb1
theorem cC (hs:fq l){s:List UInt8}{k:Int}:bF s l=some k↔(s,k)∈l:=by
 unfold bF
 constructor
 ·intro h;obtain⟨p,hp,rfl⟩:=avM.1 h;have h1:=avx hp;have h2:=avy hp;rw[<-ave.1 h1];exact h2
 ·intro h
  cases hf:l.find? fun p=>p.1==s with
  |none=>exact absurd (avA.1 hf _ h) (by simp)
  |some p=>
   have h1:=avx hf;have h2:=avy hf;have:=wu hs h2 h (ave.1 h1);subst this;rfl
theorem mC {s:List UInt8}:bF s l=none↔∀ p∈l,p.1≠s:=by
 unfold bF;rw[Option.map_eq_none_iff,avA];simp
theorem zF {s:List UInt8}(h:bF s l=none):gm s l=l:=by
 rw[mC]at h;exact List.filter_eq_self.2 fun p hp=>by rw[avR (h p hp)];rfl
theorem Ps {s:List UInt8}{k:Int}:(em bytesBefore s k l).length=(gm s l).length+1:=CX _ _
theorem Lp {x:List UInt8×Int}(j:Int):gD (jN bytesBefore x l) j=gD l j+(if x.2=j then 1 else 0):=by
 unfold gD
 induction l with
 |nil=>simp[jN,List.countP_cons]
 |cons y r ih=>
  unfold jN;split
  ·rw[List.countP_cons];simp
  ·rw[List.countP_cons,List.countP_cons,ih];omega
theorem Pt {s:List UInt8}{k:Int}(h:bF s l=none)(j:Int):gD (em bytesBefore s k l) j=gD l j+(if k=j then 1 else 0):=by
 unfold em;rw[zF h,Lp]
theorem Dn (hs:fq l){s:List UInt8}{k:Int}(h:bF s l=some k)(j:Int):gD (gm s l) j+(if k=j then 1 else 0)=gD l j:=by
 have hm:=(cC hs).1 h;unfold gD gm;clear h
 induction l with
 |nil=>cases hm
 |cons y r ih=>
  obtain⟨h1,h2⟩:=avF.1 hs;rw[avN,List.countP_cons];rcases auX.1 hm with rfl|hm
  ·have e:r.filter (fun p=>!(p.1==s))=r:=List.filter_eq_self.2 fun p hp=>by
    have:=h1 p hp;rw[avR (fun e=>by rw[e,WideAt.bytes_irrefl]at this;cases this)];rfl
   simp only[beq_self_eq_true,Bool.not_true,Bool.false_eq_true,if_false];rw[e];simp
  ·have h3:=h1 _ hm;rw[avR (fun e=>by rw[e,WideAt.bytes_irrefl]at h3;cases h3)];simp only[Bool.not_false,if_true];rw[List.countP_cons];have:=ih h2 hm;omega
end
structure ne (T:Tr)(d:Int->Nat)(off:Int->Int):Prop where
 sorted:df T
 nums:∀ n∈T,1<=n.num/\n.num<=65535
 root:∃ r∈T,r.num=1/\r.dir=true/\r.links=1
 many:T.length<=60
 file:∀ n∈T,n.dir=false->n.names=[]/\n.data.length<=16384
 dirs:∀ n∈T,n.dir=true->n.data=[]
 snames:∀ n∈T,fq n.names
 names:∀ n∈T,n.names.length<=60/\∀ p∈n.names,aG p.1=true
 closed:∀ n∈T,∀ p∈n.names,p.2≠1/\∃ m∈T,m.num=p.2
 count:∀ n∈T,n.num≠1->(j8 T n.num:Int)+off n.num=n.links/\1<=n.links/\(n.dir=true->n.links=1)
 droot:d 1=0
 deep:∀ n∈T,n.names≠[]->d n.num<=7
 depth:∀ n∈T,∀ p∈n.names,∀ m∈T,m.num=p.2->m.dir=true->d p.2=d n.num+1
abbrev WF (T:Tr)(d:Int->Nat):Prop:=ne T d (fun _=>0)
section
variable {T:Tr}{d:Int->Nat}{off:Int->Int}
theorem Gz:WF Tr.new (fun _=>0) where
 sorted:=by simp[Tr.new]
 nums:=by simp[Tr.new]
 root:=⟨_,by simp[Tr.new];rfl,rfl,rfl,rfl⟩
 many:=by simp[Tr.new]
 file:=by simp[Tr.new]
 dirs:=by simp[Tr.new]
 snames:=by simp[Tr.new]
 names:=by simp[Tr.new]
 closed:=by simp[Tr.new]
 count:=by simp[Tr.new]
 droot:=rfl
 deep:=by simp
 depth:=by simp[Tr.new]
theorem ne.get1 (h:ne T d off):∃ r,T.get 1=some r/\r.dir=true:=by
 obtain⟨r,hr,h1,h2,_⟩:=h.root;exact⟨r,(ax h.sorted).2 ⟨hr,h1⟩,h2⟩
theorem vh (h:ne T d off):∀(l:List (List UInt8)) (j k:Int),(∃ n∈T,n.num=j)->aX T j l=.ok k->(∃ n∈T,n.num=k)/\(∀ n,T.get j=some n->n.dir=true->∀ m,T.get k=some m->m.dir=true->d k=d j+l.length):=by
 intro l
 induction l with
 |nil=>
  intro j k hj hf;have e:j=k:=by simpa[aX]using hf
  subst e;exact⟨hj,fun _ _ _ _ _ _=>by simp⟩
 |cons s r ih=>
  intro j k hj hf;unfold aX at hf;split at hf
  ·cases hf
  ·rename_i n hn
   split at hf
   ·rename_i hd
    split at hf
    ·cases hf
    ·rename_i i hi
     obtain⟨hm,hk⟩:=(ax h.sorted).1 hn;have hp:=(cC (h.snames n hm)).1 hi;obtain⟨dW,m,hmT,Kx⟩:=h.closed n hm _ hp;obtain⟨h1,h2⟩:=ih i k ⟨m,hmT,Kx⟩ hf;refine⟨h1,fun n' Wf hd' x hx nh=>?_⟩;have hgm:=(ax h.sorted).2 ⟨hmT,Kx⟩;by_cases oA:m.dir=true
     ·have:=h2 m hgm oA x hx nh;have e:=h.depth n hm _ hp m hmT Kx oA;rw[<-hk];simp only[auA];simp only at e;omega
     ·
      cases r with
      |nil=>
       have e:i=k:=by simpa[aX]using hf
       subst e;rw[hgm]at hx;obtain rfl:=avG hx;exact absurd nh oA
      |cons s2 r2=>
       unfold aX at hf;rw[hgm]at hf;simp[oA]at hf
   ·cases hf
theorem kx (k:Int)(s:List UInt8)(r:List (List UInt8)):aX T k (s::r)=match T.get k with
  |none=>.error 141
  |some n=>if n.dir=true then(match jP s n.names with|none=>.error 141|some j=>aX T j r)else .error 143:=rfl
theorem uj (p q:List (List UInt8)):∀ j,aX T j (p++q)=match aX T j p with | .ok y=>aX T y q | .error e=>.error e:=by
 induction p with
 |nil=>intro j;rfl
 |cons s r ih=>
  intro j;rw[avf,kx,kx]
  cases T.get j with
  |none=>rfl
  |some n=>
   by_cases hd:n.dir=true
   ·simp only[hd,if_true]
    cases hn:jP s n.names with
    |none=>rfl
    |some i=>exact ih i
   ·simp only[hd];rfl
theorem ie {j x:Int}{p:List (List UInt8)}{s:List UInt8}:aX T j (p++[s])=.ok x↔∃ y n,aX T j p=.ok y/\T.get y=some n/\n.dir=true/\jP s n.names=some x:=by
 rw[uj]
 cases hp:aX T j p with
 |error e=>simp
 |ok y=>
  simp only[aX]
  cases hg:T.get y with
  |none=>simp[hg]
  |some n=>
   by_cases hd:n.dir=true
   ·simp only[hd,if_true]
    cases hn:jP s n.names with
    |none=>simp[hg,hn]
    |some i=>simp[hg,hn,hd]
   ·simp only[hd];simp[hg,hd]
theorem Do (h:ne T d off){k:Int}(hk:∀ m∈T,m.num≠k){n:Nd}(hn:n∈T){p:List UInt8×Int}(hp:p∈n.names):p.2≠k:=by
 obtain⟨_,m,hm,e⟩:=h.closed n hn p hp;exact fun e2=>hk m hm (e.trans e2)
theorem Pu {j:Int}(h:∀ n∈T,∀ p∈n.names,p.2≠j):j8 T j=0:=by
 unfold j8;rw[List.sum_eq_zero_iff_forall_eq_nat];intro x hx;obtain⟨n,hn,rfl⟩:=au6.1 hx;unfold gD;rw[List.countP_eq_zero];intro p hp e;exact h n hn p hp (ave.1 e)
theorem A1 {j:Int}{n:Nd}(hn:n∈T){p:List UInt8×Int}(hp:p∈n.names)(e:p.2=j):1<=j8 T j:=by
 rcases Nat.eq_zero_or_pos (j8 T j)with h|h
 ·unfold j8 at h;rw[List.sum_eq_zero_iff_forall_eq_nat]at h;have:=h _ (au6.2 ⟨n,hn,rfl⟩);unfold gD at this;rw[List.countP_eq_zero]at this;exact absurd (ave.2 e) (this p hp)
 ·exact h
theorem Dp (h:ne T d off){k:Int}{up:Nd}{f:Nm->Nm}{BQ:Int->Int}(hk:T.get k=some up)(hd:up.dir=true)(Hs:fq (f up.names))(Hl:(f up.names).length<=60)
  (Hp:∀ p∈f up.names,p∈up.names\/(aG p.1=true/\p.2≠1/\∃ nj,T.get p.2=some nj/\(nj.dir=true->d p.2=d k+1))) (H7:f up.names≠[]->d k<=7)
  (Hc:∀ x,(gD (f up.names) x:Int)+BQ x=gD up.names x+off x):ne (T.named k f) d BQ:=by
 obtain⟨vu,rl⟩:=(ax h.sorted).1 hk;have hf:∀ n:Nd,({ n with names:=f n.names }:Nd).num=n.num:=fun _=>rfl;have hex:∀ x,(∃ m∈T.named k f,m.num=x)↔∃ m∈T,m.num=x:=fun x=>by
  have e:=oY (T:=T) (k:=k) hf;have:x∈(T.named k f).map (·.num)↔x∈T.map (·.num):=by unfold Tr.named;rw[e]
  simpa using this
 have eG:∀ m∈T.named k f,∃ n∈T,n.num=m.num/\n.dir=m.dir/\n.links=m.links/\n.data=m.data/\((n.num≠k/\m.names=n.names)\/(n=up/\m.names=f up.names)):=by
  intro m hm;obtain⟨n,hn,rfl⟩:=vf.1 hm;refine⟨n,hn,?_⟩;by_cases e:n.num=k
  ·rw[auI (ave.2 e)];have e2:=lR h.sorted hn vu (by omega);exact⟨rfl,rfl,rfl,rfl,.inr ⟨e2,by rw[<-e2]⟩⟩
  ·rw[auK (by simpa using e)];exact⟨rfl,rfl,rfl,rfl,.inl ⟨e,rfl⟩⟩
 refine⟨jc hf h.sorted,?_,?_,by unfold Tr.named;rw[JN];exact h.many,?_,?_,?_,?_,?_,?_,h.droot,?_,?_⟩
 ·intro m hm;obtain⟨n,hn,e,_⟩:=eG m hm;rw[<-e];exact h.nums n hn
 ·obtain⟨r,hr,h1,h2,h3⟩:=h.root;obtain⟨m,hm,e⟩:=(hex 1).2 ⟨r,hr,h1⟩;obtain⟨n,hn,e1,e2,e3,_⟩:=eG m hm;have e6:=lR h.sorted hn hr (by omega);exact⟨m,hm,e,by rw[<-e2,e6];exact h2,by rw[<-e3,e6];exact h3⟩
 ·intro m hm oA;obtain⟨n,hn,e1,e2,e3,e4,e5⟩:=eG m hm;rw[<-e2]at oA;rw[<-e4];have:=h.file n hn oA;rcases e5 with⟨_,e5⟩|⟨e6,_⟩
  ·rw[e5];exact this
  ·rw[e6,hd]at oA;cases oA
 ·intro m hm oA;obtain⟨n,hn,e1,e2,e3,e4,e5⟩:=eG m hm;rw[<-e4];exact h.dirs n hn (e2.trans oA)
 ·intro m hm;obtain⟨n,hn,e1,e2,e3,e4,⟨_,e5⟩|⟨_,e5⟩⟩:=eG m hm<;>rw[e5]
  ·exact h.snames n hn
  ·exact Hs
 ·intro m hm;obtain⟨n,hn,e1,e2,e3,e4,⟨_,e5⟩|⟨_,e5⟩⟩:=eG m hm<;>rw[e5]
  ·exact h.names n hn
  ·refine⟨Hl,fun p hp=>?_⟩;rcases Hp p hp with hp|hp
   ·exact(h.names up vu).2 p hp
   ·exact hp.1
 ·intro m hm p hp;rw[hex];obtain⟨n,hn,e1,e2,e3,e4,⟨_,e5⟩|⟨_,e5⟩⟩:=eG m hm<;>rw[e5]at hp
  ·exact h.closed n hn p hp
  ·rcases Hp p hp with hp|⟨_,h1,nj,KJ,_⟩
   ·exact h.closed up vu p hp
   ·obtain⟨a,b⟩:=(ax h.sorted).1 KJ;exact⟨h1,nj,a,b⟩
 ·intro m hm h1;obtain⟨n,hn,e1,e2,e3,e4,_⟩:=eG m hm;have:=h.count n hn (by rw[e1];exact h1);have hc:j8 (T.named k f) m.num+gD up.names m.num=j8 T m.num+gD (f up.names) m.num:=JO (f:=fun n=>{ n with names:=f n.names }) h.sorted vu rl m.num;have hp:=Hc m.num;rw[<-e2,<-e3];refine⟨?_,this.2⟩;have t1:=this.1;rw[e1]at t1;omega
 ·intro m hm dW;obtain⟨n,hn,e1,e2,e3,e4,⟨_,e5⟩|⟨e6,e5⟩⟩:=eG m hm
  ·rw[e5]at dW;rw[<-e1];exact h.deep n hn dW
  ·rw[<-e1,e6,rl];rw[e5]at dW;exact H7 dW
 ·intro m hm p hp x hx Oo nh;obtain⟨nx,pH,f1,f2,_⟩:=eG x hx;obtain⟨n,hn,e1,e2,e3,e4,e5⟩:=eG m hm;rw[<-e1];rcases e5 with⟨_,e5⟩|⟨e6,e5⟩
  ·rw[e5]at hp;exact h.depth n hn p hp nx pH (f1.trans Oo) (f2.trans nh)
  ·rw[e5]at hp;rcases Hp p hp with hp|⟨_,_,nj,KJ,hdj⟩
   ·rw[e6];exact h.depth up vu p hp nx pH (f1.trans Oo) (f2.trans nh)
   ·have e7:nx=nj:=avG (((ax h.sorted).2 ⟨pH,f1.trans Oo⟩).symm.trans KJ);rw[e6,rl];exact hdj (by rw[<-e7];exact f2.trans nh)
theorem GA (h:ne T d off){k j:Int}{s:List UInt8}{up:Nd}(hk:T.get k=some up)(hd:up.dir=true)(hs:jP s up.names=none)(hl:up.names.length<60)(cq:aG s=true)
  (hj:j≠1) {nj:Nd} (KJ:T.get j=some nj) (h7:d k<=7) (hdj:nj.dir=true->d j=d k+1):ne (T.named k (me s j)) d (fun x=>off x-if j=x then 1 else 0):=by
 obtain⟨vu,rl⟩:=(ax h.sorted).1 hk;refine Dp h hk hd (Dm (h.snames up vu)) (by rw[Ps,zF hs];omega) (fun p hp=>?_) (fun _=>h7) (fun x=>?_)
 ·rcases Pr.1 hp with rfl|⟨hp,_⟩
  ·exact .inr ⟨cq,hj,nj,KJ,hdj⟩
  ·exact .inl hp
 ·have h1:gD (me s j up.names) x=gD up.names x+(if j=x then 1 else 0):=Pt hs x;by_cases h2:j=x
  ·rw[auI h2]at h1;simp only[auI h2];omega
  ·rw[auK h2]at h1;simp only[auK h2];omega
theorem Pv (h:ne T d off){k j:Int}{s:List UInt8}{up:Nd}(hk:T.get k=some up)(hs:jP s up.names=some j):ne (T.named k (fT s)) d (fun x=>off x+if j=x then 1 else 0):=by
 obtain⟨vu,rl⟩:=(ax h.sorted).1 hk;have sK:=(cC (h.snames up vu)).1 hs;have dW:up.names≠[]:=List.ne_nil_of_mem sK;have hd:up.dir=true:=by
  cases hd:up.dir with
  |true=>rfl
  |false=>exact absurd (h.file up vu hd).1 dW
 refine Dp h hk hd (oZ (h.snames up vu)) (aux (rO _ _) (h.names up vu).1) (fun p hp=>.inl (kU.1 hp).1) (fun _=>by rw[<-rl];exact h.deep up vu dW) (fun x=>?_);have h1:gD (fT s up.names) x+(if j=x then 1 else 0)=gD up.names x:=Dn (h.snames up vu) hs x;by_cases h2:j=x
 ·rw[auI h2]at h1;simp only[auI h2];omega
 ·rw[auK h2]at h1;simp only[auK h2];omega
theorem GB (h:ne T d off){k:Int}{n0:Nd}{f:Nd->Nd}{BQ:Int->Int}(hk:T.get k=some n0)(hf:∀ n,(f n).num=n.num/\(f n).dir=n.dir/\(f n).names=n.names)
  (aeJ:n0.dir=false->(f n0).data.length<=16384) (akG:n0.dir=true->(f n0).data=[]) (oy:k=1->(f n0).links=n0.links)
  (Hc:k≠1->(f n0).links=n0.links+BQ k-off k/\1<=(f n0).links/\(n0.dir=true->(f n0).links=1)) (Ho:∀ n∈T,n.num≠k->BQ n.num=off n.num):ne (T.upd k f) d BQ:=by
 obtain⟨vu,rl⟩:=(ax h.sorted).1 hk;have RJ:∀ n,(f n).num=n.num:=fun n=>(hf n).1;have hex:∀ x,(∃ m∈T.upd k f,m.num=x)↔∃ m∈T,m.num=x:=fun x=>by
  have e:=oY (T:=T) (k:=k) RJ;have:x∈(T.upd k f).map (·.num)↔x∈T.map (·.num):=by rw[e]
  simpa using this
 have eG:∀ m∈T.upd k f,∃ n∈T,n.num=m.num/\n.dir=m.dir/\n.names=m.names/\((n.num≠k/\m.links=n.links/\m.data=n.data)\/(n=n0/\m.links=(f n0).links/\m.data=(f n0).data)):=by
  intro m hm;obtain⟨n,hn,rfl⟩:=vf.1 hm;refine⟨n,hn,?_⟩;by_cases e:n.num=k
  ·rw[auI (ave.2 e)];have e2:=lR h.sorted hn vu (by omega);exact⟨(hf n).1.symm,(hf n).2.1.symm,(hf n).2.2.symm,.inr ⟨e2,by rw[e2],by rw[e2]⟩⟩
  ·rw[auK (by simpa using e)];exact⟨rfl,rfl,rfl,.inl ⟨e,rfl,rfl⟩⟩
 have Tp:∀ x,j8 (T.upd k f) x=j8 T x:=fun x=>by
  have:=JO (f:=f) h.sorted vu rl x;rw[(hf n0).2.2]at this;omega
 refine⟨jc RJ h.sorted,?_,?_,by rw[JN];exact h.many,?_,?_,?_,?_,?_,?_,h.droot,?_,?_⟩
 ·intro m hm;obtain⟨n,hn,e,_⟩:=eG m hm;rw[<-e];exact h.nums n hn
 ·obtain⟨r,hr,h1,h2,h3⟩:=h.root;obtain⟨m,hm,e⟩:=(hex 1).2 ⟨r,hr,h1⟩;obtain⟨n,hn,e1,e2,e3,e4⟩:=eG m hm;have e6:=lR h.sorted hn hr (by omega);refine⟨m,hm,e,by rw[<-e2,e6];exact h2,?_⟩;rcases e4 with⟨_,e4,_⟩|⟨e5,e4,_⟩
  ·rw[e4,e6];exact h3
  ·rw[e4,oy (by rw[<-rl,<-e5];omega),<-e5,e6];exact h3
 ·intro m hm oA;obtain⟨n,hn,e1,e2,e3,e4⟩:=eG m hm;rw[<-e2]at oA;rw[<-e3];have:=h.file n hn oA;refine⟨this.1,?_⟩;rcases e4 with⟨_,_,e4⟩|⟨e5,_,e4⟩<;>rw[e4]
  ·exact this.2
  ·exact aeJ (by rw[<-e5];exact oA)
 ·intro m hm oA;obtain⟨n,hn,e1,e2,e3,e4⟩:=eG m hm;rw[<-e2]at oA;rcases e4 with⟨_,_,e4⟩|⟨e5,_,e4⟩<;>rw[e4]
  ·exact h.dirs n hn oA
  ·exact akG (by rw[<-e5];exact oA)
 ·intro m hm;obtain⟨n,hn,e1,e2,e3,e4⟩:=eG m hm;rw[<-e3];exact h.snames n hn
 ·intro m hm;obtain⟨n,hn,e1,e2,e3,e4⟩:=eG m hm;rw[<-e3];exact h.names n hn
 ·intro m hm p hp;rw[hex];obtain⟨n,hn,e1,e2,e3,e4⟩:=eG m hm;rw[<-e3]at hp;exact h.closed n hn p hp
 ·intro m hm h1;obtain⟨n,hn,e1,e2,e3,e4⟩:=eG m hm;have h2:=h.count n hn (by rw[e1];exact h1);rw[Tp,<-e1,<-e2];rcases e4 with⟨e5,e4,_⟩|⟨e5,e4,_⟩<;>rw[e4]
  ·rw[Ho n hn e5];exact h2
  ·have hnk:n.num=k:=by rw[e5];exact rl
   have h3:=Hc (by rw[<-hnk,e1];exact h1);rw[e5]at h2 ⊢;rw[rl]at h2 ⊢;refine⟨?_,h3.2⟩;omega
 ·intro m hm dW;obtain⟨n,hn,e1,e2,e3,e4⟩:=eG m hm;rw[<-e3]at dW;rw[<-e1];exact h.deep n hn dW
 ·intro m hm p hp x hx Oo nh;obtain⟨nx,pH,f1,f2,_⟩:=eG x hx;obtain⟨n,hn,e1,e2,e3,e4⟩:=eG m hm;rw[<-e1];rw[<-e3]at hp;exact h.depth n hn p hp nx pH (f1.trans Oo) (f2.trans nh)
theorem YH (h:ne T d off){n0:Nd}(hn:∀ m∈T,m.num≠n0.num)(h1:1<n0.num)(h2:n0.num<=65535)(hl:n0.links=1)(nZ:n0.names=[])(hdt:n0.data=[])(hT:T.length<60)(v:Nat):
  ne (Tr.add n0 T) (fun x=>if x=n0.num then v else d x) (fun x=>if x=n0.num then 1 else off x):=by
 have dW:∀ n∈T,∀ p∈n.names,p.2≠n0.num:=fun n hnT p hp=>Do h hn hnT hp;refine⟨kT h.sorted hn,?_,?_,by rw[Uh];omega,?_,?_,?_,?_,?_,?_,?_,?_,?_⟩
 ·intro m hm;rcases dj.1 hm with rfl|hm
  ·exact⟨by omega,h2⟩
  ·exact h.nums m hm
 ·obtain⟨r,hr,h⟩:=h.root;exact⟨r,dj.2 (.inr hr),h⟩
 ·intro m hm oA;rcases dj.1 hm with rfl|hm
  ·exact⟨nZ,by rw[hdt];simp⟩
  ·exact h.file m hm oA
 ·intro m hm oA;rcases dj.1 hm with rfl|hm
  ·exact hdt
  ·exact h.dirs m hm oA
 ·intro m hm;rcases dj.1 hm with rfl|hm
  ·rw[nZ];exact List.Pairwise.nil
  ·exact h.snames m hm
 ·intro m hm;rcases dj.1 hm with rfl|hm
  ·rw[nZ];simp
  ·exact h.names m hm
 ·intro m hm p hp;rcases dj.1 hm with rfl|hm
  ·rw[nZ]at hp;cases hp
  ·obtain⟨a,x,hx,e⟩:=h.closed m hm p hp;exact⟨a,x,dj.2 (.inr hx),e⟩
 ·intro m hm mT;rw[Ui,nZ];rcases dj.1 hm with rfl|hm
  ·rw[auI rfl,Pu dW];exact⟨by rw[hl];rfl,by omega,fun _=>hl⟩
  ·rw[auK (hn m hm)];have:=h.count m hm mT;exact⟨by simp only[gD,List.countP_nil];omega,this.2⟩
 ·rw[auK (by omega)];exact h.droot
 ·intro m hm Kx;rcases dj.1 hm with rfl|hm
  ·exact absurd nZ Kx
  ·rw[auK (hn m hm)];exact h.deep m hm Kx
 ·intro m hm p hp x hx Oo nh;rcases dj.1 hm with rfl|hm
  ·rw[nZ]at hp;cases hp
  ·have e:=dW m hm p hp;rw[auK e,auK (hn m hm)];rcases dj.1 hx with rfl|hx
   ·exact absurd Oo.symm e
   ·exact h.depth m hm p hp x hx Oo nh
theorem Uj (h:ne T d off){n0:Nd}(hn:n0∈T)(h1:n0.num≠1)(hc:j8 T n0.num=0)(nZ:n0.names=[]):ne (T.drop n0.num) d off:=by
 have dW:∀ n∈T,∀ p∈n.names,p.2≠n0.num:=fun n hnT p hp e=>by
  have:=A1 hnT hp e;omega
 refine⟨Di h.sorted,fun m hm=>h.nums m (cQ.1 hm).1,?_,aux (auM _ _) h.many,fun m hm=>h.file m (cQ.1 hm).1,fun m hm=>h.dirs m (cQ.1 hm).1,fun m hm=>h.snames m (cQ.1 hm).1,fun m hm=>h.names m (cQ.1 hm).1,?_,?_,h.droot,fun m hm=>h.deep m (cQ.1 hm).1,fun m hm p hp x hx=>h.depth m (cQ.1 hm).1 p hp x (cQ.1 hx).1⟩
 ·obtain⟨r,hr,e,h2⟩:=h.root;exact⟨r,cQ.2 ⟨hr,by omega⟩,e,h2⟩
 ·intro m hm p hp;obtain⟨a,x,hx,e⟩:=h.closed m (cQ.1 hm).1 p hp;exact⟨a,x,cQ.2 ⟨hx,by rw[e];exact dW m (cQ.1 hm).1 p hp⟩,e⟩
 ·intro m hm mT;have hcd:=wt h.sorted hn m.num;rw[nZ]at hcd;have:=h.count m (cQ.1 hm).1 mT;exact⟨by simp only[gD,List.countP_nil]at hcd;omega,this.2⟩
theorem Uk (h:ne T d off){d':Int->Nat}(h0:d' 1=0)(h1:∀ n∈T,n.names≠[]->d' n.num<=7)(h2:∀ n∈T,∀ p∈n.names,∀ m∈T,m.num=p.2->m.dir=true->d' p.2=d' n.num+1):ne T d' off:=
 { h with droot:=h0,deep:=h1,depth:=h2 }
theorem GC (h:ne T d off){BQ:Int->Int}(ho:∀ n∈T,n.num≠1->BQ n.num=off n.num):ne T d BQ:=
 { h with count:=fun n hn h1=>by rw[ho n hn h1];exact h.count n hn h1 }
end
end
section
open Go.RowKit
section
variable {T:Tr}{d:Int->Nat}{off:Int->Int}
theorem eY {k j:Int}{f:Nm->Nm}:(T.named k f).get j=if j=k then(T.get j).map (fun n=>{ n with names:=f n.names })else T.get j:=
 Ug (f:=fun n=>{ n with names:=f n.names }) fun _=>rfl
theorem fJ {α:Type}(l:List α):l=[]\/∃ p s,l=p++[s]:=by
 rcases List.eq_nil_or_concat l with h|⟨p,s,h⟩
 ·exact .inl h
 ·exact .inr ⟨p,s,by rw[h,List.concat_eq_append]⟩
theorem JP {α:Type}(z:α){l:List α}(h:l≠[]):l=l.dropLast++[l.getLastD z]:=by
 rcases fJ l with h1|⟨p,s,rfl⟩
 ·exact absurd h1 h
 ·simp
theorem ww {s:List UInt8}{l:List (List UInt8)}(h:bg s=some l):l.length<=8/\∀ x∈l,aG x=true:=by
 obtain⟨r,_,⟨_,rfl⟩|⟨_,_,h1,h2⟩⟩:=jb h
 ·simp
 ·exact⟨h1,auU.1 h2⟩
theorem Lq {s:List UInt8}(h:bg s=some []):s=[47]:=by
 obtain⟨r,rfl,⟨rfl,_⟩|⟨_,h1,_⟩⟩:=jb h
 ·rfl
 ·exact absurd h1.symm (vQ 47 r)
theorem A3 (l q:List (List UInt8))(hl:l≠[])(hq:q≠[]):[(47:UInt8)].intercalate (l++q)=[(47:UInt8)].intercalate l++47::[(47:UInt8)].intercalate q:=by
 induction l with
 |nil=>exact absurd rfl hl
 |cons x l ih=>
  cases l with
  |nil=>
   cases q with
   |nil=>exact absurd rfl hq
   |cons y q=>simp[List.intercalate]
  |cons y l=>
   have e:∀ m:List (List UInt8),[(47:UInt8)].intercalate (x::y::m)=x++47::[(47:UInt8)].intercalate (y::m):=fun m=>by simp[List.intercalate]
   rw[avf,avf,e,e,<-avf,ih (by simp)];simp
theorem Dq {a b:List UInt8}{l q:List (List UInt8)}(ha:bg a=some l)(hb:bg b=some (l++q))(hl:l≠[])(hq:q≠[]):Lib.hasPrefix b (a++[47])=true:=by
 obtain⟨r,rfl,⟨_,e⟩|⟨_,e1,_⟩⟩:=jb ha
 ·exact absurd e hl
 ·obtain⟨r2,rfl,⟨_,e⟩|⟨_,e2,_⟩⟩:=jb hb
  ·simp at e;exact absurd e.1 hl
  ·have j1:=vT 47 r;have j2:=vT 47 r2;rw[<-e1]at j1;rw[<-e2,A3 l q hl hq,j1]at j2;unfold Lib.hasPrefix;rw[List.isPrefixOf_iff_prefix];exact⟨[(47:UInt8)].intercalate q,by rw[<-j2];simp⟩
theorem zG (h:ne T d off){path:List UInt8}{k:Int}(ha:zE T path=.ok k):∃ l n,bg path=some l/\aX T 1 l=.ok k/\T.get k=some n:=by
 unfold zE at ha
 cases hp:bg path with
 |none=>rw[hp]at ha;cases ha
 |some l=>
  rw[hp]at ha;obtain⟨r,hr,h1,_⟩:=h.root;obtain⟨n,hn,hk⟩:=(vh h l 1 k ⟨r,hr,h1⟩ ha).1;exact⟨l,n,rfl,ha,(ax h.sorted).2 ⟨hn,hk⟩⟩
theorem pQ (h:ne T d off){path s:List UInt8}{k:Int}(hr:gC T path=.ok (k,s)):∃ p up,bg path=some (p++[s])/\p.length<=7/\aG s=true/\aX T 1 p=.ok k/\T.get k=some up/\up.dir=true/\jP s up.names=none/\up.names.length<60/\d k=p.length:=by
 unfold gC at hr
 cases hp:bg path with
 |none=>rw[hp]at hr;simp at hr
 |some l=>
  rw[hp]at hr;simp only[avb]at hr;split at hr
  ·cases hr
  ·rename_i hl
   split at hr
   ·cases hr
   ·rename_i k' hf
    split at hr
    ·cases hr
    ·rename_i up hu
     split at hr
     ·cases hr
     ·rename_i hd
      split at hr
      ·cases hr
      ·rename_i hn
       split at hr
       ·cases hr
       ·rename_i sW
        simp only[Except.ok.injEq,Prod.mk.injEq]at hr;obtain⟨rfl,rfl⟩:=hr;have hs:=JP [] hl;obtain⟨h8,cq⟩:=ww hp;have aV:=avO List.length hs;simp only[auS,auA,avK]at aV;obtain⟨r,hr,h1,FB,_⟩:=h.root;have adz:up.dir=true:=by simpa using hd
        refine⟨l.dropLast,up,by rw[<-hs],by omega,cq _ (by rw[hs];simp),hf,hu,adz,by simpa using hn,by omega,?_⟩;have:=(vh h _ 1 k' ⟨r,hr,h1⟩ hf).2 r ((ax h.sorted).2 ⟨hr,h1⟩) FB up hu adz;rw[this,h.droot];omega
theorem Pw {f:Nat}{k j:Int}(hj:k<=j)(hj2:j<k+f)(hg:T.get j=none):T.get (d7 T f k)=none/\k<=d7 T f k/\d7 T f k<=j:=by
 induction f generalizing k with
 |zero=>omega
 |succ f ih=>
  unfold d7;by_cases hk:(T.get k).isSome=true
  ·rw[auI hk];have dW:j≠k:=fun e=>by rw[e]at hg;rw[hg]at hk;cases hk
   have:=ih (k:=k+1) (by omega) (by omega);exact⟨this.1,by omega,this.2.2⟩
  ·rw[auK hk];exact⟨by simpa using hk,Int.le_refl _,hj⟩
theorem wA {k:Int}{n:Nd}(hn:n∈T)(hk:n.num=k):T.countP (fun m=>decide (k+1<=m.num))+1<=T.countP (fun m=>decide (k<=m.num)):=by
 induction T with
 |nil=>cases hn
 |cons y r ih=>
  rw[List.countP_cons,List.countP_cons];rcases auX.1 hn with rfl|hm
  ·have:r.countP (fun m=>decide (k+1<=m.num))<=r.countP (fun m=>decide (k<=m.num)):=List.countP_mono_left fun m _ h=>by simp at h ⊢;omega
   rw[auK (by simp;omega),auI (by simp;omega)];omega
  ·have:=ih hm;by_cases h1:k+1<=y.num
   ·rw[auI (by simpa using h1),auI (by simp;omega)];omega
   ·rw[auK (by simpa using h1)];split<;>omega
theorem GD {f:Nat}{k:Int}(h:∀ j,k<=j->j<k+f->∃ n∈T,n.num=j):f<=T.countP (fun m=>decide (k<=m.num)):=by
 induction f generalizing k with
 |zero=>omega
 |succ f ih=>
  obtain⟨n,hn,hk⟩:=h k (by omega) (by omega);have h1:=wA hn hk;have h2:=ih (k:=k+1) fun j h1 h2=>h j (by omega) (by omega);omega
theorem ne.fresh (h:ne T d off):T.get (d7 T T.length 2)=none/\2<=d7 T T.length 2/\d7 T T.length 2<=T.length+1:=by
 have:∃ j,2<=j/\j<2+(T.length:Int)/\T.get j=none:=by
  apply avv;intro hc;have h1:=GD (T:=T) (k:=2) (f:=T.length) fun j h1 h2=>by
   cases hg:T.get j with
   |none=>exact absurd ⟨j,h1,h2,hg⟩ hc
   |some n=>exact⟨n,(ax h.sorted).1 hg⟩
  obtain⟨r,hr,KG,_⟩:=h.root;have h2:=wA hr KG;have h3:=List.countP_le_length (p:=fun m:Nd=>decide (1<=m.num)) (l:=T);have h4:T.countP (fun m=>decide ((1:Int)+1<=m.num))=T.countP (fun m=>decide (2<=m.num)):=rfl;omega
 obtain⟨j,h1,h2,h3⟩:=this;have:=Pw h1 h2 h3;exact⟨this.1,this.2.1,by omega⟩
theorem Px (h:WF T d)(c:bP):∃ d',WF (gp T c).1 d':=by
 unfold gp;split
 ·exact⟨d,h⟩
 ·rename_i k s hr
  obtain⟨p,up,hp,pG,cq,hf,hg,hd,hn,sW,zm⟩:=pQ h hr;split
  ·exact⟨d,h⟩
  ·rename_i hT
   obtain⟨f1,f2,f3⟩:=ne.fresh h;generalize dC:d7 T T.length 2=num at*;have dW:=jB.1 f1;obtain⟨vu,rl⟩:=(ax h.sorted).1 hg;have aas:k≠num:=fun e=>dW up vu (by omega)
   let n0:Nd:=⟨num,c.kind==1,1,[],[]⟩
   have h1:=YH (n0:=n0) h dW (by show 1<num;omega) (by show num<=65535;have:=h.many;omega) rfl rfl rfl (by omega) (d k+1);have g1:(Tr.add n0 T).get k=some up:=by rw[vg h.sorted dW,auK aas];exact hg
   have g2:(Tr.add n0 T).get num=some n0:=by rw[vg h.sorted dW];exact auI rfl
   have h2:=GA (j:=num) h1 g1 hd hn sW cq (by omega) g2 (by show(if k=num then _ else d k)<=7;rw[auK aas];omega) (fun _=>by show(if num=num then _ else _)=(if k=num then _ else _)+1;rw[auI rfl,auK aas]);refine⟨_,GC h2 fun n hn h1=>?_⟩;show(0:Int)=(if n.num=num then 1 else 0)-if num=n.num then 1 else 0;by_cases e:n.num=num
   ·rw[auI e,auI e.symm];omega
   ·rw[auK e,auK (fun e2=>e e2.symm)];omega
theorem Ul {c:bP}{b:List UInt8}(h0:0<=c.pos)(hb:b.length<=16384)(hp:c.pos<=b.length)(h2:c.kind=2->c.pos+c.data.length<=16384)(h3:c.kind≠2->c.data=[]):(oB c b).length<=16384:=by
 unfold oB;have h1:(b.take c.pos.toNat++c.data).length<=16384:=by
  rw[auS,auH];by_cases h:c.kind=2
  ·have:=h2 h;omega
  ·rw[h3 h];simp;omega
 simp only;split
 ·rename_i h
  rw[auS,List.length_drop];omega
 ·exact h1
theorem Lr (h:WF T d)(c:bP)(h0:0<=c.pos)(h3:c.kind≠2->c.data=[]):WF (dA T c).1 d:=by
 unfold dA;split
 ·exact h
 ·rename_i k ha
  split
  ·exact h
  ·rename_i n hg
   split
   ·exact h
   ·rename_i hd
    split
    ·exact h
    ·rename_i hb
     have hdf:n.dir=false:=by simpa using hd
     obtain⟨hm,hk⟩:=(ax h.sorted).1 hg;refine GB h hg (fun _=>⟨rfl,rfl,rfl⟩) (fun _=>?_) (fun e=>absurd e hd) (fun _=>rfl) (fun h1=>?_) (fun _ _ _=>rfl)
     ·exact Ul h0 (h.file n hm hdf).2 (by omega) (fun h2=>by
       apply Decidable.byContradiction;intro h4;exact hb (.inr ⟨h2,by omega⟩)) h3
     ·have:=h.count n hm (by omega);exact⟨by show n.links=n.links+0-0;omega,this.2⟩
theorem Py (h:WF T d)(c:bP):WF (iD T c).1 d:=by
 unfold iD;split
 ·exact h
 ·rename_i j ha
  split
  ·exact h
  ·rename_i n hg
   split
   ·exact h
   ·rename_i hd
    split
    ·exact h
    ·rename_i k s hr
     obtain⟨p,up,hp,pG,cq,hf,Kz,zm,hn,sW,Wi⟩:=pQ h hr;obtain⟨hm,hj⟩:=(ax h.sorted).1 hg;obtain⟨r,KG,tT⟩:=ne.get1 h;have TC:j≠1:=fun e=>by rw[e,KG]at hg;obtain rfl:=avG hg;exact hd tT
     have yo:j≠k:=fun e=>by rw[e,Kz]at hg;obtain rfl:=avG hg;exact hd zm
     have h1:=GA (j:=j) h Kz zm hn sW cq TC hg (by omega) (fun e=>absurd e hd);have g1:(T.named k (me s j)).get j=some n:=by rw[eY,auK yo];exact hg
     have hc:=h.count n hm (by omega);refine GB h1 g1 (fun _=>⟨rfl,rfl,rfl⟩) (fun _=>(h.file n hm (by simpa using hd)).2) (fun e=>absurd e hd) (fun e=>absurd e TC) (fun _=>?_) (fun m _ hmj=>?_)
     ·refine⟨by show n.links+1=n.links+0-(0-if j=j then 1 else 0);rw[auI rfl];omega,by show 1<=n.links+1;omega,fun e=>absurd e hd⟩
     ·show(0:Int)=0-if j=m.num then 1 else 0;rw[auK (fun e=>hmj e.symm)];omega
theorem vi (h:ne T d off){path:List UInt8}{j:Int}(ha:zE T path=.ok j)(dW:path≠[47]):∃ p s o up,bg path=some (p++[s])/\aX T 1 (p++[s])=.ok j/\aX T 1 p=.ok o/\T.get o=some up/\up.dir=true/\jP s up.names=some j:=by
 obtain⟨l,n,hp,hf,hg⟩:=zG h ha;have hl:l≠[]:=fun e=>by rw[e]at hp;exact dW (Lq hp)
 have hs:=JP [] hl;rw[hs]at hf hp;obtain⟨o,up,h1,h2,h3,h4⟩:=ie.1 hf;exact⟨_,_,o,up,hp,hf,h1,h2,h3,h4⟩
theorem GE (h:WF T d)(c:bP):WF (dx T c).1 d:=by
 unfold dx;split
 ·exact h
 ·rename_i dW
  split
  ·exact h
  ·rename_i j ha
   split
   ·exact h
   ·rename_i n hg
    split
    ·exact h
    ·rename_i nZ
     have nZ:n.names=[]:=by simpa using nZ
     obtain⟨p,s,o,up,hp,hf,ON,N4,nR,hs⟩:=vi h ha dW;simp only[hp,avb,List.dropLast_concat,List.getLastD_concat,ON];obtain⟨hm,hj⟩:=(ax h.sorted).1 hg;obtain⟨Vx,Jj⟩:=(ax h.sorted).1 N4;have sK:=(cC (h.snames up Vx)).1 hs;have TC:=(h.closed up Vx _ sK).1;have hjo:j≠o:=fun e=>by
      rw[e,N4]at hg;obtain rfl:=avG hg;rw[nZ]at sK;cases sK
     have h1:=Pv h N4 hs;have g1:(T.named o (fT s)).get j=some n:=by rw[eY,auK hjo];exact hg
     obtain⟨mT,_⟩:=(ax h1.sorted).1 g1;have hc:=h1.count n mT (by rw[hj];exact TC);split
     ·rename_i vw
      have h2:=Uj h1 mT (by rw[hj];exact TC) (by
       have:=hc.1;rw[auI hj.symm]at this;omega) nZ
      rw[hj]at h2;refine GC h2 fun m gV _=>?_;show(0:Int)=0+if j=m.num then 1 else 0;rw[auK (fun e=>(cQ.1 gV).2 e.symm)];omega
     ·rename_i vw
      have hd:¬ n.dir=true:=fun e=>vw (hc.2.2 e);refine GB h1 g1 (fun _=>⟨rfl,rfl,rfl⟩) (fun _=>(h.file n hm (by simpa using hd)).2) (fun e=>absurd e hd) (fun e=>absurd e TC) (fun _=>?_) (fun m _ hmj=>?_)
      ·refine⟨by show n.links-1=n.links+0-(0+if j=j then 1 else 0);rw[auI rfl];omega,by show 1<=n.links-1;omega,fun e=>absurd e hd⟩
      ·show(0:Int)=0+if j=m.num then 1 else 0;rw[auK (fun e=>hmj e.symm)];omega
theorem zH {T1:Tr}(hm:∀ k n1,T1.get k=some n1->∃ n,T.get k=some n/\(n1.dir=true->n.dir=true)/\∀ s i,jP s n1.names=some i->jP s n.names=some i):∀(p:List (List UInt8)) (j k:Int),aX T1 j p=.ok k->aX T j p=.ok k:=by
 intro p
 induction p with
 |nil=>intro j k h;exact h
 |cons s r ih=>
  intro j k h;unfold aX at h ⊢
  cases hg:T1.get j with
  |none=>rw[hg]at h;cases h
  |some n1=>
   rw[hg]at h;obtain⟨n,hn,hd,hs⟩:=hm j n1 hg;rw[hn];simp only at h ⊢;split at h
   ·rename_i h1
    rw[auI (hd h1)]
    cases hi:jP s n1.names with
    |none=>rw[hi]at h;cases h
    |some i=>
     rw[hi]at h;rw[hs s i hi];exact ih i k h
   ·cases h
theorem wB (h:ne T d off){k:Int}(hc:j8 T k<=1){y y':Nd}(hy:y∈T)(hy':y'∈T){p p':List UInt8×Int}(hp:p∈y.names)(CC:p'∈y'.names)(e:p.2=k)(e':p'.2=k):y=y'/\p=p':=by
 have pos:∀ {l:Nm} {q:List UInt8×Int},q∈l->q.2=k->1<=gD l k:=fun {l q} hq eq=>by
  unfold gD;exact List.countP_pos_iff.2 ⟨q,hq,ave.2 eq⟩
 have hyy:y=y':=by
  apply avv;intro dW;have h1:=wt h.sorted hy k;have hm:y'∈T.drop y.num:=cQ.2 ⟨hy',fun e=>dW (lR h.sorted hy hy' e.symm)⟩;have h2:=A1 hm CC e';have h3:=pos hp e;omega
 subst hyy;refine⟨rfl,?_⟩;apply avv;intro dW;have hs:=h.snames y hy;have h1:=Dn hs ((cC hs).2 hp:bF p.1 y.names=some p.2) k;rw[auI e]at h1;have h2:p'∈gm p.1 y.names:=kU.2 ⟨CC,fun e2=>dW (wu hs hp CC e2.symm)⟩;have h3:=pos h2 e';have h4:gD y.names k<=j8 T k:=by have:=wt h.sorted hy k;omega
 omega
theorem YI (h:WF T d){k:Int}{n:Nd}(hg:T.get k=some n)(hd:n.dir=true)(h1:k≠1):j8 T k<=1:=by
 obtain⟨hm,hk⟩:=(ax h.sorted).1 hg;have:=h.count n hm (by omega);rw[hk]at this;have:=this.2.2 hd;omega
theorem GF (h:WF T d):∀(m:Nat) (p q:List (List UInt8)) (k:Int) (n:Nd),p.length=m->aX T 1 p=.ok k->aX T 1 q=.ok k->T.get k=some n->n.dir=true->p=q:=by
 intro m
 induction m with
 |zero=>
  intro p q k n hm hp hq hg hd;obtain rfl:=au8.1 hm;have e:1=k:=by simpa[aX]using hp
  subst e;rcases fJ q with rfl|⟨q',s,rfl⟩
  ·rfl
  ·obtain⟨y,ny,_,hy,_,hs⟩:=ie.1 hq;obtain⟨OH,_⟩:=(ax h.sorted).1 hy;exact absurd rfl (h.closed ny OH _ ((cC (h.snames ny OH)).1 hs)).1
 |succ m ih=>
  intro p q k n hm hp hq hg hd;rcases fJ p with rfl|⟨p',s,rfl⟩
  ·simp at hm
  ·obtain⟨y,ny,hpy,hy,hyd,hs⟩:=ie.1 hp;obtain⟨OH,TF⟩:=(ax h.sorted).1 hy;have sK:=(cC (h.snames ny OH)).1 hs;have hk1:=(h.closed ny OH _ sK).1;rcases fJ q with rfl|⟨q',s',rfl⟩
   ·have e:1=k:=by simpa[aX]using hq
    exact absurd e.symm hk1
   ·obtain⟨z,nz,hpz,hz,hzd,hs'⟩:=ie.1 hq;obtain⟨hzm,hzn⟩:=(ax h.sorted).1 hz;have aj5:=(cC (h.snames nz hzm)).1 hs';obtain⟨e1,e2⟩:=wB h (YI h hg hd hk1) OH hzm sK aj5 rfl rfl;subst e1;have e3:s=s':=avO Prod.fst e2;have e4:y=z:=by omega
    subst e3 e4;rw[ih p' q' y ny (by simpa using hm) hpy hpz hy hyd]
theorem Um {α:Type}(g:α->Nat):∀(l:List α) (m:Nat),m<=l.foldl (fun m p=>max m (g p)) m/\∀ p∈l,g p<=l.foldl (fun m p=>max m (g p)) m:=by
 intro l
 induction l with
 |nil=>intro m;simp
 |cons x r ih=>
  intro m;have h:=ih (max m (g x));simp only[List.foldl_cons];refine⟨by omega,fun p hp=>?_⟩;rcases auX.1 hp with rfl|hp
  ·omega
  ·exact h.2 p hp
theorem Un (h:ne T d off):∀(p:List (List UInt8)) (f:Nat) (j y:Int),aX T j p=.ok y->p.length<=f->p.length<=fI T f j:=by
 intro p
 induction p with
 |nil=>intro f j y _ _;simp
 |cons s r ih=>
  intro f j y hf hl
  cases f with
  |zero=>simp at hl
  |succ f=>
   unfold aX at hf;unfold fI
   cases hg:T.get j with
   |none=>rw[hg]at hf;cases hf
   |some n=>
    rw[hg]at hf;simp only at hf ⊢;split at hf
    ·cases hi:jP s n.names with
     |none=>rw[hi]at hf;cases hf
     |some i=>
      rw[hi]at hf;obtain⟨hm,_⟩:=(ax h.sorted).1 hg;have sK:=(cC (h.snames n hm)).1 hi;have h1:=(Um (fun p:List UInt8×Int=>1+fI T f p.2) n.names 0).2 _ sK;have h2:=ih f i y hf (by simpa using hl);simp only[auA];simp only at h1;omega
    ·cases hf
end
end
section
open Go.RowKit
section
variable {T:Tr}{d:Int->Nat}
theorem GG {o:Int}{s:List UInt8}(h:WF T d):∀ k n1,(T.named o (fT s)).get k=some n1->∃ n,T.get k=some n/\(n1.dir=true->n.dir=true)/\∀ x i,jP x n1.names=some i->jP x n.names=some i:=by
 intro k n1 hg;rw[eY]at hg;by_cases hk:k=o
 ·rw[auI hk]at hg;obtain⟨n,hn,rfl⟩:=avM.1 hg;obtain⟨hm,_⟩:=(ax h.sorted).1 hn;refine⟨n,hn,id,fun x i hx=>?_⟩;rw[cC (oZ (h.snames n hm))]at hx;exact(cC (h.snames n hm)).2 (kU.1 hx).1
 ·rw[auK hk]at hg;exact⟨n1,hg,id,fun _ _ h=>h⟩
structure Ren (T:Tr)(d:Int->Nat)(c:bP)(p1:List (List UInt8))(s1:List UInt8)(o:Int)(p2:List (List UInt8))(s2:List UInt8)(k j:Int)(KD Kr nj:Nd):Prop where
 path:bg c.path=some (p1++[s1])
 dest:bg c.dest=some (p2++[s2])
 fj:aX T 1 (p1++[s1])=.ok j
 fo:aX T 1 p1=.ok o
 fk:aX T 1 p2=.ok k
 go:T.get o=some KD
 gk:T.get k=some Kr
 gj:T.get j=some nj
 dirO:KD.dir=true
 dirK:Kr.dir=true
 was:jP s1 KD.names=some j
 new:jP s2 Kr.names=none
 room:Kr.names.length<60
 ok:aG s2=true
 apart:Lib.hasPrefix c.dest (c.path++[47])=false
 dk:d k=p2.length
 long:p2.length+1+fI T 9 j<=8
 j1:j≠1
theorem wH {T:Tr}:∀(l:List (List UInt8)) (k e:Int),aX T k l=.error e->e=141\/e=143:=by
 intro l
 induction l with
 |nil=>intro k e h;cases h
 |cons s r ih=>
  intro k e h;rw[kx]at h;split at h
  ·cases h;exact .inl rfl
  ·split at h
   ·split at h
    ·cases h;exact .inl rfl
    ·exact ih _ _ h
   ·cases h;exact .inr rfl
theorem wI {T:Tr}{path:List UInt8}{e:Int}(h:zE T path=.error e):140<=e:=by
 unfold zE at h;split at h
 ·cases h;decide
 ·rcases wH _ _ _ h with rfl|rfl<;>decide
theorem rV {T:Tr}{path:List UInt8}{e:Int}(h:gC T path=.error e):140<=e:=by
 unfold gC at h;simp only at h;split at h
 ·cases h;decide
 ·split at h
  ·rename_i h1
   cases h
   rcases wH _ _ _ h1 with rfl|rfl<;>decide
  ·split at h
   ·cases h;decide
   ·split at h
    ·cases h;decide
    ·split at h
     ·cases h;decide
     ·split at h
      ·cases h;decide
      ·cases h
theorem Lt (h:WF T d)(c:bP):(∃ e,bY T c=(T,e)/\140<=e)\/∃ p1 s1 o p2 s2 k j KD Kr nj,Ren T d c p1 s1 o p2 s2 k j KD Kr nj/\bY T c=((T.named o (fT s1)).named k (me s2 j),0):=by
 unfold bY;by_cases hr:c.path=[47]
 ·rw[auI hr];exact .inl ⟨_,rfl,by decide⟩
 ·rw[auK hr]
  cases ha:zE T c.path with
  |error e=>exact .inl ⟨e,rfl,wI ha⟩
  |ok j=>
   by_cases hp:Lib.hasPrefix c.dest (c.path++[47])=true
   ·simp only[hp,if_true];exact .inl ⟨_,rfl,by decide⟩
   ·simp only[hp]
    cases Xk:gC T c.dest with
    |error e=>exact .inl ⟨e,rfl,rV Xk⟩
    |ok x=>
     obtain⟨k,s2⟩:=x;obtain⟨p2,Kr,hd,pG,cq,hfk,Kz,zm,hn,sW,Wi⟩:=pQ h Xk;obtain⟨p1,s1,o,KD,W8,hfj,ON,N4,nR,hs⟩:=vi h ha hr;obtain⟨l,nj,hl,Fy,hgj⟩:=zG h ha;simp only[hd,avb,W8,List.dropLast_concat,List.getLastD_concat,ON];by_cases h8:8<(p2++[s2]).length+fI T 9 j
     ·rw[auI h8];exact .inl ⟨_,rfl,by decide⟩
     ·rw[auK h8];obtain⟨Vx,_⟩:=(ax h.sorted).1 N4;refine .inr ⟨p1,s1,o,p2,s2,k,j,KD,Kr,nj,⟨W8,hd,hfj,ON,hfk,N4,Kz,hgj,nR,zm,hs,hn,sW,cq,by simpa using hp,Wi,?_,(h.closed KD Vx _ ((cC (h.snames KD Vx)).1 hs)).1⟩,rfl⟩;simp only[auS,auA,avK]at h8;omega
theorem Uo {c:bP}{p1 p2:List (List UInt8)}{s1 s2:List UInt8}{o k j:Int}{KD Kr nj:Nd}(h:WF T d)(r:Ren T d c p1 s1 o p2 s2 k j KD Kr nj)(_hd:nj.dir=true):∀ p,aX T j p≠.ok k:=by
 intro p hp;have h1:aX T 1 (p1++[s1]++p)=.ok k:=by rw[uj,r.fj];exact hp
 have h2:=GF h _ _ _ _ _ rfl h1 r.fk r.gk r.dirK;have h3:=Dq r.path (q:=p++[s2]) (by rw[r.dest,<-h2];simp) (by simp) (by simp);rw[r.apart]at h3;cases h3
theorem YJ {c:bP}{p1 p2:List (List UInt8)}{s1 s2:List UInt8}{o k j:Int}{KD Kr nj:Nd}(h:WF T d)(r:Ren T d c p1 s1 o p2 s2 k j KD Kr nj):∃ d',WF ((T.named o (fT s1)).named k (me s2 j)) d':=by
 have h1:=Pv h r.go r.was;have XG:=GG (o:=o) (s:=s1) h;obtain⟨aqe,gk',dk',nk',lk'⟩:∃ up',(T.named o (fT s1)).get k=some up'/\up'.dir=true/\jP s2 up'.names=none/\up'.names.length<60:=by
  rw[eY];by_cases e:k=o
  ·rw[auI e,r.gk];refine⟨_,rfl,r.dirK,?_,Nat.lt_of_le_of_lt (rO _ _) r.room⟩;rw[mC];intro p hp;exact mC.1 r.new p (kU.1 hp).1
  ·rw[auK e];exact⟨Kr,r.gk,r.dirK,r.new,r.room⟩
 obtain⟨nj',gj',dj'⟩:∃ n',(T.named o (fT s1)).get j=some n'/\n'.dir=nj.dir:=by
  rw[eY];by_cases e:j=o
  ·rw[auI e,r.gj];exact⟨_,rfl,rfl⟩
  ·rw[auK e];exact⟨nj,r.gj,rfl⟩
 have pG:p2.length<=7:=by have:=r.long;omega
 have fin:∀ d':Int->Nat,ne (T.named o (fT s1)) d' (fun x=>0+if j=x then 1 else 0)->d' k<=7->(nj'.dir=true->d' j=d' k+1)->WF ((T.named o (fT s1)).named k (me s2 j)) d':=by
  intro d' hw h7 hj;refine GC (GA hw gk' dk' nk' lk' r.ok r.j1 gj' h7 hj) fun n _ _=>?_;show(0:Int)=0+(if j=n.num then 1 else 0)-if j=n.num then 1 else 0;omega
 by_cases hd:nj.dir=true
 ·
  have afa:nj'.dir=true:=dj'.trans hd;obtain⟨afh,aac⟩:=(ax h1.sorted).1 gj';have hcj:j8 (T.named o (fT s1)) j=0:=by
   have hc:=h1.count nj' afh (by rw[aac];exact r.j1);have:=hc.2.2 afa;have:=hc.1;rw[aac,auI rfl]at this;omega
  have adS:∀ n∈T.named o (fT s1),∀ p∈n.names,p.2≠j:=fun n hn p hp e=>by
   have:=A1 hn hp e;omega
  let Je:Int->Prop:=fun x=>∃ p,aX (T.named o (fT s1)) j p=.ok x
  have aeW:∀ p x m,aX (T.named o (fT s1)) j p=.ok x->(T.named o (fT s1)).get x=some m->m.dir=true->d x=d j+p.length:=fun p x m hf hg hm=>
   (vh h1 p j x ⟨nj',afh,aac⟩ hf).2 nj' gj' afa m hg hm
  classical
  let d':Int->Nat:=fun x=>if Je x then d x-d j+(p2.length+1)else d x
  have hk:¬ Je k:=fun⟨p,hp⟩=>Uo h r hd p (zH XG p j k hp);have hj:Je j:=⟨[],rfl⟩
  have h1s:¬ Je 1:=by
   rintro⟨p,hp⟩;rcases fJ p with rfl|⟨q,s,rfl⟩
   ·have e:j=1:=by simpa[aX]using hp
    exact r.j1 e
   ·obtain⟨y,ny,_,hy,_,hs⟩:=ie.1 hp;obtain⟨OH,_⟩:=(ax h1.sorted).1 hy;exact absurd rfl (h1.closed ny OH _ ((cC (h1.snames ny OH)).1 hs)).1
  have hw:ne (T.named o (fT s1)) d' (fun x=>0+if j=x then 1 else 0):=by
   refine Uk h1 ?_ (fun n hn dW=>?_) (fun n hn p hp m hm BZ oA=>?_)
   ·show(if Je 1 then _ else d 1)=0;rw[auK h1s];exact h1.droot
   ·show(if Je n.num then _ else d n.num)<=7;have hg:=(ax h1.sorted).2 ⟨hn,rfl⟩;have Ny:n.dir=true:=by
     cases Ny:n.dir with
     |true=>rfl
     |false=>exact absurd (h1.file n hn Ny).1 dW
    by_cases hs:Je n.num
    ·rw[auI hs];obtain⟨q,hq⟩:=hs;have e:=aeW q n.num n hq hg Ny;have h7:=h1.deep n hn dW;obtain⟨pe,sZ⟩:=List.exists_mem_of_ne_nil _ dW;have KN:aX (T.named o (fT s1)) j (q++[pe.1])=.ok pe.2:=ie.2 ⟨_,n,hq,hg,Ny,(cC (h1.snames n hn)).2 sZ⟩;have h9:=Un h _ 9 j _ (zH XG _ j _ KN) (by simp;omega);simp only[auS,auA,avK]at h9;have:=r.long;omega
    ·rw[auK hs];exact h1.deep n hn dW
   ·have dW:n.names≠[]:=List.ne_nil_of_mem hp;have hg:=(ax h1.sorted).2 ⟨hn,rfl⟩;have hgm:=(ax h1.sorted).2 ⟨hm,BZ⟩;have Ny:n.dir=true:=by
     cases Ny:n.dir with
     |true=>rfl
     |false=>exact absurd (h1.file n hn Ny).1 dW
    have hde:=h1.depth n hn p hp m hm BZ oA;show(if Je p.2 then _ else d p.2)=(if Je n.num then _ else d n.num)+1;by_cases hs:Je n.num
    ·have kp:Je p.2:=by
      obtain⟨q,hq⟩:=hs;exact⟨q++[p.1],ie.2 ⟨_,n,hq,hg,Ny,(cC (h1.snames n hn)).2 hp⟩⟩
     rw[auI hs,auI kp];obtain⟨q,hq⟩:=hs;have e:=aeW q n.num n hq hg Ny;omega
    ·have kp:¬ Je p.2:=by
      rintro⟨q,hq⟩;rcases fJ q with rfl|⟨q',s,rfl⟩
      ·have e:j=p.2:=by simpa[aX]using hq
       exact adS n hn p hp e.symm
      ·obtain⟨y,ny,hqy,hy,_,hys⟩:=ie.1 hq;obtain⟨OH,TF⟩:=(ax h1.sorted).1 hy;have sK:=(cC (h1.snames ny OH)).1 hys;have hc:j8 (T.named o (fT s1)) p.2<=1:=by
        have mT:m.num≠1:=by rw[BZ];exact(h1.closed n hn p hp).1
        have hc:=h1.count m hm mT;have:=hc.2.2 oA;have:=hc.1;rw[BZ,auK (fun e=>adS n hn p hp e.symm)]at this;omega
       obtain⟨e1,_⟩:=wB h1 hc OH hn sK hp rfl rfl;exact hs ⟨q',by rw[hqy,<-TF,e1]⟩
     rw[auK hs,auK kp];exact hde
  refine⟨d',fin d' hw ?_ fun _=>?_⟩
  ·show(if Je k then _ else d k)<=7;rw[auK hk,r.dk];exact pG
  ·show(if Je j then _ else d j)=(if Je k then _ else d k)+1;rw[auI hj,auK hk,r.dk];omega
 ·exact⟨d,fin d h1 (by rw[r.dk];exact pG) (fun e=>absurd (dj'▸e) hd)⟩
theorem GH (h:WF T d)(c:bP):∃ d',WF (bY T c).1 d':=by
 rcases Lt h c with⟨e,he,_⟩|⟨p1,s1,o,p2,s2,k,j,KD,Kr,nj,r,he⟩
 ·rw[he];exact⟨d,h⟩
 ·rw[he];exact YJ h r
theorem Pz {c:bP}(h:c.ok=true):0<=c.pos/\c.pos<=16384:=by
 obtain⟨h9,hf,hb⟩:=oW h;have hk:=YG h9;by_cases h23:c.k=2\/c.k=3
 ·have:=hf 3 (by rcases h23 with e|e<;>rw[e]<;>simp[fieldsOf]);simpa[bP.fieldOk]using this
 ·have:c.pos=0:=by
   rw[<-hb];rcases(by omega:c.k=0\/c.k=1\/c.k=4\/c.k=5\/c.k=6\/c.k=7\/c.k=8)with e|e|e|e|e|e|e<;>rw[e]<;>rfl
  omega
theorem JQ {c:bP}(h:c.ok=true):c.data.length<=512/\(c.kind≠2->c.data=[]):=by
 obtain⟨h9,hf,hb⟩:=oW h;have hk:=YG h9;by_cases h2:c.k=2
 ·have:=hf 4 (by rw[h2];simp[fieldsOf]);refine⟨by simpa[bP.fieldOk]using this,fun h=>?_⟩;rw[hk,h2]at h;exact absurd rfl h
 ·have:c.data=[]:=by
   rw[<-hb];rcases(by omega:c.k=0\/c.k=1\/c.k=3\/c.k=4\/c.k=5\/c.k=6\/c.k=7\/c.k=8)with e|e|e|e|e|e|e|e<;>rw[e]<;>rfl
  exact⟨by rw[this];simp,fun _=>this⟩
theorem JR (h:WF T d)(c:bP):∃ d',WF (qN T c).1 d':=by
 unfold qN;by_cases cq:c.ok=false
 ·rw[auI cq];exact⟨d,h⟩
 ·rw[auK cq];have cq:c.ok=true:=by simpa using cq
  split
  ·exact Px h c
  ·split
   ·exact⟨d,Lr h c (Pz cq).1 (JQ cq).2⟩
   ·split
    ·exact⟨d,Py h c⟩
    ·split
     ·exact GH h c
     ·split
      ·exact⟨d,GE h c⟩
      ·exact⟨d,h⟩
end
end
end
end Go.Proofs.YtkghpdcloaiflaaGreatDoor
