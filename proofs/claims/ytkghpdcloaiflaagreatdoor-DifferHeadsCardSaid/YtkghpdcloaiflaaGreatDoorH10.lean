import Derived.Test.YtkghpdcloaiflaaGreatDoorH09
namespace Go.Proofs.YtkghpdcloaiflaaGreatDoor
open _root_.Go.Proofs.Tryz
variable {Cf:Int->Int}{b path s s1 s2:List UInt8}{e j k o:Int}{f:Nat}{l p1 p2:List (List UInt8)}{p x:List UInt8×Int}
section
section
open Go.RowKit
abbrev Nm:=List (List UInt8×Int)
abbrev mc (s:List UInt8)(l:Nm):Nm:=iO s l
abbrev rM (s:List UInt8)(k:Int)(l:Nm):Nm:=ee bytesBefore s k l
abbrev jU (s:List UInt8)(l:Nm):Option Int:=bM s l
structure Nd where
 num:Int
 dir:Bool
 links:Int
 data:List UInt8
 names:Nm
abbrev Tr:=List Nd
def Tr.get (T:Tr)(k:Int):Option Nd:=T.find? λn=>n.num==k
def Tr.upd (T:Tr)(k:Int)(f:Nd->Nd):Tr:=T.map λx=>if x.num==k then f x else x
def Tr.add (n:Nd):Tr->Tr
 |[]=>[n]
 |y::r=>if n.num<y.num then n::y::r else y::Tr.add n r
def Tr.drop (T:Tr)(k:Int):Tr:=T.filter λn=>!(n.num==k)
def Tr.new:Tr:=[⟨1,true,1,[],[]⟩]
def bi (T:Tr):Int->List (List UInt8)->Except Int Int
 |k,[]=>.ok k
 |k,s::r=>match T.get k with
  |none=>.error 141
  |some n=>if n.dir=true then(match jU s n.names with|none=>.error 141|some j=>bi T j r)else .error 143
def Uj (T:Tr)(path:List UInt8):Except Int Int:=match bA path with
 |none=>.error 140
 |some l=>bi T 1 l
def iG (T:Tr)(path:List UInt8):Except Int (Int×List UInt8):=
 let l:=(bA path).getD []
 if l=[]then .error 142 else match bi T 1 l.dropLast with
  | .error e=>.error e
  | .ok k=>match T.get k with
   |none=>.error 141
   |some up=>if up.dir=false then .error 143 else if(jU (l.getLastD []) up.names).isSome=true then .error 142 else if 60<=up.names.length then .error 145 else .ok (k,l.getLastD [])
def dP (T:Tr):Nat->Int->Int
 |0,k=>k
 |f+1,k=>if(T.get k).isSome=true then dP T f (k+1)else k
def Tr.named (T:Tr)(k:Int)(f:Nm->Nm):Tr:=T.upd k λn=>{ n with names:=f n.names }
def fX (T:Tr)(c:cm):Tr×Int:=match iG T c.path with
 | .error e=>(T,e)
 | .ok (k,s)=>if 60<=T.length then(T,145)else
  let num:=dP T T.length 2
  ((Tr.add ⟨num,c.kind==1,1,[],[]⟩ T).named k (rM s num),0)
def ZD (c:cm)(d:List UInt8):List UInt8:=
 let s:=d.take c.pos.toNat++c.data
 if c.kind=2/\s.length<d.length then s++d.drop s.length else s
def mT (T:Tr)(c:cm):Tr×Int:=match Uj T c.path with
 | .error e=>(T,e)
 | .ok k=>match T.get k with
  |none=>(T,141)
  |some n=>if n.dir=true then(T,143)else if(n.data.length:Int)<c.pos\/c.kind=2/\16384<c.pos+c.data.length then(T,145)else
   (T.upd k λn=>{ n with data:=ZD c n.data },0)
def sU (T:Tr)(c:cm):Tr×Int:=match Uj T c.path with
 | .error e=>(T,e)
 | .ok j=>match T.get j with
  |none=>(T,141)
  |some n=>if n.dir=true then(T,143)else match iG T c.dest with
   | .error e=>(T,e)
   | .ok (k,s)=>((T.named k (rM s j)).upd j λn=>{ n with links:=n.links+1 },0)
def vX (T:Tr):Nat->Int->Nat
 |0,_=>0
 |f+1,k=>match T.get k with
  |none=>0
  |some n=>n.names.foldl (λm p=>max m (1+vX T f p.2)) 0
def jv (T:Tr)(c:cm):Tr×Int:=if c.path=[47]then(T,144)else match Uj T c.path with
 | .error e=>(T,e)
 | .ok j=>if Lib.hasPrefix c.dest (c.path++[47])=true then(T,144)else match iG T c.dest with
  | .error e=>(T,e)
  | .ok (k,s)=>if 8<((bA c.dest).getD []).length+vX T 9 j then(T,145)else
   let l:=(bA c.path).getD []
   match bi T 1 l.dropLast with
   | .error e=>(T,e)
   | .ok o=>((T.named o (mc (l.getLastD []))).named k (rM s j),0)
def me (T:Tr)(c:cm):Tr×Int:=if c.path=[47]then(T,144)else match Uj T c.path with
 | .error e=>(T,e)
 | .ok j=>match T.get j with
  |none=>(T,141)
  |some n=>if n.names≠[]then(T,144)else
   let l:=(bA c.path).getD []
   match bi T 1 l.dropLast with
   | .error e=>(T,e)
   | .ok o=>
    let T':=T.named o (mc (l.getLastD []))
    (if n.links=1 then T'.drop j else T'.upd j λn=>{ n with links:=n.links-1 },0)
def qG (T:Tr)(c:cm):Tr×Int:=if c.ok=false then(T,1)else
 if c.kind=0\/c.kind=1 then fX T c else if c.kind=2\/c.kind=3 then mT T c else if c.kind=4 then sU T c else if c.kind=5 then jv T c else if c.kind=6 then me T c else(T,1)
def aD (n:Nat):List UInt8:=if h:n<128 then [UInt8.ofNat n]else UInt8.ofNat (n%128+128)::aD (n/128)
 termination_by n
 decreasing_by omega
def ly (p:List UInt8×Int):List UInt8:=aD p.1.length++p.1++aD p.2.toNat
def lQ (l:Nm):List UInt8:=aD l.length++l.flatMap ly
def vY (was:Option (List UInt8))(p:List UInt8×Int):Bool:=aJ p.1&&(match was with|none=>true|some s=>bytesBefore s p.1)&&decide (1<=p.2)&&decide (p.2<=65535)
def fS:Option (List UInt8)->Nm->Bool
 |_,[]=>true
 |was,p::r=>vY was p&&fS (some p.1) r
def oD (l:Nm):Bool:=decide (l.length<=4096)&&fS none l
structure Nt where
 num:Int
 dir:Bool
 links:Int
 data:List UInt8
deriving DecidableEq
def Nd.told (n:Nd):Nt:=⟨n.num,n.dir,n.links,if n.dir=true then lQ n.names else n.data⟩
def aw (T:Tr):List Nt:=T.map Nd.told
end
section
open Go.RowKit
section
variable {T:Tr}
abbrev dQ (T:Tr):Prop:=T.Pairwise λa b=>a.num<b.num
theorem aG (hs:dQ T){n:Nd}:T.get k=some n↔n∈T/\n.num=k:=by
 unfold Tr.get
 induction T with
 |nil=>simp
 |cons y r ih=>
  obtain⟨h1,h2⟩:=aw9.1 hs;rw[List.find?_cons];by_cases h:y.num=k
  ·rw[awJ.2 h]
   constructor
   ·intro e;obtain rfl:=axa e;exact⟨by simp,h⟩
   ·rintro⟨hm,hk⟩;rcases aws.1 hm with rfl|hm
    ·rfl
    ·have:=h1 n hm;omega
  ·rw[axl h];show List.find? _ r=some n↔_;rw[ih h2]
   constructor
   ·rintro⟨hm,hk⟩;exact⟨by simp[hm],hk⟩
   ·rintro⟨hm,hk⟩;rcases aws.1 hm with rfl|hm
    ·exact absurd hk h
    ·exact⟨hm,hk⟩
theorem jw:T.get k=none↔∀ n∈T,n.num≠k:=by
 unfold Tr.get;rw[aw4];simp
theorem pB (hs:dQ T){a b:Nd}(ha:a∈T)(hb:b∈T)(h:a.num=b.num):a=b:=
 axa (((aG hs).2 ⟨ha,h⟩).symm.trans ((aG hs).2 ⟨hb,rfl⟩))
theorem rN {f:Nd->Nd}(hf:∀ n,(f n).num=n.num):(T.upd k f).map (·.num)=T.map (·.num):=by
 unfold Tr.upd;rw[awv];refine aww λn _=>?_;show(if n.num==k then f n else n).num=n.num;split
 ·exact hf n
 ·rfl
theorem qH {T:Tr}:dQ T↔(T.map (·.num)).Pairwise (·<·):=by rw[List.pairwise_map]
theorem vZ {f:Nd->Nd}(hf:∀ n,(f n).num=n.num)(hs:dQ T):dQ (T.upd k f):=by
 rw[qH,rN hf];exact qH.1 hs
theorem J2 {f:Nd->Nd}:(T.upd k f).length=T.length:=by simp[Tr.upd]
theorem A1 {f:Nd->Nd}{m:Nd}:m∈T.upd k f↔∃ n∈T,(if n.num==k then f n else n)=m:=by simp[Tr.upd]
theorem U5 {f:Nd->Nd}(hf:∀ n,(f n).num=n.num):(T.upd k f).get j=if j=k then(T.get j).map f else T.get j:=by
 unfold Tr.get Tr.upd
 induction T with
 |nil=>simp
 |cons y r ih=>
  rw[av3,List.find?_cons,List.find?_cons];by_cases hy:y.num=k
  ·rw[awJ.2 hy];simp only[if_true,hf];by_cases hj:y.num=j
   ·rw[awJ.2 hj,awd J];rfl
   ·rw[axl hj];exact ih
  ·rw[axl hy];simp only[Bool.false_eq_true,if_false];by_cases hj:y.num=j
   ·rw[awJ.2 hj,awf J]
   ·rw[axl hj];exact ih
theorem dc {n m:Nd}:m∈Tr.add n T↔m=n\/m∈T:=by
 induction T with
 |nil=>simp[Tr.add]
 |cons y r ih=>
  unfold Tr.add;split
  ·simp
  ·simp[ih];constructor
   ·rintro(h|h|h)<;>simp[h]
   ·rintro(h|h|h)<;>simp[h]
theorem kB {n:Nd}(hs:dQ T)(hn:∀ m∈T,m.num≠n.num):dQ (Tr.add n T):=by
 induction T with
 |nil=>simp[Tr.add]
 |cons y r ih=>
  obtain⟨h1,h2⟩:=aw9.1 hs;unfold Tr.add;split
  ·rename_i h
   refine aw9.2 ⟨λm hm=>?_,hs⟩;rcases aws.1 hm with rfl|hm
   ·exact h
   ·have:=h1 m hm;omega
  ·rename_i h
   have:=hn y sp7;refine aw9.2 ⟨λm hm=>?_,ih h2 λm hm=>hn m (by simp[hm])⟩;rcases dc.1 hm with rfl|hm
   ·omega
   ·exact h1 m hm
theorem U6 {n:Nd}:(Tr.add n T).length=T.length+1:=by
 induction T with
 |nil=>rfl
 |cons y r ih=>
  unfold Tr.add;split
  ·simp
  ·simp[ih]
theorem uS {n:Nd}(hs:dQ T)(hn:∀ m∈T,m.num≠n.num)(k:Int):(Tr.add n T).get k=if k=n.num then some n else T.get k:=by
 by_cases h:k=n.num
 ·subst h;rw[awd rfl];exact(aG (kB hs hn)).2 ⟨dc.2 (.inl rfl),rfl⟩
 ·rw[awf h]
  cases hg:T.get k with
  |none=>
   rw[jw]at hg ⊢;intro m hm;rcases dc.1 hm with rfl|hm
   ·exact λe=>h e.symm
   ·exact hg m hm
  |some m=>
   obtain⟨hm,hk⟩:=(aG hs).1 hg;exact(aG (kB hs hn)).2 ⟨dc.2 (.inr hm),hk⟩
theorem dA {m:Nd}:m∈T.drop k↔m∈T/\m.num≠k:=by simp[Tr.drop]
theorem Dp (hs:dQ T):dQ (T.drop k):=hs.filter _
def gH (l:Nm)(j:Int):Nat:=l.countP λp=>p.2==j
def lZ (T:Tr)(j:Int):Nat:=(T.map λn=>gH n.names j).sum
theorem J3 {f:Nd->Nd}(hs:dQ T){n:Nd}(hn:n∈T)(hk:n.num=k)(j:Int):lZ (T.upd k f) j+gH n.names j=lZ T j+gH (f n).names j:=by
 unfold lZ Tr.upd;rw[awv]
 induction T with
 |nil=>cases hn
 |cons y r ih=>
  obtain⟨h1,h2⟩:=aw9.1 hs;simp only[av3,av4,Function.comp];rcases aws.1 hn with rfl|hm
  ·have e2:(r.map ((λn=>gH n.names j)∘λx=>if(x.num==k)=true then f x else x))=r.map λn=>gH n.names j:=by
    refine aww λm hm=>?_;have:=h1 m hm;simp only[Function.comp];rw[awf (by simp;omega)]
   have e3:(if(n.num==k)=true then f n else n)=f n:=awd (awJ.2 hk);rw[e3];have e4:=axi List.sum e2;simp only[Function.comp_def]at e4 ⊢;omega
  ·have:=h1 n hm;have e3:(if(y.num==k)=true then f y else y)=y:=awf (by simp;omega);rw[e3];have:=ih h2 hm;simp only[Function.comp_def]at this ⊢;omega
theorem U7 {n:Nd}(j:Int):lZ (Tr.add n T) j=gH n.names j+lZ T j:=by
 induction T with
 |nil=>simp[lZ,Tr.add]
 |cons y r ih=>
  unfold Tr.add;split
  ·simp[lZ]
  ·unfold lZ at*;simp only[av3,av4];rw[ih];omega
theorem we {n:Nd}(hs:dQ T)(hn:n∈T)(j:Int):lZ (T.drop n.num) j+gH n.names j=lZ T j:=by
 unfold lZ Tr.drop
 induction T with
 |nil=>cases hn
 |cons y r ih=>
  obtain⟨h1,h2⟩:=aw9.1 hs;rw[axh];rcases aws.1 hn with rfl|hm
  ·rw[awJ.2 rfl];have e:r.filter (λm=>!(m.num==n.num))=r:=List.filter_eq_self.2 λm hm=>by
    have:=h1 m hm;rw[axl J];rfl
   simp only[Bool.not_true,Bool.false_eq_true,if_false];rw[e];simp only[av3,av4];omega
  ·have:=h1 n hm;rw[axl J];simp only[Bool.not_false,if_true,av3,av4];have:=ih h2 hm;omega
end
section
variable {l:Nm}
abbrev eV (l:Nm):Prop:=l.Pairwise λa b=>bytesBefore a.1 b.1=true
theorem Dq:p∈jH bytesBefore x l↔p=x\/p∈l:=by
 induction l with
 |nil=>simp[jH]
 |cons y r ih=>
  unfold jH;split
  ·simp
  ·simp[ih];constructor
   ·rintro(h|h|h)<;>simp[h]
   ·rintro(h|h|h)<;>simp[h]
theorem mg:p∈iO s l↔p∈l/\p.1≠s:=by simp[iO]
theorem PK:p∈ee bytesBefore s k l↔p=(s,k)\/(p∈l/\p.1≠s):=by
 unfold ee;rw[Dq,mg]
theorem Dr (hs:eV l)(hx:∀ p∈l,p.1≠x.1):eV (jH bytesBefore x l):=by
 induction l with
 |nil=>simp[jH]
 |cons y r ih=>
  obtain⟨h1,h2⟩:=aw9.1 hs;unfold jH;split
  ·rename_i h
   refine aw9.2 ⟨λm hm=>?_,hs⟩;rcases aws.1 hm with rfl|hm
   ·exact h
   ·exact WideShapes.bytes_trans _ _ _ h (h1 m hm)
  ·rename_i h
   have hy:=hx y sp7;refine aw9.2 ⟨λm hm=>?_,ih h2 λm hm=>hx m (by simp[hm])⟩;rcases Dq.1 hm with rfl|hm
   ·rcases WideAt.bytes_total _ _ hy with h'|h'
    ·exact h'
    ·exact absurd h' h
   ·exact h1 m hm
theorem oE (hs:eV l):eV (iO s l):=hs.filter _
theorem Ds (hs:eV l):eV (ee bytesBefore s k l):=
 Dr (oE hs) λ_ hp=>(mg.1 hp).2
theorem Dt (hs:eV l){a b:List UInt8×Int}(ha:a∈l)(hb:b∈l)(h:a.1=b.1):a=b:=by
 induction l with
 |nil=>cases ha
 |cons y r ih=>
  obtain⟨h1,h2⟩:=aw9.1 hs;have irr:∀ m∈r,y.1≠m.1:=λm hm e=>by
   have:=h1 m hm;rw[e,WideAt.bytes_irrefl]at this;cases this
  rcases aws.1 ha with e1|ha1<;>rcases aws.1 hb with e2|hb1
  ·rw[e1,e2]
  ·exact absurd (e1▸h) (irr b hb1)
  ·exact absurd (e2▸h.symm) (irr a ha1)
  ·exact ih h2 ha1 hb1
theorem cV (hs:eV l):bM s l=some k↔(s,k)∈l:=by
 unfold bM
 constructor
 ·intro h;obtain⟨p,hp,rfl⟩:=axg.1 h;have h1:=aw1 hp;have h2:=aw2 hp;rw[<-awJ.1 h1];exact h2
 ·intro h
  cases hf:l.find? λp=>p.1==s with
  |none=>exact absurd (aw4.1 hf _ h) sp7
  |some p=>
   have h1:=aw1 hf;have h2:=aw2 hf;have:=Dt hs h2 h (awJ.1 h1);subst this;rfl
theorem sV:bM s l=none↔∀ p∈l,p.1≠s:=by
 unfold bM;rw[Option.map_eq_none_iff,aw4];simp
theorem zE (h:bM s l=none):iO s l=l:=by
 rw[sV]at h;exact List.filter_eq_self.2 λp hp=>by rw[axl (h p hp)];rfl
theorem PM:(ee bytesBefore s k l).length=(iO s l).length+1:=C0 _ _
theorem Lw (j:Int):gH (jH bytesBefore x l) j=gH l j+(if x.2=j then 1 else 0):=by
 unfold gH
 induction l with
 |nil=>simp[jH,List.countP_cons]
 |cons y r ih=>
  unfold jH;split
  ·rw[List.countP_cons];simp
  ·rw[List.countP_cons,List.countP_cons,ih];omega
theorem PQ (h:bM s l=none)(j:Int):gH (ee bytesBefore s k l) j=gH l j+(if k=j then 1 else 0):=by
 unfold ee;rw[zE h,Lw]
theorem Du (hs:eV l)(h:bM s l=some k)(j:Int):gH (iO s l) j+(if k=j then 1 else 0)=gH l j:=by
 have hm:=(cV hs).1 h;unfold gH iO;clear h
 induction l with
 |nil=>cases hm
 |cons y r ih=>
  obtain⟨h1,h2⟩:=aw9.1 hs;rw[axh,List.countP_cons];rcases aws.1 hm with rfl|hm
  ·have e:r.filter (λp=>!(p.1==s))=r:=List.filter_eq_self.2 λp hp=>by
    have:=h1 p hp;rw[axl (λe=>by rw[e,WideAt.bytes_irrefl]at this;cases this)];rfl
   simp only[beq_self_eq_true,Bool.not_true,Bool.false_eq_true,if_false];rw[e];simp
  ·have h3:=h1 _ hm;rw[axl (λe=>by rw[e,WideAt.bytes_irrefl]at h3;cases h3)];simp only[Bool.not_false,if_true];rw[List.countP_cons];have:=ih h2 hm;omega
end
structure mU (T:Tr)(d:Int->Nat)(off:Int->Int):Prop where
 sorted:dQ T
 nums:∀ n∈T,1<=n.num/\n.num<=65535
 root:∃ r∈T,r.num=1/\r.dir=true/\r.links=1
 many:T.length<=60
 file:∀ n∈T,n.dir=false->n.names=[]/\n.data.length<=16384
 dirs:∀ n∈T,n.dir=true->n.data=[]
 snames:∀ n∈T,eV n.names
 names:∀ n∈T,n.names.length<=60/\∀ p∈n.names,aJ p.1=true
 closed:∀ n∈T,∀ p∈n.names,p.2≠1/\∃ m∈T,m.num=p.2
 count:∀ n∈T,n.num≠1->(lZ T n.num:Int)+off n.num=n.links/\1<=n.links/\(n.dir=true->n.links=1)
 droot:d 1=0
 deep:∀ n∈T,n.names≠[]->d n.num<=7
 depth:∀ n∈T,∀ p∈n.names,∀ m∈T,m.num=p.2->m.dir=true->d p.2=d n.num+1
abbrev WF (T:Tr)(d:Int->Nat):Prop:=mU T d (λ_=>0)
section
variable {T:Tr}{d:Int->Nat}{off:Int->Int}
theorem GM:WF Tr.new (λ_=>0) where
 sorted:=by simp[Tr.new]
 nums:=by simp[Tr.new]
 root:=⟨_,by simp[Tr.new];rfl,rfl,rfl,rfl⟩
 many:=by simp[Tr.new]
 file:=by simp[Tr.new]
 dirs:=by simp[Tr.new]
 snames:=by simp[Tr.new]
 names:=by simp[Tr.new]
 closed:=by simp[Tr.new]
 count:=by simp[Tr.new]
 droot:=rfl
 deep:=by simp
 depth:=by simp[Tr.new]
theorem mU.get1 (h:mU T d off):∃ r,T.get 1=some r/\r.dir=true:=by
 obtain⟨r,hr,h1,h2,_⟩:=h.root;exact⟨r,(aG h.sorted).2 ⟨hr,h1⟩,h2⟩
theorem uT (h:mU T d off):∀(l:List (List UInt8)) (j k:Int),(∃ n∈T,n.num=j)->bi T j l=.ok k->(∃ n∈T,n.num=k)/\(∀ n,T.get j=some n->n.dir=true->∀ m,T.get k=some m->m.dir=true->d k=d j+l.length):=by
 intro l
 induction l with
 |nil=>
  intro j k hj hf;have e:j=k:=by simpa[bi]using hf
  subst e;exact⟨hj,λ_ _ _ _ _ _=>by simp⟩
 |cons s r ih=>
  intro j k hj hf;unfold bi at hf;split at hf
  ·cases hf
  ·rename_i n hn
   split at hf
   ·rename_i hd
    split at hf
    ·cases hf
    ·rename_i i hi
     obtain⟨hm,hk⟩:=(aG h.sorted).1 hn;have hp:=(cV (h.snames n hm)).1 hi;obtain⟨eG,m,hmT,Kw⟩:=h.closed n hm _ hp;obtain⟨h1,h2⟩:=ih i k ⟨m,hmT,Kw⟩ hf;refine⟨h1,λn' Zu hd' x hx qo=>?_⟩;have hgm:=(aG h.sorted).2 ⟨hmT,Kw⟩;by_cases oe:m.dir=true
     ·have:=h2 m hgm oe x hx qo;have e:=h.depth n hm _ hp m hmT Kw oe;rw[<-hk];simp only[av5];simp only at e;omega
     ·
      cases r with
      |nil=>
       have e:i=k:=by simpa[bi]using hf
       subst e;rw[hgm]at hx;obtain rfl:=axa hx;exact absurd qo oe
      |cons s2 r2=>
       unfold bi at hf;rw[hgm]at hf;simp[oe]at hf
   ·cases hf
theorem j8 (k:Int)(s:List UInt8)(r:List (List UInt8)):bi T k (s::r)=match T.get k with
  |none=>.error 141
  |some n=>if n.dir=true then(match jU s n.names with|none=>.error 141|some j=>bi T j r)else .error 143:=rfl
theorem uc (p q:List (List UInt8)):∀ j,bi T j (p++q)=match bi T j p with | .ok y=>bi T y q | .error e=>.error e:=by
 induction p with
 |nil=>intro j;rfl
 |cons s r ih=>
  intro j;rw[awK,j8,j8]
  cases T.get j with
  |none=>rfl
  |some n=>
   by_cases hd:n.dir=true
   ·simp only[hd,if_true]
    cases hn:jU s n.names with
    |none=>rfl
    |some i=>exact ih i
   ·simp only[hd];rfl
theorem gU {x:Int}{p:List (List UInt8)}:bi T j (p++[s])=.ok x↔∃ y n,bi T j p=.ok y/\T.get y=some n/\n.dir=true/\jU s n.names=some x:=by
 rw[uc]
 cases hp:bi T j p with
 |error e=>simp
 |ok y=>
  simp only[bi]
  cases hg:T.get y with
  |none=>simp[hg]
  |some n=>
   by_cases hd:n.dir=true
   ·simp only[hd,if_true]
    cases hn:jU s n.names with
    |none=>simp[hg,hn]
    |some i=>simp[hg,hn,hd]
   ·simp only[hd];simp[hg,hd]
theorem Dv (h:mU T d off)(hk:∀ m∈T,m.num≠k){n:Nd}(hn:n∈T)(hp:p∈n.names):p.2≠k:=by
 obtain⟨_,m,hm,e⟩:=h.closed n hn p hp;exact λe2=>hk m hm (e.trans e2)
theorem PS (h:∀ n∈T,∀ p∈n.names,p.2≠j):lZ T j=0:=by
 unfold lZ;rw[List.sum_eq_zero_iff_forall_eq_nat];intro x hx;obtain⟨n,hn,rfl⟩:=awB.1 hx;unfold gH;rw[List.countP_eq_zero];intro p hp e;exact h n hn p hp (awJ.1 e)
theorem A3 {n:Nd}(hn:n∈T)(hp:p∈n.names)(e:p.2=j):1<=lZ T j:=by
 rcases Nat.eq_zero_or_pos (lZ T j)with h|h
 ·unfold lZ at h;rw[List.sum_eq_zero_iff_forall_eq_nat]at h;have:=h _ (awB.2 ⟨n,hn,rfl⟩);unfold gH at this;rw[List.countP_eq_zero]at this;exact absurd (awJ.2 e) (this p hp)
 ·exact h
theorem Dw (h:mU T d off){up:Nd}{f:Nm->Nm}(hk:T.get k=some up)(hd:up.dir=true)(Hs:eV (f up.names))(Hl:(f up.names).length<=60)
  (Hp:∀ p∈f up.names,p∈up.names\/(aJ p.1=true/\p.2≠1/\∃ nj,T.get p.2=some nj/\(nj.dir=true->d p.2=d k+1))) (H7:f up.names≠[]->d k<=7)
  (Hc:∀ x,(gH (f up.names) x:Int)+Cf x=gH up.names x+off x):mU (T.named k f) d Cf:=by
 obtain⟨vd,rq⟩:=(aG h.sorted).1 hk;have hf:∀ n:Nd,({ n with names:=f n.names }:Nd).num=n.num:=λ_=>rfl;have hex:∀ x,(∃ m∈T.named k f,m.num=x)↔∃ m∈T,m.num=x:=λx=>by
  have e:=rN (T:=T) (k:=k) hf;have:x∈(T.named k f).map (·.num)↔x∈T.map (·.num):=by unfold Tr.named;rw[e]
  simpa using this
 have gx:∀ m∈T.named k f,∃ n∈T,n.num=m.num/\n.dir=m.dir/\n.links=m.links/\n.data=m.data/\((n.num≠k/\m.names=n.names)\/(n=up/\m.names=f up.names)):=by
  intro m hm;obtain⟨n,hn,rfl⟩:=A1.1 hm;refine⟨n,hn,?_⟩;by_cases e:n.num=k
  ·rw[awd (awJ.2 e)];have e2:=pB h.sorted hn vd J;exact⟨rfl,rfl,rfl,rfl,.inr ⟨e2,by rw[<-e2]⟩⟩
  ·rw[awf (by simpa using e)];exact⟨rfl,rfl,rfl,rfl,.inl ⟨e,rfl⟩⟩
 refine⟨vZ hf h.sorted,?_,?_,by unfold Tr.named;rw[J2];exact h.many,?_,?_,?_,?_,?_,?_,h.droot,?_,?_⟩
 ·intro m hm;obtain⟨n,hn,e,_⟩:=gx m hm;rw[<-e];exact h.nums n hn
 ·obtain⟨r,hr,h1,h2,h3⟩:=h.root;obtain⟨m,hm,e⟩:=(hex 1).2 ⟨r,hr,h1⟩;obtain⟨n,hn,e1,e2,e3,_⟩:=gx m hm;have e6:=pB h.sorted hn hr J;exact⟨m,hm,e,by rw[<-e2,e6];exact h2,by rw[<-e3,e6];exact h3⟩
 ·intro m hm oe;obtain⟨n,hn,e1,e2,e3,e4,e5⟩:=gx m hm;rw[<-e2]at oe;rw[<-e4];have:=h.file n hn oe;rcases e5 with⟨_,e5⟩|⟨e6,_⟩
  ·rw[e5];exact this
  ·rw[e6,hd]at oe;cases oe
 ·intro m hm oe;obtain⟨n,hn,e1,e2,e3,e4,e5⟩:=gx m hm;rw[<-e4];exact h.dirs n hn (e2.trans oe)
 ·intro m hm;obtain⟨n,hn,e1,e2,e3,e4,⟨_,e5⟩|⟨_,e5⟩⟩:=gx m hm<;>rw[e5]
  ·exact h.snames n hn
  ·exact Hs
 ·intro m hm;obtain⟨n,hn,e1,e2,e3,e4,⟨_,e5⟩|⟨_,e5⟩⟩:=gx m hm<;>rw[e5]
  ·exact h.names n hn
  ·refine⟨Hl,λp hp=>?_⟩;rcases Hp p hp with hp|hp
   ·exact(h.names up vd).2 p hp
   ·exact hp.1
 ·intro m hm p hp;rw[hex];obtain⟨n,hn,e1,e2,e3,e4,⟨_,e5⟩|⟨_,e5⟩⟩:=gx m hm<;>rw[e5]at hp
  ·exact h.closed n hn p hp
  ·rcases Hp p hp with hp|⟨_,h1,nj,KP,_⟩
   ·exact h.closed up vd p hp
   ·obtain⟨a,b⟩:=(aG h.sorted).1 KP;exact⟨h1,nj,a,b⟩
 ·intro m hm h1;obtain⟨n,hn,e1,e2,e3,e4,_⟩:=gx m hm;have:=h.count n hn (by rw[e1];exact h1);have hc:lZ (T.named k f) m.num+gH up.names m.num=lZ T m.num+gH (f up.names) m.num:=J3 (f:=λn=>{ n with names:=f n.names }) h.sorted vd rq m.num;have hp:=Hc m.num;rw[<-e2,<-e3];refine⟨?_,this.2⟩;have t1:=this.1;rw[e1]at t1;omega
 ·intro m hm eG;obtain⟨n,hn,e1,e2,e3,e4,⟨_,e5⟩|⟨e6,e5⟩⟩:=gx m hm
  ·rw[e5]at eG;rw[<-e1];exact h.deep n hn eG
  ·rw[<-e1,e6,rq];rw[e5]at eG;exact H7 eG
 ·intro m hm p hp x hx OH qo;obtain⟨nx,pn,f1,f2,_⟩:=gx x hx;obtain⟨n,hn,e1,e2,e3,e4,e5⟩:=gx m hm;rw[<-e1];rcases e5 with⟨_,e5⟩|⟨e6,e5⟩
  ·rw[e5]at hp;exact h.depth n hn p hp nx pn (f1.trans OH) (f2.trans qo)
  ·rw[e5]at hp;rcases Hp p hp with hp|⟨_,_,nj,KP,hdj⟩
   ·rw[e6];exact h.depth up vd p hp nx pn (f1.trans OH) (f2.trans qo)
   ·have e7:nx=nj:=axa (((aG h.sorted).2 ⟨pn,f1.trans OH⟩).symm.trans KP);rw[e6,rq];exact hdj (by rw[<-e7];exact f2.trans qo)
theorem GN (h:mU T d off){up:Nd}(hk:T.get k=some up)(hd:up.dir=true)(hs:jU s up.names=none)(hl:up.names.length<60)(bZ:aJ s=true)
  (hj:j≠1) {nj:Nd} (KP:T.get j=some nj) (h7:d k<=7) (hdj:nj.dir=true->d j=d k+1):mU (T.named k (rM s j)) d (λx=>off x-if j=x then 1 else 0):=by
 obtain⟨vd,rq⟩:=(aG h.sorted).1 hk;refine Dw h hk hd (Ds (h.snames up vd)) (by rw[PM,zE hs];omega) (λp hp=>?_) (λ_=>h7) (λx=>?_)
 ·rcases PK.1 hp with rfl|⟨hp,_⟩
  ·exact .inr ⟨bZ,hj,nj,KP,hdj⟩
  ·exact .inl hp
 ·have h1:gH (rM s j up.names) x=gH up.names x+(if j=x then 1 else 0):=PQ hs x;by_cases h2:j=x
  ·rw[awd h2]at h1;simp only[awd h2];omega
  ·rw[awf h2]at h1;simp only[awf h2];omega
theorem PV (h:mU T d off){up:Nd}(hk:T.get k=some up)(hs:jU s up.names=some j):mU (T.named k (mc s)) d (λx=>off x+if j=x then 1 else 0):=by
 obtain⟨vd,rq⟩:=(aG h.sorted).1 hk;have tQ:=(cV (h.snames up vd)).1 hs;have eG:up.names≠[]:=List.ne_nil_of_mem tQ;have hd:up.dir=true:=by
  cases hd:up.dir with
  |true=>rfl
  |false=>exact absurd (h.file up vd hd).1 eG
 refine Dw h hk hd (oE (h.snames up vd)) (av2 (vD _ _) (h.names up vd).1) (λp hp=>.inl (mg.1 hp).1) (λ_=>by rw[<-rq];exact h.deep up vd eG) (λx=>?_);have h1:gH (mc s up.names) x+(if j=x then 1 else 0)=gH up.names x:=Du (h.snames up vd) hs x;by_cases h2:j=x
 ·rw[awd h2]at h1;simp only[awd h2];omega
 ·rw[awf h2]at h1;simp only[awf h2];omega
theorem GO (h:mU T d off){n0:Nd}{f:Nd->Nd}(hk:T.get k=some n0)(hf:∀ n,(f n).num=n.num/\(f n).dir=n.dir/\(f n).names=n.names)
  (age:n0.dir=false->(f n0).data.length<=16384) (alu:n0.dir=true->(f n0).data=[]) (ago:k=1->(f n0).links=n0.links)
  (Hc:k≠1->(f n0).links=n0.links+Cf k-off k/\1<=(f n0).links/\(n0.dir=true->(f n0).links=1)) (Ho:∀ n∈T,n.num≠k->Cf n.num=off n.num):mU (T.upd k f) d Cf:=by
 obtain⟨vd,rq⟩:=(aG h.sorted).1 hk;have TD:∀ n,(f n).num=n.num:=λn=>(hf n).1;have hex:∀ x,(∃ m∈T.upd k f,m.num=x)↔∃ m∈T,m.num=x:=λx=>by
  have e:=rN (T:=T) (k:=k) TD;have:x∈(T.upd k f).map (·.num)↔x∈T.map (·.num):=by rw[e]
  simpa using this
 have gx:∀ m∈T.upd k f,∃ n∈T,n.num=m.num/\n.dir=m.dir/\n.names=m.names/\((n.num≠k/\m.links=n.links/\m.data=n.data)\/(n=n0/\m.links=(f n0).links/\m.data=(f n0).data)):=by
  intro m hm;obtain⟨n,hn,rfl⟩:=A1.1 hm;refine⟨n,hn,?_⟩;by_cases e:n.num=k
  ·rw[awd (awJ.2 e)];have e2:=pB h.sorted hn vd J;exact⟨(hf n).1.symm,(hf n).2.1.symm,(hf n).2.2.symm,.inr ⟨e2,by rw[e2],by rw[e2]⟩⟩
  ·rw[awf (by simpa using e)];exact⟨rfl,rfl,rfl,.inl ⟨e,rfl,rfl⟩⟩
 have SX:∀ x,lZ (T.upd k f) x=lZ T x:=λx=>by
  have:=J3 (f:=f) h.sorted vd rq x;rw[(hf n0).2.2]at this;omega
 refine⟨vZ TD h.sorted,?_,?_,by rw[J2];exact h.many,?_,?_,?_,?_,?_,?_,h.droot,?_,?_⟩
 ·intro m hm;obtain⟨n,hn,e,_⟩:=gx m hm;rw[<-e];exact h.nums n hn
 ·obtain⟨r,hr,h1,h2,h3⟩:=h.root;obtain⟨m,hm,e⟩:=(hex 1).2 ⟨r,hr,h1⟩;obtain⟨n,hn,e1,e2,e3,e4⟩:=gx m hm;have e6:=pB h.sorted hn hr J;refine⟨m,hm,e,by rw[<-e2,e6];exact h2,?_⟩;rcases e4 with⟨_,e4,_⟩|⟨e5,e4,_⟩
  ·rw[e4,e6];exact h3
  ·rw[e4,ago (by rw[<-rq,<-e5];omega),<-e5,e6];exact h3
 ·intro m hm oe;obtain⟨n,hn,e1,e2,e3,e4⟩:=gx m hm;rw[<-e2]at oe;rw[<-e3];have:=h.file n hn oe;refine⟨this.1,?_⟩;rcases e4 with⟨_,_,e4⟩|⟨e5,_,e4⟩<;>rw[e4]
  ·exact this.2
  ·exact age (by rw[<-e5];exact oe)
 ·intro m hm oe;obtain⟨n,hn,e1,e2,e3,e4⟩:=gx m hm;rw[<-e2]at oe;rcases e4 with⟨_,_,e4⟩|⟨e5,_,e4⟩<;>rw[e4]
  ·exact h.dirs n hn oe
  ·exact alu (by rw[<-e5];exact oe)
 ·intro m hm;obtain⟨n,hn,e1,e2,e3,e4⟩:=gx m hm;rw[<-e3];exact h.snames n hn
 ·intro m hm;obtain⟨n,hn,e1,e2,e3,e4⟩:=gx m hm;rw[<-e3];exact h.names n hn
 ·intro m hm p hp;rw[hex];obtain⟨n,hn,e1,e2,e3,e4⟩:=gx m hm;rw[<-e3]at hp;exact h.closed n hn p hp
 ·intro m hm h1;obtain⟨n,hn,e1,e2,e3,e4⟩:=gx m hm;have h2:=h.count n hn (by rw[e1];exact h1);rw[SX,<-e1,<-e2];rcases e4 with⟨e5,e4,_⟩|⟨e5,e4,_⟩<;>rw[e4]
  ·rw[Ho n hn e5];exact h2
  ·have hnk:n.num=k:=by rw[e5];exact rq
   have h3:=Hc (by rw[<-hnk,e1];exact h1);rw[e5]at h2 ⊢;rw[rq]at h2 ⊢;refine⟨?_,h3.2⟩;omega
 ·intro m hm eG;obtain⟨n,hn,e1,e2,e3,e4⟩:=gx m hm;rw[<-e3]at eG;rw[<-e1];exact h.deep n hn eG
 ·intro m hm p hp x hx OH qo;obtain⟨nx,pn,f1,f2,_⟩:=gx x hx;obtain⟨n,hn,e1,e2,e3,e4⟩:=gx m hm;rw[<-e1];rw[<-e3]at hp;exact h.depth n hn p hp nx pn (f1.trans OH) (f2.trans qo)
theorem ZE (h:mU T d off){n0:Nd}(hn:∀ m∈T,m.num≠n0.num)(h1:1<n0.num)(h2:n0.num<=65535)(hl:n0.links=1)(rp:n0.names=[])(hdt:n0.data=[])(hT:T.length<60)(v:Nat):
  mU (Tr.add n0 T) (λx=>if x=n0.num then v else d x) (λx=>if x=n0.num then 1 else off x):=by
 have eG:∀ n∈T,∀ p∈n.names,p.2≠n0.num:=λn hnT p hp=>Dv h hn hnT hp;refine⟨kB h.sorted hn,?_,?_,by rw[U6];omega,?_,?_,?_,?_,?_,?_,?_,?_,?_⟩
 ·intro m hm;rcases dc.1 hm with rfl|hm
  ·exact⟨by omega,h2⟩
  ·exact h.nums m hm
 ·obtain⟨r,hr,h⟩:=h.root;exact⟨r,dc.2 (.inr hr),h⟩
 ·intro m hm oe;rcases dc.1 hm with rfl|hm
  ·exact⟨rp,by rw[hdt];simp⟩
  ·exact h.file m hm oe
 ·intro m hm oe;rcases dc.1 hm with rfl|hm
  ·exact hdt
  ·exact h.dirs m hm oe
 ·intro m hm;rcases dc.1 hm with rfl|hm
  ·rw[rp];exact List.Pairwise.nil
  ·exact h.snames m hm
 ·intro m hm;rcases dc.1 hm with rfl|hm
  ·rw[rp];simp
  ·exact h.names m hm
 ·intro m hm p hp;rcases dc.1 hm with rfl|hm
  ·rw[rp]at hp;cases hp
  ·obtain⟨a,x,hx,e⟩:=h.closed m hm p hp;exact⟨a,x,dc.2 (.inr hx),e⟩
 ·intro m hm iB;rw[U7,rp];rcases dc.1 hm with rfl|hm
  ·rw[awd rfl,PS eG];exact⟨by rw[hl];rfl,J,λ_=>hl⟩
  ·rw[awf (hn m hm)];have:=h.count m hm iB;exact⟨by simp only[gH,List.countP_nil];omega,this.2⟩
 ·rw[awf J];exact h.droot
 ·intro m hm Kw;rcases dc.1 hm with rfl|hm
  ·exact absurd rp Kw
  ·rw[awf (hn m hm)];exact h.deep m hm Kw
 ·intro m hm p hp x hx OH qo;rcases dc.1 hm with rfl|hm
  ·rw[rp]at hp;cases hp
  ·have e:=eG m hm p hp;rw[awf e,awf (hn m hm)];rcases dc.1 hx with rfl|hx
   ·exact absurd OH.symm e
   ·exact h.depth m hm p hp x hx OH qo
theorem U8 (h:mU T d off){n0:Nd}(hn:n0∈T)(h1:n0.num≠1)(hc:lZ T n0.num=0)(rp:n0.names=[]):mU (T.drop n0.num) d off:=by
 have eG:∀ n∈T,∀ p∈n.names,p.2≠n0.num:=λn hnT p hp e=>by
  have:=A3 hnT hp e;omega
 refine⟨Dp h.sorted,λm hm=>h.nums m (dA.1 hm).1,?_,av2 (awh _ _) h.many,λm hm=>h.file m (dA.1 hm).1,λm hm=>h.dirs m (dA.1 hm).1,λm hm=>h.snames m (dA.1 hm).1,λm hm=>h.names m (dA.1 hm).1,?_,?_,h.droot,λm hm=>h.deep m (dA.1 hm).1,λm hm p hp x hx=>h.depth m (dA.1 hm).1 p hp x (dA.1 hx).1⟩
 ·obtain⟨r,hr,e,h2⟩:=h.root;exact⟨r,dA.2 ⟨hr,J⟩,e,h2⟩
 ·intro m hm p hp;obtain⟨a,x,hx,e⟩:=h.closed m (dA.1 hm).1 p hp;exact⟨a,x,dA.2 ⟨hx,by rw[e];exact eG m (dA.1 hm).1 p hp⟩,e⟩
 ·intro m hm iB;have hcd:=we h.sorted hn m.num;rw[rp]at hcd;have:=h.count m (dA.1 hm).1 iB;exact⟨by simp only[gH,List.countP_nil]at hcd;omega,this.2⟩
theorem U9 (h:mU T d off){d':Int->Nat}(h0:d' 1=0)(h1:∀ n∈T,n.names≠[]->d' n.num<=7)(h2:∀ n∈T,∀ p∈n.names,∀ m∈T,m.num=p.2->m.dir=true->d' p.2=d' n.num+1):mU T d' off:=
 { h with droot:=h0,deep:=h1,depth:=h2 }
theorem GP (h:mU T d off)(ho:∀ n∈T,n.num≠1->Cf n.num=off n.num):mU T d Cf:=
 { h with count:=λn hn h1=>by rw[ho n hn h1];exact h.count n hn h1 }
end
end
section
open Go.RowKit
section
variable {T:Tr}{d:Int->Nat}{off:Int->Int}
theorem mh {f:Nm->Nm}:(T.named k f).get j=if j=k then(T.get j).map (λn=>{ n with names:=f n.names })else T.get j:=
 U5 (f:=λn=>{ n with names:=f n.names }) λ_=>rfl
theorem fA {α:Type}(l:List α):l=[]\/∃ p s,l=p++[s]:=by
 rcases List.eq_nil_or_concat l with h|⟨p,s,h⟩
 ·exact .inl h
 ·exact .inr ⟨p,s,by rw[h,List.concat_eq_append]⟩
theorem J4 {α:Type}(z:α){l:List α}(h:l≠[]):l=l.dropLast++[l.getLastD z]:=by
 rcases fA l with h1|⟨p,s,rfl⟩
 ·exact absurd h1 h
 ·simp
theorem wg (h:bA s=some l):l.length<=8/\∀ x∈l,aJ x=true:=by
 obtain⟨r,_,⟨_,rfl⟩|⟨_,_,h1,h2⟩⟩:=iV h
 ·simp
 ·exact⟨h1,awp.1 h2⟩
theorem Ly (h:bA s=some []):s=[47]:=by
 obtain⟨r,rfl,⟨rfl,_⟩|⟨_,h1,_⟩⟩:=iV h
 ·rfl
 ·exact absurd h1.symm (vI 47 r)
theorem A4 (l q:List (List UInt8))(hl:l≠[])(hq:q≠[]):[(47:UInt8)].intercalate (l++q)=[(47:UInt8)].intercalate l++47::[(47:UInt8)].intercalate q:=by
 induction l with
 |nil=>exact absurd rfl hl
 |cons x l ih=>
  cases l with
  |nil=>
   cases q with
   |nil=>exact absurd rfl hq
   |cons y q=>simp[List.intercalate]
  |cons y l=>
   have e:∀ m:List (List UInt8),[(47:UInt8)].intercalate (x::y::m)=x++47::[(47:UInt8)].intercalate (y::m):=λm=>by simp[List.intercalate]
   rw[awK,awK,e,e,<-awK,ih sp7];simp
theorem Dx {a:List UInt8}{q:List (List UInt8)}(ha:bA a=some l)(hb:bA b=some (l++q))(hl:l≠[])(hq:q≠[]):Lib.hasPrefix b (a++[47])=true:=by
 obtain⟨r,rfl,⟨_,e⟩|⟨_,e1,_⟩⟩:=iV ha
 ·exact absurd e hl
 ·obtain⟨r2,rfl,⟨_,e⟩|⟨_,e2,_⟩⟩:=iV hb
  ·simp at e;exact absurd e.1 hl
  ·have j1:=vL 47 r;have j2:=vL 47 r2;rw[<-e1]at j1;rw[<-e2,A4 l q hl hq,j1]at j2;unfold Lib.hasPrefix;rw[List.isPrefixOf_iff_prefix];exact⟨[(47:UInt8)].intercalate q,by rw[<-j2];simp⟩
theorem XN (h:mU T d off)(ha:Uj T path=.ok k):∃ l n,bA path=some l/\bi T 1 l=.ok k/\T.get k=some n:=by
 unfold Uj at ha
 cases hp:bA path with
 |none=>rw[hp]at ha;cases ha
 |some l=>
  rw[hp]at ha;obtain⟨r,hr,h1,_⟩:=h.root;obtain⟨n,hn,hk⟩:=(uT h l 1 k ⟨r,hr,h1⟩ ha).1;exact⟨l,n,rfl,ha,(aG h.sorted).2 ⟨hn,hk⟩⟩
theorem uU (h:mU T d off)(hr:iG T path=.ok (k,s)):∃ p up,bA path=some (p++[s])/\p.length<=7/\aJ s=true/\bi T 1 p=.ok k/\T.get k=some up/\up.dir=true/\jU s up.names=none/\up.names.length<60/\d k=p.length:=by
 unfold iG at hr
 cases hp:bA path with
 |none=>rw[hp]at hr;simp at hr
 |some l=>
  rw[hp]at hr;simp only[awG]at hr;split at hr
  ·cases hr
  ·rename_i hl
   split at hr
   ·cases hr
   ·rename_i k' hf
    split at hr
    ·cases hr
    ·rename_i up hu
     split at hr
     ·cases hr
     ·rename_i hd
      split at hr
      ·cases hr
      ·rename_i hn
       split at hr
       ·cases hr
       ·rename_i AE
        simp only[Except.ok.injEq,Prod.mk.injEq]at hr;obtain⟨rfl,rfl⟩:=hr;have hs:=J4 [] hl;obtain⟨h8,bZ⟩:=wg hp;have bt:=axi List.length hs;simp only[awn,av5,axe]at bt;obtain⟨r,hr,h1,yX,_⟩:=h.root;have aeW:up.dir=true:=by simpa using hd
        refine⟨l.dropLast,up,by rw[<-hs],J,bZ _ (by rw[hs];simp),hf,hu,aeW,by simpa using hn,J,?_⟩;have:=(uT h _ 1 k' ⟨r,hr,h1⟩ hf).2 r ((aG h.sorted).2 ⟨hr,h1⟩) yX up hu aeW;rw[this,h.droot];omega
theorem PW (hj:k<=j)(hj2:j<k+f)(hg:T.get j=none):T.get (dP T f k)=none/\k<=dP T f k/\dP T f k<=j:=by
 induction f generalizing k with
 |zero=>omega
 |succ f ih=>
  unfold dP;by_cases hk:(T.get k).isSome=true
  ·rw[awd hk];have eG:j≠k:=λe=>by rw[e]at hg;rw[hg]at hk;cases hk
   have:=ih (k:=k+1) J J;exact⟨this.1,J,this.2.2⟩
  ·rw[awf hk];exact⟨by simpa using hk,Int.le_refl _,hj⟩
theorem wh {n:Nd}(hn:n∈T)(hk:n.num=k):T.countP (λm=>decide (k+1<=m.num))+1<=T.countP (λm=>decide (k<=m.num)):=by
 induction T with
 |nil=>cases hn
 |cons y r ih=>
  rw[List.countP_cons,List.countP_cons];rcases aws.1 hn with rfl|hm
  ·have:r.countP (λm=>decide (k+1<=m.num))<=r.countP (λm=>decide (k<=m.num)):=List.countP_mono_left λm _ h=>by simp at h ⊢;omega
   rw[awf (by simp;omega),awd (by simp;omega)];omega
  ·have:=ih hm;by_cases h1:k+1<=y.num
   ·rw[awd (by simpa using h1),awd (by simp;omega)];omega
   ·rw[awf (by simpa using h1)];split<;>omega
theorem GQ (h:∀ j,k<=j->j<k+f->∃ n∈T,n.num=j):f<=T.countP (λm=>decide (k<=m.num)):=by
 induction f generalizing k with
 |zero=>omega
 |succ f ih=>
  obtain⟨n,hn,hk⟩:=h k J J;have h1:=wh hn hk;have h2:=ih (k:=k+1) λj h1 h2=>h j J J;omega
theorem mU.fresh (h:mU T d off):T.get (dP T T.length 2)=none/\2<=dP T T.length 2/\dP T T.length 2<=T.length+1:=by
 have:∃ j,2<=j/\j<2+(T.length:Int)/\T.get j=none:=by
  apply awZ;intro hc;have h1:=GQ (T:=T) (k:=2) (f:=T.length) λj h1 h2=>by
   cases hg:T.get j with
   |none=>exact absurd ⟨j,h1,h2,hg⟩ hc
   |some n=>exact⟨n,(aG h.sorted).1 hg⟩
  obtain⟨r,hr,Gf,_⟩:=h.root;have h2:=wh hr Gf;have h3:=List.countP_le_length (p:=λm:Nd=>decide (1<=m.num)) (l:=T);have h4:T.countP (λm=>decide ((1:Int)+1<=m.num))=T.countP (λm=>decide (2<=m.num)):=rfl;omega
 obtain⟨j,h1,h2,h3⟩:=this;have:=PW h1 h2 h3;exact⟨this.1,this.2.1,J⟩
theorem PX (h:WF T d)(c:cm):∃ d',WF (fX T c).1 d':=by
 unfold fX;split
 ·exact⟨d,h⟩
 ·rename_i k s hr
  obtain⟨p,up,hp,qs,bZ,hf,hg,hd,hn,AE,KN⟩:=uU h hr;split
  ·exact⟨d,h⟩
  ·rename_i hT
   obtain⟨f1,f2,f3⟩:=mU.fresh h;generalize iD:dP T T.length 2=num at*;have eG:=jw.1 f1;obtain⟨vd,rq⟩:=(aG h.sorted).1 hg;have aaX:k≠num:=λe=>eG up vd J
   let n0:Nd:=⟨num,c.kind==1,1,[],[]⟩
   have h1:=ZE (n0:=n0) h eG (by show 1<num;omega) (by show num<=65535;have:=h.many;omega) rfl rfl rfl J (d k+1);have g1:(Tr.add n0 T).get k=some up:=by rw[uS h.sorted eG,awf aaX];exact hg
   have g2:(Tr.add n0 T).get num=some n0:=by rw[uS h.sorted eG];exact awd rfl
   have h2:=GN (j:=num) h1 g1 hd hn AE bZ J g2 (by show(if k=num then _ else d k)<=7;rw[awf aaX];omega) (λ_=>by show(if num=num then _ else _)=(if k=num then _ else _)+1;rw[awd rfl,awf aaX]);refine⟨_,GP h2 λn hn h1=>?_⟩;show(0:Int)=(if n.num=num then 1 else 0)-if num=n.num then 1 else 0;by_cases e:n.num=num
   ·rw[awd e,awd e.symm];omega
   ·rw[awf e,awf (λe2=>e e2.symm)];omega
theorem Va {c:cm}(h0:0<=c.pos)(hb:b.length<=16384)(hp:c.pos<=b.length)(h2:c.kind=2->c.pos+c.data.length<=16384)(h3:c.kind≠2->c.data=[]):(ZD c b).length<=16384:=by
 unfold ZD;have h1:(b.take c.pos.toNat++c.data).length<=16384:=by
  rw[awn,awc];by_cases h:c.kind=2
  ·have:=h2 h;omega
  ·rw[h3 h];simp;omega
 simp only;split
 ·rename_i h
  rw[awn,List.length_drop];omega
 ·exact h1
theorem Lz (h:WF T d)(c:cm)(h0:0<=c.pos)(h3:c.kind≠2->c.data=[]):WF (mT T c).1 d:=by
 unfold mT;split
 ·exact h
 ·rename_i k ha
  split
  ·exact h
  ·rename_i n hg
   split
   ·exact h
   ·rename_i hd
    split
    ·exact h
    ·rename_i hb
     have hdf:n.dir=false:=by simpa using hd
     obtain⟨hm,hk⟩:=(aG h.sorted).1 hg;refine GO h hg (λ_=>⟨rfl,rfl,rfl⟩) (λ_=>?_) (λe=>absurd e hd) (λ_=>rfl) (λh1=>?_) (λ_ _ _=>rfl)
     ·exact Va h0 (h.file n hm hdf).2 J (λh2=>by
       apply Decidable.byContradiction;intro h4;exact hb (.inr ⟨h2,J⟩)) h3
     ·have:=h.count n hm J;exact⟨by show n.links=n.links+0-0;omega,this.2⟩
theorem PY (h:WF T d)(c:cm):WF (sU T c).1 d:=by
 unfold sU;split
 ·exact h
 ·rename_i j ha
  split
  ·exact h
  ·rename_i n hg
   split
   ·exact h
   ·rename_i hd
    split
    ·exact h
    ·rename_i k s hr
     obtain⟨p,up,hp,qs,bZ,hf,hgk,KN,hn,AE,hdd⟩:=uU h hr;obtain⟨hm,hj⟩:=(aG h.sorted).1 hg;obtain⟨r,Gf,nU⟩:=mU.get1 h;have Up:j≠1:=λe=>by rw[e,Gf]at hg;obtain rfl:=axa hg;exact hd nU
     have AF:j≠k:=λe=>by rw[e,hgk]at hg;obtain rfl:=axa hg;exact hd KN
     have h1:=GN (j:=j) h hgk KN hn AE bZ Up hg J (λe=>absurd e hd);have g1:(T.named k (rM s j)).get j=some n:=by rw[mh,awf AF];exact hg
     have hc:=h.count n hm J;refine GO h1 g1 (λ_=>⟨rfl,rfl,rfl⟩) (λ_=>(h.file n hm (by simpa using hd)).2) (λe=>absurd e hd) (λe=>absurd e Up) (λ_=>?_) (λm _ hmj=>?_)
     ·refine⟨by show n.links+1=n.links+0-(0-if j=j then 1 else 0);rw[awd rfl];omega,by show 1<=n.links+1;omega,λe=>absurd e hd⟩
     ·show(0:Int)=0-if j=m.num then 1 else 0;rw[awf (λe=>hmj e.symm)];omega
theorem J5 (h:mU T d off)(ha:Uj T path=.ok j)(eG:path≠[47]):∃ p s o up,bA path=some (p++[s])/\bi T 1 (p++[s])=.ok j/\bi T 1 p=.ok o/\T.get o=some up/\up.dir=true/\jU s up.names=some j:=by
 obtain⟨l,n,hp,hf,hg⟩:=XN h ha;have hl:l≠[]:=λe=>by rw[e]at hp;exact eG (Ly hp)
 have hs:=J4 [] hl;rw[hs]at hf hp;obtain⟨o,up,h1,h2,h3,h4⟩:=gU.1 hf;exact⟨_,_,o,up,hp,hf,h1,h2,h3,h4⟩
theorem GR (h:WF T d)(c:cm):WF (me T c).1 d:=by
 unfold me;split
 ·exact h
 ·rename_i eG
  split
  ·exact h
  ·rename_i j ha
   split
   ·exact h
   ·rename_i n hg
    split
    ·exact h
    ·rename_i rp
     have rp:n.names=[]:=by simpa using rp
     obtain⟨p,s,o,up,hp,hf,hfo,Ux,uA,hs⟩:=J5 h ha eG;simp only[hp,awG,List.dropLast_concat,List.getLastD_concat,hfo];obtain⟨hm,hj⟩:=(aG h.sorted).1 hg;obtain⟨hom,Tc⟩:=(aG h.sorted).1 Ux;have tQ:=(cV (h.snames up hom)).1 hs;have Up:=(h.closed up hom _ tQ).1;have hjo:j≠o:=λe=>by
      rw[e,Ux]at hg;obtain rfl:=axa hg;rw[rp]at tQ;cases tQ
     have h1:=PV h Ux hs;have g1:(T.named o (mc s)).get j=some n:=by rw[mh,awf hjo];exact hg
     obtain⟨iB,_⟩:=(aG h1.sorted).1 g1;have hc:=h1.count n iB (by rw[hj];exact Up);split
     ·rename_i KF
      have h2:=U8 h1 iB (by rw[hj];exact Up) (by
       have:=hc.1;rw[awd hj.symm]at this;omega) rp
      rw[hj]at h2;refine GP h2 λm db _=>?_;show(0:Int)=0+if j=m.num then 1 else 0;rw[awf (λe=>(dA.1 db).2 e.symm)];omega
     ·rename_i KF
      have hd:¬ n.dir=true:=λe=>KF (hc.2.2 e);refine GO h1 g1 (λ_=>⟨rfl,rfl,rfl⟩) (λ_=>(h.file n hm (by simpa using hd)).2) (λe=>absurd e hd) (λe=>absurd e Up) (λ_=>?_) (λm _ hmj=>?_)
      ·refine⟨by show n.links-1=n.links+0-(0+if j=j then 1 else 0);rw[awd rfl];omega,by show 1<=n.links-1;omega,λe=>absurd e hd⟩
      ·show(0:Int)=0+if j=m.num then 1 else 0;rw[awf (λe=>hmj e.symm)];omega
theorem zF {T1:Tr}(hm:∀ k n1,T1.get k=some n1->∃ n,T.get k=some n/\(n1.dir=true->n.dir=true)/\∀ s i,jU s n1.names=some i->jU s n.names=some i):∀(p:List (List UInt8)) (j k:Int),bi T1 j p=.ok k->bi T j p=.ok k:=by
 intro p
 induction p with
 |nil=>intro j k h;exact h
 |cons s r ih=>
  intro j k h;unfold bi at h ⊢
  cases hg:T1.get j with
  |none=>rw[hg]at h;cases h
  |some n1=>
   rw[hg]at h;obtain⟨n,hn,hd,hs⟩:=hm j n1 hg;rw[hn];simp only at h ⊢;split at h
   ·rename_i h1
    rw[awd (hd h1)]
    cases hi:jU s n1.names with
    |none=>rw[hi]at h;cases h
    |some i=>
     rw[hi]at h;rw[hs s i hi];exact ih i k h
   ·cases h
theorem wi (h:mU T d off)(hc:lZ T k<=1){y y':Nd}(hy:y∈T)(hy':y'∈T){p':List UInt8×Int}(hp:p∈y.names)(CK:p'∈y'.names)(e:p.2=k)(e':p'.2=k):y=y'/\p=p':=by
 have pos:∀ {l:Nm} {q:List UInt8×Int},q∈l->q.2=k->1<=gH l k:=λ{l q} hq eq=>by
  unfold gH;exact List.countP_pos_iff.2 ⟨q,hq,awJ.2 eq⟩
 have hyy:y=y':=by
  apply awZ;intro eG;have h1:=we h.sorted hy k;have hm:y'∈T.drop y.num:=dA.2 ⟨hy',λe=>eG (pB h.sorted hy hy' e.symm)⟩;have h2:=A3 hm CK e';have h3:=pos hp e;omega
 subst hyy;refine⟨rfl,?_⟩;apply awZ;intro eG;have hs:=h.snames y hy;have h1:=Du hs ((cV hs).2 hp:bM p.1 y.names=some p.2) k;rw[awd e]at h1;have h2:p'∈iO p.1 y.names:=mg.2 ⟨CK,λe2=>eG (Dt hs hp CK e2.symm)⟩;have h3:=pos h2 e';have h4:gH y.names k<=lZ T k:=by have:=we h.sorted hy k;omega
 omega
theorem ZF (h:WF T d){n:Nd}(hg:T.get k=some n)(hd:n.dir=true)(h1:k≠1):lZ T k<=1:=by
 obtain⟨hm,hk⟩:=(aG h.sorted).1 hg;have:=h.count n hm J;rw[hk]at this;have:=this.2.2 hd;omega
theorem GS (h:WF T d):∀(m:Nat) (p q:List (List UInt8)) (k:Int) (n:Nd),p.length=m->bi T 1 p=.ok k->bi T 1 q=.ok k->T.get k=some n->n.dir=true->p=q:=by
 intro m
 induction m with
 |zero=>
  intro p q k n hm hp hq hg hd;obtain rfl:=awD.1 hm;have e:1=k:=by simpa[bi]using hp
  subst e;rcases fA q with rfl|⟨q',s,rfl⟩
  ·rfl
  ·obtain⟨y,ny,_,hy,_,hs⟩:=gU.1 hq;obtain⟨O8,_⟩:=(aG h.sorted).1 hy;exact absurd rfl (h.closed ny O8 _ ((cV (h.snames ny O8)).1 hs)).1
 |succ m ih=>
  intro p q k n hm hp hq hg hd;rcases fA p with rfl|⟨p',s,rfl⟩
  ·simp at hm
  ·obtain⟨y,ny,hpy,hy,hyd,hs⟩:=gU.1 hp;obtain⟨O8,hyn⟩:=(aG h.sorted).1 hy;have tQ:=(cV (h.snames ny O8)).1 hs;have hk1:=(h.closed ny O8 _ tQ).1;rcases fA q with rfl|⟨q',s',rfl⟩
   ·have e:1=k:=by simpa[bi]using hq
    exact absurd e.symm hk1
   ·obtain⟨z,nz,hpz,hz,hzd,hs'⟩:=gU.1 hq;obtain⟨hzm,hzn⟩:=(aG h.sorted).1 hz;have aiT:=(cV (h.snames nz hzm)).1 hs';obtain⟨e1,e2⟩:=wi h (ZF h hg hd hk1) O8 hzm tQ aiT rfl rfl;subst e1;have e3:s=s':=axi Prod.fst e2;have e4:y=z:=J
    subst e3 e4;rw[ih p' q' y ny (by simpa using hm) hpy hpz hy hyd]
theorem Vb {α:Type}(g:α->Nat):∀(l:List α) (m:Nat),m<=l.foldl (λm p=>max m (g p)) m/\∀ p∈l,g p<=l.foldl (λm p=>max m (g p)) m:=by
 intro l
 induction l with
 |nil=>intro m;simp
 |cons x r ih=>
  intro m;have h:=ih (max m (g x));simp only[List.foldl_cons];refine⟨by omega,λp hp=>?_⟩;rcases aws.1 hp with rfl|hp
  ·omega
  ·exact h.2 p hp
theorem Vc (h:mU T d off):∀(p:List (List UInt8)) (f:Nat) (j y:Int),bi T j p=.ok y->p.length<=f->p.length<=vX T f j:=by
 intro p
 induction p with
 |nil=>intro f j y _ _;simp
 |cons s r ih=>
  intro f j y hf hl
  cases f with
  |zero=>simp at hl
  |succ f=>
   unfold bi at hf;unfold vX
   cases hg:T.get j with
   |none=>rw[hg]at hf;cases hf
   |some n=>
    rw[hg]at hf;simp only at hf ⊢;split at hf
    ·cases hi:jU s n.names with
     |none=>rw[hi]at hf;cases hf
     |some i=>
      rw[hi]at hf;obtain⟨hm,_⟩:=(aG h.sorted).1 hg;have tQ:=(cV (h.snames n hm)).1 hi;have h1:=(Vb (λp:List UInt8×Int=>1+vX T f p.2) n.names 0).2 _ tQ;have h2:=ih f i y hf (by simpa using hl);simp only[av5];simp only at h1;omega
    ·cases hf
end
end
section
open Go.RowKit
section
variable {T:Tr}{d:Int->Nat}
theorem GT (h:WF T d):∀ k n1,(T.named o (mc s)).get k=some n1->∃ n,T.get k=some n/\(n1.dir=true->n.dir=true)/\∀ x i,jU x n1.names=some i->jU x n.names=some i:=by
 intro k n1 hg;rw[mh]at hg;by_cases hk:k=o
 ·rw[awd hk]at hg;obtain⟨n,hn,rfl⟩:=axg.1 hg;obtain⟨hm,_⟩:=(aG h.sorted).1 hn;refine⟨n,hn,id,λx i hx=>?_⟩;rw[cV (oE (h.snames n hm))]at hx;exact(cV (h.snames n hm)).2 (mg.1 hx).1
 ·rw[awf hk]at hg;exact⟨n1,hg,id,λ_ _ h=>h⟩
structure Ren (T:Tr)(d:Int->Nat)(c:cm)(p1:List (List UInt8))(s1:List UInt8)(o:Int)(p2:List (List UInt8))(s2:List UInt8)(k j:Int)(KC KO nj:Nd):Prop where
 path:bA c.path=some (p1++[s1])
 dest:bA c.dest=some (p2++[s2])
 fj:bi T 1 (p1++[s1])=.ok j
 fo:bi T 1 p1=.ok o
 fk:bi T 1 p2=.ok k
 go:T.get o=some KC
 gk:T.get k=some KO
 gj:T.get j=some nj
 dirO:KC.dir=true
 dirK:KO.dir=true
 was:jU s1 KC.names=some j
 new:jU s2 KO.names=none
 room:KO.names.length<60
 ok:aJ s2=true
 apart:Lib.hasPrefix c.dest (c.path++[47])=false
 dk:d k=p2.length
 long:p2.length+1+vX T 9 j<=8
 j1:j≠1
theorem wj {T:Tr}:∀(l:List (List UInt8)) (k e:Int),bi T k l=.error e->e=141\/e=143:=by
 intro l
 induction l with
 |nil=>intro k e h;cases h
 |cons s r ih=>
  intro k e h;rw[j8]at h;split at h
  ·cases h;exact .inl rfl
  ·split at h
   ·split at h
    ·cases h;exact .inl rfl
    ·exact ih _ _ h
   ·cases h;exact .inr rfl
theorem ZG {T:Tr}(h:Uj T path=.error e):140<=e:=by
 unfold Uj at h;split at h
 ·cases h;decide
 ·rcases wj _ _ _ h with rfl|rfl<;>decide
theorem Dy {T:Tr}(h:iG T path=.error e):140<=e:=by
 unfold iG at h;simp only at h;split at h
 ·cases h;decide
 ·split at h
  ·rename_i h1
   cases h
   rcases wj _ _ _ h1 with rfl|rfl<;>decide
  ·split at h
   ·cases h;decide
   ·split at h
    ·cases h;decide
    ·split at h
     ·cases h;decide
     ·split at h
      ·cases h;decide
      ·cases h
theorem LB (h:WF T d)(c:cm):(∃ e,jv T c=(T,e)/\140<=e)\/∃ p1 s1 o p2 s2 k j KC KO nj,Ren T d c p1 s1 o p2 s2 k j KC KO nj/\jv T c=((T.named o (mc s1)).named k (rM s2 j),0):=by
 unfold jv;by_cases hr:c.path=[47]
 ·rw[awd hr];exact .inl ⟨_,rfl,by decide⟩
 ·rw[awf hr]
  cases ha:Uj T c.path with
  |error e=>exact .inl ⟨e,rfl,ZG ha⟩
  |ok j=>
   by_cases hp:Lib.hasPrefix c.dest (c.path++[47])=true
   ·simp only[hp,if_true];exact .inl ⟨_,rfl,by decide⟩
   ·simp only[hp]
    cases YH:iG T c.dest with
    |error e=>exact .inl ⟨e,rfl,Dy YH⟩
    |ok x=>
     obtain⟨k,s2⟩:=x;obtain⟨p2,KO,hd,qs,bZ,hfk,hgk,KN,hn,AE,hdd⟩:=uU h YH;obtain⟨p1,s1,o,KC,Y7,hfj,hfo,Ux,uA,hs⟩:=J5 h ha hr;obtain⟨l,nj,hl,FJ,hgj⟩:=XN h ha;simp only[hd,awG,Y7,List.dropLast_concat,List.getLastD_concat,hfo];by_cases h8:8<(p2++[s2]).length+vX T 9 j
     ·rw[awd h8];exact .inl ⟨_,rfl,by decide⟩
     ·rw[awf h8];obtain⟨hom,_⟩:=(aG h.sorted).1 Ux;refine .inr ⟨p1,s1,o,p2,s2,k,j,KC,KO,nj,⟨Y7,hd,hfj,hfo,hfk,Ux,hgk,hgj,uA,KN,hs,hn,AE,bZ,by simpa using hp,hdd,?_,(h.closed KC hom _ ((cV (h.snames KC hom)).1 hs)).1⟩,rfl⟩;simp only[awn,av5,axe]at h8;omega
theorem Vd {c:cm}{KC KO nj:Nd}(h:WF T d)(r:Ren T d c p1 s1 o p2 s2 k j KC KO nj)(_hd:nj.dir=true):∀ p,bi T j p≠.ok k:=by
 intro p hp;have h1:bi T 1 (p1++[s1]++p)=.ok k:=by rw[uc,r.fj];exact hp
 have h2:=GS h _ _ _ _ _ rfl h1 r.fk r.gk r.dirK;have h3:=Dx r.path (q:=p++[s2]) (by rw[r.dest,<-h2];simp) sp7 sp7;rw[r.apart]at h3;cases h3
theorem ZH {c:cm}{KC KO nj:Nd}(h:WF T d)(r:Ren T d c p1 s1 o p2 s2 k j KC KO nj):∃ d',WF ((T.named o (mc s1)).named k (rM s2 j)) d':=by
 have h1:=PV h r.go r.was;have Yk:=GT (o:=o) (s:=s1) h;obtain⟨aqU,gk',dk',nk',lk'⟩:∃ up',(T.named o (mc s1)).get k=some up'/\up'.dir=true/\jU s2 up'.names=none/\up'.names.length<60:=by
  rw[mh];by_cases e:k=o
  ·rw[awd e,r.gk];refine⟨_,rfl,r.dirK,?_,Nat.lt_of_le_of_lt (vD _ _) r.room⟩;rw[sV];intro p hp;exact sV.1 r.new p (mg.1 hp).1
  ·rw[awf e];exact⟨KO,r.gk,r.dirK,r.new,r.room⟩
 obtain⟨nj',gj',dj'⟩:∃ n',(T.named o (mc s1)).get j=some n'/\n'.dir=nj.dir:=by
  rw[mh];by_cases e:j=o
  ·rw[awd e,r.gj];exact⟨_,rfl,rfl⟩
  ·rw[awf e];exact⟨nj,r.gj,rfl⟩
 have qs:p2.length<=7:=by have:=r.long;omega
 have fin:∀ d':Int->Nat,mU (T.named o (mc s1)) d' (λx=>0+if j=x then 1 else 0)->d' k<=7->(nj'.dir=true->d' j=d' k+1)->WF ((T.named o (mc s1)).named k (rM s2 j)) d':=by
  intro d' hw h7 hj;refine GP (GN hw gk' dk' nk' lk' r.ok r.j1 gj' h7 hj) λn _ _=>?_;show(0:Int)=0+(if j=n.num then 1 else 0)-if j=n.num then 1 else 0;omega
 by_cases hd:nj.dir=true
 ·
  have aeE:nj'.dir=true:=dj'.trans hd;obtain⟨agr,abX⟩:=(aG h1.sorted).1 gj';have hcj:lZ (T.named o (mc s1)) j=0:=by
   have hc:=h1.count nj' agr (by rw[abX];exact r.j1);have:=hc.2.2 aeE;have:=hc.1;rw[abX,awd rfl]at this;omega
  have adZ:∀ n∈T.named o (mc s1),∀ p∈n.names,p.2≠j:=λn hn p hp e=>by
   have:=A3 hn hp e;omega
  let Jh:Int->Prop:=λx=>∃ p,bi (T.named o (mc s1)) j p=.ok x
  have agh:∀ p x m,bi (T.named o (mc s1)) j p=.ok x->(T.named o (mc s1)).get x=some m->m.dir=true->d x=d j+p.length:=λp x m hf hg hm=>
   (uT h1 p j x ⟨nj',agr,abX⟩ hf).2 nj' gj' aeE m hg hm
  classical
  let d':Int->Nat:=λx=>if Jh x then d x-d j+(p2.length+1)else d x
  have hk:¬ Jh k:=λ⟨p,hp⟩=>Vd h r hd p (zF Yk p j k hp);have hj:Jh j:=⟨[],rfl⟩
  have h1s:¬ Jh 1:=by
   rintro⟨p,hp⟩;rcases fA p with rfl|⟨q,s,rfl⟩
   ·have e:j=1:=by simpa[bi]using hp
    exact r.j1 e
   ·obtain⟨y,ny,_,hy,_,hs⟩:=gU.1 hp;obtain⟨O8,_⟩:=(aG h1.sorted).1 hy;exact absurd rfl (h1.closed ny O8 _ ((cV (h1.snames ny O8)).1 hs)).1
  have hw:mU (T.named o (mc s1)) d' (λx=>0+if j=x then 1 else 0):=by
   refine U9 h1 ?_ (λn hn eG=>?_) (λn hn p hp m hm T8 oe=>?_)
   ·show(if Jh 1 then _ else d 1)=0;rw[awf h1s];exact h1.droot
   ·show(if Jh n.num then _ else d n.num)<=7;have hg:=(aG h1.sorted).2 ⟨hn,rfl⟩;have Ol:n.dir=true:=by
     cases Ol:n.dir with
     |true=>rfl
     |false=>exact absurd (h1.file n hn Ol).1 eG
    by_cases hs:Jh n.num
    ·rw[awd hs];obtain⟨q,hq⟩:=hs;have e:=agh q n.num n hq hg Ol;have h7:=h1.deep n hn eG;obtain⟨pe,yD⟩:=List.exists_mem_of_ne_nil _ eG;have SQ:bi (T.named o (mc s1)) j (q++[pe.1])=.ok pe.2:=gU.2 ⟨_,n,hq,hg,Ol,(cV (h1.snames n hn)).2 yD⟩;have h9:=Vc h _ 9 j _ (zF Yk _ j _ SQ) (by simp;omega);simp only[awn,av5,axe]at h9;have:=r.long;omega
    ·rw[awf hs];exact h1.deep n hn eG
   ·have eG:n.names≠[]:=List.ne_nil_of_mem hp;have hg:=(aG h1.sorted).2 ⟨hn,rfl⟩;have hgm:=(aG h1.sorted).2 ⟨hm,T8⟩;have Ol:n.dir=true:=by
     cases Ol:n.dir with
     |true=>rfl
     |false=>exact absurd (h1.file n hn Ol).1 eG
    have hde:=h1.depth n hn p hp m hm T8 oe;show(if Jh p.2 then _ else d p.2)=(if Jh n.num then _ else d n.num)+1;by_cases hs:Jh n.num
    ·have j5:Jh p.2:=by
      obtain⟨q,hq⟩:=hs;exact⟨q++[p.1],gU.2 ⟨_,n,hq,hg,Ol,(cV (h1.snames n hn)).2 hp⟩⟩
     rw[awd hs,awd j5];obtain⟨q,hq⟩:=hs;have e:=agh q n.num n hq hg Ol;omega
    ·have j5:¬ Jh p.2:=by
      rintro⟨q,hq⟩;rcases fA q with rfl|⟨q',s,rfl⟩
      ·have e:j=p.2:=by simpa[bi]using hq
       exact adZ n hn p hp e.symm
      ·obtain⟨y,ny,hqy,hy,_,hys⟩:=gU.1 hq;obtain⟨O8,hyn⟩:=(aG h1.sorted).1 hy;have tQ:=(cV (h1.snames ny O8)).1 hys;have hc:lZ (T.named o (mc s1)) p.2<=1:=by
        have iB:m.num≠1:=by rw[T8];exact(h1.closed n hn p hp).1
        have hc:=h1.count m hm iB;have:=hc.2.2 oe;have:=hc.1;rw[T8,awf (λe=>adZ n hn p hp e.symm)]at this;omega
       obtain⟨e1,_⟩:=wi h1 hc O8 hn tQ hp rfl rfl;exact hs ⟨q',by rw[hqy,<-hyn,e1]⟩
     rw[awf hs,awf j5];exact hde
  refine⟨d',fin d' hw ?_ λ_=>?_⟩
  ·show(if Jh k then _ else d k)<=7;rw[awf hk,r.dk];exact qs
  ·show(if Jh j then _ else d j)=(if Jh k then _ else d k)+1;rw[awd hj,awf hk,r.dk];omega
 ·exact⟨d,fin d h1 (by rw[r.dk];exact qs) (λe=>absurd (dj'▸e) hd)⟩
theorem GU (h:WF T d)(c:cm):∃ d',WF (jv T c).1 d':=by
 rcases LB h c with⟨e,he,_⟩|⟨p1,s1,o,p2,s2,k,j,KC,KO,nj,r,he⟩
 ·rw[he];exact⟨d,h⟩
 ·rw[he];exact ZH h r
theorem PZ {c:cm}(h:c.ok=true):0<=c.pos/\c.pos<=16384:=by
 obtain⟨h9,hf,hb⟩:=oC h;have hk:=ZC h9;by_cases h23:c.k=2\/c.k=3
 ·have:=hf 3 (by rcases h23 with e|e<;>rw[e]<;>simp[fieldsOf]);simpa[cm.fieldOk]using this
 ·have:c.pos=0:=by
   rw[<-hb];rcases(by omega:c.k=0\/c.k=1\/c.k=4\/c.k=5\/c.k=6\/c.k=7\/c.k=8)with e|e|e|e|e|e|e<;>rw[e]<;>rfl
  omega
theorem J6 {c:cm}(h:c.ok=true):c.data.length<=512/\(c.kind≠2->c.data=[]):=by
 obtain⟨h9,hf,hb⟩:=oC h;have hk:=ZC h9;by_cases h2:c.k=2
 ·have:=hf 4 (by rw[h2];simp[fieldsOf]);refine⟨by simpa[cm.fieldOk]using this,λh=>?_⟩;rw[hk,h2]at h;exact absurd rfl h
 ·have:c.data=[]:=by
   rw[<-hb];rcases(by omega:c.k=0\/c.k=1\/c.k=3\/c.k=4\/c.k=5\/c.k=6\/c.k=7\/c.k=8)with e|e|e|e|e|e|e|e<;>rw[e]<;>rfl
  exact⟨by rw[this];simp,λ_=>this⟩
theorem P0 (h:WF T d)(c:cm):∃ d',WF (qG T c).1 d':=by
 unfold qG;by_cases bZ:c.ok=false
 ·rw[awd bZ];exact⟨d,h⟩
 ·rw[awf bZ];have bZ:c.ok=true:=by simpa using bZ
  split
  ·exact PX h c
  ·split
   ·exact⟨d,Lz h c (PZ bZ).1 (J6 bZ).2⟩
   ·split
    ·exact⟨d,PY h c⟩
    ·split
     ·exact GU h c
     ·split
      ·exact⟨d,GR h c⟩
      ·exact⟨d,h⟩
end
end
end
end Go.Proofs.YtkghpdcloaiflaaGreatDoor
