import Derived.Test.YtkghpdcloaiflaaGreatDoorB09
namespace Go.Proofs.YtkghpdcloaiflaaGreatDoor
open _root_.Go.Proofs.Tryz
section
section
open Go.RowKit
abbrev Nm:=List (List UInt8×Int)
abbrev fO (s:List UInt8)(l:Nm):Nm:=gc s l
abbrev l7 (s:List UInt8)(k:Int)(l:Nm):Nm:=ei bytesBefore s k l
abbrev jN (s:List UInt8)(l:Nm):Option Int:=bF s l
structure Nd where
 num:Int
 dir:Bool
 links:Int
 data:List UInt8
 names:Nm
abbrev Tr:=List Nd
def Tr.get (T:Tr)(k:Int):Option Nd:=T.find? fun n=>n.num==k
def Tr.upd (T:Tr)(k:Int)(f:Nd->Nd):Tr:=T.map fun x=>if x.num==k then f x else x
def Tr.add (n:Nd):Tr->Tr
 |[]=>[n]
 |y::r=>if n.num<y.num then n::y::r else y::Tr.add n r
def Tr.drop (T:Tr)(k:Int):Tr:=T.filter fun n=>!(n.num==k)
def Tr.new:Tr:=[⟨1,true,1,[],[]⟩]
def aX (T:Tr):Int->List (List UInt8)->Except Int Int
 |k,[]=>.ok k
 |k,s::r=>match T.get k with
  |none=>.error 141
  |some n=>if n.dir=true then(match jN s n.names with|none=>.error 141|some j=>aX T j r)else .error 143
def zE (T:Tr)(path:List UInt8):Except Int Int:=match bd path with
 |none=>.error 140
 |some l=>aX T 1 l
def gq (T:Tr)(path:List UInt8):Except Int (Int×List UInt8):=
 let l:=(bd path).getD []
 if l=[]then .error 142 else match aX T 1 l.dropLast with
  | .error e=>.error e
  | .ok k=>match T.get k with
   |none=>.error 141
   |some up=>if up.dir=false then .error 143 else if(jN (l.getLastD []) up.names).isSome=true then .error 142 else if 60<=up.names.length then .error 145 else .ok (k,l.getLastD [])
def dY (T:Tr):Nat->Int->Int
 |0,k=>k
 |f+1,k=>if(T.get k).isSome=true then dY T f (k+1)else k
def Tr.named (T:Tr)(k:Int)(f:Nm->Nm):Tr:=T.upd k fun n=>{ n with names:=f n.names }
def gd (T:Tr)(c:co):Tr×Int:=match gq T c.path with
 | .error e=>(T,e)
 | .ok (k,s)=>if 60<=T.length then(T,145)else
  let num:=dY T T.length 2
  ((Tr.add ⟨num,c.kind==1,1,[],[]⟩ T).named k (l7 s num),0)
def ox (c:co)(d:List UInt8):List UInt8:=
 let s:=d.take c.pos.toNat++c.data
 if c.kind=2/\s.length<d.length then s++d.drop s.length else s
def dN (T:Tr)(c:co):Tr×Int:=match zE T c.path with
 | .error e=>(T,e)
 | .ok k=>match T.get k with
  |none=>(T,141)
  |some n=>if n.dir=true then(T,143)else if(n.data.length:Int)<c.pos\/c.kind=2/\16384<c.pos+c.data.length then(T,145)else
   (T.upd k fun n=>{ n with data:=ox c n.data },0)
def iZ (T:Tr)(c:co):Tr×Int:=match zE T c.path with
 | .error e=>(T,e)
 | .ok j=>match T.get j with
  |none=>(T,141)
  |some n=>if n.dir=true then(T,143)else match gq T c.dest with
   | .error e=>(T,e)
   | .ok (k,s)=>((T.named k (l7 s j)).upd j fun n=>{ n with links:=n.links+1 },0)
def fE (T:Tr):Nat->Int->Nat
 |0,_=>0
 |f+1,k=>match T.get k with
  |none=>0
  |some n=>n.names.foldl (fun m p=>max m (1+fE T f p.2)) 0
def cg (T:Tr)(c:co):Tr×Int:=if c.path=[47]then(T,144)else match zE T c.path with
 | .error e=>(T,e)
 | .ok j=>if Lib.hasPrefix c.dest (c.path++[47])=true then(T,144)else match gq T c.dest with
  | .error e=>(T,e)
  | .ok (k,s)=>if 8<((bd c.dest).getD []).length+fE T 9 j then(T,145)else
   let l:=(bd c.path).getD []
   match aX T 1 l.dropLast with
   | .error e=>(T,e)
   | .ok o=>((T.named o (fO (l.getLastD []))).named k (l7 s j),0)
def dH (T:Tr)(c:co):Tr×Int:=if c.path=[47]then(T,144)else match zE T c.path with
 | .error e=>(T,e)
 | .ok j=>match T.get j with
  |none=>(T,141)
  |some n=>if n.names≠[]then(T,144)else
   let l:=(bd c.path).getD []
   match aX T 1 l.dropLast with
   | .error e=>(T,e)
   | .ok o=>
    let T':=T.named o (fO (l.getLastD []))
    (if n.links=1 then T'.drop j else T'.upd j fun n=>{ n with links:=n.links-1 },0)
def qK (T:Tr)(c:co):Tr×Int:=if c.ok=false then(T,1)else
 if c.kind=0\/c.kind=1 then gd T c else if c.kind=2\/c.kind=3 then dN T c else if c.kind=4 then iZ T c else if c.kind=5 then cg T c else if c.kind=6 then dH T c else(T,1)
def aG (n:Nat):List UInt8:=if h:n<128 then [UInt8.ofNat n]else UInt8.ofNat (n%128+128)::aG (n/128)
 termination_by n
 decreasing_by omega
def lK (p:List UInt8×Int):List UInt8:=aG p.1.length++p.1++aG p.2.toNat
def l8 (l:Nm):List UInt8:=aG l.length++l.flatMap lK
def vU (was:Option (List UInt8))(p:List UInt8×Int):Bool:=aK p.1&&(match was with|none=>true|some s=>bytesBefore s p.1)&&decide (1<=p.2)&&decide (p.2<=65535)
def fW:Option (List UInt8)->Nm->Bool
 |_,[]=>true
 |was,p::r=>vU was p&&fW (some p.1) r
def oQ (l:Nm):Bool:=decide (l.length<=4096)&&fW none l
structure Nt where
 num:Int
 dir:Bool
 links:Int
 data:List UInt8
deriving DecidableEq
def Nd.told (n:Nd):Nt:=⟨n.num,n.dir,n.links,if n.dir=true then l8 n.names else n.data⟩
def ar (T:Tr):List Nt:=T.map Nd.told
end
section
open Go.RowKit
section
variable {T:Tr}
abbrev de (T:Tr):Prop:=T.Pairwise fun a b=>a.num<b.num
theorem aw (hs:de T){k:Int}{n:Nd}:T.get k=some n↔n∈T/\n.num=k:=by
 unfold Tr.get
 induction T with
 |nil=>simp
 |cons y r ih=>
  obtain⟨h1,h2⟩:=av5.1 hs;rw[List.find?_cons];by_cases h:y.num=k
  ·rw[avF.2 h]
   constructor
   ·intro e;obtain rfl:=av6 e;exact⟨by simp,h⟩
   ·rintro⟨hm,hk⟩;rcases avn.1 hm with rfl|hm
    ·rfl
    ·have:=h1 n hm;omega
  ·rw[awh h];show List.find? _ r=some n↔_;rw[ih h2]
   constructor
   ·rintro⟨hm,hk⟩;exact⟨by simp[hm],hk⟩
   ·rintro⟨hm,hk⟩;rcases avn.1 hm with rfl|hm
    ·exact absurd hk h
    ·exact⟨hm,hk⟩
theorem jy {k:Int}:T.get k=none↔∀ n∈T,n.num≠k:=by
 unfold Tr.get;rw[av0];simp
theorem lL (hs:de T){a b:Nd}(ha:a∈T)(hb:b∈T)(h:a.num=b.num):a=b:=
 av6 (((aw hs).2 ⟨ha,h⟩).symm.trans ((aw hs).2 ⟨hb,rfl⟩))
theorem oR {k:Int}{f:Nd->Nd}(hf:∀ n,(f n).num=n.num):(T.upd k f).map (·.num)=T.map (·.num):=by
 unfold Tr.upd;rw[avr];refine avs fun n _=>?_;show(if n.num==k then f n else n).num=n.num;split
 ·exact hf n
 ·rfl
theorem qL {T:Tr}:de T↔(T.map (·.num)).Pairwise (·<·):=by rw[List.pairwise_map]
theorem i1 {k:Int}{f:Nd->Nd}(hf:∀ n,(f n).num=n.num)(hs:de T):de (T.upd k f):=by
 rw[qL,oR hf];exact qL.1 hs
theorem JO {k:Int}{f:Nd->Nd}:(T.upd k f).length=T.length:=by simp[Tr.upd]
theorem uQ {k:Int}{f:Nd->Nd}{m:Nd}:m∈T.upd k f↔∃ n∈T,(if n.num==k then f n else n)=m:=by simp[Tr.upd]
theorem Uk {k j:Int}{f:Nd->Nd}(hf:∀ n,(f n).num=n.num):(T.upd k f).get j=if j=k then(T.get j).map f else T.get j:=by
 unfold Tr.get Tr.upd
 induction T with
 |nil=>simp
 |cons y r ih=>
  rw[auY,List.find?_cons,List.find?_cons];by_cases hy:y.num=k
  ·rw[avF.2 hy];simp only[if_true,hf];by_cases hj:y.num=j
   ·rw[avF.2 hj,au8 (by omega)];rfl
   ·rw[awh hj];exact ih
  ·rw[awh hy];simp only[Bool.false_eq_true,if_false];by_cases hj:y.num=j
   ·rw[avF.2 hj,ava (by omega)]
   ·rw[awh hj];exact ih
theorem dh {n m:Nd}:m∈Tr.add n T↔m=n\/m∈T:=by
 induction T with
 |nil=>simp[Tr.add]
 |cons y r ih=>
  unfold Tr.add;split
  ·simp
  ·simp[ih];constructor
   ·rintro(h|h|h)<;>simp[h]
   ·rintro(h|h|h)<;>simp[h]
theorem kP {n:Nd}(hs:de T)(hn:∀ m∈T,m.num≠n.num):de (Tr.add n T):=by
 induction T with
 |nil=>simp[Tr.add]
 |cons y r ih=>
  obtain⟨h1,h2⟩:=av5.1 hs;unfold Tr.add;split
  ·rename_i h
   refine av5.2 ⟨fun m hm=>?_,hs⟩;rcases avn.1 hm with rfl|hm
   ·exact h
   ·have:=h1 m hm;omega
  ·rename_i h
   have:=hn y (by simp);refine av5.2 ⟨fun m hm=>?_,ih h2 fun m hm=>hn m (by simp[hm])⟩;rcases dh.1 hm with rfl|hm
   ·omega
   ·exact h1 m hm
theorem Ul {n:Nd}:(Tr.add n T).length=T.length+1:=by
 induction T with
 |nil=>rfl
 |cons y r ih=>
  unfold Tr.add;split
  ·simp
  ·simp[ih]
theorem uR {n:Nd}(hs:de T)(hn:∀ m∈T,m.num≠n.num)(k:Int):(Tr.add n T).get k=if k=n.num then some n else T.get k:=by
 by_cases h:k=n.num
 ·subst h;rw[au8 rfl];exact(aw (kP hs hn)).2 ⟨dh.2 (.inl rfl),rfl⟩
 ·rw[ava h]
  cases hg:T.get k with
  |none=>
   rw[jy]at hg ⊢;intro m hm;rcases dh.1 hm with rfl|hm
   ·exact fun e=>h e.symm
   ·exact hg m hm
  |some m=>
   obtain⟨hm,hk⟩:=(aw hs).1 hg;exact(aw (kP hs hn)).2 ⟨dh.2 (.inr hm),hk⟩
theorem cR {k:Int}{m:Nd}:m∈T.drop k↔m∈T/\m.num≠k:=by simp[Tr.drop]
theorem Dd {k:Int}(hs:de T):de (T.drop k):=hs.filter _
def gt (l:Nm)(j:Int):Nat:=l.countP fun p=>p.2==j
def j6 (T:Tr)(j:Int):Nat:=(T.map fun n=>gt n.names j).sum
theorem JP {k:Int}{f:Nd->Nd}(hs:de T){n:Nd}(hn:n∈T)(hk:n.num=k)(j:Int):j6 (T.upd k f) j+gt n.names j=j6 T j+gt (f n).names j:=by
 unfold j6 Tr.upd;rw[avr]
 induction T with
 |nil=>cases hn
 |cons y r ih=>
  obtain⟨h1,h2⟩:=av5.1 hs;simp only[auY,auZ,Function.comp];rcases avn.1 hn with rfl|hm
  ·have e2:(r.map ((fun n=>gt n.names j)∘fun x=>if(x.num==k)=true then f x else x))=r.map fun n=>gt n.names j:=by
    refine avs fun m hm=>?_;have:=h1 m hm;simp only[Function.comp];rw[ava (by simp;omega)]
   have e3:(if(n.num==k)=true then f n else n)=f n:=au8 (avF.2 hk);rw[e3];have e4:=awe List.sum e2;simp only[Function.comp_def]at e4 ⊢;omega
  ·have:=h1 n hm;have e3:(if(y.num==k)=true then f y else y)=y:=ava (by simp;omega);rw[e3];have:=ih h2 hm;simp only[Function.comp_def]at this ⊢;omega
theorem Um {n:Nd}(j:Int):j6 (Tr.add n T) j=gt n.names j+j6 T j:=by
 induction T with
 |nil=>simp[j6,Tr.add]
 |cons y r ih=>
  unfold Tr.add;split
  ·simp[j6]
  ·unfold j6 at*;simp only[auY,auZ];rw[ih];omega
theorem vV {n:Nd}(hs:de T)(hn:n∈T)(j:Int):j6 (T.drop n.num) j+gt n.names j=j6 T j:=by
 unfold j6 Tr.drop
 induction T with
 |nil=>cases hn
 |cons y r ih=>
  obtain⟨h1,h2⟩:=av5.1 hs;rw[awd];rcases avn.1 hn with rfl|hm
  ·rw[avF.2 rfl];have e:r.filter (fun m=>!(m.num==n.num))=r:=List.filter_eq_self.2 fun m hm=>by
    have:=h1 m hm;rw[awh (by omega)];rfl
   simp only[Bool.not_true,Bool.false_eq_true,if_false];rw[e];simp only[auY,auZ];omega
  ·have:=h1 n hm;rw[awh (by omega)];simp only[Bool.not_false,if_true,auY,auZ];have:=ih h2 hm;omega
end
section
variable {l:Nm}
abbrev eX (l:Nm):Prop:=l.Pairwise fun a b=>bytesBefore a.1 b.1=true
theorem De {x p:List UInt8×Int}:p∈jL bytesBefore x l↔p=x\/p∈l:=by
 induction l with
 |nil=>simp[jL]
 |cons y r ih=>
  unfold jL;split
  ·simp
  ·simp[ih];constructor
   ·rintro(h|h|h)<;>simp[h]
   ·rintro(h|h|h)<;>simp[h]
theorem kQ {s:List UInt8}{p:List UInt8×Int}:p∈gc s l↔p∈l/\p.1≠s:=by simp[gc]
theorem Pp {s:List UInt8}{k:Int}{p:List UInt8×Int}:p∈ei bytesBefore s k l↔p=(s,k)\/(p∈l/\p.1≠s):=by
 unfold ei;rw[De,kQ]
theorem Df {x:List UInt8×Int}(hs:eX l)(hx:∀ p∈l,p.1≠x.1):eX (jL bytesBefore x l):=by
 induction l with
 |nil=>simp[jL]
 |cons y r ih=>
  obtain⟨h1,h2⟩:=av5.1 hs;unfold jL;split
  ·rename_i h
   refine av5.2 ⟨fun m hm=>?_,hs⟩;rcases avn.1 hm with rfl|hm
   ·exact h
   ·exact WideShapes.bytes_trans _ _ _ h (h1 m hm)
  ·rename_i h
   have hy:=hx y (by simp);refine av5.2 ⟨fun m hm=>?_,ih h2 fun m hm=>hx m (by simp[hm])⟩;rcases De.1 hm with rfl|hm
   ·rcases WideAt.bytes_total _ _ hy with h'|h'
    ·exact h'
    ·exact absurd h' h
   ·exact h1 m hm
theorem oS {s:List UInt8}(hs:eX l):eX (gc s l):=hs.filter _
theorem Dg {s:List UInt8}{k:Int}(hs:eX l):eX (ei bytesBefore s k l):=
 Df (oS hs) fun _ hp=>(kQ.1 hp).2
theorem vW (hs:eX l){a b:List UInt8×Int}(ha:a∈l)(hb:b∈l)(h:a.1=b.1):a=b:=by
 induction l with
 |nil=>cases ha
 |cons y r ih=>
  obtain⟨h1,h2⟩:=av5.1 hs;have irr:∀ m∈r,y.1≠m.1:=fun m hm e=>by
   have:=h1 m hm;rw[e,WideAt.bytes_irrefl]at this;cases this
  rcases avn.1 ha with e1|ha1<;>rcases avn.1 hb with e2|hb1
  ·rw[e1,e2]
  ·exact absurd (e1▸h) (irr b hb1)
  ·exact absurd (e2▸h.symm) (irr a ha1)
  ·exact ih h2 ha1 hb1
theorem cy (hs:eX l){s:List UInt8}{k:Int}:bF s l=some k↔(s,k)∈l:=by
 unfold bF
 constructor
 ·intro h;obtain⟨p,hp,rfl⟩:=awc.1 h;have h1:=avX hp;have h2:=avY hp;rw[<-avF.1 h1];exact h2
 ·intro h
  cases hf:l.find? fun p=>p.1==s with
  |none=>exact absurd (av0.1 hf _ h) (by simp)
  |some p=>
   have h1:=avX hf;have h2:=avY hf;have:=vW hs h2 h (avF.1 h1);subst this;rfl
theorem mt {s:List UInt8}:bF s l=none↔∀ p∈l,p.1≠s:=by
 unfold bF;rw[Option.map_eq_none_iff,av0];simp
theorem zF {s:List UInt8}(h:bF s l=none):gc s l=l:=by
 rw[mt]at h;exact List.filter_eq_self.2 fun p hp=>by rw[awh (h p hp)];rfl
theorem Pq {s:List UInt8}{k:Int}:(ei bytesBefore s k l).length=(gc s l).length+1:=CQ _ _
theorem Lk {x:List UInt8×Int}(j:Int):gt (jL bytesBefore x l) j=gt l j+(if x.2=j then 1 else 0):=by
 unfold gt
 induction l with
 |nil=>simp[jL,List.countP_cons]
 |cons y r ih=>
  unfold jL;split
  ·rw[List.countP_cons];simp
  ·rw[List.countP_cons,List.countP_cons,ih];omega
theorem Pr {s:List UInt8}{k:Int}(h:bF s l=none)(j:Int):gt (ei bytesBefore s k l) j=gt l j+(if k=j then 1 else 0):=by
 unfold ei;rw[zF h,Lk]
theorem Dh (hs:eX l){s:List UInt8}{k:Int}(h:bF s l=some k)(j:Int):gt (gc s l) j+(if k=j then 1 else 0)=gt l j:=by
 have hm:=(cy hs).1 h;unfold gt gc;clear h
 induction l with
 |nil=>cases hm
 |cons y r ih=>
  obtain⟨h1,h2⟩:=av5.1 hs;rw[awd,List.countP_cons];rcases avn.1 hm with rfl|hm
  ·have e:r.filter (fun p=>!(p.1==s))=r:=List.filter_eq_self.2 fun p hp=>by
    have:=h1 p hp;rw[awh (fun e=>by rw[e,WideAt.bytes_irrefl]at this;cases this)];rfl
   simp only[beq_self_eq_true,Bool.not_true,Bool.false_eq_true,if_false];rw[e];simp
  ·have h3:=h1 _ hm;rw[awh (fun e=>by rw[e,WideAt.bytes_irrefl]at h3;cases h3)];simp only[Bool.not_false,if_true];rw[List.countP_cons];have:=ih h2 hm;omega
end
structure mY (T:Tr)(d:Int->Nat)(off:Int->Int):Prop where
 sorted:de T
 nums:∀ n∈T,1<=n.num/\n.num<=65535
 root:∃ r∈T,r.num=1/\r.dir=true/\r.links=1
 many:T.length<=60
 file:∀ n∈T,n.dir=false->n.names=[]/\n.data.length<=16384
 dirs:∀ n∈T,n.dir=true->n.data=[]
 snames:∀ n∈T,eX n.names
 names:∀ n∈T,n.names.length<=60/\∀ p∈n.names,aK p.1=true
 closed:∀ n∈T,∀ p∈n.names,p.2≠1/\∃ m∈T,m.num=p.2
 count:∀ n∈T,n.num≠1->(j6 T n.num:Int)+off n.num=n.links/\1<=n.links/\(n.dir=true->n.links=1)
 droot:d 1=0
 deep:∀ n∈T,n.names≠[]->d n.num<=7
 depth:∀ n∈T,∀ p∈n.names,∀ m∈T,m.num=p.2->m.dir=true->d p.2=d n.num+1
abbrev WF (T:Tr)(d:Int->Nat):Prop:=mY T d (fun _=>0)
section
variable {T:Tr}{d:Int->Nat}{off:Int->Int}
theorem GA:WF Tr.new (fun _=>0) where
 sorted:=by simp[Tr.new]
 nums:=by simp[Tr.new]
 root:=⟨_,by simp[Tr.new];rfl,rfl,rfl,rfl⟩
 many:=by simp[Tr.new]
 file:=by simp[Tr.new]
 dirs:=by simp[Tr.new]
 snames:=by simp[Tr.new]
 names:=by simp[Tr.new]
 closed:=by simp[Tr.new]
 count:=by simp[Tr.new]
 droot:=rfl
 deep:=by simp
 depth:=by simp[Tr.new]
theorem mY.get1 (h:mY T d off):∃ r,T.get 1=some r/\r.dir=true:=by
 obtain⟨r,hr,h1,h2,_⟩:=h.root;exact⟨r,(aw h.sorted).2 ⟨hr,h1⟩,h2⟩
theorem uS (h:mY T d off):∀(l:List (List UInt8)) (j k:Int),(∃ n∈T,n.num=j)->aX T j l=.ok k->(∃ n∈T,n.num=k)/\(∀ n,T.get j=some n->n.dir=true->∀ m,T.get k=some m->m.dir=true->d k=d j+l.length):=by
 intro l
 induction l with
 |nil=>
  intro j k hj hf;have e:j=k:=by simpa[aX]using hf
  subst e;exact⟨hj,fun _ _ _ _ _ _=>by simp⟩
 |cons s r ih=>
  intro j k hj hf;unfold aX at hf;split at hf
  ·cases hf
  ·rename_i n hn
   split at hf
   ·rename_i hd
    split at hf
    ·cases hf
    ·rename_i i hi
     obtain⟨hm,hk⟩:=(aw h.sorted).1 hn;have hp:=(cy (h.snames n hm)).1 hi;obtain⟨dV,m,hmT,KD⟩:=h.closed n hm _ hp;obtain⟨h1,h2⟩:=ih i k ⟨m,hmT,KD⟩ hf;refine⟨h1,fun n' Xt hd' x hx nh=>?_⟩;have hgm:=(aw h.sorted).2 ⟨hmT,KD⟩;by_cases oo:m.dir=true
     ·have:=h2 m hgm oo x hx nh;have e:=h.depth n hm _ hp m hmT KD oo;rw[<-hk];simp only[au0];simp only at e;omega
     ·
      cases r with
      |nil=>
       have e:i=k:=by simpa[aX]using hf
       subst e;rw[hgm]at hx;obtain rfl:=av6 hx;exact absurd nh oo
      |cons s2 r2=>
       unfold aX at hf;rw[hgm]at hf;simp[oo]at hf
   ·cases hf
theorem kp (k:Int)(s:List UInt8)(r:List (List UInt8)):aX T k (s::r)=match T.get k with
  |none=>.error 141
  |some n=>if n.dir=true then(match jN s n.names with|none=>.error 141|some j=>aX T j r)else .error 143:=rfl
theorem tZ (p q:List (List UInt8)):∀ j,aX T j (p++q)=match aX T j p with | .ok y=>aX T y q | .error e=>.error e:=by
 induction p with
 |nil=>intro j;rfl
 |cons s r ih=>
  intro j;rw[avG,kp,kp]
  cases T.get j with
  |none=>rfl
  |some n=>
   by_cases hd:n.dir=true
   ·simp only[hd,if_true]
    cases hn:jN s n.names with
    |none=>rfl
    |some i=>exact ih i
   ·simp only[hd];rfl
theorem gX {j x:Int}{p:List (List UInt8)}{s:List UInt8}:aX T j (p++[s])=.ok x↔∃ y n,aX T j p=.ok y/\T.get y=some n/\n.dir=true/\jN s n.names=some x:=by
 rw[tZ]
 cases hp:aX T j p with
 |error e=>simp
 |ok y=>
  simp only[aX]
  cases hg:T.get y with
  |none=>simp[hg]
  |some n=>
   by_cases hd:n.dir=true
   ·simp only[hd,if_true]
    cases hn:jN s n.names with
    |none=>simp[hg,hn]
    |some i=>simp[hg,hn,hd]
   ·simp only[hd];simp[hg,hd]
theorem Di (h:mY T d off){k:Int}(hk:∀ m∈T,m.num≠k){n:Nd}(hn:n∈T){p:List UInt8×Int}(hp:p∈n.names):p.2≠k:=by
 obtain⟨_,m,hm,e⟩:=h.closed n hn p hp;exact fun e2=>hk m hm (e.trans e2)
theorem Ps {j:Int}(h:∀ n∈T,∀ p∈n.names,p.2≠j):j6 T j=0:=by
 unfold j6;rw[List.sum_eq_zero_iff_forall_eq_nat];intro x hx;obtain⟨n,hn,rfl⟩:=avx.1 hx;unfold gt;rw[List.countP_eq_zero];intro p hp e;exact h n hn p hp (avF.1 e)
theorem AZ {j:Int}{n:Nd}(hn:n∈T){p:List UInt8×Int}(hp:p∈n.names)(e:p.2=j):1<=j6 T j:=by
 rcases Nat.eq_zero_or_pos (j6 T j)with h|h
 ·unfold j6 at h;rw[List.sum_eq_zero_iff_forall_eq_nat]at h;have:=h _ (avx.2 ⟨n,hn,rfl⟩);unfold gt at this;rw[List.countP_eq_zero]at this;exact absurd (avF.2 e) (this p hp)
 ·exact h
theorem Dj (h:mY T d off){k:Int}{up:Nd}{f:Nm->Nm}{Cf:Int->Int}(hk:T.get k=some up)(hd:up.dir=true)(Hs:eX (f up.names))(Hl:(f up.names).length<=60)
  (Hp:∀ p∈f up.names,p∈up.names\/(aK p.1=true/\p.2≠1/\∃ nj,T.get p.2=some nj/\(nj.dir=true->d p.2=d k+1))) (H7:f up.names≠[]->d k<=7)
  (Hc:∀ x,(gt (f up.names) x:Int)+Cf x=gt up.names x+off x):mY (T.named k f) d Cf:=by
 obtain⟨ve,rt⟩:=(aw h.sorted).1 hk;have hf:∀ n:Nd,({ n with names:=f n.names }:Nd).num=n.num:=fun _=>rfl;have hex:∀ x,(∃ m∈T.named k f,m.num=x)↔∃ m∈T,m.num=x:=fun x=>by
  have e:=oR (T:=T) (k:=k) hf;have:x∈(T.named k f).map (·.num)↔x∈T.map (·.num):=by unfold Tr.named;rw[e]
  simpa using this
 have eU:∀ m∈T.named k f,∃ n∈T,n.num=m.num/\n.dir=m.dir/\n.links=m.links/\n.data=m.data/\((n.num≠k/\m.names=n.names)\/(n=up/\m.names=f up.names)):=by
  intro m hm;obtain⟨n,hn,rfl⟩:=uQ.1 hm;refine⟨n,hn,?_⟩;by_cases e:n.num=k
  ·rw[au8 (avF.2 e)];have e2:=lL h.sorted hn ve (by omega);exact⟨rfl,rfl,rfl,rfl,.inr ⟨e2,by rw[<-e2]⟩⟩
  ·rw[ava (by simpa using e)];exact⟨rfl,rfl,rfl,rfl,.inl ⟨e,rfl⟩⟩
 refine⟨i1 hf h.sorted,?_,?_,by unfold Tr.named;rw[JO];exact h.many,?_,?_,?_,?_,?_,?_,h.droot,?_,?_⟩
 ·intro m hm;obtain⟨n,hn,e,_⟩:=eU m hm;rw[<-e];exact h.nums n hn
 ·obtain⟨r,hr,h1,h2,h3⟩:=h.root;obtain⟨m,hm,e⟩:=(hex 1).2 ⟨r,hr,h1⟩;obtain⟨n,hn,e1,e2,e3,_⟩:=eU m hm;have e6:=lL h.sorted hn hr (by omega);exact⟨m,hm,e,by rw[<-e2,e6];exact h2,by rw[<-e3,e6];exact h3⟩
 ·intro m hm oo;obtain⟨n,hn,e1,e2,e3,e4,e5⟩:=eU m hm;rw[<-e2]at oo;rw[<-e4];have:=h.file n hn oo;rcases e5 with⟨_,e5⟩|⟨e6,_⟩
  ·rw[e5];exact this
  ·rw[e6,hd]at oo;cases oo
 ·intro m hm oo;obtain⟨n,hn,e1,e2,e3,e4,e5⟩:=eU m hm;rw[<-e4];exact h.dirs n hn (e2.trans oo)
 ·intro m hm;obtain⟨n,hn,e1,e2,e3,e4,⟨_,e5⟩|⟨_,e5⟩⟩:=eU m hm<;>rw[e5]
  ·exact h.snames n hn
  ·exact Hs
 ·intro m hm;obtain⟨n,hn,e1,e2,e3,e4,⟨_,e5⟩|⟨_,e5⟩⟩:=eU m hm<;>rw[e5]
  ·exact h.names n hn
  ·refine⟨Hl,fun p hp=>?_⟩;rcases Hp p hp with hp|hp
   ·exact(h.names up ve).2 p hp
   ·exact hp.1
 ·intro m hm p hp;rw[hex];obtain⟨n,hn,e1,e2,e3,e4,⟨_,e5⟩|⟨_,e5⟩⟩:=eU m hm<;>rw[e5]at hp
  ·exact h.closed n hn p hp
  ·rcases Hp p hp with hp|⟨_,h1,nj,Kj,_⟩
   ·exact h.closed up ve p hp
   ·obtain⟨a,b⟩:=(aw h.sorted).1 Kj;exact⟨h1,nj,a,b⟩
 ·intro m hm h1;obtain⟨n,hn,e1,e2,e3,e4,_⟩:=eU m hm;have:=h.count n hn (by rw[e1];exact h1);have hc:j6 (T.named k f) m.num+gt up.names m.num=j6 T m.num+gt (f up.names) m.num:=JP (f:=fun n=>{ n with names:=f n.names }) h.sorted ve rt m.num;have hp:=Hc m.num;rw[<-e2,<-e3];refine⟨?_,this.2⟩;have t1:=this.1;rw[e1]at t1;omega
 ·intro m hm dV;obtain⟨n,hn,e1,e2,e3,e4,⟨_,e5⟩|⟨e6,e5⟩⟩:=eU m hm
  ·rw[e5]at dV;rw[<-e1];exact h.deep n hn dV
  ·rw[<-e1,e6,rt];rw[e5]at dV;exact H7 dV
 ·intro m hm p hp x hx Oq nh;obtain⟨nx,pA,f1,f2,_⟩:=eU x hx;obtain⟨n,hn,e1,e2,e3,e4,e5⟩:=eU m hm;rw[<-e1];rcases e5 with⟨_,e5⟩|⟨e6,e5⟩
  ·rw[e5]at hp;exact h.depth n hn p hp nx pA (f1.trans Oq) (f2.trans nh)
  ·rw[e5]at hp;rcases Hp p hp with hp|⟨_,_,nj,Kj,hdj⟩
   ·rw[e6];exact h.depth up ve p hp nx pA (f1.trans Oq) (f2.trans nh)
   ·have e7:nx=nj:=av6 (((aw h.sorted).2 ⟨pA,f1.trans Oq⟩).symm.trans Kj);rw[e6,rt];exact hdj (by rw[<-e7];exact f2.trans nh)
theorem GB (h:mY T d off){k j:Int}{s:List UInt8}{up:Nd}(hk:T.get k=some up)(hd:up.dir=true)(hs:jN s up.names=none)(hl:up.names.length<60)(bQ:aK s=true)
  (hj:j≠1) {nj:Nd} (Kj:T.get j=some nj) (h7:d k<=7) (hdj:nj.dir=true->d j=d k+1):mY (T.named k (l7 s j)) d (fun x=>off x-if j=x then 1 else 0):=by
 obtain⟨ve,rt⟩:=(aw h.sorted).1 hk;refine Dj h hk hd (Dg (h.snames up ve)) (by rw[Pq,zF hs];omega) (fun p hp=>?_) (fun _=>h7) (fun x=>?_)
 ·rcases Pp.1 hp with rfl|⟨hp,_⟩
  ·exact .inr ⟨bQ,hj,nj,Kj,hdj⟩
  ·exact .inl hp
 ·have h1:gt (l7 s j up.names) x=gt up.names x+(if j=x then 1 else 0):=Pr hs x;by_cases h2:j=x
  ·rw[au8 h2]at h1;simp only[au8 h2];omega
  ·rw[ava h2]at h1;simp only[ava h2];omega
theorem Pt (h:mY T d off){k j:Int}{s:List UInt8}{up:Nd}(hk:T.get k=some up)(hs:jN s up.names=some j):mY (T.named k (fO s)) d (fun x=>off x+if j=x then 1 else 0):=by
 obtain⟨ve,rt⟩:=(aw h.sorted).1 hk;have tL:=(cy (h.snames up ve)).1 hs;have dV:up.names≠[]:=List.ne_nil_of_mem tL;have hd:up.dir=true:=by
  cases hd:up.dir with
  |true=>rfl
  |false=>exact absurd (h.file up ve hd).1 dV
 refine Dj h hk hd (oS (h.snames up ve)) (auX (rG _ _) (h.names up ve).1) (fun p hp=>.inl (kQ.1 hp).1) (fun _=>by rw[<-rt];exact h.deep up ve dV) (fun x=>?_);have h1:gt (fO s up.names) x+(if j=x then 1 else 0)=gt up.names x:=Dh (h.snames up ve) hs x;by_cases h2:j=x
 ·rw[au8 h2]at h1;simp only[au8 h2];omega
 ·rw[ava h2]at h1;simp only[ava h2];omega
theorem GC (h:mY T d off){k:Int}{n0:Nd}{f:Nd->Nd}{Cf:Int->Int}(hk:T.get k=some n0)(hf:∀ n,(f n).num=n.num/\(f n).dir=n.dir/\(f n).names=n.names)
  (afm:n0.dir=false->(f n0).data.length<=16384) (aiJ:n0.dir=true->(f n0).data=[]) (og:k=1->(f n0).links=n0.links)
  (Hc:k≠1->(f n0).links=n0.links+Cf k-off k/\1<=(f n0).links/\(n0.dir=true->(f n0).links=1)) (Ho:∀ n∈T,n.num≠k->Cf n.num=off n.num):mY (T.upd k f) d Cf:=by
 obtain⟨ve,rt⟩:=(aw h.sorted).1 hk;have RL:∀ n,(f n).num=n.num:=fun n=>(hf n).1;have hex:∀ x,(∃ m∈T.upd k f,m.num=x)↔∃ m∈T,m.num=x:=fun x=>by
  have e:=oR (T:=T) (k:=k) RL;have:x∈(T.upd k f).map (·.num)↔x∈T.map (·.num):=by rw[e]
  simpa using this
 have eU:∀ m∈T.upd k f,∃ n∈T,n.num=m.num/\n.dir=m.dir/\n.names=m.names/\((n.num≠k/\m.links=n.links/\m.data=n.data)\/(n=n0/\m.links=(f n0).links/\m.data=(f n0).data)):=by
  intro m hm;obtain⟨n,hn,rfl⟩:=uQ.1 hm;refine⟨n,hn,?_⟩;by_cases e:n.num=k
  ·rw[au8 (avF.2 e)];have e2:=lL h.sorted hn ve (by omega);exact⟨(hf n).1.symm,(hf n).2.1.symm,(hf n).2.2.symm,.inr ⟨e2,by rw[e2],by rw[e2]⟩⟩
  ·rw[ava (by simpa using e)];exact⟨rfl,rfl,rfl,.inl ⟨e,rfl,rfl⟩⟩
 have Sz:∀ x,j6 (T.upd k f) x=j6 T x:=fun x=>by
  have:=JP (f:=f) h.sorted ve rt x;rw[(hf n0).2.2]at this;omega
 refine⟨i1 RL h.sorted,?_,?_,by rw[JO];exact h.many,?_,?_,?_,?_,?_,?_,h.droot,?_,?_⟩
 ·intro m hm;obtain⟨n,hn,e,_⟩:=eU m hm;rw[<-e];exact h.nums n hn
 ·obtain⟨r,hr,h1,h2,h3⟩:=h.root;obtain⟨m,hm,e⟩:=(hex 1).2 ⟨r,hr,h1⟩;obtain⟨n,hn,e1,e2,e3,e4⟩:=eU m hm;have e6:=lL h.sorted hn hr (by omega);refine⟨m,hm,e,by rw[<-e2,e6];exact h2,?_⟩;rcases e4 with⟨_,e4,_⟩|⟨e5,e4,_⟩
  ·rw[e4,e6];exact h3
  ·rw[e4,og (by rw[<-rt,<-e5];omega),<-e5,e6];exact h3
 ·intro m hm oo;obtain⟨n,hn,e1,e2,e3,e4⟩:=eU m hm;rw[<-e2]at oo;rw[<-e3];have:=h.file n hn oo;refine⟨this.1,?_⟩;rcases e4 with⟨_,_,e4⟩|⟨e5,_,e4⟩<;>rw[e4]
  ·exact this.2
  ·exact afm (by rw[<-e5];exact oo)
 ·intro m hm oo;obtain⟨n,hn,e1,e2,e3,e4⟩:=eU m hm;rw[<-e2]at oo;rcases e4 with⟨_,_,e4⟩|⟨e5,_,e4⟩<;>rw[e4]
  ·exact h.dirs n hn oo
  ·exact aiJ (by rw[<-e5];exact oo)
 ·intro m hm;obtain⟨n,hn,e1,e2,e3,e4⟩:=eU m hm;rw[<-e3];exact h.snames n hn
 ·intro m hm;obtain⟨n,hn,e1,e2,e3,e4⟩:=eU m hm;rw[<-e3];exact h.names n hn
 ·intro m hm p hp;rw[hex];obtain⟨n,hn,e1,e2,e3,e4⟩:=eU m hm;rw[<-e3]at hp;exact h.closed n hn p hp
 ·intro m hm h1;obtain⟨n,hn,e1,e2,e3,e4⟩:=eU m hm;have h2:=h.count n hn (by rw[e1];exact h1);rw[Sz,<-e1,<-e2];rcases e4 with⟨e5,e4,_⟩|⟨e5,e4,_⟩<;>rw[e4]
  ·rw[Ho n hn e5];exact h2
  ·have hnk:n.num=k:=by rw[e5];exact rt
   have h3:=Hc (by rw[<-hnk,e1];exact h1);rw[e5]at h2 ⊢;rw[rt]at h2 ⊢;refine⟨?_,h3.2⟩;omega
 ·intro m hm dV;obtain⟨n,hn,e1,e2,e3,e4⟩:=eU m hm;rw[<-e3]at dV;rw[<-e1];exact h.deep n hn dV
 ·intro m hm p hp x hx Oq nh;obtain⟨nx,pA,f1,f2,_⟩:=eU x hx;obtain⟨n,hn,e1,e2,e3,e4⟩:=eU m hm;rw[<-e1];rw[<-e3]at hp;exact h.depth n hn p hp nx pA (f1.trans Oq) (f2.trans nh)
theorem YT (h:mY T d off){n0:Nd}(hn:∀ m∈T,m.num≠n0.num)(h1:1<n0.num)(h2:n0.num<=65535)(hl:n0.links=1)(mn:n0.names=[])(hdt:n0.data=[])(hT:T.length<60)(v:Nat):
  mY (Tr.add n0 T) (fun x=>if x=n0.num then v else d x) (fun x=>if x=n0.num then 1 else off x):=by
 have dV:∀ n∈T,∀ p∈n.names,p.2≠n0.num:=fun n hnT p hp=>Di h hn hnT hp;refine⟨kP h.sorted hn,?_,?_,by rw[Ul];omega,?_,?_,?_,?_,?_,?_,?_,?_,?_⟩
 ·intro m hm;rcases dh.1 hm with rfl|hm
  ·exact⟨by omega,h2⟩
  ·exact h.nums m hm
 ·obtain⟨r,hr,h⟩:=h.root;exact⟨r,dh.2 (.inr hr),h⟩
 ·intro m hm oo;rcases dh.1 hm with rfl|hm
  ·exact⟨mn,by rw[hdt];simp⟩
  ·exact h.file m hm oo
 ·intro m hm oo;rcases dh.1 hm with rfl|hm
  ·exact hdt
  ·exact h.dirs m hm oo
 ·intro m hm;rcases dh.1 hm with rfl|hm
  ·rw[mn];exact List.Pairwise.nil
  ·exact h.snames m hm
 ·intro m hm;rcases dh.1 hm with rfl|hm
  ·rw[mn];simp
  ·exact h.names m hm
 ·intro m hm p hp;rcases dh.1 hm with rfl|hm
  ·rw[mn]at hp;cases hp
  ·obtain⟨a,x,hx,e⟩:=h.closed m hm p hp;exact⟨a,x,dh.2 (.inr hx),e⟩
 ·intro m hm ik;rw[Um,mn];rcases dh.1 hm with rfl|hm
  ·rw[au8 rfl,Ps dV];exact⟨by rw[hl];rfl,by omega,fun _=>hl⟩
  ·rw[ava (hn m hm)];have:=h.count m hm ik;exact⟨by simp only[gt,List.countP_nil];omega,this.2⟩
 ·rw[ava (by omega)];exact h.droot
 ·intro m hm KD;rcases dh.1 hm with rfl|hm
  ·exact absurd mn KD
  ·rw[ava (hn m hm)];exact h.deep m hm KD
 ·intro m hm p hp x hx Oq nh;rcases dh.1 hm with rfl|hm
  ·rw[mn]at hp;cases hp
  ·have e:=dV m hm p hp;rw[ava e,ava (hn m hm)];rcases dh.1 hx with rfl|hx
   ·exact absurd Oq.symm e
   ·exact h.depth m hm p hp x hx Oq nh
theorem Un (h:mY T d off){n0:Nd}(hn:n0∈T)(h1:n0.num≠1)(hc:j6 T n0.num=0)(mn:n0.names=[]):mY (T.drop n0.num) d off:=by
 have dV:∀ n∈T,∀ p∈n.names,p.2≠n0.num:=fun n hnT p hp e=>by
  have:=AZ hnT hp e;omega
 refine⟨Dd h.sorted,fun m hm=>h.nums m (cR.1 hm).1,?_,auX (avc _ _) h.many,fun m hm=>h.file m (cR.1 hm).1,fun m hm=>h.dirs m (cR.1 hm).1,fun m hm=>h.snames m (cR.1 hm).1,fun m hm=>h.names m (cR.1 hm).1,?_,?_,h.droot,fun m hm=>h.deep m (cR.1 hm).1,fun m hm p hp x hx=>h.depth m (cR.1 hm).1 p hp x (cR.1 hx).1⟩
 ·obtain⟨r,hr,e,h2⟩:=h.root;exact⟨r,cR.2 ⟨hr,by omega⟩,e,h2⟩
 ·intro m hm p hp;obtain⟨a,x,hx,e⟩:=h.closed m (cR.1 hm).1 p hp;exact⟨a,x,cR.2 ⟨hx,by rw[e];exact dV m (cR.1 hm).1 p hp⟩,e⟩
 ·intro m hm ik;have hcd:=vV h.sorted hn m.num;rw[mn]at hcd;have:=h.count m (cR.1 hm).1 ik;exact⟨by simp only[gt,List.countP_nil]at hcd;omega,this.2⟩
theorem Uo (h:mY T d off){d':Int->Nat}(h0:d' 1=0)(h1:∀ n∈T,n.names≠[]->d' n.num<=7)(h2:∀ n∈T,∀ p∈n.names,∀ m∈T,m.num=p.2->m.dir=true->d' p.2=d' n.num+1):mY T d' off:=
 { h with droot:=h0,deep:=h1,depth:=h2 }
theorem GD (h:mY T d off){Cf:Int->Int}(ho:∀ n∈T,n.num≠1->Cf n.num=off n.num):mY T d Cf:=
 { h with count:=fun n hn h1=>by rw[ho n hn h1];exact h.count n hn h1 }
end
end
section
open Go.RowKit
section
variable {T:Tr}{d:Int->Nat}{off:Int->Int}
theorem eR {k j:Int}{f:Nm->Nm}:(T.named k f).get j=if j=k then(T.get j).map (fun n=>{ n with names:=f n.names })else T.get j:=
 Uk (f:=fun n=>{ n with names:=f n.names }) fun _=>rfl
theorem fF {α:Type}(l:List α):l=[]\/∃ p s,l=p++[s]:=by
 rcases List.eq_nil_or_concat l with h|⟨p,s,h⟩
 ·exact .inl h
 ·exact .inr ⟨p,s,by rw[h,List.concat_eq_append]⟩
theorem JQ {α:Type}(z:α){l:List α}(h:l≠[]):l=l.dropLast++[l.getLastD z]:=by
 rcases fF l with h1|⟨p,s,rfl⟩
 ·exact absurd h1 h
 ·simp
theorem vX {s:List UInt8}{l:List (List UInt8)}(h:bd s=some l):l.length<=8/\∀ x∈l,aK x=true:=by
 obtain⟨r,_,⟨_,rfl⟩|⟨_,_,h1,h2⟩⟩:=iY h
 ·simp
 ·exact⟨h1,avk.1 h2⟩
theorem Ll {s:List UInt8}(h:bd s=some []):s=[47]:=by
 obtain⟨r,rfl,⟨rfl,_⟩|⟨_,h1,_⟩⟩:=iY h
 ·rfl
 ·exact absurd h1.symm (vE 47 r)
theorem A0 (l q:List (List UInt8))(hl:l≠[])(hq:q≠[]):[(47:UInt8)].intercalate (l++q)=[(47:UInt8)].intercalate l++47::[(47:UInt8)].intercalate q:=by
 induction l with
 |nil=>exact absurd rfl hl
 |cons x l ih=>
  cases l with
  |nil=>
   cases q with
   |nil=>exact absurd rfl hq
   |cons y q=>simp[List.intercalate]
  |cons y l=>
   have e:∀ m:List (List UInt8),[(47:UInt8)].intercalate (x::y::m)=x++47::[(47:UInt8)].intercalate (y::m):=fun m=>by simp[List.intercalate]
   rw[avG,avG,e,e,<-avG,ih (by simp)];simp
theorem Dl {a b:List UInt8}{l q:List (List UInt8)}(ha:bd a=some l)(hb:bd b=some (l++q))(hl:l≠[])(hq:q≠[]):Lib.hasPrefix b (a++[47])=true:=by
 obtain⟨r,rfl,⟨_,e⟩|⟨_,e1,_⟩⟩:=iY ha
 ·exact absurd e hl
 ·obtain⟨r2,rfl,⟨_,e⟩|⟨_,e2,_⟩⟩:=iY hb
  ·simp at e;exact absurd e.1 hl
  ·have j1:=vI 47 r;have j2:=vI 47 r2;rw[<-e1]at j1;rw[<-e2,A0 l q hl hq,j1]at j2;unfold Lib.hasPrefix;rw[List.isPrefixOf_iff_prefix];exact⟨[(47:UInt8)].intercalate q,by rw[<-j2];simp⟩
theorem zG (h:mY T d off){path:List UInt8}{k:Int}(ha:zE T path=.ok k):∃ l n,bd path=some l/\aX T 1 l=.ok k/\T.get k=some n:=by
 unfold zE at ha
 cases hp:bd path with
 |none=>rw[hp]at ha;cases ha
 |some l=>
  rw[hp]at ha;obtain⟨r,hr,h1,_⟩:=h.root;obtain⟨n,hn,hk⟩:=(uS h l 1 k ⟨r,hr,h1⟩ ha).1;exact⟨l,n,rfl,ha,(aw h.sorted).2 ⟨hn,hk⟩⟩
theorem pM (h:mY T d off){path s:List UInt8}{k:Int}(hr:gq T path=.ok (k,s)):∃ p up,bd path=some (p++[s])/\p.length<=7/\aK s=true/\aX T 1 p=.ok k/\T.get k=some up/\up.dir=true/\jN s up.names=none/\up.names.length<60/\d k=p.length:=by
 unfold gq at hr
 cases hp:bd path with
 |none=>rw[hp]at hr;simp at hr
 |some l=>
  rw[hp]at hr;simp only[avC]at hr;split at hr
  ·cases hr
  ·rename_i hl
   split at hr
   ·cases hr
   ·rename_i k' hf
    split at hr
    ·cases hr
    ·rename_i up hu
     split at hr
     ·cases hr
     ·rename_i hd
      split at hr
      ·cases hr
      ·rename_i hn
       split at hr
       ·cases hr
       ·rename_i sK
        simp only[Except.ok.injEq,Prod.mk.injEq]at hr;obtain⟨rfl,rfl⟩:=hr;have hs:=JQ [] hl;obtain⟨h8,bQ⟩:=vX hp;have bA:=awe List.length hs;simp only[avi,au0,awa]at bA;obtain⟨r,hr,h1,Fr,_⟩:=h.root;have aeY:up.dir=true:=by simpa using hd
        refine⟨l.dropLast,up,by rw[<-hs],by omega,bQ _ (by rw[hs];simp),hf,hu,aeY,by simpa using hn,by omega,?_⟩;have:=(uS h _ 1 k' ⟨r,hr,h1⟩ hf).2 r ((aw h.sorted).2 ⟨hr,h1⟩) Fr up hu aeY;rw[this,h.droot];omega
theorem Pu {f:Nat}{k j:Int}(hj:k<=j)(hj2:j<k+f)(hg:T.get j=none):T.get (dY T f k)=none/\k<=dY T f k/\dY T f k<=j:=by
 induction f generalizing k with
 |zero=>omega
 |succ f ih=>
  unfold dY;by_cases hk:(T.get k).isSome=true
  ·rw[au8 hk];have dV:j≠k:=fun e=>by rw[e]at hg;rw[hg]at hk;cases hk
   have:=ih (k:=k+1) (by omega) (by omega);exact⟨this.1,by omega,this.2.2⟩
  ·rw[ava hk];exact⟨by simpa using hk,Int.le_refl _,hj⟩
theorem vY {k:Int}{n:Nd}(hn:n∈T)(hk:n.num=k):T.countP (fun m=>decide (k+1<=m.num))+1<=T.countP (fun m=>decide (k<=m.num)):=by
 induction T with
 |nil=>cases hn
 |cons y r ih=>
  rw[List.countP_cons,List.countP_cons];rcases avn.1 hn with rfl|hm
  ·have:r.countP (fun m=>decide (k+1<=m.num))<=r.countP (fun m=>decide (k<=m.num)):=List.countP_mono_left fun m _ h=>by simp at h ⊢;omega
   rw[ava (by simp;omega),au8 (by simp;omega)];omega
  ·have:=ih hm;by_cases h1:k+1<=y.num
   ·rw[au8 (by simpa using h1),au8 (by simp;omega)];omega
   ·rw[ava (by simpa using h1)];split<;>omega
theorem GE {f:Nat}{k:Int}(h:∀ j,k<=j->j<k+f->∃ n∈T,n.num=j):f<=T.countP (fun m=>decide (k<=m.num)):=by
 induction f generalizing k with
 |zero=>omega
 |succ f ih=>
  obtain⟨n,hn,hk⟩:=h k (by omega) (by omega);have h1:=vY hn hk;have h2:=ih (k:=k+1) fun j h1 h2=>h j (by omega) (by omega);omega
theorem mY.fresh (h:mY T d off):T.get (dY T T.length 2)=none/\2<=dY T T.length 2/\dY T T.length 2<=T.length+1:=by
 have:∃ j,2<=j/\j<2+(T.length:Int)/\T.get j=none:=by
  apply avV;intro hc;have h1:=GE (T:=T) (k:=2) (f:=T.length) fun j h1 h2=>by
   cases hg:T.get j with
   |none=>exact absurd ⟨j,h1,h2,hg⟩ hc
   |some n=>exact⟨n,(aw h.sorted).1 hg⟩
  obtain⟨r,hr,KK,_⟩:=h.root;have h2:=vY hr KK;have h3:=List.countP_le_length (p:=fun m:Nd=>decide (1<=m.num)) (l:=T);have h4:T.countP (fun m=>decide ((1:Int)+1<=m.num))=T.countP (fun m=>decide (2<=m.num)):=rfl;omega
 obtain⟨j,h1,h2,h3⟩:=this;have:=Pu h1 h2 h3;exact⟨this.1,this.2.1,by omega⟩
theorem Pv (h:WF T d)(c:co):∃ d',WF (gd T c).1 d':=by
 unfold gd;split
 ·exact⟨d,h⟩
 ·rename_i k s hr
  obtain⟨p,up,hp,pB,bQ,hf,hg,hd,hn,sK,zg⟩:=pM h hr;split
  ·exact⟨d,h⟩
  ·rename_i hT
   obtain⟨f1,f2,f3⟩:=mY.fresh h;generalize dA:dY T T.length 2=num at*;have dV:=jy.1 f1;obtain⟨ve,rt⟩:=(aw h.sorted).1 hg;have aba:k≠num:=fun e=>dV up ve (by omega)
   let n0:Nd:=⟨num,c.kind==1,1,[],[]⟩
   have h1:=YT (n0:=n0) h dV (by show 1<num;omega) (by show num<=65535;have:=h.many;omega) rfl rfl rfl (by omega) (d k+1);have g1:(Tr.add n0 T).get k=some up:=by rw[uR h.sorted dV,ava aba];exact hg
   have g2:(Tr.add n0 T).get num=some n0:=by rw[uR h.sorted dV];exact au8 rfl
   have h2:=GB (j:=num) h1 g1 hd hn sK bQ (by omega) g2 (by show(if k=num then _ else d k)<=7;rw[ava aba];omega) (fun _=>by show(if num=num then _ else _)=(if k=num then _ else _)+1;rw[au8 rfl,ava aba]);refine⟨_,GD h2 fun n hn h1=>?_⟩;show(0:Int)=(if n.num=num then 1 else 0)-if num=n.num then 1 else 0;by_cases e:n.num=num
   ·rw[au8 e,au8 e.symm];omega
   ·rw[ava e,ava (fun e2=>e e2.symm)];omega
theorem Up {c:co}{b:List UInt8}(h0:0<=c.pos)(hb:b.length<=16384)(hp:c.pos<=b.length)(h2:c.kind=2->c.pos+c.data.length<=16384)(h3:c.kind≠2->c.data=[]):(ox c b).length<=16384:=by
 unfold ox;have h1:(b.take c.pos.toNat++c.data).length<=16384:=by
  rw[avi,au7];by_cases h:c.kind=2
  ·have:=h2 h;omega
  ·rw[h3 h];simp;omega
 simp only;split
 ·rename_i h
  rw[avi,List.length_drop];omega
 ·exact h1
theorem Lm (h:WF T d)(c:co)(h0:0<=c.pos)(h3:c.kind≠2->c.data=[]):WF (dN T c).1 d:=by
 unfold dN;split
 ·exact h
 ·rename_i k ha
  split
  ·exact h
  ·rename_i n hg
   split
   ·exact h
   ·rename_i hd
    split
    ·exact h
    ·rename_i hb
     have hdf:n.dir=false:=by simpa using hd
     obtain⟨hm,hk⟩:=(aw h.sorted).1 hg;refine GC h hg (fun _=>⟨rfl,rfl,rfl⟩) (fun _=>?_) (fun e=>absurd e hd) (fun _=>rfl) (fun h1=>?_) (fun _ _ _=>rfl)
     ·exact Up h0 (h.file n hm hdf).2 (by omega) (fun h2=>by
       apply Decidable.byContradiction;intro h4;exact hb (.inr ⟨h2,by omega⟩)) h3
     ·have:=h.count n hm (by omega);exact⟨by show n.links=n.links+0-0;omega,this.2⟩
theorem Pw (h:WF T d)(c:co):WF (iZ T c).1 d:=by
 unfold iZ;split
 ·exact h
 ·rename_i j ha
  split
  ·exact h
  ·rename_i n hg
   split
   ·exact h
   ·rename_i hd
    split
    ·exact h
    ·rename_i k s hr
     obtain⟨p,up,hp,pB,bQ,hf,KG,zg,hn,sK,WB⟩:=pM h hr;obtain⟨hm,hj⟩:=(aw h.sorted).1 hg;obtain⟨r,KK,ol⟩:=mY.get1 h;have TY:j≠1:=fun e=>by rw[e,KK]at hg;obtain rfl:=av6 hg;exact hd ol
     have yb:j≠k:=fun e=>by rw[e,KG]at hg;obtain rfl:=av6 hg;exact hd zg
     have h1:=GB (j:=j) h KG zg hn sK bQ TY hg (by omega) (fun e=>absurd e hd);have g1:(T.named k (l7 s j)).get j=some n:=by rw[eR,ava yb];exact hg
     have hc:=h.count n hm (by omega);refine GC h1 g1 (fun _=>⟨rfl,rfl,rfl⟩) (fun _=>(h.file n hm (by simpa using hd)).2) (fun e=>absurd e hd) (fun e=>absurd e TY) (fun _=>?_) (fun m _ hmj=>?_)
     ·refine⟨by show n.links+1=n.links+0-(0-if j=j then 1 else 0);rw[au8 rfl];omega,by show 1<=n.links+1;omega,fun e=>absurd e hd⟩
     ·show(0:Int)=0-if j=m.num then 1 else 0;rw[ava (fun e=>hmj e.symm)];omega
theorem uT (h:mY T d off){path:List UInt8}{j:Int}(ha:zE T path=.ok j)(dV:path≠[47]):∃ p s o up,bd path=some (p++[s])/\aX T 1 (p++[s])=.ok j/\aX T 1 p=.ok o/\T.get o=some up/\up.dir=true/\jN s up.names=some j:=by
 obtain⟨l,n,hp,hf,hg⟩:=zG h ha;have hl:l≠[]:=fun e=>by rw[e]at hp;exact dV (Ll hp)
 have hs:=JQ [] hl;rw[hs]at hf hp;obtain⟨o,up,h1,h2,h3,h4⟩:=gX.1 hf;exact⟨_,_,o,up,hp,hf,h1,h2,h3,h4⟩
theorem GF (h:WF T d)(c:co):WF (dH T c).1 d:=by
 unfold dH;split
 ·exact h
 ·rename_i dV
  split
  ·exact h
  ·rename_i j ha
   split
   ·exact h
   ·rename_i n hg
    split
    ·exact h
    ·rename_i mn
     have mn:n.names=[]:=by simpa using mn
     obtain⟨p,s,o,up,hp,hf,Oz,Ft,vg,hs⟩:=uT h ha dV;simp only[hp,avC,List.dropLast_concat,List.getLastD_concat,Oz];obtain⟨hm,hj⟩:=(aw h.sorted).1 hg;obtain⟨VK,Jj⟩:=(aw h.sorted).1 Ft;have tL:=(cy (h.snames up VK)).1 hs;have TY:=(h.closed up VK _ tL).1;have hjo:j≠o:=fun e=>by
      rw[e,Ft]at hg;obtain rfl:=av6 hg;rw[mn]at tL;cases tL
     have h1:=Pt h Ft hs;have g1:(T.named o (fO s)).get j=some n:=by rw[eR,ava hjo];exact hg
     obtain⟨ik,_⟩:=(aw h1.sorted).1 g1;have hc:=h1.count n ik (by rw[hj];exact TY);split
     ·rename_i yB
      have h2:=Un h1 ik (by rw[hj];exact TY) (by
       have:=hc.1;rw[au8 hj.symm]at this;omega) mn
      rw[hj]at h2;refine GD h2 fun m df _=>?_;show(0:Int)=0+if j=m.num then 1 else 0;rw[ava (fun e=>(cR.1 df).2 e.symm)];omega
     ·rename_i yB
      have hd:¬ n.dir=true:=fun e=>yB (hc.2.2 e);refine GC h1 g1 (fun _=>⟨rfl,rfl,rfl⟩) (fun _=>(h.file n hm (by simpa using hd)).2) (fun e=>absurd e hd) (fun e=>absurd e TY) (fun _=>?_) (fun m _ hmj=>?_)
      ·refine⟨by show n.links-1=n.links+0-(0+if j=j then 1 else 0);rw[au8 rfl];omega,by show 1<=n.links-1;omega,fun e=>absurd e hd⟩
      ·show(0:Int)=0+if j=m.num then 1 else 0;rw[ava (fun e=>hmj e.symm)];omega
theorem zH {T1:Tr}(hm:∀ k n1,T1.get k=some n1->∃ n,T.get k=some n/\(n1.dir=true->n.dir=true)/\∀ s i,jN s n1.names=some i->jN s n.names=some i):∀(p:List (List UInt8)) (j k:Int),aX T1 j p=.ok k->aX T j p=.ok k:=by
 intro p
 induction p with
 |nil=>intro j k h;exact h
 |cons s r ih=>
  intro j k h;unfold aX at h ⊢
  cases hg:T1.get j with
  |none=>rw[hg]at h;cases h
  |some n1=>
   rw[hg]at h;obtain⟨n,hn,hd,hs⟩:=hm j n1 hg;rw[hn];simp only at h ⊢;split at h
   ·rename_i h1
    rw[au8 (hd h1)]
    cases hi:jN s n1.names with
    |none=>rw[hi]at h;cases h
    |some i=>
     rw[hi]at h;rw[hs s i hi];exact ih i k h
   ·cases h
theorem vZ (h:mY T d off){k:Int}(hc:j6 T k<=1){y y':Nd}(hy:y∈T)(hy':y'∈T){p p':List UInt8×Int}(hp:p∈y.names)(Cr:p'∈y'.names)(e:p.2=k)(e':p'.2=k):y=y'/\p=p':=by
 have pos:∀ {l:Nm} {q:List UInt8×Int},q∈l->q.2=k->1<=gt l k:=fun {l q} hq eq=>by
  unfold gt;exact List.countP_pos_iff.2 ⟨q,hq,avF.2 eq⟩
 have hyy:y=y':=by
  apply avV;intro dV;have h1:=vV h.sorted hy k;have hm:y'∈T.drop y.num:=cR.2 ⟨hy',fun e=>dV (lL h.sorted hy hy' e.symm)⟩;have h2:=AZ hm Cr e';have h3:=pos hp e;omega
 subst hyy;refine⟨rfl,?_⟩;apply avV;intro dV;have hs:=h.snames y hy;have h1:=Dh hs ((cy hs).2 hp:bF p.1 y.names=some p.2) k;rw[au8 e]at h1;have h2:p'∈gc p.1 y.names:=kQ.2 ⟨Cr,fun e2=>dV (vW hs hp Cr e2.symm)⟩;have h3:=pos h2 e';have h4:gt y.names k<=j6 T k:=by have:=vV h.sorted hy k;omega
 omega
theorem YU (h:WF T d){k:Int}{n:Nd}(hg:T.get k=some n)(hd:n.dir=true)(h1:k≠1):j6 T k<=1:=by
 obtain⟨hm,hk⟩:=(aw h.sorted).1 hg;have:=h.count n hm (by omega);rw[hk]at this;have:=this.2.2 hd;omega
theorem GG (h:WF T d):∀(m:Nat) (p q:List (List UInt8)) (k:Int) (n:Nd),p.length=m->aX T 1 p=.ok k->aX T 1 q=.ok k->T.get k=some n->n.dir=true->p=q:=by
 intro m
 induction m with
 |zero=>
  intro p q k n hm hp hq hg hd;obtain rfl:=avz.1 hm;have e:1=k:=by simpa[aX]using hp
  subst e;rcases fF q with rfl|⟨q',s,rfl⟩
  ·rfl
  ·obtain⟨y,ny,_,hy,_,hs⟩:=gX.1 hq;obtain⟨OH,_⟩:=(aw h.sorted).1 hy;exact absurd rfl (h.closed ny OH _ ((cy (h.snames ny OH)).1 hs)).1
 |succ m ih=>
  intro p q k n hm hp hq hg hd;rcases fF p with rfl|⟨p',s,rfl⟩
  ·simp at hm
  ·obtain⟨y,ny,hpy,hy,hyd,hs⟩:=gX.1 hp;obtain⟨OH,hyn⟩:=(aw h.sorted).1 hy;have tL:=(cy (h.snames ny OH)).1 hs;have hk1:=(h.closed ny OH _ tL).1;rcases fF q with rfl|⟨q',s',rfl⟩
   ·have e:1=k:=by simpa[aX]using hq
    exact absurd e.symm hk1
   ·obtain⟨z,nz,hpz,hz,hzd,hs'⟩:=gX.1 hq;obtain⟨hzm,hzn⟩:=(aw h.sorted).1 hz;have aj2:=(cy (h.snames nz hzm)).1 hs';obtain⟨e1,e2⟩:=vZ h (YU h hg hd hk1) OH hzm tL aj2 rfl rfl;subst e1;have e3:s=s':=awe Prod.fst e2;have e4:y=z:=by omega
    subst e3 e4;rw[ih p' q' y ny (by simpa using hm) hpy hpz hy hyd]
theorem Uq {α:Type}(g:α->Nat):∀(l:List α) (m:Nat),m<=l.foldl (fun m p=>max m (g p)) m/\∀ p∈l,g p<=l.foldl (fun m p=>max m (g p)) m:=by
 intro l
 induction l with
 |nil=>intro m;simp
 |cons x r ih=>
  intro m;have h:=ih (max m (g x));simp only[List.foldl_cons];refine⟨by omega,fun p hp=>?_⟩;rcases avn.1 hp with rfl|hp
  ·omega
  ·exact h.2 p hp
theorem Ur (h:mY T d off):∀(p:List (List UInt8)) (f:Nat) (j y:Int),aX T j p=.ok y->p.length<=f->p.length<=fE T f j:=by
 intro p
 induction p with
 |nil=>intro f j y _ _;simp
 |cons s r ih=>
  intro f j y hf hl
  cases f with
  |zero=>simp at hl
  |succ f=>
   unfold aX at hf;unfold fE
   cases hg:T.get j with
   |none=>rw[hg]at hf;cases hf
   |some n=>
    rw[hg]at hf;simp only at hf ⊢;split at hf
    ·cases hi:jN s n.names with
     |none=>rw[hi]at hf;cases hf
     |some i=>
      rw[hi]at hf;obtain⟨hm,_⟩:=(aw h.sorted).1 hg;have tL:=(cy (h.snames n hm)).1 hi;have h1:=(Uq (fun p:List UInt8×Int=>1+fE T f p.2) n.names 0).2 _ tL;have h2:=ih f i y hf (by simpa using hl);simp only[au0];simp only at h1;omega
    ·cases hf
end
end
section
open Go.RowKit
section
variable {T:Tr}{d:Int->Nat}
theorem GH {o:Int}{s:List UInt8}(h:WF T d):∀ k n1,(T.named o (fO s)).get k=some n1->∃ n,T.get k=some n/\(n1.dir=true->n.dir=true)/\∀ x i,jN x n1.names=some i->jN x n.names=some i:=by
 intro k n1 hg;rw[eR]at hg;by_cases hk:k=o
 ·rw[au8 hk]at hg;obtain⟨n,hn,rfl⟩:=awc.1 hg;obtain⟨hm,_⟩:=(aw h.sorted).1 hn;refine⟨n,hn,id,fun x i hx=>?_⟩;rw[cy (oS (h.snames n hm))]at hx;exact(cy (h.snames n hm)).2 (kQ.1 hx).1
 ·rw[ava hk]at hg;exact⟨n1,hg,id,fun _ _ h=>h⟩
structure Ren (T:Tr)(d:Int->Nat)(c:co)(p1:List (List UInt8))(s1:List UInt8)(o:Int)(p2:List (List UInt8))(s2:List UInt8)(k j:Int)(Kw Ku nj:Nd):Prop where
 path:bd c.path=some (p1++[s1])
 dest:bd c.dest=some (p2++[s2])
 fj:aX T 1 (p1++[s1])=.ok j
 fo:aX T 1 p1=.ok o
 fk:aX T 1 p2=.ok k
 go:T.get o=some Kw
 gk:T.get k=some Ku
 gj:T.get j=some nj
 dirO:Kw.dir=true
 dirK:Ku.dir=true
 was:jN s1 Kw.names=some j
 new:jN s2 Ku.names=none
 room:Ku.names.length<60
 ok:aK s2=true
 apart:Lib.hasPrefix c.dest (c.path++[47])=false
 dk:d k=p2.length
 long:p2.length+1+fE T 9 j<=8
 j1:j≠1
theorem we {T:Tr}:∀(l:List (List UInt8)) (k e:Int),aX T k l=.error e->e=141\/e=143:=by
 intro l
 induction l with
 |nil=>intro k e h;cases h
 |cons s r ih=>
  intro k e h;rw[kp]at h;split at h
  ·cases h;exact .inl rfl
  ·split at h
   ·split at h
    ·cases h;exact .inl rfl
    ·exact ih _ _ h
   ·cases h;exact .inr rfl
theorem wg {T:Tr}{path:List UInt8}{e:Int}(h:zE T path=.error e):140<=e:=by
 unfold zE at h;split at h
 ·cases h;decide
 ·rcases we _ _ _ h with rfl|rfl<;>decide
theorem rN {T:Tr}{path:List UInt8}{e:Int}(h:gq T path=.error e):140<=e:=by
 unfold gq at h;simp only at h;split at h
 ·cases h;decide
 ·split at h
  ·rename_i h1
   cases h
   rcases we _ _ _ h1 with rfl|rfl<;>decide
  ·split at h
   ·cases h;decide
   ·split at h
    ·cases h;decide
    ·split at h
     ·cases h;decide
     ·split at h
      ·cases h;decide
      ·cases h
theorem Ln (h:WF T d)(c:co):(∃ e,cg T c=(T,e)/\140<=e)\/∃ p1 s1 o p2 s2 k j Kw Ku nj,Ren T d c p1 s1 o p2 s2 k j Kw Ku nj/\cg T c=((T.named o (fO s1)).named k (l7 s2 j),0):=by
 unfold cg;by_cases hr:c.path=[47]
 ·rw[au8 hr];exact .inl ⟨_,rfl,by decide⟩
 ·rw[ava hr]
  cases ha:zE T c.path with
  |error e=>exact .inl ⟨e,rfl,wg ha⟩
  |ok j=>
   by_cases hp:Lib.hasPrefix c.dest (c.path++[47])=true
   ·simp only[hp,if_true];exact .inl ⟨_,rfl,by decide⟩
   ·simp only[hp]
    cases YJ:gq T c.dest with
    |error e=>exact .inl ⟨e,rfl,rN YJ⟩
    |ok x=>
     obtain⟨k,s2⟩:=x;obtain⟨p2,Ku,hd,pB,bQ,hfk,KG,zg,hn,sK,WB⟩:=pM h YJ;obtain⟨p1,s1,o,Kw,XN,hfj,Oz,Ft,vg,hs⟩:=uT h ha hr;obtain⟨l,nj,hl,Fh,hgj⟩:=zG h ha;simp only[hd,avC,XN,List.dropLast_concat,List.getLastD_concat,Oz];by_cases h8:8<(p2++[s2]).length+fE T 9 j
     ·rw[au8 h8];exact .inl ⟨_,rfl,by decide⟩
     ·rw[ava h8];obtain⟨VK,_⟩:=(aw h.sorted).1 Ft;refine .inr ⟨p1,s1,o,p2,s2,k,j,Kw,Ku,nj,⟨XN,hd,hfj,Oz,hfk,Ft,KG,hgj,vg,zg,hs,hn,sK,bQ,by simpa using hp,WB,?_,(h.closed Kw VK _ ((cy (h.snames Kw VK)).1 hs)).1⟩,rfl⟩;simp only[avi,au0,awa]at h8;omega
theorem Us {c:co}{p1 p2:List (List UInt8)}{s1 s2:List UInt8}{o k j:Int}{Kw Ku nj:Nd}(h:WF T d)(r:Ren T d c p1 s1 o p2 s2 k j Kw Ku nj)(_hd:nj.dir=true):∀ p,aX T j p≠.ok k:=by
 intro p hp;have h1:aX T 1 (p1++[s1]++p)=.ok k:=by rw[tZ,r.fj];exact hp
 have h2:=GG h _ _ _ _ _ rfl h1 r.fk r.gk r.dirK;have h3:=Dl r.path (q:=p++[s2]) (by rw[r.dest,<-h2];simp) (by simp) (by simp);rw[r.apart]at h3;cases h3
theorem YV {c:co}{p1 p2:List (List UInt8)}{s1 s2:List UInt8}{o k j:Int}{Kw Ku nj:Nd}(h:WF T d)(r:Ren T d c p1 s1 o p2 s2 k j Kw Ku nj):∃ d',WF ((T.named o (fO s1)).named k (l7 s2 j)) d':=by
 have h1:=Pt h r.go r.was;have XQ:=GH (o:=o) (s:=s1) h;obtain⟨aq3,gk',dk',nk',lk'⟩:∃ up',(T.named o (fO s1)).get k=some up'/\up'.dir=true/\jN s2 up'.names=none/\up'.names.length<60:=by
  rw[eR];by_cases e:k=o
  ·rw[au8 e,r.gk];refine⟨_,rfl,r.dirK,?_,Nat.lt_of_le_of_lt (rG _ _) r.room⟩;rw[mt];intro p hp;exact mt.1 r.new p (kQ.1 hp).1
  ·rw[ava e];exact⟨Ku,r.gk,r.dirK,r.new,r.room⟩
 obtain⟨nj',gj',dj'⟩:∃ n',(T.named o (fO s1)).get j=some n'/\n'.dir=nj.dir:=by
  rw[eR];by_cases e:j=o
  ·rw[au8 e,r.gj];exact⟨_,rfl,rfl⟩
  ·rw[ava e];exact⟨nj,r.gj,rfl⟩
 have pB:p2.length<=7:=by have:=r.long;omega
 have fin:∀ d':Int->Nat,mY (T.named o (fO s1)) d' (fun x=>0+if j=x then 1 else 0)->d' k<=7->(nj'.dir=true->d' j=d' k+1)->WF ((T.named o (fO s1)).named k (l7 s2 j)) d':=by
  intro d' hw h7 hj;refine GD (GB hw gk' dk' nk' lk' r.ok r.j1 gj' h7 hj) fun n _ _=>?_;show(0:Int)=0+(if j=n.num then 1 else 0)-if j=n.num then 1 else 0;omega
 by_cases hd:nj.dir=true
 ·
  have adY:nj'.dir=true:=dj'.trans hd;obtain⟨ad4,abf⟩:=(aw h1.sorted).1 gj';have hcj:j6 (T.named o (fO s1)) j=0:=by
   have hc:=h1.count nj' ad4 (by rw[abf];exact r.j1);have:=hc.2.2 adY;have:=hc.1;rw[abf,au8 rfl]at this;omega
  have adK:∀ n∈T.named o (fO s1),∀ p∈n.names,p.2≠j:=fun n hn p hp e=>by
   have:=AZ hn hp e;omega
  let I8:Int->Prop:=fun x=>∃ p,aX (T.named o (fO s1)) j p=.ok x
  have aeQ:∀ p x m,aX (T.named o (fO s1)) j p=.ok x->(T.named o (fO s1)).get x=some m->m.dir=true->d x=d j+p.length:=fun p x m hf hg hm=>
   (uS h1 p j x ⟨nj',ad4,abf⟩ hf).2 nj' gj' adY m hg hm
  classical
  let d':Int->Nat:=fun x=>if I8 x then d x-d j+(p2.length+1)else d x
  have hk:¬ I8 k:=fun⟨p,hp⟩=>Us h r hd p (zH XQ p j k hp);have hj:I8 j:=⟨[],rfl⟩
  have h1s:¬ I8 1:=by
   rintro⟨p,hp⟩;rcases fF p with rfl|⟨q,s,rfl⟩
   ·have e:j=1:=by simpa[aX]using hp
    exact r.j1 e
   ·obtain⟨y,ny,_,hy,_,hs⟩:=gX.1 hp;obtain⟨OH,_⟩:=(aw h1.sorted).1 hy;exact absurd rfl (h1.closed ny OH _ ((cy (h1.snames ny OH)).1 hs)).1
  have hw:mY (T.named o (fO s1)) d' (fun x=>0+if j=x then 1 else 0):=by
   refine Uo h1 ?_ (fun n hn dV=>?_) (fun n hn p hp m hm Ny oo=>?_)
   ·show(if I8 1 then _ else d 1)=0;rw[ava h1s];exact h1.droot
   ·show(if I8 n.num then _ else d n.num)<=7;have hg:=(aw h1.sorted).2 ⟨hn,rfl⟩;have NP:n.dir=true:=by
     cases NP:n.dir with
     |true=>rfl
     |false=>exact absurd (h1.file n hn NP).1 dV
    by_cases hs:I8 n.num
    ·rw[au8 hs];obtain⟨q,hq⟩:=hs;have e:=aeQ q n.num n hq hg NP;have h7:=h1.deep n hn dV;obtain⟨pe,sJ⟩:=List.exists_mem_of_ne_nil _ dV;have Ob:aX (T.named o (fO s1)) j (q++[pe.1])=.ok pe.2:=gX.2 ⟨_,n,hq,hg,NP,(cy (h1.snames n hn)).2 sJ⟩;have h9:=Ur h _ 9 j _ (zH XQ _ j _ Ob) (by simp;omega);simp only[avi,au0,awa]at h9;have:=r.long;omega
    ·rw[ava hs];exact h1.deep n hn dV
   ·have dV:n.names≠[]:=List.ne_nil_of_mem hp;have hg:=(aw h1.sorted).2 ⟨hn,rfl⟩;have hgm:=(aw h1.sorted).2 ⟨hm,Ny⟩;have NP:n.dir=true:=by
     cases NP:n.dir with
     |true=>rfl
     |false=>exact absurd (h1.file n hn NP).1 dV
    have hde:=h1.depth n hn p hp m hm Ny oo;show(if I8 p.2 then _ else d p.2)=(if I8 n.num then _ else d n.num)+1;by_cases hs:I8 n.num
    ·have jH:I8 p.2:=by
      obtain⟨q,hq⟩:=hs;exact⟨q++[p.1],gX.2 ⟨_,n,hq,hg,NP,(cy (h1.snames n hn)).2 hp⟩⟩
     rw[au8 hs,au8 jH];obtain⟨q,hq⟩:=hs;have e:=aeQ q n.num n hq hg NP;omega
    ·have jH:¬ I8 p.2:=by
      rintro⟨q,hq⟩;rcases fF q with rfl|⟨q',s,rfl⟩
      ·have e:j=p.2:=by simpa[aX]using hq
       exact adK n hn p hp e.symm
      ·obtain⟨y,ny,hqy,hy,_,hys⟩:=gX.1 hq;obtain⟨OH,hyn⟩:=(aw h1.sorted).1 hy;have tL:=(cy (h1.snames ny OH)).1 hys;have hc:j6 (T.named o (fO s1)) p.2<=1:=by
        have ik:m.num≠1:=by rw[Ny];exact(h1.closed n hn p hp).1
        have hc:=h1.count m hm ik;have:=hc.2.2 oo;have:=hc.1;rw[Ny,ava (fun e=>adK n hn p hp e.symm)]at this;omega
       obtain⟨e1,_⟩:=vZ h1 hc OH hn tL hp rfl rfl;exact hs ⟨q',by rw[hqy,<-hyn,e1]⟩
     rw[ava hs,ava jH];exact hde
  refine⟨d',fin d' hw ?_ fun _=>?_⟩
  ·show(if I8 k then _ else d k)<=7;rw[ava hk,r.dk];exact pB
  ·show(if I8 j then _ else d j)=(if I8 k then _ else d k)+1;rw[au8 hj,ava hk,r.dk];omega
 ·exact⟨d,fin d h1 (by rw[r.dk];exact pB) (fun e=>absurd (dj'▸e) hd)⟩
theorem GI (h:WF T d)(c:co):∃ d',WF (cg T c).1 d':=by
 rcases Ln h c with⟨e,he,_⟩|⟨p1,s1,o,p2,s2,k,j,Kw,Ku,nj,r,he⟩
 ·rw[he];exact⟨d,h⟩
 ·rw[he];exact YV h r
theorem Px {c:co}(h:c.ok=true):0<=c.pos/\c.pos<=16384:=by
 obtain⟨h9,hf,hb⟩:=oP h;have hk:=YS h9;by_cases h23:c.k=2\/c.k=3
 ·have:=hf 3 (by rcases h23 with e|e<;>rw[e]<;>simp[fieldsOf]);simpa[co.fieldOk]using this
 ·have:c.pos=0:=by
   rw[<-hb];rcases(by omega:c.k=0\/c.k=1\/c.k=4\/c.k=5\/c.k=6\/c.k=7\/c.k=8)with e|e|e|e|e|e|e<;>rw[e]<;>rfl
  omega
theorem JR {c:co}(h:c.ok=true):c.data.length<=512/\(c.kind≠2->c.data=[]):=by
 obtain⟨h9,hf,hb⟩:=oP h;have hk:=YS h9;by_cases h2:c.k=2
 ·have:=hf 4 (by rw[h2];simp[fieldsOf]);refine⟨by simpa[co.fieldOk]using this,fun h=>?_⟩;rw[hk,h2]at h;exact absurd rfl h
 ·have:c.data=[]:=by
   rw[<-hb];rcases(by omega:c.k=0\/c.k=1\/c.k=3\/c.k=4\/c.k=5\/c.k=6\/c.k=7\/c.k=8)with e|e|e|e|e|e|e|e<;>rw[e]<;>rfl
  exact⟨by rw[this];simp,fun _=>this⟩
theorem Py (h:WF T d)(c:co):∃ d',WF (qK T c).1 d':=by
 unfold qK;by_cases bQ:c.ok=false
 ·rw[au8 bQ];exact⟨d,h⟩
 ·rw[ava bQ];have bQ:c.ok=true:=by simpa using bQ
  split
  ·exact Pv h c
  ·split
   ·exact⟨d,Lm h c (Px bQ).1 (JR bQ).2⟩
   ·split
    ·exact⟨d,Pw h c⟩
    ·split
     ·exact GI h c
     ·split
      ·exact⟨d,GF h c⟩
      ·exact⟨d,h⟩
end
end
end
end Go.Proofs.YtkghpdcloaiflaaGreatDoor
