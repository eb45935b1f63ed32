import Derived.Test.YtkghpdcloaiflaaGreatDoorH07
namespace Go.Proofs.YtkghpdcloaiflaaGreatDoor
open _root_.Go.Proofs.Tryz
variable {s:List UInt8}
section
open Go.RowKit
def bU (c:UInt8):Bool:=(97<=c&&c<=122)||(48<=c&&c<=57)||c==46||c==45||c==95
def aJ (s:List UInt8):Bool:=s.all bU&&decide (1<=s.length)&&decide (s.length<=16)&&!(s==[46])&&!(s==[46,46])
def bA:List UInt8->Option (List (List UInt8))
 |47::r=>if r=[]then some []else if(jN 47 r).length<=8/\(jN 47 r).all aJ=true then some (jN 47 r)else none
 |_=>none
structure cm where
 kind:Int
 path:List UInt8
 dest:List UInt8
 pos:Int
 data:List UInt8
theorem cm.ext' {a b:cm}(h1:a.kind=b.kind)(h2:a.path=b.path)(h3:a.dest=b.dest)(h4:a.pos=b.pos)(h5:a.data=b.data):a=b:=by
 cases a;cases b;simp_all
def cm.eqB (a b:cm):Bool:=a.kind==b.kind&&(a.path==b.path&&(a.dest==b.dest&&(a.pos==b.pos&&a.data==b.data)))
theorem cm.eqB_iff {a b:cm}:a.eqB b=true↔a=b:=by
 constructor
 ·intro h;simp only[cm.eqB,awo,awJ]at h;exact cm.ext' h.1 h.2.1 h.2.2.1 h.2.2.2.1 h.2.2.2.2
 ·rintro rfl;simp[cm.eqB]
def cP:Nat->List UInt8
 |0=>[109,97,107,101]
 |1=>[100,105,114]
 |2=>[119,114,105,116,101]
 |3=>[99,117,116]
 |4=>[108,105,110,107]
 |5=>[114,101,110,97,109,101]
 |6=>[114,101,109,111,118,101]
 |7=>[115,110,97,112]
 |8=>[117,110,115,110,97,112]
 |_=>[]
def fieldsOf:Nat->List Nat
 |0=>[1]
 |1=>[1]
 |2=>[1,3,4]
 |3=>[1,3]
 |4=>[1,2]
 |5=>[1,2]
 |6=>[1]
 |7=>[5]
 |8=>[5]
 |_=>[]
def oB (n:Nat):UInt8:=if n<10 then UInt8.ofNat (48+n)else UInt8.ofNat (87+n)
def ju (d:List UInt8):List UInt8:=d.flatMap λb=>[oB (b.toNat/16),oB (b.toNat%16)]
def rL (d:List UInt8):List UInt8:=if d=[]then [45]else ju d
def fM (c:UInt8):Int:=if 48<=c.toNat/\c.toNat<=57 then(c.toNat:Int)-48 else if 97<=c.toNat/\c.toNat<=102 then(c.toNat:Int)-87 else -1
def sS (x:Int):UInt8:=UInt8.ofNat (x%256).toNat
def bG (v:UInt8->Int):List UInt8->List UInt8
 |a::b::r=>sS (16*v a+v b)::bG v r
 |_=>[]
def uR (s:List UInt8):List UInt8:=if s=[45]then []else bG fM s
def cm.fieldText (c:cm):Nat->List UInt8
 |2=>c.dest
 |3=>Lib.itoa c.pos
 |4=>rL c.data
 |_=>c.path
def cm.fieldOk (c:cm):Nat->Bool
 |1=>(bA c.path).isSome
 |2=>(bA c.dest).isSome
 |3=>decide (0<=c.pos)&&decide (c.pos<=16384)
 |4=>decide (c.data.length<=512)
 |_=>aJ c.path
def cm.take (c:cm):Nat->List UInt8->cm
 |2,s=>{ c with dest:=s }
 |3,s=>{ c with pos:=tZ s }
 |4,s=>{ c with data:=uR s }
 |_,s=>{ c with path:=s }
def cm.bare (c:cm)(fs:List Nat):cm:=fs.foldl (λb f=>b.take f (c.fieldText f)) ⟨c.kind,[],[],0,[]⟩
def cm.k (c:cm):Nat:=if 0<=c.kind/\c.kind<9 then c.kind.toNat else 9
def cm.ok (c:cm):Bool:=decide (c.k<9)&&((fieldsOf c.k).all c.fieldOk&&(c.bare (fieldsOf c.k)).eqB c)
def PE (w:List UInt8)(l:List (List UInt8)):List UInt8:=Lib.join (w::l) [32]
def cm.line (c:cm):List UInt8:=PE (cP c.k) ((fieldsOf c.k).map c.fieldText)
def ada (c:cm):List Nat->List (List UInt8)->cm
 |f::fs,s::l=>ada (c.take f s) fs l
 |_,_=>c
theorem sT (d:List UInt8):(ju d).length=2*d.length:=by
 induction d with
 |nil=>rfl
 |cons b d ih=>
  show(oB (b.toNat/16)::oB (b.toNat%16)::ju d).length=_;simp[ih];omega
theorem zD (n:Nat)(h:n<16):(oB n)≠32:=by
 rcases(by omega:n=0\/n=1\/n=2\/n=3\/n=4\/n=5\/n=6\/n=7\/n=8\/n=9\/n=10\/n=11\/n=12\/n=13\/n=14\/n=15)with h|h|h|h|h|h|h|h|h|h|h|h|h|h|h|h<;>subst h<;>decide
theorem PG (d:List UInt8):(32:UInt8)∉ju d:=by
 induction d with
 |nil=>simp[ju]
 |cons b d ih=>
  have hb:=b.toNat_lt;show(32:UInt8)∉oB (b.toNat/16)::oB (b.toNat%16)::ju d;have h1:=zD (b.toNat/16) J;have h2:=zD (b.toNat%16) J;simp only[aws,not_or];exact⟨λe=>h1 e.symm,λe=>h2 e.symm,ih⟩
theorem PI (d:List UInt8):(32:UInt8)∉rL d:=by
 unfold rL;split
 ·decide
 ·exact PG d
theorem ub {c:UInt8}(h:bU c=true):c≠32/\c≠47:=by
 constructor<;>(rintro rfl;revert h;decide)
theorem J0 (h:aJ s=true):(32:UInt8)∉s/\(47:UInt8)∉s:=by
 simp only[aJ,awo,awp]at h;exact⟨λhc=>(ub (h.1.1.1.1 _ hc)).1 rfl,λhc=>(ub (h.1.1.1.1 _ hc)).2 rfl⟩
theorem iV {l:List (List UInt8)}(h:bA s=some l):∃ r,s=47::r/\((r=[]/\l=[])\/(r≠[]/\l=jN 47 r/\l.length<=8/\l.all aJ=true)):=by
 unfold bA at h;split at h
 ·rename_i r
  refine⟨r,rfl,?_⟩;split at h
  ·rename_i hr
   exact .inl ⟨hr,(axa h).symm⟩
  ·rename_i hr
   split at h
   ·rename_i hp
    obtain rfl:=axa h;exact .inr ⟨hr,rfl,hp⟩
   ·cases h
 ·cases h
theorem J1 (h:(bA s).isSome=true):(32:UInt8)∉s:=by
 obtain⟨l,hl⟩:=Option.isSome_iff_exists.1 h;obtain⟨r,rfl,h1|⟨_,rfl,_,h2⟩⟩:=iV hl
 ·obtain⟨rfl,_⟩:=h1;decide
 ·have e:=vL 47 r;intro hc;have hr:(32:UInt8)∈r:=by
   rcases aws.1 hc with h|h
   ·exact absurd h dc7
   ·exact h
  rw[<-e]at hr;have key:∀(xs:List (List UInt8)),(∀ x∈xs,(32:UInt8)∉x)->(32:UInt8)∉[(47:UInt8)].intercalate xs:=by
   intro xs
   induction xs with
   |nil=>intro _ hm;simp[List.intercalate]at hm
   |cons x xs ih=>
    intro hx hm
    cases xs with
    |nil=>simp[List.intercalate]at hm;exact hx x sp7 hm
    |cons y ys=>
     rw[show [(47:UInt8)].intercalate (x::y::ys)=x++47::[(47:UInt8)].intercalate (y::ys) by simp[List.intercalate]]at hm;rcases aw8.1 hm with hm|hm
     ·exact hx x sp7 hm
     ·rcases aws.1 hm with hm|hm
      ·exact absurd hm dc7
      ·exact ih (λz hz=>hx z (by simp[hz])) hm
  refine key _ (λx hx=>?_) hr;exact(J0 (awp.1 h2 x hx)).1
theorem ZC {c:cm}(h:c.k<9):c.kind=(c.k:Int):=by
 unfold cm.k at*;split at h
 ·rename_i hk;rw[awd hk];omega
 ·omega
theorem oC {c:cm}(h:c.ok=true):c.k<9/\(∀ f∈fieldsOf c.k,c.fieldOk f=true)/\c.bare (fieldsOf c.k)=c:=by
 simp only[cm.ok,awo,awt,awp]at h;exact⟨h.1,h.2.1,cm.eqB_iff.1 h.2.2⟩
theorem U4 (k:Nat):(32:UInt8)∉cP k:=by
 rcases(by omega:k=0\/k=1\/k=2\/k=3\/k=4\/k=5\/k=6\/k=7\/k=8\/9<=k)with h|h|h|h|h|h|h|h|h|h
 all_goals first|(subst h;decide)|skip
 rw[show cP k=[]from by unfold cP;split<;>first|omega|rfl];simp
theorem PJ {c:cm}{f:Nat}(h:c.fieldOk f=true):(32:UInt8)∉c.fieldText f:=by
 unfold cm.fieldOk at h;split at h
 ·exact J1 h
 ·exact J1 h
 ·simp only[awo,awt]at h;exact λhc=>by have:=GG c.pos h.1 32 hc;simp at this
 ·exact PI _
 ·rename_i h1 h2 h3 h4
  rw[show c.fieldText f=c.path from by unfold cm.fieldText;split<;>first|rfl|(exfalso;first|exact h2 rfl|exact h3 rfl|exact h4 rfl)];exact(J0 h).1
theorem GK (xs:List (List UInt8))(c:UInt8):Lib.join xs [c]=[c].intercalate xs:=by
 simp[Lib.join]
theorem GL {c:cm}(h:c.ok=true):jN 32 c.line=cP c.k::(fieldsOf c.k).map c.fieldText:=by
 obtain⟨_,h2,_⟩:=oC h;rw[cm.line,PE,GK];refine C5 32 _ sp7 (λx hx=>?_);rcases aws.1 hx with rfl|hx
 ·exact U4 _
 ·obtain⟨f,hf,rfl⟩:=awB.1 hx;exact PJ (h2 f hf)
end
end Go.Proofs.YtkghpdcloaiflaaGreatDoor
