import Derived.Test.YtkghpdcloaiflaaGreatDoorB07
namespace Go.Proofs.YtkghpdcloaiflaaGreatDoor
open _root_.Go.Proofs.Tryz
section
open Go.RowKit
def iy (c:UInt8):Bool:=(97<=c&&c<=122)||(48<=c&&c<=57)||c==46||c==45||c==95
def aK (s:List UInt8):Bool:=s.all iy&&decide (1<=s.length)&&decide (s.length<=16)&&!(s==[46])&&!(s==[46,46])
def bd:List UInt8->Option (List (List UInt8))
 |47::r=>if r=[]then some []else if(jX 47 r).length<=8/\(jX 47 r).all aK=true then some (jX 47 r)else none
 |_=>none
structure co where
 kind:Int
 path:List UInt8
 dest:List UInt8
 pos:Int
 data:List UInt8
theorem co.ext' {a b:co}(h1:a.kind=b.kind)(h2:a.path=b.path)(h3:a.dest=b.dest)(h4:a.pos=b.pos)(h5:a.data=b.data):a=b:=by
 cases a;cases b;simp_all
def co.eqB (a b:co):Bool:=a.kind==b.kind&&(a.path==b.path&&(a.dest==b.dest&&(a.pos==b.pos&&a.data==b.data)))
theorem co.eqB_iff {a b:co}:a.eqB b=true↔a=b:=by
 constructor
 ·intro h;simp only[co.eqB,avj,avF]at h;exact co.ext' h.1 h.2.1 h.2.2.1 h.2.2.2.1 h.2.2.2.2
 ·rintro rfl;simp[co.eqB]
def cQ:Nat->List UInt8
 |0=>[109,97,107,101]
 |1=>[100,105,114]
 |2=>[119,114,105,116,101]
 |3=>[99,117,116]
 |4=>[108,105,110,107]
 |5=>[114,101,110,97,109,101]
 |6=>[114,101,109,111,118,101]
 |7=>[115,110,97,112]
 |8=>[117,110,115,110,97,112]
 |_=>[]
def fieldsOf:Nat->List Nat
 |0=>[1]
 |1=>[1]
 |2=>[1,3,4]
 |3=>[1,3]
 |4=>[1,2]
 |5=>[1,2]
 |6=>[1]
 |7=>[5]
 |8=>[5]
 |_=>[]
def ms (n:Nat):UInt8:=if n<10 then UInt8.ofNat (48+n)else UInt8.ofNat (87+n)
def iz (d:List UInt8):List UInt8:=d.flatMap fun b=>[ms (b.toNat/16),ms (b.toNat%16)]
def rM (d:List UInt8):List UInt8:=if d=[]then [45]else iz d
def eS (c:UInt8):Int:=if 48<=c.toNat/\c.toNat<=57 then(c.toNat:Int)-48 else if 97<=c.toNat/\c.toNat<=102 then(c.toNat:Int)-87 else -1
def oO (x:Int):UInt8:=UInt8.ofNat (x%256).toNat
def br (v:UInt8->Int):List UInt8->List UInt8
 |a::b::r=>oO (16*v a+v b)::br v r
 |_=>[]
def uP (s:List UInt8):List UInt8:=if s=[45]then []else br eS s
def co.fieldText (c:co):Nat->List UInt8
 |2=>c.dest
 |3=>Lib.itoa c.pos
 |4=>rM c.data
 |_=>c.path
def co.fieldOk (c:co):Nat->Bool
 |1=>(bd c.path).isSome
 |2=>(bd c.dest).isSome
 |3=>decide (0<=c.pos)&&decide (c.pos<=16384)
 |4=>decide (c.data.length<=512)
 |_=>aK c.path
def co.take (c:co):Nat->List UInt8->co
 |2,s=>{ c with dest:=s }
 |3,s=>{ c with pos:=tV s }
 |4,s=>{ c with data:=uP s }
 |_,s=>{ c with path:=s }
def co.bare (c:co)(fs:List Nat):co:=fs.foldl (fun b f=>b.take f (c.fieldText f)) ⟨c.kind,[],[],0,[]⟩
def co.k (c:co):Nat:=if 0<=c.kind/\c.kind<9 then c.kind.toNat else 9
def co.ok (c:co):Bool:=decide (c.k<9)&&((fieldsOf c.k).all c.fieldOk&&(c.bare (fieldsOf c.k)).eqB c)
def Pj (w:List UInt8)(l:List (List UInt8)):List UInt8:=Lib.join (w::l) [32]
def co.line (c:co):List UInt8:=Pj (cQ c.k) ((fieldsOf c.k).map c.fieldText)
def acz (c:co):List Nat->List (List UInt8)->co
 |f::fs,s::l=>acz (c.take f s) fs l
 |_,_=>c
theorem Pk (n:Nat)(h:n<16):eS (ms n)=n:=by
 rcases(by omega:n=0\/n=1\/n=2\/n=3\/n=4\/n=5\/n=6\/n=7\/n=8\/n=9\/n=10\/n=11\/n=12\/n=13\/n=14\/n=15)with h|h|h|h|h|h|h|h|h|h|h|h|h|h|h|h<;>subst h<;>decide
theorem Lj (b:UInt8):oO (16*((b.toNat/16:Nat):Int)+((b.toNat%16:Nat):Int))=b:=by
 have hb:=b.toNat_lt;have e:(16*((b.toNat/16:Nat):Int)+((b.toNat%16:Nat):Int))=(b.toNat:Int):=by omega
 rw[e,oO];rw[show((b.toNat:Int)%256).toNat=b.toNat by omega];simp
theorem TA (d:List UInt8):br eS (iz d)=d:=by
 induction d with
 |nil=>rfl
 |cons b d ih=>
  show br eS (ms (b.toNat/16)::ms (b.toNat%16)::iz d)=_;have hb:=b.toNat_lt;rw[br,Pk _ (by omega),Pk _ (by omega),Lj,ih]
theorem sV (d:List UInt8):(iz d).length=2*d.length:=by
 induction d with
 |nil=>rfl
 |cons b d ih=>
  show(ms (b.toNat/16)::ms (b.toNat%16)::iz d).length=_;simp[ih];omega
theorem zD (n:Nat)(h:n<16):(ms n)≠32:=by
 rcases(by omega:n=0\/n=1\/n=2\/n=3\/n=4\/n=5\/n=6\/n=7\/n=8\/n=9\/n=10\/n=11\/n=12\/n=13\/n=14\/n=15)with h|h|h|h|h|h|h|h|h|h|h|h|h|h|h|h<;>subst h<;>decide
theorem Pm (d:List UInt8):(32:UInt8)∉iz d:=by
 induction d with
 |nil=>simp[iz]
 |cons b d ih=>
  have hb:=b.toNat_lt;show(32:UInt8)∉ms (b.toNat/16)::ms (b.toNat%16)::iz d;have h1:=zD (b.toNat/16) (by omega);have h2:=zD (b.toNat%16) (by omega);simp only[avn,not_or];exact⟨fun e=>h1 e.symm,fun e=>h2 e.symm,ih⟩
theorem Pn (d:List UInt8):(32:UInt8)∉rM d:=by
 unfold rM;split
 ·decide
 ·exact Pm d
theorem tY {c:UInt8}(h:iy c=true):c≠32/\c≠47:=by
 constructor<;>(rintro rfl;revert h;decide)
theorem JM {s:List UInt8}(h:aK s=true):(32:UInt8)∉s/\(47:UInt8)∉s:=by
 simp only[aK,avj,avk]at h;exact⟨fun hc=>(tY (h.1.1.1.1 _ hc)).1 rfl,fun hc=>(tY (h.1.1.1.1 _ hc)).2 rfl⟩
theorem iY {s:List UInt8}{l:List (List UInt8)}(h:bd s=some l):∃ r,s=47::r/\((r=[]/\l=[])\/(r≠[]/\l=jX 47 r/\l.length<=8/\l.all aK=true)):=by
 unfold bd at h;split at h
 ·rename_i r
  refine⟨r,rfl,?_⟩;split at h
  ·rename_i hr
   exact .inl ⟨hr,(av6 h).symm⟩
  ·rename_i hr
   split at h
   ·rename_i hp
    obtain rfl:=av6 h;exact .inr ⟨hr,rfl,hp⟩
   ·cases h
 ·cases h
theorem JN {s:List UInt8}(h:(bd s).isSome=true):(32:UInt8)∉s:=by
 obtain⟨l,hl⟩:=Option.isSome_iff_exists.1 h;obtain⟨r,rfl,h1|⟨_,rfl,_,h2⟩⟩:=iY hl
 ·obtain⟨rfl,_⟩:=h1;decide
 ·have e:=vI 47 r;intro hc;have hr:(32:UInt8)∈r:=by
   rcases avn.1 hc with h|h
   ·exact absurd h (by decide)
   ·exact h
  rw[<-e]at hr;have key:∀(xs:List (List UInt8)),(∀ x∈xs,(32:UInt8)∉x)->(32:UInt8)∉[(47:UInt8)].intercalate xs:=by
   intro xs
   induction xs with
   |nil=>intro _ hm;simp[List.intercalate]at hm
   |cons x xs ih=>
    intro hx hm
    cases xs with
    |nil=>simp[List.intercalate]at hm;exact hx x (by simp) hm
    |cons y ys=>
     rw[show [(47:UInt8)].intercalate (x::y::ys)=x++47::[(47:UInt8)].intercalate (y::ys) by simp[List.intercalate]]at hm;rcases av4.1 hm with hm|hm
     ·exact hx x (by simp) hm
     ·rcases avn.1 hm with hm|hm
      ·exact absurd hm (by decide)
      ·exact ih (fun z hz=>hx z (by simp[hz])) hm
  refine key _ (fun x hx=>?_) hr;exact(JM (avk.1 h2 x hx)).1
theorem YS {c:co}(h:c.k<9):c.kind=(c.k:Int):=by
 unfold co.k at*;split at h
 ·rename_i hk;rw[au8 hk];omega
 ·omega
theorem oP {c:co}(h:c.ok=true):c.k<9/\(∀ f∈fieldsOf c.k,c.fieldOk f=true)/\c.bare (fieldsOf c.k)=c:=by
 simp only[co.ok,avj,avo,avk]at h;exact⟨h.1,h.2.1,co.eqB_iff.1 h.2.2⟩
theorem Uj (k:Nat):(32:UInt8)∉cQ k:=by
 rcases(by omega:k=0\/k=1\/k=2\/k=3\/k=4\/k=5\/k=6\/k=7\/k=8\/9<=k)with h|h|h|h|h|h|h|h|h|h
 all_goals first|(subst h;decide)|skip
 rw[show cQ k=[]from by unfold cQ;split<;>first|omega|rfl];simp
theorem Po {c:co}{f:Nat}(h:c.fieldOk f=true):(32:UInt8)∉c.fieldText f:=by
 unfold co.fieldOk at h;split at h
 ·exact JN h
 ·exact JN h
 ·simp only[avj,avo]at h;exact fun hc=>by have:=Gu c.pos h.1 32 hc;simp at this
 ·exact Pn _
 ·rename_i h1 h2 h3 h4
  rw[show c.fieldText f=c.path from by unfold co.fieldText;split<;>first|rfl|(exfalso;first|exact h2 rfl|exact h3 rfl|exact h4 rfl)];exact(JM h).1
theorem Gy (xs:List (List UInt8))(c:UInt8):Lib.join xs [c]=[c].intercalate xs:=by
 simp[Lib.join]
theorem Gz {c:co}(h:c.ok=true):jX 32 c.line=cQ c.k::(fieldsOf c.k).map c.fieldText:=by
 obtain⟨_,h2,_⟩:=oP h;rw[co.line,Pj,Gy];refine CT 32 _ (by simp) (fun x hx=>?_);rcases avn.1 hx with rfl|hx
 ·exact Uj _
 ·obtain⟨f,hf,rfl⟩:=avx.1 hx;exact Po (h2 f hf)
end
end Go.Proofs.YtkghpdcloaiflaaGreatDoor
