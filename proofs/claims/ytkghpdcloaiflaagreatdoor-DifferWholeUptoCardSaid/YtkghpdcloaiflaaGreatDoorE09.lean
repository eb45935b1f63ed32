import Derived.Test.YtkghpdcloaiflaaGreatDoorE07
namespace Go.Proofs.YtkghpdcloaiflaaGreatDoor
open _root_.Go.Proofs.Tryz
section
open Go.RowKit
def iB (c:UInt8):Bool:=(97<=c&&c<=122)||(48<=c&&c<=57)||c==46||c==45||c==95
def aG (s:List UInt8):Bool:=s.all iB&&decide (1<=s.length)&&decide (s.length<=16)&&!(s==[46])&&!(s==[46,46])
def bg:List UInt8->Option (List (List UInt8))
 |47::r=>if r=[]then some []else if(jZ 47 r).length<=8/\(jZ 47 r).all aG=true then some (jZ 47 r)else none
 |_=>none
structure bP where
 kind:Int
 path:List UInt8
 dest:List UInt8
 pos:Int
 data:List UInt8
theorem bP.ext' {a b:bP}(h1:a.kind=b.kind)(h2:a.path=b.path)(h3:a.dest=b.dest)(h4:a.pos=b.pos)(h5:a.data=b.data):a=b:=by
 cases a;cases b;simp_all
def bP.zero:bP:=⟨0,[],[],0,[]⟩
def bP.eqB (a b:bP):Bool:=a.kind==b.kind&&(a.path==b.path&&(a.dest==b.dest&&(a.pos==b.pos&&a.data==b.data)))
theorem bP.eqB_iff {a b:bP}:a.eqB b=true↔a=b:=by
 constructor
 ·intro h;simp only[bP.eqB,auT,ave]at h;exact bP.ext' h.1 h.2.1 h.2.2.1 h.2.2.2.1 h.2.2.2.2
 ·rintro rfl;simp[bP.eqB]
def cP:Nat->List UInt8
 |0=>[109,97,107,101]
 |1=>[100,105,114]
 |2=>[119,114,105,116,101]
 |3=>[99,117,116]
 |4=>[108,105,110,107]
 |5=>[114,101,110,97,109,101]
 |6=>[114,101,109,111,118,101]
 |7=>[115,110,97,112]
 |8=>[117,110,115,110,97,112]
 |_=>[]
def fieldsOf:Nat->List Nat
 |0=>[1]
 |1=>[1]
 |2=>[1,3,4]
 |3=>[1,3]
 |4=>[1,2]
 |5=>[1,2]
 |6=>[1]
 |7=>[5]
 |8=>[5]
 |_=>[]
def mB (n:Nat):UInt8:=if n<10 then UInt8.ofNat (48+n)else UInt8.ofNat (87+n)
def iC (d:List UInt8):List UInt8:=d.flatMap fun b=>[mB (b.toNat/16),mB (b.toNat%16)]
def rU (d:List UInt8):List UInt8:=if d=[]then [45]else iC d
def fg (c:UInt8):Int:=if 48<=c.toNat/\c.toNat<=57 then(c.toNat:Int)-48 else if 97<=c.toNat/\c.toNat<=102 then(c.toNat:Int)-87 else -1
def oV (x:Int):UInt8:=UInt8.ofNat (x%256).toNat
def bt (v:UInt8->Int):List UInt8->List UInt8
 |a::b::r=>oV (16*v a+v b)::bt v r
 |_=>[]
def ve (s:List UInt8):List UInt8:=if s=[45]then []else bt fg s
def bP.fieldText (c:bP):Nat->List UInt8
 |2=>c.dest
 |3=>Lib.itoa c.pos
 |4=>rU c.data
 |_=>c.path
def bP.fieldOk (c:bP):Nat->Bool
 |1=>(bg c.path).isSome
 |2=>(bg c.dest).isSome
 |3=>decide (0<=c.pos)&&decide (c.pos<=16384)
 |4=>decide (c.data.length<=512)
 |_=>aG c.path
def bP.take (c:bP):Nat->List UInt8->bP
 |2,s=>{ c with dest:=s }
 |3,s=>{ c with pos:=uf s }
 |4,s=>{ c with data:=ve s }
 |_,s=>{ c with path:=s }
def bP.bare (c:bP)(fs:List Nat):bP:=fs.foldl (fun b f=>b.take f (c.fieldText f)) ⟨c.kind,[],[],0,[]⟩
def bP.k (c:bP):Nat:=if 0<=c.kind/\c.kind<9 then c.kind.toNat else 9
def bP.ok (c:bP):Bool:=decide (c.k<9)&&((fieldsOf c.k).all c.fieldOk&&(c.bare (fieldsOf c.k)).eqB c)
def Pm (w:List UInt8)(l:List (List UInt8)):List UInt8:=Lib.join (w::l) [32]
def bP.line (c:bP):List UInt8:=Pm (cP c.k) ((fieldsOf c.k).map c.fieldText)
def ack (c:bP):List Nat->List (List UInt8)->bP
 |f::fs,s::l=>ack (c.take f s) fs l
 |_,_=>c
theorem Pn (n:Nat)(h:n<16):fg (mB n)=n:=by
 rcases(by omega:n=0\/n=1\/n=2\/n=3\/n=4\/n=5\/n=6\/n=7\/n=8\/n=9\/n=10\/n=11\/n=12\/n=13\/n=14\/n=15)with h|h|h|h|h|h|h|h|h|h|h|h|h|h|h|h<;>subst h<;>decide
theorem Lo (b:UInt8):oV (16*((b.toNat/16:Nat):Int)+((b.toNat%16:Nat):Int))=b:=by
 have hb:=b.toNat_lt;have e:(16*((b.toNat/16:Nat):Int)+((b.toNat%16:Nat):Int))=(b.toNat:Int):=by omega
 rw[e,oV];rw[show((b.toNat:Int)%256).toNat=b.toNat by omega];simp
theorem Tx (d:List UInt8):bt fg (iC d)=d:=by
 induction d with
 |nil=>rfl
 |cons b d ih=>
  show bt fg (mB (b.toNat/16)::mB (b.toNat%16)::iC d)=_;have hb:=b.toNat_lt;rw[bt,Pn _ (by omega),Pn _ (by omega),Lo,ih]
theorem tu (d:List UInt8):(iC d).length=2*d.length:=by
 induction d with
 |nil=>rfl
 |cons b d ih=>
  show(mB (b.toNat/16)::mB (b.toNat%16)::iC d).length=_;simp[ih];omega
theorem zD (n:Nat)(h:n<16):(mB n)≠32:=by
 rcases(by omega:n=0\/n=1\/n=2\/n=3\/n=4\/n=5\/n=6\/n=7\/n=8\/n=9\/n=10\/n=11\/n=12\/n=13\/n=14\/n=15)with h|h|h|h|h|h|h|h|h|h|h|h|h|h|h|h<;>subst h<;>decide
theorem Po (d:List UInt8):(32:UInt8)∉iC d:=by
 induction d with
 |nil=>simp[iC]
 |cons b d ih=>
  have hb:=b.toNat_lt;show(32:UInt8)∉mB (b.toNat/16)::mB (b.toNat%16)::iC d;have h1:=zD (b.toNat/16) (by omega);have h2:=zD (b.toNat%16) (by omega);simp only[auX,not_or];exact⟨fun e=>h1 e.symm,fun e=>h2 e.symm,ih⟩
theorem Pp (d:List UInt8):(32:UInt8)∉rU d:=by
 unfold rU;split
 ·decide
 ·exact Po d
theorem ui {c:UInt8}(h:iB c=true):c≠32/\c≠47:=by
 constructor<;>(rintro rfl;revert h;decide)
theorem JL {s:List UInt8}(h:aG s=true):(32:UInt8)∉s/\(47:UInt8)∉s:=by
 simp only[aG,auT,auU]at h;exact⟨fun hc=>(ui (h.1.1.1.1 _ hc)).1 rfl,fun hc=>(ui (h.1.1.1.1 _ hc)).2 rfl⟩
theorem jb {s:List UInt8}{l:List (List UInt8)}(h:bg s=some l):∃ r,s=47::r/\((r=[]/\l=[])\/(r≠[]/\l=jZ 47 r/\l.length<=8/\l.all aG=true)):=by
 unfold bg at h;split at h
 ·rename_i r
  refine⟨r,rfl,?_⟩;split at h
  ·rename_i hr
   exact .inl ⟨hr,(avG h).symm⟩
  ·rename_i hr
   split at h
   ·rename_i hp
    obtain rfl:=avG h;exact .inr ⟨hr,rfl,hp⟩
   ·cases h
 ·cases h
theorem JM {s:List UInt8}(h:(bg s).isSome=true):(32:UInt8)∉s:=by
 obtain⟨l,hl⟩:=Option.isSome_iff_exists.1 h;obtain⟨r,rfl,h1|⟨_,rfl,_,h2⟩⟩:=jb hl
 ·obtain⟨rfl,_⟩:=h1;decide
 ·have e:=vT 47 r;intro hc;have hr:(32:UInt8)∈r:=by
   rcases auX.1 hc with h|h
   ·exact absurd h (by decide)
   ·exact h
  rw[<-e]at hr;have key:∀(xs:List (List UInt8)),(∀ x∈xs,(32:UInt8)∉x)->(32:UInt8)∉[(47:UInt8)].intercalate xs:=by
   intro xs
   induction xs with
   |nil=>intro _ hm;simp[List.intercalate]at hm
   |cons x xs ih=>
    intro hx hm
    cases xs with
    |nil=>simp[List.intercalate]at hm;exact hx x (by simp) hm
    |cons y ys=>
     rw[show [(47:UInt8)].intercalate (x::y::ys)=x++47::[(47:UInt8)].intercalate (y::ys) by simp[List.intercalate]]at hm;rcases avE.1 hm with hm|hm
     ·exact hx x (by simp) hm
     ·rcases auX.1 hm with hm|hm
      ·exact absurd hm (by decide)
      ·exact ih (fun z hz=>hx z (by simp[hz])) hm
  refine key _ (fun x hx=>?_) hr;exact(JL (auU.1 h2 x hx)).1
theorem YG {c:bP}(h:c.k<9):c.kind=(c.k:Int):=by
 unfold bP.k at*;split at h
 ·rename_i hk;rw[auI hk];omega
 ·omega
theorem oW {c:bP}(h:c.ok=true):c.k<9/\(∀ f∈fieldsOf c.k,c.fieldOk f=true)/\c.bare (fieldsOf c.k)=c:=by
 simp only[bP.ok,auT,auY,auU]at h;exact⟨h.1,h.2.1,bP.eqB_iff.1 h.2.2⟩
theorem Uf (k:Nat):(32:UInt8)∉cP k:=by
 rcases(by omega:k=0\/k=1\/k=2\/k=3\/k=4\/k=5\/k=6\/k=7\/k=8\/9<=k)with h|h|h|h|h|h|h|h|h|h
 all_goals first|(subst h;decide)|skip
 rw[show cP k=[]from by unfold cP;split<;>first|omega|rfl];simp
theorem Pq {c:bP}{f:Nat}(h:c.fieldOk f=true):(32:UInt8)∉c.fieldText f:=by
 unfold bP.fieldOk at h;split at h
 ·exact JM h
 ·exact JM h
 ·simp only[auT,auY]at h;exact fun hc=>by have:=Gt c.pos h.1 32 hc;simp at this
 ·exact Pp _
 ·rename_i h1 h2 h3 h4
  rw[show c.fieldText f=c.path from by unfold bP.fieldText;split<;>first|rfl|(exfalso;first|exact h2 rfl|exact h3 rfl|exact h4 rfl)];exact(JL h).1
theorem Gx (xs:List (List UInt8))(c:UInt8):Lib.join xs [c]=[c].intercalate xs:=by
 simp[Lib.join]
theorem Gy {c:bP}(h:c.ok=true):jZ 32 c.line=cP c.k::(fieldsOf c.k).map c.fieldText:=by
 obtain⟨_,h2,_⟩:=oW h;rw[bP.line,Pm,Gx];refine CZ 32 _ (by simp) (fun x hx=>?_);rcases auX.1 hx with rfl|hx
 ·exact Uf _
 ·obtain⟨f,hf,rfl⟩:=au6.1 hx;exact Pq (h2 f hf)
end
end Go.Proofs.YtkghpdcloaiflaaGreatDoor
