import Derived.Test.YtkghpdcloaiflaaGreatDoorC07
namespace Go.Proofs.YtkghpdcloaiflaaGreatDoor
open _root_.Go.Proofs.Tryz
section
open Go.RowKit
def ip (c:UInt8):Bool:=(97<=c&&c<=122)||(48<=c&&c<=57)||c==46||c==45||c==95
def aH (s:List UInt8):Bool:=s.all ip&&decide (1<=s.length)&&decide (s.length<=16)&&!(s==[46])&&!(s==[46,46])
def bd:List UInt8->Option (List (List UInt8))
 |47::r=>if r=[]then some []else if(jM 47 r).length<=8/\(jM 47 r).all aH=true then some (jM 47 r)else none
 |_=>none
structure bT where
 kind:Int
 path:List UInt8
 dest:List UInt8
 pos:Int
 data:List UInt8
theorem bT.ext' {a b:bT}(h1:a.kind=b.kind)(h2:a.path=b.path)(h3:a.dest=b.dest)(h4:a.pos=b.pos)(h5:a.data=b.data):a=b:=by
 cases a;cases b;simp_all
def bT.zero:bT:=⟨0,[],[],0,[]⟩
def bT.eqB (a b:bT):Bool:=a.kind==b.kind&&(a.path==b.path&&(a.dest==b.dest&&(a.pos==b.pos&&a.data==b.data)))
theorem bT.eqB_iff {a b:bT}:a.eqB b=true↔a=b:=by
 constructor
 ·intro h;simp only[bT.eqB,at2,auq]at h;exact bT.ext' h.1 h.2.1 h.2.2.1 h.2.2.2.1 h.2.2.2.2
 ·rintro rfl;simp[bT.eqB]
def cP:Nat->List UInt8
 |0=>[109,97,107,101]
 |1=>[100,105,114]
 |2=>[119,114,105,116,101]
 |3=>[99,117,116]
 |4=>[108,105,110,107]
 |5=>[114,101,110,97,109,101]
 |6=>[114,101,109,111,118,101]
 |7=>[115,110,97,112]
 |8=>[117,110,115,110,97,112]
 |_=>[]
def fieldsOf:Nat->List Nat
 |0=>[1]
 |1=>[1]
 |2=>[1,3,4]
 |3=>[1,3]
 |4=>[1,2]
 |5=>[1,2]
 |6=>[1]
 |7=>[5]
 |8=>[5]
 |_=>[]
def mo (n:Nat):UInt8:=if n<10 then UInt8.ofNat (48+n)else UInt8.ofNat (87+n)
def iq (d:List UInt8):List UInt8:=d.flatMap fun b=>[mo (b.toNat/16),mo (b.toNat%16)]
def rB (d:List UInt8):List UInt8:=if d=[]then [45]else iq d
def eP (c:UInt8):Int:=if 48<=c.toNat/\c.toNat<=57 then(c.toNat:Int)-48 else if 97<=c.toNat/\c.toNat<=102 then(c.toNat:Int)-87 else -1
def oG (x:Int):UInt8:=UInt8.ofNat (x%256).toNat
def br (v:UInt8->Int):List UInt8->List UInt8
 |a::b::r=>oG (16*v a+v b)::br v r
 |_=>[]
def uH (s:List UInt8):List UInt8:=if s=[45]then []else br eP s
def bT.fieldText (c:bT):Nat->List UInt8
 |2=>c.dest
 |3=>Lib.itoa c.pos
 |4=>rB c.data
 |_=>c.path
def bT.fieldOk (c:bT):Nat->Bool
 |1=>(bd c.path).isSome
 |2=>(bd c.dest).isSome
 |3=>decide (0<=c.pos)&&decide (c.pos<=16384)
 |4=>decide (c.data.length<=512)
 |_=>aH c.path
def bT.take (c:bT):Nat->List UInt8->bT
 |2,s=>{ c with dest:=s }
 |3,s=>{ c with pos:=tM s }
 |4,s=>{ c with data:=uH s }
 |_,s=>{ c with path:=s }
def bT.bare (c:bT)(fs:List Nat):bT:=fs.foldl (fun b f=>b.take f (c.fieldText f)) ⟨c.kind,[],[],0,[]⟩
def bT.k (c:bT):Nat:=if 0<=c.kind/\c.kind<9 then c.kind.toNat else 9
def bT.ok (c:bT):Bool:=decide (c.k<9)&&((fieldsOf c.k).all c.fieldOk&&(c.bare (fieldsOf c.k)).eqB c)
def OW (w:List UInt8)(l:List (List UInt8)):List UInt8:=Lib.join (w::l) [32]
def bT.line (c:bT):List UInt8:=OW (cP c.k) ((fieldsOf c.k).map c.fieldText)
def abH (c:bT):List Nat->List (List UInt8)->bT
 |f::fs,s::l=>abH (c.take f s) fs l
 |_,_=>c
theorem OX (n:Nat)(h:n<16):eP (mo n)=n:=by
 rcases(by omega:n=0\/n=1\/n=2\/n=3\/n=4\/n=5\/n=6\/n=7\/n=8\/n=9\/n=10\/n=11\/n=12\/n=13\/n=14\/n=15)with h|h|h|h|h|h|h|h|h|h|h|h|h|h|h|h<;>subst h<;>decide
theorem KQ (b:UInt8):oG (16*((b.toNat/16:Nat):Int)+((b.toNat%16:Nat):Int))=b:=by
 have hb:=b.toNat_lt;have e:(16*((b.toNat/16:Nat):Int)+((b.toNat%16:Nat):Int))=(b.toNat:Int):=by omega
 rw[e,oG];rw[show((b.toNat:Int)%256).toNat=b.toNat by omega];simp
theorem SG (d:List UInt8):br eP (iq d)=d:=by
 induction d with
 |nil=>rfl
 |cons b d ih=>
  show br eP (mo (b.toNat/16)::mo (b.toNat%16)::iq d)=_;have hb:=b.toNat_lt;rw[br,OX _ (by omega),OX _ (by omega),KQ,ih]
theorem sM (d:List UInt8):(iq d).length=2*d.length:=by
 induction d with
 |nil=>rfl
 |cons b d ih=>
  show(mo (b.toNat/16)::mo (b.toNat%16)::iq d).length=_;simp[ih];omega
theorem zj (n:Nat)(h:n<16):(mo n)≠32:=by
 rcases(by omega:n=0\/n=1\/n=2\/n=3\/n=4\/n=5\/n=6\/n=7\/n=8\/n=9\/n=10\/n=11\/n=12\/n=13\/n=14\/n=15)with h|h|h|h|h|h|h|h|h|h|h|h|h|h|h|h<;>subst h<;>decide
theorem OY (d:List UInt8):(32:UInt8)∉iq d:=by
 induction d with
 |nil=>simp[iq]
 |cons b d ih=>
  have hb:=b.toNat_lt;show(32:UInt8)∉mo (b.toNat/16)::mo (b.toNat%16)::iq d;have h1:=zj (b.toNat/16) (by omega);have h2:=zj (b.toNat%16) (by omega);simp only[at9,not_or];exact⟨fun e=>h1 e.symm,fun e=>h2 e.symm,ih⟩
theorem OZ (d:List UInt8):(32:UInt8)∉rB d:=by
 unfold rB;split
 ·decide
 ·exact OY d
theorem tP {c:UInt8}(h:ip c=true):c≠32/\c≠47:=by
 constructor<;>(rintro rfl;revert h;decide)
theorem Jn {s:List UInt8}(h:aH s=true):(32:UInt8)∉s/\(47:UInt8)∉s:=by
 simp only[aH,at2,at3]at h;exact⟨fun hc=>(tP (h.1.1.1.1 _ hc)).1 rfl,fun hc=>(tP (h.1.1.1.1 _ hc)).2 rfl⟩
theorem iT {s:List UInt8}{l:List (List UInt8)}(h:bd s=some l):∃ r,s=47::r/\((r=[]/\l=[])\/(r≠[]/\l=jM 47 r/\l.length<=8/\l.all aH=true)):=by
 unfold bd at h;split at h
 ·rename_i r
  refine⟨r,rfl,?_⟩;split at h
  ·rename_i hr
   exact .inl ⟨hr,(auR h).symm⟩
  ·rename_i hr
   split at h
   ·rename_i hp
    obtain rfl:=auR h;exact .inr ⟨hr,rfl,hp⟩
   ·cases h
 ·cases h
theorem Jo {s:List UInt8}(h:(bd s).isSome=true):(32:UInt8)∉s:=by
 obtain⟨l,hl⟩:=Option.isSome_iff_exists.1 h;obtain⟨r,rfl,h1|⟨_,rfl,_,h2⟩⟩:=iT hl
 ·obtain⟨rfl,_⟩:=h1;decide
 ·have e:=vy 47 r;intro hc;have hr:(32:UInt8)∈r:=by
   rcases at9.1 hc with h|h
   ·exact absurd h (by decide)
   ·exact h
  rw[<-e]at hr;have key:∀(xs:List (List UInt8)),(∀ x∈xs,(32:UInt8)∉x)->(32:UInt8)∉[(47:UInt8)].intercalate xs:=by
   intro xs
   induction xs with
   |nil=>intro _ hm;simp[List.intercalate]at hm
   |cons x xs ih=>
    intro hx hm
    cases xs with
    |nil=>simp[List.intercalate]at hm;exact hx x (by simp) hm
    |cons y ys=>
     rw[show [(47:UInt8)].intercalate (x::y::ys)=x++47::[(47:UInt8)].intercalate (y::ys) by simp[List.intercalate]]at hm;rcases auP.1 hm with hm|hm
     ·exact hx x (by simp) hm
     ·rcases at9.1 hm with hm|hm
      ·exact absurd hm (by decide)
      ·exact ih (fun z hz=>hx z (by simp[hz])) hm
  refine key _ (fun x hx=>?_) hr;exact(Jn (at3.1 h2 x hx)).1
theorem X9 {c:bT}(h:c.k<9):c.kind=(c.k:Int):=by
 unfold bT.k at*;split at h
 ·rename_i hk;rw[atP hk];omega
 ·omega
theorem oH {c:bT}(h:c.ok=true):c.k<9/\(∀ f∈fieldsOf c.k,c.fieldOk f=true)/\c.bare (fieldsOf c.k)=c:=by
 simp only[bT.ok,at2,aua,at3]at h;exact⟨h.1,h.2.1,bT.eqB_iff.1 h.2.2⟩
theorem TB (k:Nat):(32:UInt8)∉cP k:=by
 rcases(by omega:k=0\/k=1\/k=2\/k=3\/k=4\/k=5\/k=6\/k=7\/k=8\/9<=k)with h|h|h|h|h|h|h|h|h|h
 all_goals first|(subst h;decide)|skip
 rw[show cP k=[]from by unfold cP;split<;>first|omega|rfl];simp
theorem O0 {c:bT}{f:Nat}(h:c.fieldOk f=true):(32:UInt8)∉c.fieldText f:=by
 unfold bT.fieldOk at h;split at h
 ·exact Jo h
 ·exact Jo h
 ·simp only[at2,aua]at h;exact fun hc=>by have:=FW c.pos h.1 32 hc;simp at this
 ·exact OZ _
 ·rename_i h1 h2 h3 h4
  rw[show c.fieldText f=c.path from by unfold bT.fieldText;split<;>first|rfl|(exfalso;first|exact h2 rfl|exact h3 rfl|exact h4 rfl)];exact(Jn h).1
theorem F8 (xs:List (List UInt8))(c:UInt8):Lib.join xs [c]=[c].intercalate xs:=by
 simp[Lib.join]
theorem Ga {c:bT}(h:c.ok=true):jM 32 c.line=cP c.k::(fieldsOf c.k).map c.fieldText:=by
 obtain⟨_,h2,_⟩:=oH h;rw[bT.line,OW,F8];refine Cs 32 _ (by simp) (fun x hx=>?_);rcases at9.1 hx with rfl|hx
 ·exact TB _
 ·obtain⟨f,hf,rfl⟩:=aui.1 hx;exact O0 (h2 f hf)
end
end Go.Proofs.YtkghpdcloaiflaaGreatDoor
