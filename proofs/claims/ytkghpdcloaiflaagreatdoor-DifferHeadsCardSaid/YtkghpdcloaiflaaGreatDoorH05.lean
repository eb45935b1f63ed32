import Derived.Test.YtkghpdcloaiflaaGreatDoorH04
import Derived.Deep.Upon
import Derived.Lib.Builder
import Derived.Lib.AppendStr
import Derived.Laws.Externs
set_option maxHeartbeats 2000000
set_option maxRecDepth 100000
namespace Go.Proofs.YtkghpdcloaiflaaGreatDoor
open _root_.Go.Proofs.Tryz
variable {F S:Nat->Prop}{P:Program}{b base bytes mb n p sb sz xb:Nat}{keep:List UInt8}{lo:List (Int×List UInt8)}{ov v z:Value}{st:Int}{w w' w0:World}{xs:List Value}
section
open Go.RowKit Go.Sort Go.Lib
theorem Lj (h:ai S w0 w)(os:Array Obj):ai S w0 (grow w os):=
 ⟨h.os,h.tape,h.output,by have:=h.size;simp[grow];omega,λk hk hS=>by
  rw[<-h.block k hk hS];show(w.heap++os)[k]?=_;rw[Array.getElem?_append_left (awg hk h.size)]⟩
theorem uF (h:ai S w0 w)(e:TypeId)(s:ByteArray):ai S w0 (Lib.bytesWorld w e s):=by
 have hs:=h.size;have h1:ai S w0 (w.drew.alloc (.cells (bytesCells w e s) e)):=h.drew.alloc _;refine⟨h1.os,h1.tape,h1.output,?_,λk hk hS=>?_⟩
 ·have:=h1.size;simpa[Lib.bytesWorld,World.freeze]using this
 ·rw[<-h1.block k hk hS];show(Array.modify _ _ _)[k]?=_;rw[Array.getElem?_modify,awf (by intro e;have e2:w.heap.size=k:=e;omega)]
theorem C9 (n:Int)(h0:-9223372036854775808<=n)(h1:n<=9223372036854775807)(w:World)(he:yK w):
  Calls prog 199 #[.int .i64 n] w λe w'=>e=.returned (.string ⟨(Lib.itoa n).toArray⟩)/\af w w':=
 (Tryz.strconv_Itoa n h0 h1 w he.pow).mono λ_ _ ⟨a,k,os,b⟩=>⟨a,by subst b;exact Lj ((ai.refl _ w).drewN k) os⟩
def tZ (l:List UInt8):Int:=match Lib.atoiAll l with
 | .ok v=>v
 | .range=>Lib.atoiSat l
 |_=>0
theorem Pm (l:List UInt8)(hl:l.length<=140737488355328)(w:World)(he:yK w):
  Calls prog 201 #[.string ⟨l.toArray⟩] w λe w'=>(∃ x,e=.returned (.tuple #[.int .i64 (tZ l),x]))/\af w w':=by
 have cJ:({ data:=l.toArray }:ByteArray).size=l.length:=by simp[ByteArray.size]
 cases h:Lib.atoiAll l with
 |ok v=>
  have ev:tZ l=v:=by simp[tZ,h]
  rw[ev];refine(Tryz.strconv_Atoi_ok ⟨l.toArray⟩ (by rw[cJ];omega) v h w).mono λe w' ⟨a,b⟩=>⟨⟨_,a⟩,?_⟩
  rcases b with rfl|⟨t,rfl⟩
  ·exact ai.refl _ _
  ·exact uF (ai.refl _ w) _ _
 |range=>
  have ev:tZ l=Lib.atoiSat l:=by simp[tZ,h]
  rw[ev];obtain⟨tp,p,hv⟩:=he.rng;exact(Tryz.strconv_Atoi_range_var ⟨l.toArray⟩ (by rw[cJ];omega) h tp p w hv).mono λe w' ⟨N,a,_,_,b⟩=>⟨⟨_,a⟩,ai.ofBelow b⟩
 |_=>
  have ev:tZ l=0:=by simp[tZ,h]
  rw[ev];obtain⟨tp,p,hv⟩:=he.syn;exact(Any.strconv_Atoi_syntax_var Tryz.laysC172 ⟨l.toArray⟩ (by rw[cJ];omega) h tp p w hv).mono λe w' ⟨N,a,_,_,b⟩=>⟨⟨_,a⟩,ai.ofBelow b⟩
def aI (xs:List (List UInt8)):Array Value:=(xs.map λx=>Value.string ⟨x.toArray⟩).toArray
@[go_sem] theorem XL (xs:List (List UInt8)):(aI xs).size=xs.length:=by simp[aI]
theorem GD (xs:List (List UInt8))(i:Nat):(aI xs)[i]?=xs[i]?.map λx=>Value.string ⟨x.toArray⟩:=by simp[aI]
theorem zv (c:UInt8)(l:List UInt8)(hl:l.length<4294967281)(w:World)(he:yK w):
  Calls prog 249 #[.string ⟨l.toArray⟩,.string ⟨#[c]⟩] w λe w'=>e=.returned (.slice (some ⟨w.heap.size,0,none⟩) (jN c l).length (jN c l).length)/\w'=w.alloc (.cells (aI (jN c l)) 9):=by
 have h:=Tryz.strings_Split_shaped ⟨l.toArray⟩ ⟨#[c]⟩ w he.shaped (by simpa[ByteArray.size]using hl) (by simp[ByteArray.size]);have e0:=GC c l;have e1:=vK c l;refine h.mono λe w' ⟨a,b⟩=>⟨?_,?_⟩
 ·rw[a,<-e0]
 ·rw[b,e1,aI,awv];rfl
theorem pY (s p:List UInt8)(w:World):
  Calls prog 248 #[.string ⟨s.toArray⟩,.string ⟨p.toArray⟩] w λe w'=>e=.returned (.tuple #[.string ⟨(Lib.trimPrefix s p).toArray⟩,.bool (Lib.hasPrefix s p)])/\w'=w:=
 Tryz.strings_CutPrefix ⟨s.toArray⟩ ⟨p.toArray⟩ w
abbrev io (w:World)(base:Nat)(v:Value)(xs:List (List UInt8)):Prop:=w.ownsRow base 9 1 v xs.length (aI xs).toList
theorem Pn (c:UInt8)(xs:List (List UInt8))(base:Nat)(v:Value)(w:World)(h:io w base v xs)(hn:xs.length<=140737488355328)(bt:(Lib.join xs [c]).length<=140737488355328):
  Calls prog 122 #[v,.string ⟨#[c]⟩] w λe w'=>e=.returned (.string ⟨(Lib.join xs [c]).toArray⟩)/\af w w':=by
 obtain⟨h1,h2⟩:=h;rcases h2 with⟨rfl,h3⟩|⟨g,cap,dW,rfl,hb,hg,Xn,hm,cJ,BZ⟩
 ·obtain rfl:=awD.1 h3;exact(Tryz.strings_Join_none none 0 ⟨#[c]⟩ w).mono λe w' ⟨a,b⟩=>⟨a,b▸ai.refl _ _⟩
 ·have e0:(xs.map λx=>(⟨x.toArray⟩:ByteArray)).length=xs.length:=by simp
  have e1:(xs.map λx=>(⟨x.toArray⟩:ByteArray)).map (·.data.toList)=xs:=(awv).trans (List.map_id xs);have h:=Tryz.strings_Join g 0 cap (xs.map λx=>(⟨x.toArray⟩:ByteArray)) ⟨#[c]⟩ w (λj x hx=>by
   rw[awR];simp only[aw5,axg]at hx;obtain⟨y,hy,rfl⟩:=hx;have aP:=(awk.1 hy).1;have hc:dW.toList[j]?=some (Value.string ⟨y.toArray⟩):=by
    have:(dW.toList.take (xs.length*1))[j]?=some (Value.string ⟨y.toArray⟩):=by rw[BZ];simp[aI,hy]
    rwa [List.getElem?_take,awd J]at this
   have:w.cell? ⟨g,j,none⟩=dW[j]?:=by simp[World.cell?,hg]
   rw[this,<-Array.getElem?_toList];exact hc) (sL hg) (by rw[e0];exact hn) (by rw[e0];exact Xn) (by rw[e1];exact bt)
  rw[e0,e1]at h;exact h.mono λe w' ⟨a,b⟩=>⟨a,ai.ofBelow b⟩
theorem kv {ts te:TypeId}(hs:P.underlying ts=some (.slice te))(hi:(P.info? te).map (λi=>(i.zero,i.size,i.bytes))=some (some z,1,bytes))(hz:z.cells.size=1)(base:Nat)(v:Value)(n:Nat)(xs:List Value)(w w0:World)
  (bC:w.ownsRow base te 1 v n xs) (news:List Value) (h1:∀ u∈news,u.oneCell'=true) (hn:n+news.length<=maxLen) (Oj:(n+news.length)*bytes<=140737488355328) (FB:base<=w.heap.size) (h0:af w0 w) (ic:w0.heap.size<=base):
  ∃ v' w',(Builtin.append_ #[ts,ts] ts #[v,.slice (some ⟨w.heap.size,0,none⟩) news.length news.length]).run P (w.alloc (.cells news.toArray te))=.ok v' w'/\w'.ownsRow base te 1 v' (n+news.length) (xs++news)/\af w0 w'/\ai (λb=>base<=b) w w':=by
 obtain⟨i0,hi,iK,lX,mJ⟩:=awj hi;obtain⟨v',w',h1,h2,h3,_⟩:=run_append_own (P:=P) (w.alloc (.cells news.toArray te)) base ts ts te i0 z 1 bytes hs hi iK lX mJ hz dc7 v n xs (bC.alloc _) ⟨w.heap.size,0,none⟩ news.length news.length news sp7 (λj u hu=>by
  rw[ij,awR,World.cell?_alloc_at _ _ _ _ rfl];simpa using hu) h1 (by exact hn) Oj (by simp;omega)
 exact⟨v',w',h1,h2,ai.grown (h0.alloc _) h3 (λk hk=>.inr (av2 ic (bC.lt k hk).1)),ai.grown ((ai.refl _ w).alloc _) h3 (λk hk=>.inl (bC.lt k hk).1)⟩
end
section
open Go.RowKit
theorem vM:(prog.info? 9).map (λi=>(i.zero,i.size,i.bytes))=some (some (.string ⟨#[]⟩),1,16):=kr7
theorem ip {t:TypeId}(h:w.ownsRow base t 1 v n xs)(k:af w w'):w'.ownsRow base t 1 v n xs:=by
 obtain⟨h1,h2⟩:=h;refine⟨h1,?_⟩;rcases h2 with h2|⟨g,cap,dW,a,b,c,d⟩
 ·exact .inl h2
 ·exact .inr ⟨g,cap,dW,a,b,k.obj c id,d⟩
theorem yL {xs ys:List (List UInt8)}(h:w.ownsRow base 9 1 v (xs.length+(aI ys).toList.length) ((aI xs).toList++(aI ys).toList)):io w base v (xs++ys):=by
 have e:(aI (xs++ys)).toList=(aI xs).toList++(aI ys).toList:=by simp[aI]
 have e2:(xs++ys).length=xs.length+(aI ys).toList.length:=by simp[aI]
 unfold io;rw[e,e2];exact h
theorem aV (h:b=w.heap.size)(c:Array Value)(t:TypeId):World.blk (w.alloc (.cells c t)) b c t:=h▸av w c t
def eg (w:World)(v:Value)(xs:List Value):Prop:=
 ∃ a cap,v=.slice a xs.length cap/\∀ j x,xs[j]?=some x->∃ b o,a=some ⟨b,o,none⟩/\w.cell? ⟨b,o+j,none⟩=some x
theorem bh {t:TypeId}(h:w.ownsRow base t 1 v n xs):eg w v xs:=by
 obtain⟨h1,h2⟩:=h;have hn:n=xs.length:=J
 rcases h2 with⟨rfl,h3⟩|⟨g,cap,dW,rfl,hb,hg,Xn,hm,cJ,BZ⟩
 ·obtain rfl:xs=[]:=awD.1 J;exact⟨none,0,rfl,λj x h=>by simp at h⟩
 ·refine⟨some ⟨g,0,none⟩,cap,by rw[hn],λj x hx=>⟨g,0,rfl,?_⟩⟩;have aP:=(awk.1 hx).1;rw[awR];have hc:dW.toList[j]?=some x:=by
   rw[<-BZ,List.getElem?_take]at hx;split at hx
   ·exact hx
   ·cases hx
  simp[World.cell?,hg,<-Array.getElem?_toList,hc]
theorem AT {c:Array Value}{t:TypeId}(cap:Nat)(h:World.blk w b c t):eg w (.slice (some ⟨b,0,none⟩) c.size cap) c.toList:=
 ⟨_,_,rfl,λj x hx=>⟨b,0,rfl,by rw[awR,aa h];simpa using hx⟩⟩
def uG (l:List (List UInt8)):List Value:=l.map λx=>Value.string ⟨x.toArray⟩
@[simp] theorem oq (l:List (List UInt8)):(uG l).length=l.length:=by simp[uG]
theorem JW {t:TypeId}(h:w.ownsRow base t 1 v n xs)(k:ai S w w')(hS:∀ b,base<=b->¬ S b):w'.ownsRow base t 1 v n xs:=by
 obtain⟨h1,h2⟩:=h;refine⟨h1,?_⟩;rcases h2 with h2|⟨g,cap,dW,a,b,c,d⟩
 ·exact .inl h2
 ·exact .inr ⟨g,cap,dW,a,b,k.obj c (hS g b),d⟩
theorem t8 (l:List (List UInt8)):(aI l).toList=uG l:=by simp[aI,uG]
theorem Db {xs:List (List UInt8)}(h:io w base v xs):eg w v (uG xs):=by
 have h1:=bh h;rw[t8]at h1;exact h1
theorem rH:(prog.info? 176).map (·.size)=some 2:=kr7
theorem Po:liesAt prog prog.depth 176 (2/prog.cellsOf 176) 0 176 1=true:=kr7
theorem jT:(prog.info? 5).map (λi=>(i.zero,i.size,i.bytes))=some (some (.int .u8 0),1,1):=kr7
theorem Pp:(176:TypeId)≠5:=by decide
abbrev cX (B b:Nat)(l:List UInt8)(w:World):Prop:=Lib.IsBuilder 176 5 B b (Lib.byteCells l) w
theorem ou (b:Nat)(w:World)(h0:w.cell? ⟨b,0,none⟩=some (.pointer (some ⟨b,0,none⟩))):
  Calls prog 187 #[.pointer (some ⟨b,0,none⟩)] w λe w'=>e=.returned (.tuple #[])/\w'=w:=by
 obtain⟨j,hj,_⟩:=axg.1 rH;go_enter func187,ntmps187;go_wp2_with fail;rw[Lib.run_neq_ptr_same w _ underlying174 hj];go_wp2_with fail;go_end0;exact⟨rfl,rfl⟩
theorem nN (b:Nat)(w:World)(h0:w.cell? ⟨b,0,none⟩=some (.pointer none))(hsh:w.shape? b=some (176,2))(hfz:w.frozen? ⟨b,0,none⟩=false):
  Calls prog 187 #[.pointer (some ⟨b,0,none⟩)] w λe w'=>e=.returned (.tuple #[])/\w'=w.setCell ⟨b,0,none⟩ (.pointer (some ⟨b,0,none⟩)):=by
 obtain⟨j,hj,hjs⟩:=axg.1 rH;go_enter func187,ntmps187;go_wp2_with fail;rw[Lib.run_to_unsafe w ⟨b,0,none⟩ underlying174 underlying310 hj (by rw[hjs];decide) hsh (Nat.zero_lt_succ 1)];simp only[Result.andThen];rw[Oper.upon_value];go_wp2_with fail;rw[axn func241 kr7 kr7 kr7 (e:=Extern.AbiNoEscape.same) kr7];rw[Lib.run_noEscape];simp only[Result.andThen];rw[Oper.upon_value];go_wp2_with fail;rw[Lib.run_from_unsafe w ⟨b,0,none⟩ underlying310 underlying174 hj hsh Po];simp only[Result.andThen];rw[Oper.upon_value];go_wp2_with fail;go_end0;exact⟨rfl,rfl⟩
theorem Lk (B b:Nat)(bs:List Value)(w:World)(h:Lib.IsBuilder 176 5 B b bs w):
  Calls prog 187 #[.pointer (some ⟨b,0,none⟩)] w λe w'=>e=.returned (.tuple #[])/\(Lib.BuilderAt 176 5 B b (.pointer (some ⟨b,0,none⟩)) bs w'/\Below B w w'):=by
 rcases h with h|h
 ·refine(nN b w h.cell0 h.shape h.frozen0).mono ?_;rintro e w' ⟨rfl,rfl⟩;exact⟨rfl,h.used _,(Below.refl B w).setCell (p:=⟨b,0,none⟩) h.1 _⟩
 ·refine(ou b w h.cell0).mono ?_;rintro e w' ⟨rfl,rfl⟩;exact⟨rfl,h,Below.refl B _⟩
theorem vN (l:List UInt8)(c:UInt8):Lib.byteCells (l++[c])=Lib.byteCells l++[.int .u8 (c.toNat:Int)]:=by simp[Lib.byteCells]
theorem vO (B b:Nat)(l:List UInt8)(c:UInt8)(w:World)(h:cX B b l w)(bt:l.length+1<=140737488355328)(hBw:B<=w.heap.size):
  Calls prog 251 #[.pointer (some ⟨b,0,none⟩),.int .u8 (c.toNat:Int)] w λe w'=>e=.returned .nilIface/\cX B b (l++[c]) w'/\Below B w w':=by
 unfold cX at*;rw[vN];have mL:(Lib.byteCells l).length=l.length:=Lib.byteCells_length l;generalize Lib.byteCells l=bs at*;rw[<-mL]at bt;clear mL;obtain⟨i0,hi,iK,lX,mJ⟩:=awj jT;go_enter func251,ntmps251;go_wp2_with fail;refine(Lk B b bs _ h).mono ?_;rintro e w1 ⟨rfl,h1,hb1⟩;obtain⟨hB,v,lY,bC,eG⟩:=h1;have c0:w1.cell? ⟨b,0,none⟩=some (.pointer (some ⟨b,0,none⟩)):=by rw[Lib.cell_of_heap lY];rfl
 have c1:w1.cell? ⟨b,1,none⟩=some v:=by rw[Lib.cell_of_heap lY];rfl
 go_wp2_with (at_builtin;refine wpList_append_own _ rfl _ _ 131 rfl B 5 i0 (.int .u8 0) 1 1 underlying131 hi iK lX mJ rfl dc7 _ _ _ rfl (bC.alloc _) ⟨w1.heap.size,0,none⟩ 1 1 [.int .u8 (c.toNat:Int)] rfl rfl ?c1 ?c2 ?c3 ?c4 ?c5 ?_)
 case c1=>
  intro j u hj
  match j,hj with
  |0,hj=>simp at hj;subst hj;simp[Addr.add]
 case c2=>intro u hu;simp at hu;subst hu;rfl
 case c3=>unfold maxLen;omega
 case c4=>omega
 case c5=>have:=hb1.size;simp;omega
 intro v' w2 nV qq _;have aP:b<w1.heap.size:=by
  rcases Nat.lt_or_ge b w1.heap.size with h'|h'
  ·exact h'
  ·simp[Array.getElem?_eq_none h']at lY
 have fh:w2.heap[b]?=some (.cells #[.pointer (some ⟨b,0,none⟩),v] 176 (0,0)):=by
  rw[qq.block b (by simp;omega) (λe=>eG e.symm),Lib.alloc_old w1 _ b aP];exact lY
 have d0:w2.cell? ⟨b,0,none⟩=some (.pointer (some ⟨b,0,none⟩)):=by rw[Lib.cell_of_heap fh];rfl
 have d1:w2.cell? ⟨b,1,none⟩=some v:=by rw[Lib.cell_of_heap fh];rfl
 have f1:w2.frozen? ⟨b,1,none⟩=false:=Lib.frozen_of_heap fh 1;obtain⟨g,cap,rfl⟩:∃ g cap,v'=.slice (some ⟨g,0,none⟩) (bs.length+1) cap:=by
  rcases nV.2 with⟨_,h0⟩|⟨g,cap,dW,hv,_⟩
  ·omega
  ·exact⟨g,cap,hv⟩
 obtain⟨Ty,Hgr,Hb1,Hb2,TE⟩:=K5 nV qq hb1 fh bC;clear nV qq hb1 fh bC lY h c0 c1 hi iK lX mJ;go_wp2;go_ret;refine⟨rfl,.inr ?_,?_⟩
 ·exact Lib.BuilderAt.put (T:=176) (e:=5) hB Hb2.o (bs':=bs++[.int .u8 (c.toNat:Int)]) (by simpa using Ty.o) Pp
 ·exact((Hb1.alloc (by have:=Hb1.size;omega) _).grown Hgr.o (by have:=Hb1.size;simp;omega) (λk hk=>(TE.lt k hk).1)).setCell (p:=⟨b,1,none⟩) hB _
theorem gF (B b:Nat)(l:List UInt8)(w:World)(h:cX B b l w)(hBw:B<=w.heap.size):
  Calls prog 112 #[.pointer (some ⟨b,0,none⟩)] w λe w'=>e=.returned (.string ⟨l.toArray⟩)/\Below B w w':=Tryz.Builder_String_any B b l w h hBw
theorem mS (w:World):cX w.heap.size w.heap.size [] (w.alloc (.cells #[.pointer none,.slice none 0 0] 176)):=Lib.fresh_isBuilder _ _ _
theorem iQ:(prog.info? 3).map (λi=>(i.zero,i.size,i.bytes))=some (some (.int .i64 0),1,8):=kr7
def bu (l:List Int):List Value:=l.map (Value.int .i64)
@[simp] theorem fK (l:List Int):(bu l).length=l.length:=by simp[bu]
abbrev aO (w:World)(base:Nat)(v:Value)(l:List Int):Prop:=w.ownsRow base 3 1 v l.length (bu l)
abbrev bR (w:World)(base:Nat)(v:Value)(l:List UInt8):Prop:=w.ownsRow base 5 1 v l.length (gg l)
theorem eS {Yx:Nat}{t:TypeId}(h:w.ownsRow base t sz v n xs)(hb:Yx<=base):w.ownsRow Yx t sz v n xs:=by
 obtain⟨h1,h2⟩:=h;refine⟨h1,?_⟩;rcases h2 with h2|⟨g,cap,dW,a,b,c,d⟩
 ·exact .inl h2
 ·exact .inr ⟨g,cap,dW,a,av2 hb b,c,d⟩
theorem j6 {l:List Int}{c:Int}(h:w.ownsRow base 3 1 v (l.length+[Value.int .i64 c].length) (bu l++[.int .i64 c])):aO w base v (l++[c]):=by
 have e:bu (l++[c])=bu l++[.int .i64 c]:=by simp[bu]
 have e2:(l++[c]).length=l.length+[Value.int .i64 c].length:=by simp
 unfold aO;rw[e,e2];exact h
theorem ls {l:List UInt8}(h:bR w base v l):(convert 131 9 v).run prog w=.ok (.string ⟨l.toArray⟩) w:=by
 rcases h.2 with⟨rfl,h3⟩|⟨g,cap,dW,rfl,hb,hg,Xn,hm,cJ,BZ⟩
 ·obtain rfl:=awD.1 h3;rw[run_convert_bytes_string w _ _ 5 _ 0 0 underlying131 underlying5 underlying9];simp[Conv.bytesToString];rfl
 ·refine pq w _ _ 5 g 0 _ cap l underlying131 underlying5 underlying9 rfl (λj hj=>?_);rw[awR,<-BZ,List.getElem?_take,awd J];simp[World.cell?,hg]
def fy (F:Nat->Prop)(w w':World):Prop:=∀ b,F b->b<w.heap.size->w'.heap[b]?=w.heap[b]?
theorem ai.on (m:ai S w w')(h:∀ b,F b->¬ S b):fy F w w':=λb hb hl=>m.block b hl (h b hb)
abbrev JX (w:World)(b:Nat)(l:List (Int×List UInt8)):Prop:=eY prog 3 (plainElem prog 9) C4 w b l
abbrev JY (w:World)(b:Nat)(l:List (Int×Bool)):Prop:=eY prog 3 (plainElem prog 4) Pi w b l
theorem vP:nM prog 9 (plainElem prog 9) C4 (λs=>.string ⟨s.toArray⟩) (λs=>s.length<=140737488355328) []:=Pj underlying9 (λ_=>kr7)
theorem Pq:nM prog 4 (plainElem prog 4) Pi Value.bool (λ_=>True) false:=Lg underlying4 (λ_=>kr7)
def ow (sb mb xb:Nat)(ov:Value)(st:Int)(keep:List UInt8)(d:Dk):Array Value:=
 #[.slice (some ⟨sb,0,none⟩) d.size d.size,.map (some mb),ov,.map (some xb),.int .i64 st,.int .i64 0,.string ⟨keep.toArray⟩,.bool false]
structure nO (w:World)(p sb mb xb:Nat)(ov:Value)(st:Int)(keep:List UInt8)(lo:List (Int×List UInt8))(d:Dk)(F:Nat->Prop):Prop where
 own:World.blk w p (ow sb mb xb ov st keep d) 155
 stays:World.blk w sb (aI d.stays) 9
 loose:JX w mb lo
 bad:JY w xb []
 order:w.ownsRow 0 3 1 ov d.lo.length (bu (d.lo.map λx=>(x.1:Int)))
 ok:yH d
 get:∀ n:Nat,bM (n:Int) lo=ec d.lo n
 keys:∀ x∈lo,∃ n:Nat,x.1=(n:Int)/\(ec d.lo n).isSome=true
 many:lo.length<=d.lo.length
 steps:-9223372036854775808<=st/\st<=9223372036854775807
 fp:F p
 fs:F sb
 fm:F mb
 fx:F xb
 fo:∀ b,ov.ownBlock=some b->F b
 apart:p≠sb/\p≠mb/\p≠xb/\sb≠mb/\sb≠xb/\mb≠xb
 aparto:∀ b,ov.ownBlock=some b->b≠p/\b≠sb/\b≠mb/\b≠xb
 lt:∀ b,F b->b<w.heap.size
def bE (w:World)(p:Nat)(d:Dk)(F:Nat->Prop):Prop:=∃ sb mb xb ov st keep lo,nO w p sb mb xb ov st keep lo d F
theorem aA {t:TypeId}(h:w.ownsRow base t sz v n xs)(k:∀ b,v.ownBlock=some b->w'.heap[b]?=w.heap[b]?):w'.ownsRow base t sz v n xs:=by
 obtain⟨h1,h2⟩:=h;refine⟨h1,?_⟩;rcases h2 with h2|⟨g,cap,dW,rfl,h3,h4,h5⟩
 ·exact .inl h2
 ·exact .inr ⟨g,cap,dW,rfl,h3,(k g rfl).trans h4,h5⟩
theorem nO.same {d:Dk}(h:nO w p sb mb xb ov st keep lo d F)(m:fy F w w')(hs:w.heap.size<=w'.heap.size):nO w' p sb mb xb ov st keep lo d F where
 own:=(m p h.fp (h.lt p h.fp)).trans h.own
 stays:=(m sb h.fs (h.lt sb h.fs)).trans h.stays
 loose:=h.loose.same (m mb h.fm (h.lt mb h.fm))
 bad:=h.bad.same (m xb h.fx (h.lt xb h.fx))
 order:=aA h.order λb hb=>m b (h.fo b hb) (h.lt b (h.fo b hb))
 ok:=h.ok
 get:=h.get
 keys:=h.keys
 many:=h.many
 steps:=h.steps
 fp:=h.fp
 fs:=h.fs
 fm:=h.fm
 fx:=h.fx
 fo:=h.fo
 apart:=h.apart
 aparto:=h.aparto
 lt b hb:=awg (h.lt b hb) hs
theorem bE.same {d:Dk}(h:bE w p d F)(m:fy F w w')(hs:w.heap.size<=w'.heap.size):bE w' p d F:=by
 obtain⟨sb,mb,xb,ov,st,keep,lo,h⟩:=h;exact⟨sb,mb,xb,ov,st,keep,lo,h.same m hs⟩
theorem bE.mod {d:Dk}(h:bE w p d F)(m:ai S w w')(hS:∀ b,F b->¬ S b):bE w' p d F:=h.same (m.on hS) m.size
theorem bE.ok {d:Dk}(h:bE w p d F):yH d:=by obtain⟨sb,mb,xb,ov,st,keep,lo,h⟩:=h;exact h.ok
theorem bE.lt {d:Dk}(h:bE w p d F)(b:Nat)(hb:F b):b<w.heap.size:=by obtain⟨sb,mb,xb,ov,st,keep,lo,h⟩:=h;exact h.lt b hb
theorem nO.stepped {d:Dk}(h:nO w p sb mb xb ov st keep lo d F)(AC:Int)(hs:-9223372036854775808<=AC/\AC<=9223372036854775807):
  nO (w.setCell ⟨p,4,none⟩ (.int .i64 AC)) p sb mb xb ov AC keep lo d F:=by
 have m:ai (λx=>x=p) w (w.setCell ⟨p,4,none⟩ (.int .i64 AC)):=(ai.refl (λx=>x=p) w).setCell (p:=⟨p,4,none⟩) (.inl rfl) _
 exact { own:=ah h.own 4 _,stays:=ab m h.stays (λe=>h.apart.1 e.symm),loose:=h.loose.mod m (λe=>h.apart.2.1 e.symm),bad:=h.bad.mod m (λe=>h.apart.2.2.1 e.symm),
         order:=aA h.order λb hb=>m.block b (h.lt b (h.fo b hb)) (h.aparto b hb).1,ok:=h.ok,get:=h.get,keys:=h.keys,many:=h.many,steps:=hs,fp:=h.fp,fs:=h.fs,fm:=h.fm,fx:=h.fx,fo:=h.fo,apart:=h.apart,aparto:=h.aparto,
         lt:=λb hb=>by have:=h.lt b hb;simpa[go_sem]using this }
theorem jt {d:Dk}(h:bE w p d F):
  Calls prog 96 #[.pointer (some ⟨p,0,none⟩)] w λe w'=>e=.returned (.int .i64 (d.size:Int))/\w'=w:=by
 obtain⟨sb,mb,xb,ov,st,keep,lo,h⟩:=h;have c0:w.cell? ⟨p,0,none⟩=some (.slice (some ⟨sb,0,none⟩) d.size d.size):=aa h.own 0;clear h;go_enter func96,ntmps96
 go_wp2
 go_ret;exact⟨rfl,rfl⟩
theorem Dc {d:Dk}(h:bE w p d F)(n:Nat)(hn:n<d.size):
  Calls prog 186 #[.pointer (some ⟨p,0,none⟩),.int .i64 (n:Int)] w λe w'=>e=.returned (.int .i64 0)/\w'=w:=by
 obtain⟨sb,mb,xb,ov,st,keep,lo,h⟩:=h;have c0:w.cell? ⟨p,0,none⟩=some (.slice (some ⟨sb,0,none⟩) d.size d.size):=aa h.own 0;have c7:w.cell? ⟨p,7,none⟩=some (.bool false):=aa h.own 7;have h1:¬(n:Int)<0:=J
 have h2:¬(d.size:Int)<=(n:Int):=J
 clear h;go_enter func186,ntmps186
 go_wp2
 go_ret;exact⟨rfl,rfl⟩
theorem vQ {d:Dk}(h:bE w p d F):
  Calls prog 222 #[.pointer (some ⟨p,0,none⟩)] w λe w'=>e=.returned (.bool false)/\∃ AC:Int,(-9223372036854775808<=AC/\AC<=9223372036854775807)/\w'=w.setCell ⟨p,4,none⟩ (.int .i64 AC):=by
 obtain⟨sb,mb,xb,ov,st,keep,lo,h⟩:=h;have c4:w.cell? ⟨p,4,none⟩=some (.int .i64 st):=aa h.own 4;have f4:=ae h.own ⟨p,4,none⟩ rfl;have c5:w.cell? ⟨p,5,none⟩=some (.int .i64 0):=aa h.own 5;clear h;go_enter func222,ntmps222
 go_wp2
 go_ret;exact⟨rfl,_,by unfold RowKit.wrap64;omega,rfl⟩
theorem Ll {d:Dk}(h:bE w p d F)(n:Nat)(hn:n<d.size):
  Calls prog 108 #[.pointer (some ⟨p,0,none⟩),.int .i64 (n:Int)] w λe w'=>e=.returned (.tuple #[.string ⟨(d.get n).toArray⟩,.int .i64 0])/\w'=w:=by
 have M:=Z (Dc h n hn);obtain⟨sb,mb,xb,ov,st,keep,lo,h⟩:=h;have hm:=h.ok.many;have cJ:d.size<=16384:=hm;have c0:w.cell? ⟨p,0,none⟩=some (.slice (some ⟨sb,0,none⟩) d.size d.size):=aa h.own 0;have c1:w.cell? ⟨p,1,none⟩=some (.map (some mb)):=aa h.own 1;have c3:w.cell? ⟨p,3,none⟩=some (.map (some xb)):=aa h.own 3;have s0:w.cell? ⟨sb,n,none⟩=some (.string ⟨(d.stays.getD n []).toArray⟩):=by
  rw[aa h.stays n];have:n<d.stays.length:=hn;simp[aI,List.getD,this]
 have l3:=h.bad.look1 (tm:=153) Pq underlying153 underlying3 (n:Int) ⟨by omega,J⟩;have l1:=h.loose.look (tm:=152) vP underlying152 underlying3 (n:Int) ⟨by omega,J⟩;rw[h.get n]at l1;have OZ:(n:Int)<(d.size:Int):=J
 obtain⟨q,hq⟩:∃ q,ec d.lo n=q:=⟨_,rfl⟩
 have Hg:Hid (d.get n=q.getD (d.stays.getD n [])):=Z (by subst hq;unfold Dk.get;cases ec d.lo n<;>rfl);rw[hq]at l1;have h3:(bM (n:Int) ([]:List (Int×Bool))).getD false=false:=rfl;rw[h3]at l3;clear h hm cJ hn hq h3;go_enter func108,ntmps108;go_wp2_with fail;refine M.mono ?_;rintro e w1 ⟨rfl,rfl⟩
 cases q with
 |none=>
  go_wp2
  go_ret2;exact⟨by rw[Hg.o];rfl,rfl⟩
 |some s=>
  go_wp2
  go_ret2;exact⟨by rw[Hg.o];rfl,rfl⟩
theorem Lm {k:Int}{s:List UInt8}{x:Int×List UInt8}(h:x∈ee jS k s lo):x.1=k\/x∈lo:=by
 unfold ee at h;have key:∀(l:List (Int×List UInt8)) y,x∈jH jS y l->x=y\/x∈l:=by
  intro l y
  induction l with
  |nil=>intro h;simp[jH]at h;exact .inl h
  |cons z r ih=>
   intro h;unfold jH at h;split at h
   ·rcases aws.1 h with h|h
    ·exact .inl h
    ·exact .inr h
   ·rcases aws.1 h with h|h
    ·exact .inr (by rw[h];simp)
    ·rcases ih h with h|h
     ·exact .inl h
     ·exact .inr (by simp[h])
 rcases key _ _ h with h|h
 ·exact .inl (by rw[h])
 ·exact .inr ((av1.1 h).1)
theorem Ln {β:Type}(k m:Int)(s:β)(l:List (Int×β))(h:∀ x∈l,x.1≠k):bM m (jH jS (k,s) l)=if m=k then some s else bM m l:=by
 induction l with
 |nil=>
  unfold jH bM;by_cases hm:m=k
  ·simp[hm]
  ·have:¬ k=m:=λe=>hm e.symm;simp[hm,this]
 |cons y r ih=>
  unfold jH;split
  ·unfold bM;by_cases hm:m=k
   ·simp[hm]
   ·have:¬ k=m:=λe=>hm e.symm;simp[hm,this,List.find?_cons]
  ·have ih':=ih (λx hx=>h x (by simp[hx]));unfold bM at ih' ⊢;by_cases hy:y.1=m
   ·have:¬ m=k:=λe=>h y sp7 (hy.trans e);simp[hy,this]
   ·have hb:(y.1==m)=false:=by simp[hy]
    simp only[List.find?_cons,hb];exact ih'
theorem j7 {β:Type}(k m:Int)(s:β)(l:List (Int×β)):bM m (ee jS k s l)=if m=k then some s else bM m l:=by
 unfold ee;rw[Ln _ _ _ _ (by
  intro x hx;unfold iO at hx;have:=(av1.1 hx).2;simpa using this)]
 split
 ·rfl
 ·rename_i hm
  unfold bM iO;rw[List.find?_filter]
  congr 1
  congr 1
  funext x
  by_cases hx:x.1=m
  ·have:¬ x.1=k:=λe=>hm (hx.symm.trans e);simp[hx,hm]
  ·simp[hx]
theorem py {β:Type}(k:Int)(s:β)(l:List (Int×β)):(ee jS k s l).length<=if(bM k l).isSome=true then l.length else l.length+1:=by
 unfold ee;rw[C0];split
 ·rename_i h
  unfold bM at h;have h':(l.find? λp=>p.1==k).isSome=true:=by simpa using h
  rw[List.find?_isSome]at h';obtain⟨x,hx,hk⟩:=h';have:(iO k l).length<l.length:=by
   unfold iO;exact List.length_filter_lt_length_iff_exists.2 ⟨x,hx,by simpa using hk⟩
  omega
 ·have:=vD k l;omega
theorem sR {lo:List (Nat×ay)}{s:ay}:(jq lo n s).length=if(ec lo n).isSome=true then lo.length else lo.length+1:=by
 unfold jq;split<;>simp
theorem vR {lo:List (Nat×ay)}{s:ay}:(jq lo n s).map (·.1)=if(ec lo n).isSome=true then lo.map (·.1)else lo.map (·.1)++[n]:=by
 unfold jq;split
 ·rw[awv];apply aww;intro x _;simp only[Function.comp];split
  ·rename_i hx;simp at hx;simp[hx]
  ·rfl
 ·simp
theorem gQ {ts te:TypeId}(hs:P.underlying ts=some (.slice te))(hi:(P.info? te).map (λi=>(i.zero,i.size,i.bytes))=some (some z,sz,bytes))(hz:z.cells.size=sz)(cJ:0<sz)(base:Nat)(v:Value)(n:Nat)(xs:List Value)(w:World)
  (bC:w.ownsRow base te sz v n xs) (news:List Value) (hl:news.length=sz) (h1:∀ u∈news,u.oneCell'=true) (hn:n+1<=maxLen) (Oj:(n+1)*bytes<=140737488355328) (FB:base<=w.heap.size):
  ∃ v' w',(Builtin.append_ #[ts,ts] ts #[v,.slice (some ⟨w.heap.size,0,none⟩) 1 1]).run P (w.alloc (.cells news.toArray te))=.ok v' w'/\w'.ownsRow base te sz v' (n+1) (xs++news)/\ai (λb=>v.ownBlock=some b) w w'/\(v'.ownBlock=v.ownBlock\/∃ k,v'.ownBlock=some k/\w.heap.size<=k)/\∃ g cap,v'=.slice (some ⟨g,0,none⟩) (n+1) cap:=by
 obtain⟨i0,hi,iK,lX,mJ⟩:=awj hi;obtain⟨v',w',r1,r2,r3,_,r5⟩:=run_append_own_at (P:=P) (w.alloc (.cells news.toArray te)) base ts ts te i0 z sz bytes hs hi iK lX mJ hz cJ v n xs (bC.alloc _) ⟨w.heap.size,0,none⟩ 1 1 news J (λj u hu=>by
  rw[ij,awR,World.cell?_alloc_at _ _ _ _ rfl];simpa using hu) h1 hn Oj (by simp;omega)
 refine⟨v',w',r1,r2,ai.grown ((ai.refl _ w).alloc _) r3 (λk hk=>.inl hk),?_,?_⟩
 ·rcases r5 with r5|r5
  ·exact .inl r5
  ·exact .inr ⟨_,r5,by simp⟩
 ·rcases r2.2 with⟨_,h0⟩|⟨g,cap,_,rfl,_⟩
  ·omega
  ·exact⟨g,cap,rfl⟩
theorem nO.stored {w2:World}{ov':Value}{d:Dk}{F':Nat->Prop}(h:nO w p sb mb xb ov st keep lo d F)(n:Nat)(hn:n<d.size)(s:List UInt8)(hs:s.length=64)
  (own:World.blk w2 p (ow sb mb xb ov' st keep (d.put n s)) 155) (stays:World.blk w2 sb (aI d.stays) 9) (loose:JX w2 mb (ee jS (n:Int) s lo)) (bad:JY w2 xb [])
  (order:w2.ownsRow 0 3 1 ov' (d.put n s).lo.length (bu ((d.put n s).lo.map λx=>(x.1:Int)))) (fo:∀ b,ov'.ownBlock=some b->F' b) (ap:∀ b,ov'.ownBlock=some b->b≠p/\b≠sb/\b≠mb/\b≠xb) (hF:∀ b,F b->F' b) (lt:∀ b,F' b->b<w2.heap.size):
  nO w2 p sb mb xb ov' st keep (ee jS (n:Int) s lo) (d.put n s) F' where
 own:=own
 stays:=stays
 loose:=loose
 bad:=bad
 order:=order
 ok:=Zx h.ok hn hs
 get m:=by
  show _=ec (jq d.lo n s) m;rw[j7,pw,h.get m];have:((m:Int)=(n:Int))↔m=n:=J
  simp only[this]
 keys x hx:=by
  rcases Lm hx with h1|h1
  ·exact⟨n,h1,by show(ec (jq d.lo n s) n).isSome=true;rw[pw,awd rfl];rfl⟩
  ·obtain⟨m,h2,h3⟩:=h.keys x h1;refine⟨m,h2,?_⟩;show(ec (jq d.lo n s) m).isSome=true;rw[pw];split
   ·rfl
   ·exact h3
 many:=by
  show _<=(jq d.lo n s).length;have:=py (n:Int) s lo;rw[sR];rw[h.get n]at this;have h2:=h.many;by_cases hq:(ec d.lo n).isSome=true
  ·rw[awd hq]at this ⊢;omega
  ·rw[awf hq]at this ⊢;omega
 steps:=h.steps
 fp:=hF _ h.fp
 fs:=hF _ h.fs
 fm:=hF _ h.fm
 fx:=hF _ h.fx
 fo:=fo
 apart:=h.apart
 aparto:=ap
 lt:=lt
structure dO (F F':Nat->Prop)(w w':World):Prop where
 mod:ai F w w'
 foot:∀ b,F' b->F b\/w.heap.size<=b
theorem dO.refl (F:Nat->Prop)(w:World):dO F F w w:=⟨ai.refl _ _,λ_ h=>.inl h⟩
theorem dO.trans {G H:Nat->Prop}{a b c:World}(h:dO F G a b)(k:dO G H b c):dO F H a c:=
 ⟨h.mod.trans k.mod λi hi hg=>(h.foot i hg).elim id (λhh=>absurd hi J),λi hi=>(k.foot i hi).elim (λhg=>h.foot i hg) (λhh=>.inr (av2 h.mod.size hh))⟩
theorem kw {d:Dk}(h:bE w p d F)(n:Nat)(hn:n<d.size)(s:List UInt8)(hs:s.length=64):
  Calls prog 152 #[.pointer (some ⟨p,0,none⟩),.int .i64 (n:Int),.string ⟨s.toArray⟩] w λe w'=>e=.returned (.int .i64 0)/\∃ F',bE w' p (d.put n s) F'/\dO F F' w w':=by
 have M:=Z (Dc h n hn);obtain⟨sb,mb,xb,ov,st,keep,lo,h⟩:=h;have H:=Z h;have hm:=h.ok.many;have cJ:d.size<=16384:=hm;have hlo:=Zy h.ok;have CM:=h.many;have c1:w.cell? ⟨p,1,none⟩=some (.map (some mb)):=aa h.own 1;have c2:w.cell? ⟨p,2,none⟩=some ov:=aa h.own 2;have f2:=ae h.own ⟨p,2,none⟩ rfl;have c3:w.cell? ⟨p,3,none⟩=some (.map (some xb)):=aa h.own 3;have hp:=ak h.own;have l3:=h.bad.look1 (tm:=153) Pq underlying153 underlying3 (n:Int) ⟨by omega,J⟩;have l1:=h.loose.look (tm:=152) vP underlying152 underlying3 (n:Int) ⟨by omega,J⟩;rw[h.get n]at l1;have oc:(s.length:Int)=64:=J
 have h3:(bM (n:Int) ([]:List (Int×Bool))).getD false=false:=rfl;rw[h3]at l3;obtain⟨q,hq⟩:∃ q,ec d.lo n=q:=⟨_,rfl⟩
 rw[hq]at l1
 cases q with
 |some s0=>
  obtain⟨w2,hr,eA,dV,le⟩:=h.loose.store (tm:=152) vP underlying152 underlying3 (n:Int) ⟨by omega,J⟩ s J J;have X2:nO w2 p sb mb xb ov st keep (ee jS (n:Int) s lo) (d.put n s) F:=h.stored n hn s hs
   (ab dV h.own h.apart.2.1) (ab dV h.stays h.apart.2.2.2.1) eA (h.bad.mod dV (λe=>h.apart.2.2.2.2.2 e.symm))
   (by
    have e:(d.put n s).lo.length=d.lo.length:=by show(jq d.lo n s).length=_;rw[sR,hq];rfl
    have e2:(d.put n s).lo.map (λx=>(x.1:Int))=d.lo.map (λx=>(x.1:Int)):=by
     have:=vR (lo:=d.lo) (n:=n) (s:=s);rw[hq]at this;have h2:=axi (List.map λ(k:Nat)=>(k:Int)) this;simpa[awv,Function.comp_def,Dk.put]using h2
    rw[e,e2];exact aA h.order λb hb=>dV.block b (h.lt b (h.fo b hb)) (h.aparto b hb).2.2.1)
   h.fo h.aparto (λ_ hb=>hb) (λb hb=>by rw[le];exact h.lt b hb)
  obtain⟨S2,HX,Hm⟩:=K3 (vQ ⟨sb,mb,xb,ov,st,keep,_,X2⟩) X2 dV;have KU:p<w2.heap.size:=by rw[le];exact hp
  clear h hm hn hq h3 dV eA le X2 hs hlo CM;go_enter func152,ntmps152;go_wp2_with fail;refine M.mono ?_;rintro e w1 ⟨rfl,rfl⟩;go_wp2_with fail;refine S2.mono ?_;rintro e w3 ⟨rfl,AC,dh,rfl⟩
  go_wp2
  go_ret;exact⟨rfl,F,⟨sb,mb,xb,ov,AC,keep,_,HX.stepped AC dh⟩,⟨(Hm.mono (λi _ e=>by subst e;exact H.fm)).trans ((ai.refl F _).setCell (p:=⟨p,4,none⟩) (.inl H.fp) _) (λ_ _ h=>h),λb hb=>.inl hb⟩⟩
 |none=>
  obtain⟨v',w1,ha,bC,uZ,ib,g,cap,hv'⟩:=gQ (P:=prog) underlying46 iQ rfl dc7 0 ov _ _ w h.order [.int .i64 (n:Int)] rfl (by intro u hu;simp at hu;subst hu;rfl) (by unfold maxLen;omega) J (awP _);subst hv';obtain⟨W1,UK⟩:∃ W1,W1=w1.setCell ⟨p,2,none⟩ (.slice (some ⟨g,0,none⟩) (d.lo.length+1) cap):=⟨_,rfl⟩
  have mp:ai (λb=>b=p) w1 W1:=by rw[UK];exact(ai.refl (λb=>b=p) w1).setCell (p:=⟨p,2,none⟩) (.inl rfl) _
  have mm:ai (λb=>ov.ownBlock=some b\/b=p) w W1:=(uZ.mono (λ_ _ e=>.inl e)).trans mp (λi _ e=>.inr e);have hg:∀ b,(Value.slice (some ⟨g,0,none⟩) (d.lo.length+1) cap).ownBlock=some b->b≠p/\b≠sb/\b≠mb/\b≠xb:=by
   intro b hb;rcases ib with e|⟨k,e,hk⟩
   ·exact h.aparto b (e▸hb)
   ·have:k=b:=by rw[hb]at e;exact(axa e).symm
    have h1:=h.lt p h.fp;have h2:=h.lt sb h.fs;have h3:=h.lt mb h.fm;have h4:=h.lt xb h.fx;exact⟨by omega,J,J,J⟩
  have yu:World.blk W1 p (ow sb mb xb (.slice (some ⟨g,0,none⟩) (d.lo.length+1) cap) st keep d) 155:=by
   rw[UK];exact ah (ab uZ h.own (λe=>(h.aparto p e).1 rfl)) 2 _
  have nmm:∀ b,b=sb\/b=mb\/b=xb->¬(ov.ownBlock=some b\/b=p):=by
   rintro b hb (e|rfl)
   ·have:=h.aparto b e;rcases hb with rfl|rfl|rfl
    ·exact this.2.1 rfl
    ·exact this.2.2.1 rfl
    ·exact this.2.2.2 rfl
   ·rcases hb with e|e|e
    ·exact h.apart.1 e
    ·exact h.apart.2.1 e
    ·exact h.apart.2.2.1 e
  have SP:World.blk W1 sb (aI d.stays) 9:=ab mm h.stays (nmm sb (.inl rfl));have TH:JX W1 mb lo:=h.loose.mod mm (nmm mb (.inr (.inl rfl)));have ael:JY W1 xb []:=h.bad.mod mm (nmm xb (.inr (.inr rfl)));have Cl:W1.ownsRow 0 3 1 (.slice (some ⟨g,0,none⟩) (d.lo.length+1) cap) (d.lo.length+1) (bu (d.lo.map λx=>(x.1:Int))++[.int .i64 (n:Int)]):=
   aA bC λb hb=>mp.block b (bC.lt b hb).2 (hg b hb).1
  obtain⟨w2,hr,eA,dV,le⟩:=TH.store (tm:=152) vP underlying152 underlying3 (n:Int) ⟨by omega,J⟩ s J J;have X2:nO w2 p sb mb xb (.slice (some ⟨g,0,none⟩) (d.lo.length+1) cap) st keep (ee jS (n:Int) s lo) (d.put n s) (λb=>F b\/(Value.slice (some ⟨g,0,none⟩) (d.lo.length+1) cap).ownBlock=some b):=h.stored n hn s hs
   (ab dV yu h.apart.2.1) (ab dV SP h.apart.2.2.2.1) eA (ael.mod dV (λe=>h.apart.2.2.2.2.2 e.symm))
   (by
    have e:(d.put n s).lo.length=d.lo.length+1:=by show(jq d.lo n s).length=_;rw[sR,hq];rfl
    have e2:bu ((d.put n s).lo.map (λx=>(x.1:Int)))=bu (d.lo.map (λx=>(x.1:Int)))++[.int .i64 (n:Int)]:=by
     have:=vR (lo:=d.lo) (n:=n) (s:=s);rw[hq]at this;have h2:=axi (List.map λ(k:Nat)=>(k:Int)) this;have h3:(d.put n s).lo.map (λx=>(x.1:Int))=d.lo.map (λx=>(x.1:Int))++[(n:Int)]:=by simpa[awv,Function.comp_def,Dk.put]using h2
     rw[h3];simp[bu]
    rw[e,e2];exact aA Cl λb hb=>dV.block b (by have:=(Cl.lt b hb).2;exact this) (hg b hb).2.2.1)
   (λ_ hb=>.inr hb) hg (λ_ hb=>.inl hb) (λb hb=>by
    rw[le];rcases hb with hb|hb
    ·exact awg (h.lt b hb) mm.size
    ·exact(Cl.lt b hb).2)
  obtain⟨S2,HX,Hm,Hmm,yj⟩:=K5 (vQ ⟨sb,mb,xb,_,st,keep,_,X2⟩) X2 dV mm ib;have cp:w1.cell? ⟨p,2,none⟩=some ov:=aa (ab uZ h.own (λe=>(h.aparto p e).1 rfl)) 2;have fp:=ae (ab uZ h.own (λe=>(h.aparto p e).1 rfl)) ⟨p,2,none⟩ rfl;have cp1:w1.cell? ⟨p,1,none⟩=some (.map (some mb)):=aa (ab uZ h.own (λe=>(h.aparto p e).1 rfl)) 1;have CE:p<w1.heap.size:=awg hp uZ.size;have KU:p<w2.heap.size:=by rw[le];exact awg CE mp.size
  rw[UK]at hr;have Ha:=Z ha;clear ha;clear h hm hn hq h3 dV eA le X2 hs hlo CM mp mm hg yu nmm SP TH ael Cl bC uZ ib UK;go_enter func152,ntmps152;go_wp2_with fail;refine M.mono ?_;rintro e w3 ⟨rfl,rfl⟩;go_wp2_with ((at_builtin;refine aB Ha.o rfl rfl rfl rfl ?_));refine S2.mono ?_;rintro e w3 ⟨rfl,AC,dh,rfl⟩
  go_wp2
  go_ret;refine⟨rfl,_,⟨sb,mb,xb,_,AC,keep,_,HX.stepped AC dh⟩,⟨(((Hmm.mono (λi _ e=>e.elim (H.fo i) (λe=>by subst e;exact H.fp))).trans (Hm.mono (T:=F) (λi _ e=>by subst e;exact H.fm)) (λ_ _ h=>h))).trans ((ai.refl F _).setCell (p:=⟨p,4,none⟩) (.inl H.fp) _) (λ_ _ h=>h),λb hb=>?_⟩⟩;rcases hb with hb|hb
  ·exact .inl hb
  ·rcases yj.o with e|⟨k,e,hk⟩
   ·exact .inl (H.fo b (e▸hb))
   ·exact .inr (by have:k=b:=by rw[hb]at e;exact(axa e).symm
                   omega)
end
end Go.Proofs.YtkghpdcloaiflaaGreatDoor
