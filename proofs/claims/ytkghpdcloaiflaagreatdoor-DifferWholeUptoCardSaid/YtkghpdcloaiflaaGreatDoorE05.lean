import Derived.Test.YtkghpdcloaiflaaGreatDoorE04
import Derived.Deep.Upon
import Derived.Lib.Builder
import Derived.Lib.AppendStr
import Derived.Laws.Externs
set_option maxHeartbeats 2000000
set_option maxRecDepth 100000
namespace Go.Proofs.YtkghpdcloaiflaaGreatDoor
open _root_.Go.Proofs.Tryz
section
open Go.RowKit Go.Sort Go.Lib
theorem Lc {w0 w:World}{S:Nat->Prop}(h:ah S w0 w)(os:Array Obj):ah S w0 (grow w os):=
 ⟨h.os,h.tape,h.output,by have:=h.size;simp[grow];omega,fun k hk hS=>by
  rw[<-h.block k hk hS];show(w.heap++os)[k]?=_;rw[Array.getElem?_append_left (auL hk h.size)]⟩
theorem uH {w0 w:World}{S:Nat->Prop}(h:ah S w0 w)(e:TypeId)(s:ByteArray):ah S w0 (Lib.bytesWorld w e s):=by
 have hs:=h.size;have h1:ah S w0 (w.drew.alloc (.cells (bytesCells w e s) e)):=h.drew.alloc _;refine⟨h1.os,h1.tape,h1.output,?_,fun k hk hS=>?_⟩
 ·have:=h1.size;simpa[Lib.bytesWorld,World.freeze]using this
 ·rw[<-h1.block k hk hS];show(Array.modify _ _ _)[k]?=_;rw[Array.getElem?_modify,auK (by intro e;have e2:w.heap.size=k:=e;omega)]
theorem C5 (n:Int)(h0:-9223372036854775808<=n)(h1:n<=9223372036854775807)(w:World)(he:tr w):
  Calls prog 199 #[.int .i64 n] w fun e w'=>e=.returned (.string ⟨(Lib.itoa n).toArray⟩)/\af w w':=
 (Tryz.strconv_Itoa n h0 h1 w he.pow).mono fun _ _ ⟨a,k,os,b⟩=>⟨a,by subst b;exact Lc ((ah.refl _ w).drewN k) os⟩
def uf (l:List UInt8):Int:=match Lib.atoiAll l with
 | .ok v=>v
 | .range=>Lib.atoiSat l
 |_=>0
theorem O4 (l:List UInt8)(hl:l.length<=140737488355328)(w:World)(he:tr w):
  Calls prog 201 #[.string ⟨l.toArray⟩] w fun e w'=>(∃ x,e=.returned (.tuple #[.int .i64 (uf l),x]))/\af w w':=by
 have cK:({ data:=l.toArray }:ByteArray).size=l.length:=by simp[ByteArray.size]
 cases h:Lib.atoiAll l with
 |ok v=>
  have ev:uf l=v:=by simp[uf,h]
  rw[ev];refine(Tryz.strconv_Atoi_ok ⟨l.toArray⟩ (by rw[cK];omega) v h w).mono fun e w' ⟨a,b⟩=>⟨⟨_,a⟩,?_⟩
  rcases b with rfl|⟨t,rfl⟩
  ·exact ah.refl _ _
  ·exact uH (ah.refl _ w) _ _
 |range=>
  have ev:uf l=Lib.atoiSat l:=by simp[uf,h]
  rw[ev];obtain⟨tp,p,hv⟩:=he.rng;exact(Tryz.strconv_Atoi_range_var ⟨l.toArray⟩ (by rw[cK];omega) h tp p w hv).mono fun e w' ⟨N,a,_,_,b⟩=>⟨⟨_,a⟩,ah.ofBelow b⟩
 |_=>
  have ev:uf l=0:=by simp[uf,h]
  rw[ev];obtain⟨tp,p,hv⟩:=he.syn;exact(Any.strconv_Atoi_syntax_var Tryz.laysC172 ⟨l.toArray⟩ (by rw[cK];omega) h tp p w hv).mono fun e w' ⟨N,a,_,_,b⟩=>⟨⟨_,a⟩,ah.ofBelow b⟩
def aF (xs:List (List UInt8)):Array Value:=(xs.map fun x=>Value.string ⟨x.toArray⟩).toArray
@[go_sem] theorem WP (xs:List (List UInt8)):(aF xs).size=xs.length:=by simp[aF]
theorem Gq (xs:List (List UInt8))(i:Nat):(aF xs)[i]?=xs[i]?.map fun x=>Value.string ⟨x.toArray⟩:=by simp[aF]
theorem zw (c:UInt8)(l:List UInt8)(hl:l.length<4294967281)(w:World)(he:tr w):
  Calls prog 249 #[.string ⟨l.toArray⟩,.string ⟨#[c]⟩] w fun e w'=>e=.returned (.slice (some ⟨w.heap.size,0,none⟩) (jZ c l).length (jZ c l).length)/\w'=w.alloc (.cells (aF (jZ c l)) 9):=by
 have h:=Tryz.strings_Split_shaped ⟨l.toArray⟩ ⟨#[c]⟩ w he.shaped (by simpa[ByteArray.size]using hl) (by simp[ByteArray.size]);have e0:=Gp c l;have e1:=vS c l;refine h.mono fun e w' ⟨a,b⟩=>⟨?_,?_⟩
 ·rw[a,<-e0]
 ·rw[b,e1,aF,au0];rfl
theorem qn (s p:List UInt8)(w:World):
  Calls prog 248 #[.string ⟨s.toArray⟩,.string ⟨p.toArray⟩] w fun e w'=>e=.returned (.tuple #[.string ⟨(Lib.trimPrefix s p).toArray⟩,.bool (Lib.hasPrefix s p)])/\w'=w:=
 Tryz.strings_CutPrefix ⟨s.toArray⟩ ⟨p.toArray⟩ w
abbrev iz (w:World)(base:Nat)(v:Value)(xs:List (List UInt8)):Prop:=w.ownsRow base 9 1 v xs.length (aF xs).toList
theorem O5 (c:UInt8)(xs:List (List UInt8))(base:Nat)(v:Value)(w:World)(h:iz w base v xs)(hn:xs.length<=140737488355328)(aV:(Lib.join xs [c]).length<=140737488355328):
  Calls prog 122 #[v,.string ⟨#[c]⟩] w fun e w'=>e=.returned (.string ⟨(Lib.join xs [c]).toArray⟩)/\af w w':=by
 obtain⟨h1,h2⟩:=h;rcases h2 with⟨rfl,h3⟩|⟨g,cap,dz,rfl,hb,hg,Kk,hm,cK,vt⟩
 ·obtain rfl:=au8.1 h3;exact(Tryz.strings_Join_none none 0 ⟨#[c]⟩ w).mono fun e w' ⟨a,b⟩=>⟨a,b▸ah.refl _ _⟩
 ·have e0:(xs.map fun x=>(⟨x.toArray⟩:ByteArray)).length=xs.length:=by simp
  have e1:(xs.map fun x=>(⟨x.toArray⟩:ByteArray)).map (·.data.toList)=xs:=(au0).trans (List.map_id xs);have h:=Tryz.strings_Join g 0 cap (xs.map fun x=>(⟨x.toArray⟩:ByteArray)) ⟨#[c]⟩ w (fun j x hx=>by
   rw[avm];simp only[avB,avM]at hx;obtain⟨y,hy,rfl⟩:=hx;have aL:=(auP.1 hy).1;have hc:dz.toList[j]?=some (Value.string ⟨y.toArray⟩):=by
    have:(dz.toList.take (xs.length*1))[j]?=some (Value.string ⟨y.toArray⟩):=by rw[vt];simp[aF,hy]
    rwa [List.getElem?_take,auI (by omega)]at this
   have:w.cell? ⟨g,j,none⟩=dz[j]?:=by simp[World.cell?,hg]
   rw[this,<-Array.getElem?_toList];exact hc) (tc hg) (by rw[e0];exact hn) (by rw[e0];exact Kk) (by rw[e1];exact aV)
  rw[e0,e1]at h;exact h.mono fun e w' ⟨a,b⟩=>⟨a,ah.ofBelow b⟩
theorem kM {P:Program}{ts te:TypeId}{z:Value}{bytes:Nat}(hs:P.underlying ts=some (.slice te))(hi:(P.info? te).map (fun i=>(i.zero,i.size,i.bytes))=some (some z,1,bytes))(hz:z.cells.size=1)(base:Nat)(v:Value)(n:Nat)(xs:List Value)(w w0:World)
  (bw:w.ownsRow base te 1 v n xs) (news:List Value) (h1:∀ u∈news,u.oneCell'=true) (hn:n+news.length<=maxLen) (Cd:(n+news.length)*bytes<=140737488355328) (FC:base<=w.heap.size) (h0:af w0 w) (iM:w0.heap.size<=base):
  ∃ v' w',(Builtin.append_ #[ts,ts] ts #[v,.slice (some ⟨w.heap.size,0,none⟩) news.length news.length]).run P (w.alloc (.cells news.toArray te))=.ok v' w'/\w'.ownsRow base te 1 v' (n+news.length) (xs++news)/\af w0 w'/\ah (fun b=>base<=b) w w':=by
 obtain⟨i0,hi,nX,mZ,oH⟩:=auO hi;obtain⟨v',w',h1,h2,h3,_⟩:=run_append_own (P:=P) (w.alloc (.cells news.toArray te)) base ts ts te i0 z 1 bytes hs hi nX mZ oH hz (by decide) v n xs (bw.alloc _) ⟨w.heap.size,0,none⟩ news.length news.length news (by simp) (fun j u hu=>by
  rw[gA,avm,World.cell?_alloc_at _ _ _ _ rfl];simpa using hu) h1 (by exact hn) Cd (by simp;omega)
 exact⟨v',w',h1,h2,ah.grown (h0.alloc _) h3 (fun k hk=>.inr (aux iM (bw.lt k hk).1)),ah.grown ((ah.refl _ w).alloc _) h3 (fun k hk=>.inl (bw.lt k hk).1)⟩
end
section
open Go.RowKit
theorem vU:(prog.info? 9).map (fun i=>(i.zero,i.size,i.bytes))=some (some (.string ⟨#[]⟩),1,16):=by kernel_rfl
theorem iA {w w':World}{base n:Nat}{t:TypeId}{v:Value}{xs:List Value}(h:w.ownsRow base t 1 v n xs)(k:af w w'):w'.ownsRow base t 1 v n xs:=by
 obtain⟨h1,h2⟩:=h;refine⟨h1,?_⟩;rcases h2 with h2|⟨g,cap,dz,a,b,c,d⟩
 ·exact .inl h2
 ·exact .inr ⟨g,cap,dz,a,b,k.obj c id,d⟩
theorem yG {w:World}{base:Nat}{v:Value}{xs ys:List (List UInt8)}(h:w.ownsRow base 9 1 v (xs.length+(aF ys).toList.length) ((aF xs).toList++(aF ys).toList)):iz w base v (xs++ys):=by
 have e:(aF (xs++ys)).toList=(aF xs).toList++(aF ys).toList:=by simp[aF]
 have e2:(xs++ys).length=xs.length+(aF ys).toList.length:=by simp[aF]
 unfold iz;rw[e,e2];exact h
theorem ba {w:World}{b:Nat}(h:b=w.heap.size)(c:Array Value)(t:TypeId):World.blk (w.alloc (.cells c t)) b c t:=h▸aw w c t
def eJ (w:World)(v:Value)(xs:List Value):Prop:=
 ∃ a cap,v=.slice a xs.length cap/\∀ j x,xs[j]?=some x->∃ b o,a=some ⟨b,o,none⟩/\w.cell? ⟨b,o+j,none⟩=some x
theorem bd {w:World}{base n:Nat}{t:TypeId}{v:Value}{xs:List Value}(h:w.ownsRow base t 1 v n xs):eJ w v xs:=by
 obtain⟨h1,h2⟩:=h;have hn:n=xs.length:=by omega
 rcases h2 with⟨rfl,h3⟩|⟨g,cap,dz,rfl,hb,hg,Kk,hm,cK,vt⟩
 ·obtain rfl:xs=[]:=au8.1 (by omega);exact⟨none,0,rfl,fun j x h=>by simp at h⟩
 ·refine⟨some ⟨g,0,none⟩,cap,by rw[hn],fun j x hx=>⟨g,0,rfl,?_⟩⟩;have aL:=(auP.1 hx).1;rw[avm];have hc:dz.toList[j]?=some x:=by
   rw[<-vt,List.getElem?_take]at hx;split at hx
   ·exact hx
   ·cases hx
  simp[World.cell?,hg,<-Array.getElem?_toList,hc]
theorem AU {w:World}{b:Nat}{c:Array Value}{t:TypeId}(cap:Nat)(h:World.blk w b c t):eJ w (.slice (some ⟨b,0,none⟩) c.size cap) c.toList:=
 ⟨_,_,rfl,fun j x hx=>⟨b,0,rfl,by rw[avm,aa h];simpa using hx⟩⟩
def uI (l:List (List UInt8)):List Value:=l.map fun x=>Value.string ⟨x.toArray⟩
@[simp] theorem kO (l:List (List UInt8)):(uI l).length=l.length:=by simp[uI]
theorem JG {w w':World}{base n:Nat}{t:TypeId}{v:Value}{xs:List Value}{S:Nat->Prop}(h:w.ownsRow base t 1 v n xs)(k:ah S w w')(hS:∀ b,base<=b->¬ S b):w'.ownsRow base t 1 v n xs:=by
 obtain⟨h1,h2⟩:=h;refine⟨h1,?_⟩;rcases h2 with h2|⟨g,cap,dz,a,b,c,d⟩
 ·exact .inl h2
 ·exact .inr ⟨g,cap,dz,a,b,k.obj c (hS g b),d⟩
theorem ug (l:List (List UInt8)):(aF l).toList=uI l:=by simp[aF,uI]
theorem oO {w:World}{base:Nat}{v:Value}{xs:List (List UInt8)}(h:iz w base v xs):eJ w v (uI xs):=by
 have h1:=bd h;rw[ug]at h1;exact h1
end
section
open Go.RowKit
theorem rQ:(prog.info? 176).map (·.size)=some 2:=by kernel_rfl
theorem O6:liesAt prog prog.depth 176 (2/prog.cellsOf 176) 0 176 1=true:=by kernel_rfl
theorem j7:(prog.info? 5).map (fun i=>(i.zero,i.size,i.bytes))=some (some (.int .u8 0),1,1):=by kernel_rfl
theorem O7:(176:TypeId)≠5:=by decide
abbrev db (B b:Nat)(l:List UInt8)(w:World):Prop:=Lib.IsBuilder 176 5 B b (Lib.byteCells l) w
theorem oP (b:Nat)(w:World)(h0:w.cell? ⟨b,0,none⟩=some (.pointer (some ⟨b,0,none⟩))):
  Calls prog 187 #[.pointer (some ⟨b,0,none⟩)] w fun e w'=>e=.returned (.tuple #[])/\w'=w:=by
 obtain⟨j,hj,_⟩:=avM.1 rQ;go_enter func187,ntmps187;go_wp2_with fail;rw[Lib.run_neq_ptr_same w _ underlying174 hj];go_wp2_with fail;go_end0;exact⟨rfl,rfl⟩
theorem og (b:Nat)(w:World)(h0:w.cell? ⟨b,0,none⟩=some (.pointer none))(hsh:w.shape? b=some (176,2))(hfz:w.frozen? ⟨b,0,none⟩=false):
  Calls prog 187 #[.pointer (some ⟨b,0,none⟩)] w fun e w'=>e=.returned (.tuple #[])/\w'=w.setCell ⟨b,0,none⟩ (.pointer (some ⟨b,0,none⟩)):=by
 obtain⟨j,hj,hjs⟩:=avM.1 rQ;go_enter func187,ntmps187;go_wp2_with fail;rw[Lib.run_to_unsafe w ⟨b,0,none⟩ underlying174 underlying310 hj (by rw[hjs];decide) hsh (Nat.zero_lt_succ 1)];simp only[Result.andThen];rw[Oper.upon_value];go_wp2_with fail;rw[avT func241 (by kernel_rfl) (by kernel_rfl) (by kernel_rfl) (e:=Extern.AbiNoEscape.same) (by kernel_rfl)];rw[Lib.run_noEscape];simp only[Result.andThen];rw[Oper.upon_value];go_wp2_with fail;rw[Lib.run_from_unsafe w ⟨b,0,none⟩ underlying310 underlying174 hj hsh O6];simp only[Result.andThen];rw[Oper.upon_value];go_wp2_with fail;go_end0;exact⟨rfl,rfl⟩
theorem Ld (B b:Nat)(bs:List Value)(w:World)(h:Lib.IsBuilder 176 5 B b bs w):
  Calls prog 187 #[.pointer (some ⟨b,0,none⟩)] w fun e w'=>e=.returned (.tuple #[])/\(Lib.BuilderAt 176 5 B b (.pointer (some ⟨b,0,none⟩)) bs w'/\Below B w w'):=by
 rcases h with h|h
 ·refine(og b w h.cell0 h.shape h.frozen0).mono ?_;rintro e w' ⟨rfl,rfl⟩;exact⟨rfl,h.used _,(Below.refl B w).setCell (p:=⟨b,0,none⟩) h.1 _⟩
 ·refine(oP b w h.cell0).mono ?_;rintro e w' ⟨rfl,rfl⟩;exact⟨rfl,h,Below.refl B _⟩
theorem vV (l:List UInt8)(c:UInt8):Lib.byteCells (l++[c])=Lib.byteCells l++[.int .u8 (c.toNat:Int)]:=by simp[Lib.byteCells]
theorem vW (B b:Nat)(l:List UInt8)(c:UInt8)(w:World)(h:db B b l w)(aV:l.length+1<=140737488355328)(hBw:B<=w.heap.size):
  Calls prog 251 #[.pointer (some ⟨b,0,none⟩),.int .u8 (c.toNat:Int)] w fun e w'=>e=.returned .nilIface/\db B b (l++[c]) w'/\Below B w w':=by
 unfold db at*;rw[vV];have oG:(Lib.byteCells l).length=l.length:=Lib.byteCells_length l;generalize Lib.byteCells l=bs at*;rw[<-oG]at aV;clear oG;obtain⟨i0,hi,nX,mZ,oH⟩:=auO j7;go_enter func251,ntmps251;go_wp2_with fail;refine(Ld B b bs _ h).mono ?_;rintro e w1 ⟨rfl,h1,hb1⟩;obtain⟨hB,v,AC,bw,dW⟩:=h1;have c0:w1.cell? ⟨b,0,none⟩=some (.pointer (some ⟨b,0,none⟩)):=by rw[Lib.cell_of_heap AC];rfl
 have c1:w1.cell? ⟨b,1,none⟩=some v:=by rw[Lib.cell_of_heap AC];rfl
 go_wp2_with (at_builtin;refine wpList_append_own _ rfl _ _ 131 rfl B 5 i0 (.int .u8 0) 1 1 underlying131 hi nX mZ oH rfl (by decide) _ _ _ rfl (bw.alloc _) ⟨w1.heap.size,0,none⟩ 1 1 [.int .u8 (c.toNat:Int)] rfl rfl ?c1 ?c2 ?c3 ?c4 ?c5 ?_)
 case c1=>
  intro j u hj
  match j,hj with
  |0,hj=>simp at hj;subst hj;simp[Addr.add]
 case c2=>intro u hu;simp at hu;subst hu;rfl
 case c3=>unfold maxLen;omega
 case c4=>omega
 case c5=>have:=hb1.size;simp;omega
 intro v' w2 oq qy _;have aL:b<w1.heap.size:=by
  rcases Nat.lt_or_ge b w1.heap.size with h'|h'
  ·exact h'
  ·simp[Array.getElem?_eq_none h']at AC
 have fi:w2.heap[b]?=some (.cells #[.pointer (some ⟨b,0,none⟩),v] 176 (0,0)):=by
  rw[qy.block b (by simp;omega) (fun e=>dW e.symm),Lib.alloc_old w1 _ b aL];exact AC
 have d0:w2.cell? ⟨b,0,none⟩=some (.pointer (some ⟨b,0,none⟩)):=by rw[Lib.cell_of_heap fi];rfl
 have d1:w2.cell? ⟨b,1,none⟩=some v:=by rw[Lib.cell_of_heap fi];rfl
 have f1:w2.frozen? ⟨b,1,none⟩=false:=Lib.frozen_of_heap fi 1;obtain⟨g,cap,rfl⟩:∃ g cap,v'=.slice (some ⟨g,0,none⟩) (bs.length+1) cap:=by
  rcases oq.2 with⟨_,h0⟩|⟨g,cap,dz,hv,_⟩
  ·omega
  ·exact⟨g,cap,hv⟩
 have RX:=hd0 oq;have Hgr:=hd0 qy;have Hb1:=hd0 hb1;have Hb2:=hd0 fi;have RS:=hd0 bw;clear oq qy hb1 fi bw AC h c0 c1 hi nX mZ oH;go_wp2;go_ret;refine⟨rfl,.inr ?_,?_⟩
 ·exact Lib.BuilderAt.put (T:=176) (e:=5) hB Hb2.out (bs':=bs++[.int .u8 (c.toNat:Int)]) (by simpa using RX.out) O7
 ·exact((Hb1.out.alloc (by have:=Hb1.out.size;omega) _).grown Hgr.out (by have:=Hb1.out.size;simp;omega) (fun k hk=>(RS.out.lt k hk).1)).setCell (p:=⟨b,1,none⟩) hB _
theorem gO (B b:Nat)(l:List UInt8)(w:World)(h:db B b l w)(hBw:B<=w.heap.size):
  Calls prog 112 #[.pointer (some ⟨b,0,none⟩)] w fun e w'=>e=.returned (.string ⟨l.toArray⟩)/\Below B w w':=Tryz.Builder_String_any B b l w h hBw
theorem nA (w:World):db w.heap.size w.heap.size [] (w.alloc (.cells #[.pointer none,.slice none 0 0] 176)):=Lib.fresh_isBuilder _ _ _
end
section
open Go.RowKit
theorem iX:(prog.info? 3).map (fun i=>(i.zero,i.size,i.bytes))=some (some (.int .i64 0),1,8):=by kernel_rfl
def bo (l:List Int):List Value:=l.map (Value.int .i64)
@[simp] theorem fR (l:List Int):(bo l).length=l.length:=by simp[bo]
abbrev aN (w:World)(base:Nat)(v:Value)(l:List Int):Prop:=w.ownsRow base 3 1 v l.length (bo l)
abbrev bR (w:World)(base:Nat)(v:Value)(l:List UInt8):Prop:=w.ownsRow base 5 1 v l.length (gz l)
theorem eX {w:World}{base Yw n sz:Nat}{t:TypeId}{v:Value}{xs:List Value}(h:w.ownsRow base t sz v n xs)(hb:Yw<=base):w.ownsRow Yw t sz v n xs:=by
 obtain⟨h1,h2⟩:=h;refine⟨h1,?_⟩;rcases h2 with h2|⟨g,cap,dz,a,b,c,d⟩
 ·exact .inl h2
 ·exact .inr ⟨g,cap,dz,a,aux hb b,c,d⟩
theorem kv {w:World}{base:Nat}{v:Value}{l:List Int}{c:Int}(h:w.ownsRow base 3 1 v (l.length+[Value.int .i64 c].length) (bo l++[.int .i64 c])):aN w base v (l++[c]):=by
 have e:bo (l++[c])=bo l++[.int .i64 c]:=by simp[bo]
 have e2:(l++[c]).length=l.length+[Value.int .i64 c].length:=by simp
 unfold aN;rw[e,e2];exact h
theorem lN {w:World}{base:Nat}{v:Value}{l:List UInt8}(h:bR w base v l):(convert 131 9 v).run prog w=.ok (.string ⟨l.toArray⟩) w:=by
 rcases h.2 with⟨rfl,h3⟩|⟨g,cap,dz,rfl,hb,hg,Kk,hm,cK,vt⟩
 ·obtain rfl:=au8.1 h3;rw[run_convert_bytes_string w _ _ 5 _ 0 0 underlying131 underlying5 underlying9];simp[Conv.bytesToString];rfl
 ·refine rJ w _ _ 5 g 0 _ cap l underlying131 underlying5 underlying9 rfl (fun j hj=>?_);rw[avm,<-vt,List.getElem?_take,auI (by omega)];simp[World.cell?,hg]
end
section
open Go.RowKit
def fG (F:Nat->Prop)(w w':World):Prop:=∀ b,F b->b<w.heap.size->w'.heap[b]?=w.heap[b]?
theorem ah.on {S F:Nat->Prop}{w w':World}(m:ah S w w')(h:∀ b,F b->¬ S b):fG F w w':=fun b hb hl=>m.block b hl (h b hb)
abbrev JH (w:World)(b:Nat)(l:List (Int×List UInt8)):Prop:=fy prog 3 (plainElem prog 9) CY w b l
abbrev JI (w:World)(b:Nat)(l:List (Int×Bool)):Prop:=fy prog 3 (plainElem prog 4) OZ w b l
theorem vX:oe prog 9 (plainElem prog 9) CY (fun s=>.string ⟨s.toArray⟩) (fun s=>s.length<=140737488355328) []:=O0 underlying9 (fun _=>by kernel_rfl)
theorem O8:oe prog 4 (plainElem prog 4) OZ Value.bool (fun _=>True) false:=K5 underlying4 (fun _=>by kernel_rfl)
def oQ (sb mb xb:Nat)(ov:Value)(st:Int)(keep:List UInt8)(d:Dk):Array Value:=
 #[.slice (some ⟨sb,0,none⟩) d.size d.size,.map (some mb),ov,.map (some xb),.int .i64 st,.int .i64 0,.string ⟨keep.toArray⟩,.bool false]
structure oh (w:World)(p sb mb xb:Nat)(ov:Value)(st:Int)(keep:List UInt8)(lo:List (Int×List UInt8))(d:Dk)(F:Nat->Prop):Prop where
 own:World.blk w p (oQ sb mb xb ov st keep d) 155
 stays:World.blk w sb (aF d.stays) 9
 loose:JH w mb lo
 bad:JI w xb []
 order:w.ownsRow 0 3 1 ov d.lo.length (bo (d.lo.map fun x=>(x.1:Int)))
 ok:yD d
 get:∀ n:Nat,bF (n:Int) lo=el d.lo n
 keys:∀ x∈lo,∃ n:Nat,x.1=(n:Int)/\(el d.lo n).isSome=true
 many:lo.length<=d.lo.length
 steps:-9223372036854775808<=st/\st<=9223372036854775807
 fp:F p
 fs:F sb
 fm:F mb
 fx:F xb
 fo:∀ b,ov.ownBlock=some b->F b
 apart:p≠sb/\p≠mb/\p≠xb/\sb≠mb/\sb≠xb/\mb≠xb
 aparto:∀ b,ov.ownBlock=some b->b≠p/\b≠sb/\b≠mb/\b≠xb
 lt:∀ b,F b->b<w.heap.size
def bC (w:World)(p:Nat)(d:Dk)(F:Nat->Prop):Prop:=∃ sb mb xb ov st keep lo,oh w p sb mb xb ov st keep lo d F
theorem aA {w w':World}{base n sz:Nat}{t:TypeId}{v:Value}{xs:List Value}(h:w.ownsRow base t sz v n xs)(k:∀ b,v.ownBlock=some b->w'.heap[b]?=w.heap[b]?):w'.ownsRow base t sz v n xs:=by
 obtain⟨h1,h2⟩:=h;refine⟨h1,?_⟩;rcases h2 with h2|⟨g,cap,dz,rfl,h3,h4,h5⟩
 ·exact .inl h2
 ·exact .inr ⟨g,cap,dz,rfl,h3,(k g rfl).trans h4,h5⟩
theorem oh.same {w w':World}{p sb mb xb:Nat}{ov:Value}{st:Int}{keep:List UInt8}{lo:List (Int×List UInt8)}{d:Dk}{F:Nat->Prop}(h:oh w p sb mb xb ov st keep lo d F)(m:fG F w w')(hs:w.heap.size<=w'.heap.size):oh w' p sb mb xb ov st keep lo d F where
 own:=(m p h.fp (h.lt p h.fp)).trans h.own
 stays:=(m sb h.fs (h.lt sb h.fs)).trans h.stays
 loose:=h.loose.same (m mb h.fm (h.lt mb h.fm))
 bad:=h.bad.same (m xb h.fx (h.lt xb h.fx))
 order:=aA h.order fun b hb=>m b (h.fo b hb) (h.lt b (h.fo b hb))
 ok:=h.ok
 get:=h.get
 keys:=h.keys
 many:=h.many
 steps:=h.steps
 fp:=h.fp
 fs:=h.fs
 fm:=h.fm
 fx:=h.fx
 fo:=h.fo
 apart:=h.apart
 aparto:=h.aparto
 lt b hb:=auL (h.lt b hb) hs
theorem bC.same {w w':World}{p:Nat}{d:Dk}{F:Nat->Prop}(h:bC w p d F)(m:fG F w w')(hs:w.heap.size<=w'.heap.size):bC w' p d F:=by
 obtain⟨sb,mb,xb,ov,st,keep,lo,h⟩:=h;exact⟨sb,mb,xb,ov,st,keep,lo,h.same m hs⟩
theorem bC.mod {w w':World}{p:Nat}{d:Dk}{F S:Nat->Prop}(h:bC w p d F)(m:ah S w w')(hS:∀ b,F b->¬ S b):bC w' p d F:=h.same (m.on hS) m.size
theorem bC.ok {w:World}{p:Nat}{d:Dk}{F:Nat->Prop}(h:bC w p d F):yD d:=by obtain⟨sb,mb,xb,ov,st,keep,lo,h⟩:=h;exact h.ok
theorem bC.lt {w:World}{p:Nat}{d:Dk}{F:Nat->Prop}(h:bC w p d F)(b:Nat)(hb:F b):b<w.heap.size:=by obtain⟨sb,mb,xb,ov,st,keep,lo,h⟩:=h;exact h.lt b hb
theorem oh.stepped {w:World}{p sb mb xb:Nat}{ov:Value}{st:Int}{keep:List UInt8}{lo:List (Int×List UInt8)}{d:Dk}{F:Nat->Prop}(h:oh w p sb mb xb ov st keep lo d F)(AH:Int)(hs:-9223372036854775808<=AH/\AH<=9223372036854775807):
  oh (w.setCell ⟨p,4,none⟩ (.int .i64 AH)) p sb mb xb ov AH keep lo d F:=by
 have m:ah (fun x=>x=p) w (w.setCell ⟨p,4,none⟩ (.int .i64 AH)):=(ah.refl (fun x=>x=p) w).setCell (p:=⟨p,4,none⟩) (.inl rfl) _
 exact { own:=ag h.own 4 _,stays:=ab m h.stays (fun e=>h.apart.1 e.symm),loose:=h.loose.mod m (fun e=>h.apart.2.1 e.symm),bad:=h.bad.mod m (fun e=>h.apart.2.2.1 e.symm),
         order:=aA h.order fun b hb=>m.block b (h.lt b (h.fo b hb)) (h.aparto b hb).1,ok:=h.ok,get:=h.get,keys:=h.keys,many:=h.many,steps:=hs,fp:=h.fp,fs:=h.fs,fm:=h.fm,fx:=h.fx,fo:=h.fo,apart:=h.apart,aparto:=h.aparto,
         lt:=fun b hb=>by have:=h.lt b hb;simpa[go_sem]using this }
theorem jA {w:World}{p:Nat}{d:Dk}{F:Nat->Prop}(h:bC w p d F):
  Calls prog 96 #[.pointer (some ⟨p,0,none⟩)] w fun e w'=>e=.returned (.int .i64 (d.size:Int))/\w'=w:=by
 obtain⟨sb,mb,xb,ov,st,keep,lo,h⟩:=h;have c0:w.cell? ⟨p,0,none⟩=some (.slice (some ⟨sb,0,none⟩) d.size d.size):=aa h.own 0;clear h;go_enter func96,ntmps96
 go_wp2
 go_ret;exact⟨rfl,rfl⟩
theorem C6 {w:World}{p:Nat}{d:Dk}{F:Nat->Prop}(h:bC w p d F)(n:Nat)(hn:n<d.size):
  Calls prog 186 #[.pointer (some ⟨p,0,none⟩),.int .i64 (n:Int)] w fun e w'=>e=.returned (.int .i64 0)/\w'=w:=by
 obtain⟨sb,mb,xb,ov,st,keep,lo,h⟩:=h;have c0:w.cell? ⟨p,0,none⟩=some (.slice (some ⟨sb,0,none⟩) d.size d.size):=aa h.own 0;have c7:w.cell? ⟨p,7,none⟩=some (.bool false):=aa h.own 7;have h1:¬(n:Int)<0:=by omega
 have h2:¬(d.size:Int)<=(n:Int):=by omega
 clear h;go_enter func186,ntmps186
 go_wp2
 go_ret;exact⟨rfl,rfl⟩
theorem vY {w:World}{p:Nat}{d:Dk}{F:Nat->Prop}(h:bC w p d F):
  Calls prog 222 #[.pointer (some ⟨p,0,none⟩)] w fun e w'=>e=.returned (.bool false)/\∃ AH:Int,(-9223372036854775808<=AH/\AH<=9223372036854775807)/\w'=w.setCell ⟨p,4,none⟩ (.int .i64 AH):=by
 obtain⟨sb,mb,xb,ov,st,keep,lo,h⟩:=h;have c4:w.cell? ⟨p,4,none⟩=some (.int .i64 st):=aa h.own 4;have f4:=ae h.own ⟨p,4,none⟩ rfl;have c5:w.cell? ⟨p,5,none⟩=some (.int .i64 0):=aa h.own 5;clear h;go_enter func222,ntmps222
 go_wp2
 go_ret;exact⟨rfl,_,by unfold RowKit.wrap64;omega,rfl⟩
end
section
open Go.RowKit
theorem Le {w:World}{p:Nat}{d:Dk}{F:Nat->Prop}(h:bC w p d F)(n:Nat)(hn:n<d.size):
  Calls prog 108 #[.pointer (some ⟨p,0,none⟩),.int .i64 (n:Int)] w fun e w'=>e=.returned (.tuple #[.string ⟨(d.get n).toArray⟩,.int .i64 0])/\w'=w:=by
 have M:=hd0 (C6 h n hn);obtain⟨sb,mb,xb,ov,st,keep,lo,h⟩:=h;have hm:=h.ok.many;have cK:d.size<=16384:=hm;have c0:w.cell? ⟨p,0,none⟩=some (.slice (some ⟨sb,0,none⟩) d.size d.size):=aa h.own 0;have c1:w.cell? ⟨p,1,none⟩=some (.map (some mb)):=aa h.own 1;have c3:w.cell? ⟨p,3,none⟩=some (.map (some xb)):=aa h.own 3;have s0:w.cell? ⟨sb,n,none⟩=some (.string ⟨(d.stays.getD n []).toArray⟩):=by
  rw[aa h.stays n];have:n<d.stays.length:=hn;simp[aF,List.getD,this]
 have l3:=h.bad.look1 (tm:=153) O8 underlying153 underlying3 (n:Int) ⟨by omega,by omega⟩;have l1:=h.loose.look (tm:=152) vX underlying152 underlying3 (n:Int) ⟨by omega,by omega⟩;rw[h.get n]at l1;have WD:(n:Int)<(d.size:Int):=by omega
 obtain⟨q,hq⟩:∃ q,el d.lo n=q:=⟨_,rfl⟩
 have Hg:Hid (d.get n=q.getD (d.stays.getD n [])):=hd0 (by subst hq;unfold Dk.get;cases el d.lo n<;>rfl);rw[hq]at l1;have h3:(bF (n:Int) ([]:List (Int×Bool))).getD false=false:=rfl;rw[h3]at l3;clear h hm cK hn hq h3;go_enter func108,ntmps108;go_wp2_with fail;refine M.out.mono ?_;rintro e w1 ⟨rfl,rfl⟩
 cases q with
 |none=>
  go_wp2
  go_ret2;exact⟨by rw[Hg.out];rfl,rfl⟩
 |some s=>
  go_wp2
  go_ret2;exact⟨by rw[Hg.out];rfl,rfl⟩
theorem Lf {lo:List (Int×List UInt8)}{k:Int}{s:List UInt8}{x:Int×List UInt8}(h:x∈em j6 k s lo):x.1=k\/x∈lo:=by
 unfold em at h;have key:∀(l:List (Int×List UInt8)) y,x∈jN j6 y l->x=y\/x∈l:=by
  intro l y
  induction l with
  |nil=>intro h;simp[jN]at h;exact .inl h
  |cons z r ih=>
   intro h;unfold jN at h;split at h
   ·rcases auX.1 h with h|h
    ·exact .inl h
    ·exact .inr h
   ·rcases auX.1 h with h|h
    ·exact .inr (by rw[h];simp)
    ·rcases ih h with h|h
     ·exact .inl h
     ·exact .inr (by simp[h])
 rcases key _ _ h with h|h
 ·exact .inl (by rw[h])
 ·exact .inr ((auw.1 h).1)
theorem Lg {β:Type}(k m:Int)(s:β)(l:List (Int×β))(h:∀ x∈l,x.1≠k):bF m (jN j6 (k,s) l)=if m=k then some s else bF m l:=by
 induction l with
 |nil=>
  unfold jN bF;by_cases hm:m=k
  ·simp[hm]
  ·have:¬ k=m:=fun e=>hm e.symm;simp[hm,this]
 |cons y r ih=>
  unfold jN;split
  ·unfold bF;by_cases hm:m=k
   ·simp[hm]
   ·have:¬ k=m:=fun e=>hm e.symm;simp[hm,this,List.find?_cons]
  ·have ih':=ih (fun x hx=>h x (by simp[hx]));unfold bF at ih' ⊢;by_cases hy:y.1=m
   ·have:¬ m=k:=fun e=>h y (by simp) (hy.trans e);simp[hy,this]
   ·have hb:(y.1==m)=false:=by simp[hy]
    simp only[List.find?_cons,hb];exact ih'
theorem kw {β:Type}(k m:Int)(s:β)(l:List (Int×β)):bF m (em j6 k s l)=if m=k then some s else bF m l:=by
 unfold em;rw[Lg _ _ _ _ (by
  intro x hx;unfold gm at hx;have:=(auw.1 hx).2;simpa using this)]
 split
 ·rfl
 ·rename_i hm
  unfold bF gm;rw[List.find?_filter]
  congr 1
  congr 1
  funext x
  by_cases hx:x.1=m
  ·have:¬ x.1=k:=fun e=>hm (hx.symm.trans e);simp[hx,hm]
  ·simp[hx]
theorem pN {β:Type}(k:Int)(s:β)(l:List (Int×β)):(em j6 k s l).length<=if(bF k l).isSome=true then l.length else l.length+1:=by
 unfold em;rw[CX];split
 ·rename_i h
  unfold bF at h;have h':(l.find? fun p=>p.1==k).isSome=true:=by simpa using h
  rw[List.find?_isSome]at h';obtain⟨x,hx,hk⟩:=h';have:(gm k l).length<l.length:=by
   unfold gm;exact List.length_filter_lt_length_iff_exists.2 ⟨x,hx,by simpa using hk⟩
  omega
 ·have:=rO k l;omega
theorem tt {lo:List (Nat×az)}{n:Nat}{s:az}:(jx lo n s).length=if(el lo n).isSome=true then lo.length else lo.length+1:=by
 unfold jx;split<;>simp
theorem vZ {lo:List (Nat×az)}{n:Nat}{s:az}:(jx lo n s).map (·.1)=if(el lo n).isSome=true then lo.map (·.1)else lo.map (·.1)++[n]:=by
 unfold jx;split
 ·rw[au0];apply au1;intro x _;simp only[Function.comp];split
  ·rename_i hx;simp at hx;simp[hx]
  ·rfl
 ·simp
theorem hZ {P:Program}{ts te:TypeId}{z:Value}{sz bytes:Nat}(hs:P.underlying ts=some (.slice te))(hi:(P.info? te).map (fun i=>(i.zero,i.size,i.bytes))=some (some z,sz,bytes))(hz:z.cells.size=sz)(cK:0<sz)(base:Nat)(v:Value)(n:Nat)(xs:List Value)(w:World)
  (bw:w.ownsRow base te sz v n xs) (news:List Value) (hl:news.length=sz) (h1:∀ u∈news,u.oneCell'=true) (hn:n+1<=maxLen) (Cd:(n+1)*bytes<=140737488355328) (FC:base<=w.heap.size):
  ∃ v' w',(Builtin.append_ #[ts,ts] ts #[v,.slice (some ⟨w.heap.size,0,none⟩) 1 1]).run P (w.alloc (.cells news.toArray te))=.ok v' w'/\w'.ownsRow base te sz v' (n+1) (xs++news)/\ah (fun b=>v.ownBlock=some b) w w'/\(v'.ownBlock=v.ownBlock\/∃ k,v'.ownBlock=some k/\w.heap.size<=k)/\∃ g cap,v'=.slice (some ⟨g,0,none⟩) (n+1) cap:=by
 obtain⟨i0,hi,nX,mZ,oH⟩:=auO hi;obtain⟨v',w',r1,r2,r3,_,r5⟩:=run_append_own_at (P:=P) (w.alloc (.cells news.toArray te)) base ts ts te i0 z sz bytes hs hi nX mZ oH hz cK v n xs (bw.alloc _) ⟨w.heap.size,0,none⟩ 1 1 news (by omega) (fun j u hu=>by
  rw[gA,avm,World.cell?_alloc_at _ _ _ _ rfl];simpa using hu) h1 hn Cd (by simp;omega)
 refine⟨v',w',r1,r2,ah.grown ((ah.refl _ w).alloc _) r3 (fun k hk=>.inl hk),?_,?_⟩
 ·rcases r5 with r5|r5
  ·exact .inl r5
  ·exact .inr ⟨_,r5,by simp⟩
 ·rcases r2.2 with⟨_,h0⟩|⟨g,cap,_,rfl,_⟩
  ·omega
  ·exact⟨g,cap,rfl⟩
theorem oh.stored {w w2:World}{p sb mb xb:Nat}{ov ov':Value}{st:Int}{keep:List UInt8}{lo:List (Int×List UInt8)}{d:Dk}{F F':Nat->Prop}(h:oh w p sb mb xb ov st keep lo d F)(n:Nat)(hn:n<d.size)(s:List UInt8)(hs:s.length=64)
  (own:World.blk w2 p (oQ sb mb xb ov' st keep (d.put n s)) 155) (stays:World.blk w2 sb (aF d.stays) 9) (loose:JH w2 mb (em j6 (n:Int) s lo)) (bad:JI w2 xb [])
  (order:w2.ownsRow 0 3 1 ov' (d.put n s).lo.length (bo ((d.put n s).lo.map fun x=>(x.1:Int)))) (fo:∀ b,ov'.ownBlock=some b->F' b) (ap:∀ b,ov'.ownBlock=some b->b≠p/\b≠sb/\b≠mb/\b≠xb) (hF:∀ b,F b->F' b) (lt:∀ b,F' b->b<w2.heap.size):
  oh w2 p sb mb xb ov' st keep (em j6 (n:Int) s lo) (d.put n s) F' where
 own:=own
 stays:=stays
 loose:=loose
 bad:=bad
 order:=order
 ok:=YB h.ok hn hs
 get m:=by
  show _=el (jx d.lo n s) m;rw[kw,pK,h.get m];have:((m:Int)=(n:Int))↔m=n:=by omega
  simp only[this]
 keys x hx:=by
  rcases Lf hx with h1|h1
  ·exact⟨n,h1,by show(el (jx d.lo n s) n).isSome=true;rw[pK,auI rfl];rfl⟩
  ·obtain⟨m,h2,h3⟩:=h.keys x h1;refine⟨m,h2,?_⟩;show(el (jx d.lo n s) m).isSome=true;rw[pK];split
   ·rfl
   ·exact h3
 many:=by
  show _<=(jx d.lo n s).length;have:=pN (n:Int) s lo;rw[tt];rw[h.get n]at this;have h2:=h.many;by_cases hq:(el d.lo n).isSome=true
  ·rw[auI hq]at this ⊢;omega
  ·rw[auK hq]at this ⊢;omega
 steps:=h.steps
 fp:=hF _ h.fp
 fs:=hF _ h.fs
 fm:=hF _ h.fm
 fx:=hF _ h.fx
 fo:=fo
 apart:=h.apart
 aparto:=ap
 lt:=lt
end
section
open Go.RowKit
structure d6 (F F':Nat->Prop)(w w':World):Prop where
 mod:ah F w w'
 foot:∀ b,F' b->F b\/w.heap.size<=b
theorem d6.refl (F:Nat->Prop)(w:World):d6 F F w w:=⟨ah.refl _ _,fun _ h=>.inl h⟩
theorem d6.trans {F G H:Nat->Prop}{a b c:World}(h:d6 F G a b)(k:d6 G H b c):d6 F H a c:=
 ⟨h.mod.trans k.mod fun i hi hg=>(h.foot i hg).elim id (fun hh=>absurd hi (by omega)),fun i hi=>(k.foot i hi).elim (fun hg=>h.foot i hg) (fun hh=>.inr (aux h.mod.size hh))⟩
theorem kP {w:World}{p:Nat}{d:Dk}{F:Nat->Prop}(h:bC w p d F)(n:Nat)(hn:n<d.size)(s:List UInt8)(hs:s.length=64):
  Calls prog 152 #[.pointer (some ⟨p,0,none⟩),.int .i64 (n:Int),.string ⟨s.toArray⟩] w fun e w'=>e=.returned (.int .i64 0)/\∃ F',bC w' p (d.put n s) F'/\d6 F F' w w':=by
 have M:=hd0 (C6 h n hn);obtain⟨sb,mb,xb,ov,st,keep,lo,h⟩:=h;have H:=hd0 h;have hm:=h.ok.many;have cK:d.size<=16384:=hm;have hlo:=YC h.ok;have Cw:=h.many;have c1:w.cell? ⟨p,1,none⟩=some (.map (some mb)):=aa h.own 1;have c2:w.cell? ⟨p,2,none⟩=some ov:=aa h.own 2;have f2:=ae h.own ⟨p,2,none⟩ rfl;have c3:w.cell? ⟨p,3,none⟩=some (.map (some xb)):=aa h.own 3;have hp:=ai h.own;have l3:=h.bad.look1 (tm:=153) O8 underlying153 underlying3 (n:Int) ⟨by omega,by omega⟩;have l1:=h.loose.look (tm:=152) vX underlying152 underlying3 (n:Int) ⟨by omega,by omega⟩;rw[h.get n]at l1;have sQ:(s.length:Int)=64:=by omega
 have h3:(bF (n:Int) ([]:List (Int×Bool))).getD false=false:=rfl;rw[h3]at l3;obtain⟨q,hq⟩:∃ q,el d.lo n=q:=⟨_,rfl⟩
 rw[hq]at l1
 cases q with
 |some s0=>
  obtain⟨w2,hr,cw,dh,lJ⟩:=h.loose.store (tm:=152) vX underlying152 underlying3 (n:Int) ⟨by omega,by omega⟩ s (by omega) (by omega);have X2:oh w2 p sb mb xb ov st keep (em j6 (n:Int) s lo) (d.put n s) F:=h.stored n hn s hs
   (ab dh h.own h.apart.2.1) (ab dh h.stays h.apart.2.2.2.1) cw (h.bad.mod dh (fun e=>h.apart.2.2.2.2.2 e.symm))
   (by
    have e:(d.put n s).lo.length=d.lo.length:=by show(jx d.lo n s).length=_;rw[tt,hq];rfl
    have e2:(d.put n s).lo.map (fun x=>(x.1:Int))=d.lo.map (fun x=>(x.1:Int)):=by
     have:=vZ (lo:=d.lo) (n:=n) (s:=s);rw[hq]at this;have h2:=avO (List.map fun(k:Nat)=>(k:Int)) this;simpa[au0,Function.comp_def,Dk.put]using h2
    rw[e,e2];exact aA h.order fun b hb=>dh.block b (h.lt b (h.fo b hb)) (h.aparto b hb).2.2.1)
   h.fo h.aparto (fun _ hb=>hb) (fun b hb=>by rw[lJ];exact h.lt b hb)
  have S2:=hd0 (vY ⟨sb,mb,xb,ov,st,keep,_,X2⟩);have HX:=hd0 X2;have Hm:=hd0 dh;have BP:p<w2.heap.size:=by rw[lJ];exact hp
  clear h hm hn hq h3 dh cw lJ X2 hs hlo Cw;go_enter func152,ntmps152;go_wp2_with fail;refine M.out.mono ?_;rintro e w1 ⟨rfl,rfl⟩;go_wp2_with fail;refine S2.out.mono ?_;rintro e w3 ⟨rfl,AH,dg,rfl⟩
  go_wp2
  go_ret;exact⟨rfl,F,⟨sb,mb,xb,ov,AH,keep,_,HX.out.stepped AH dg⟩,⟨(Hm.out.mono (fun i _ e=>by subst e;exact H.out.fm)).trans ((ah.refl F _).setCell (p:=⟨p,4,none⟩) (.inl H.out.fp) _) (fun _ _ h=>h),fun b hb=>.inl hb⟩⟩
 |none=>
  obtain⟨v',w1,ha,bw,vx,ip,g,cap,hv'⟩:=hZ (P:=prog) underlying46 iX rfl (by decide) 0 ov _ _ w h.order [.int .i64 (n:Int)] rfl (by intro u hu;simp at hu;subst hu;rfl) (by unfold maxLen;omega) (by omega) (avk _);subst hv';obtain⟨W1,Kg⟩:∃ W1,W1=w1.setCell ⟨p,2,none⟩ (.slice (some ⟨g,0,none⟩) (d.lo.length+1) cap):=⟨_,rfl⟩
  have mp:ah (fun b=>b=p) w1 W1:=by rw[Kg];exact(ah.refl (fun b=>b=p) w1).setCell (p:=⟨p,2,none⟩) (.inl rfl) _
  have mm:ah (fun b=>ov.ownBlock=some b\/b=p) w W1:=(vx.mono (fun _ _ e=>.inl e)).trans mp (fun i _ e=>.inr e);have hg:∀ b,(Value.slice (some ⟨g,0,none⟩) (d.lo.length+1) cap).ownBlock=some b->b≠p/\b≠sb/\b≠mb/\b≠xb:=by
   intro b hb;rcases ip with e|⟨k,e,hk⟩
   ·exact h.aparto b (e▸hb)
   ·have:k=b:=by rw[hb]at e;exact(avG e).symm
    have h1:=h.lt p h.fp;have h2:=h.lt sb h.fs;have h3:=h.lt mb h.fm;have h4:=h.lt xb h.fx;exact⟨by omega,by omega,by omega,by omega⟩
  have yl:World.blk W1 p (oQ sb mb xb (.slice (some ⟨g,0,none⟩) (d.lo.length+1) cap) st keep d) 155:=by
   rw[Kg];exact ag (ab vx h.own (fun e=>(h.aparto p e).1 rfl)) 2 _
  have nmm:∀ b,b=sb\/b=mb\/b=xb->¬(ov.ownBlock=some b\/b=p):=by
   rintro b hb (e|rfl)
   ·have:=h.aparto b e;rcases hb with rfl|rfl|rfl
    ·exact this.2.1 rfl
    ·exact this.2.2.1 rfl
    ·exact this.2.2.2 rfl
   ·rcases hb with e|e|e
    ·exact h.apart.1 e
    ·exact h.apart.2.1 e
    ·exact h.apart.2.2.1 e
  have SW:World.blk W1 sb (aF d.stays) 9:=ab mm h.stays (nmm sb (.inl rfl));have Tk:JH W1 mb lo:=h.loose.mod mm (nmm mb (.inr (.inl rfl)));have ae2:JI W1 xb []:=h.bad.mod mm (nmm xb (.inr (.inr rfl)));have BU:W1.ownsRow 0 3 1 (.slice (some ⟨g,0,none⟩) (d.lo.length+1) cap) (d.lo.length+1) (bo (d.lo.map fun x=>(x.1:Int))++[.int .i64 (n:Int)]):=
   aA bw fun b hb=>mp.block b (bw.lt b hb).2 (hg b hb).1
  obtain⟨w2,hr,cw,dh,lJ⟩:=Tk.store (tm:=152) vX underlying152 underlying3 (n:Int) ⟨by omega,by omega⟩ s (by omega) (by omega);have X2:oh w2 p sb mb xb (.slice (some ⟨g,0,none⟩) (d.lo.length+1) cap) st keep (em j6 (n:Int) s lo) (d.put n s) (fun b=>F b\/(Value.slice (some ⟨g,0,none⟩) (d.lo.length+1) cap).ownBlock=some b):=h.stored n hn s hs
   (ab dh yl h.apart.2.1) (ab dh SW h.apart.2.2.2.1) cw (ae2.mod dh (fun e=>h.apart.2.2.2.2.2 e.symm))
   (by
    have e:(d.put n s).lo.length=d.lo.length+1:=by show(jx d.lo n s).length=_;rw[tt,hq];rfl
    have e2:bo ((d.put n s).lo.map (fun x=>(x.1:Int)))=bo (d.lo.map (fun x=>(x.1:Int)))++[.int .i64 (n:Int)]:=by
     have:=vZ (lo:=d.lo) (n:=n) (s:=s);rw[hq]at this;have h2:=avO (List.map fun(k:Nat)=>(k:Int)) this;have h3:(d.put n s).lo.map (fun x=>(x.1:Int))=d.lo.map (fun x=>(x.1:Int))++[(n:Int)]:=by simpa[au0,Function.comp_def,Dk.put]using h2
     rw[h3];simp[bo]
    rw[e,e2];exact aA BU fun b hb=>dh.block b (by have:=(BU.lt b hb).2;exact this) (hg b hb).2.2.1)
   (fun _ hb=>.inr hb) hg (fun _ hb=>.inl hb) (fun b hb=>by
    rw[lJ];rcases hb with hb|hb
    ·exact auL (h.lt b hb) mm.size
    ·exact(BU.lt b hb).2)
  have S2:=hd0 (vY ⟨sb,mb,xb,_,st,keep,_,X2⟩);have HX:=hd0 X2;have Hm:=hd0 dh;have Hmm:=hd0 mm;have yz:=hd0 ip;have cp:w1.cell? ⟨p,2,none⟩=some ov:=aa (ab vx h.own (fun e=>(h.aparto p e).1 rfl)) 2;have fp:=ae (ab vx h.own (fun e=>(h.aparto p e).1 rfl)) ⟨p,2,none⟩ rfl;have cp1:w1.cell? ⟨p,1,none⟩=some (.map (some mb)):=aa (ab vx h.own (fun e=>(h.aparto p e).1 rfl)) 1;have Ce:p<w1.heap.size:=auL hp vx.size;have BP:p<w2.heap.size:=by rw[lJ];exact auL Ce mp.size
  rw[Kg]at hr;have Ha:=hd0 ha;clear ha;clear h hm hn hq h3 dh cw lJ X2 hs hlo Cw mp mm hg yl nmm SW Tk ae2 BU bw vx ip Kg;go_enter func152,ntmps152;go_wp2_with fail;refine M.out.mono ?_;rintro e w3 ⟨rfl,rfl⟩;go_wp2_with ((at_builtin;refine aB Ha.out rfl rfl rfl rfl ?_));refine S2.out.mono ?_;rintro e w3 ⟨rfl,AH,dg,rfl⟩
  go_wp2
  go_ret;refine⟨rfl,_,⟨sb,mb,xb,_,AH,keep,_,HX.out.stepped AH dg⟩,⟨(((Hmm.out.mono (fun i _ e=>e.elim (H.out.fo i) (fun e=>by subst e;exact H.out.fp))).trans (Hm.out.mono (T:=F) (fun i _ e=>by subst e;exact H.out.fm)) (fun _ _ h=>h))).trans ((ah.refl F _).setCell (p:=⟨p,4,none⟩) (.inl H.out.fp) _) (fun _ _ h=>h),fun b hb=>?_⟩⟩;rcases hb with hb|hb
  ·exact .inl hb
  ·rcases yz.out with e|⟨k,e,hk⟩
   ·exact .inl (H.out.fo b (e▸hb))
   ·exact .inr (by have:k=b:=by rw[hb]at e;exact(avG e).symm
                   omega)
end
end Go.Proofs.YtkghpdcloaiflaaGreatDoor
