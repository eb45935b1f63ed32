import Derived.Test.YtkghpdcloaiflaaGreatDoorD04
import Derived.Deep.Upon
import Derived.Lib.Builder
import Derived.Lib.AppendStr
import Derived.Laws.Externs
set_option maxHeartbeats 2000000
set_option maxRecDepth 100000
namespace Go.Proofs.YtkghpdcloaiflaaGreatDoor
open _root_.Go.Proofs.Tryz
section
open Go.RowKit Go.Sort Go.Lib
theorem La {w0 w:World}{S:Nat->Prop}(h:ah S w0 w)(os:Array Obj):ah S w0 (grow w os):=
 ⟨h.os,h.tape,h.output,by have:=h.size;simp[grow];omega,fun k hk hS=>by
  rw[<-h.block k hk hS];show(w.heap++os)[k]?=_;rw[Array.getElem?_append_left (auW hk h.size)]⟩
theorem uH {w0 w:World}{S:Nat->Prop}(h:ah S w0 w)(e:TypeId)(s:ByteArray):ah S w0 (Lib.bytesWorld w e s):=by
 have hs:=h.size;have h1:ah S w0 (w.drew.alloc (.cells (bytesCells w e s) e)):=h.drew.alloc _;refine⟨h1.os,h1.tape,h1.output,?_,fun k hk hS=>?_⟩
 ·have:=h1.size;simpa[Lib.bytesWorld,World.freeze]using this
 ·rw[<-h1.block k hk hS];show(Array.modify _ _ _)[k]?=_;rw[Array.getElem?_modify,auV (by intro e;have e2:w.heap.size=k:=e;omega)]
theorem C4 (n:Int)(h0:-9223372036854775808<=n)(h1:n<=9223372036854775807)(w:World)(he:t8 w):
  Calls prog 199 #[.int .i64 n] w fun e w'=>e=.returned (.string ⟨(Lib.itoa n).toArray⟩)/\af w w':=
 (Tryz.strconv_Itoa n h0 h1 w he.pow).mono fun _ _ ⟨a,k,os,b⟩=>⟨a,by subst b;exact La ((ah.refl _ w).drewN k) os⟩
def ua (l:List UInt8):Int:=match Lib.atoiAll l with
 | .ok v=>v
 | .range=>Lib.atoiSat l
 |_=>0
theorem Pa (l:List UInt8)(hl:l.length<=140737488355328)(w:World)(he:t8 w):
  Calls prog 201 #[.string ⟨l.toArray⟩] w fun e w'=>(∃ x,e=.returned (.tuple #[.int .i64 (ua l),x]))/\af w w':=by
 have cJ:({ data:=l.toArray }:ByteArray).size=l.length:=by simp[ByteArray.size]
 cases h:Lib.atoiAll l with
 |ok v=>
  have ev:ua l=v:=by simp[ua,h]
  rw[ev];refine(Tryz.strconv_Atoi_ok ⟨l.toArray⟩ (by rw[cJ];omega) v h w).mono fun e w' ⟨a,b⟩=>⟨⟨_,a⟩,?_⟩
  rcases b with rfl|⟨t,rfl⟩
  ·exact ah.refl _ _
  ·exact uH (ah.refl _ w) _ _
 |range=>
  have ev:ua l=Lib.atoiSat l:=by simp[ua,h]
  rw[ev];obtain⟨tp,p,hv⟩:=he.rng;exact(Tryz.strconv_Atoi_range_var ⟨l.toArray⟩ (by rw[cJ];omega) h tp p w hv).mono fun e w' ⟨N,a,_,_,b⟩=>⟨⟨_,a⟩,ah.ofBelow b⟩
 |_=>
  have ev:ua l=0:=by simp[ua,h]
  rw[ev];obtain⟨tp,p,hv⟩:=he.syn;exact(Any.strconv_Atoi_syntax_var Tryz.laysC172 ⟨l.toArray⟩ (by rw[cJ];omega) h tp p w hv).mono fun e w' ⟨N,a,_,_,b⟩=>⟨⟨_,a⟩,ah.ofBelow b⟩
def aF (xs:List (List UInt8)):Array Value:=(xs.map fun x=>Value.string ⟨x.toArray⟩).toArray
@[go_sem] theorem W8 (xs:List (List UInt8)):(aF xs).size=xs.length:=by simp[aF]
theorem Gt (xs:List (List UInt8))(i:Nat):(aF xs)[i]?=xs[i]?.map fun x=>Value.string ⟨x.toArray⟩:=by simp[aF]
theorem zw (c:UInt8)(l:List UInt8)(hl:l.length<4294967281)(w:World)(he:t8 w):
  Calls prog 249 #[.string ⟨l.toArray⟩,.string ⟨#[c]⟩] w fun e w'=>e=.returned (.slice (some ⟨w.heap.size,0,none⟩) (j4 c l).length (j4 c l).length)/\w'=w.alloc (.cells (aF (j4 c l)) 9):=by
 have h:=Tryz.strings_Split_shaped ⟨l.toArray⟩ ⟨#[c]⟩ w he.shaped (by simpa[ByteArray.size]using hl) (by simp[ByteArray.size]);have e0:=Gs c l;have e1:=vO c l;refine h.mono fun e w' ⟨a,b⟩=>⟨?_,?_⟩
 ·rw[a,<-e0]
 ·rw[b,e1,aF,avb];rfl
theorem qm (s p:List UInt8)(w:World):
  Calls prog 248 #[.string ⟨s.toArray⟩,.string ⟨p.toArray⟩] w fun e w'=>e=.returned (.tuple #[.string ⟨(Lib.trimPrefix s p).toArray⟩,.bool (Lib.hasPrefix s p)])/\w'=w:=
 Tryz.strings_CutPrefix ⟨s.toArray⟩ ⟨p.toArray⟩ w
abbrev iA (w:World)(base:Nat)(v:Value)(xs:List (List UInt8)):Prop:=w.ownsRow base 9 1 v xs.length (aF xs).toList
theorem Pd (c:UInt8)(xs:List (List UInt8))(base:Nat)(v:Value)(w:World)(h:iA w base v xs)(hn:xs.length<=140737488355328)(aW:(Lib.join xs [c]).length<=140737488355328):
  Calls prog 122 #[v,.string ⟨#[c]⟩] w fun e w'=>e=.returned (.string ⟨(Lib.join xs [c]).toArray⟩)/\af w w':=by
 obtain⟨h1,h2⟩:=h;rcases h2 with⟨rfl,h3⟩|⟨g,cap,dz,rfl,hb,hg,Ko,hm,cJ,vk⟩
 ·obtain rfl:=avj.1 h3;exact(Tryz.strings_Join_none none 0 ⟨#[c]⟩ w).mono fun e w' ⟨a,b⟩=>⟨a,b▸ah.refl _ _⟩
 ·have e0:(xs.map fun x=>(⟨x.toArray⟩:ByteArray)).length=xs.length:=by simp
  have e1:(xs.map fun x=>(⟨x.toArray⟩:ByteArray)).map (·.data.toList)=xs:=(avb).trans (List.map_id xs);have h:=Tryz.strings_Join g 0 cap (xs.map fun x=>(⟨x.toArray⟩:ByteArray)) ⟨#[c]⟩ w (fun j x hx=>by
   rw[avy];simp only[avM,avX]at hx;obtain⟨y,hy,rfl⟩:=hx;have aK:=(au0.1 hy).1;have hc:dz.toList[j]?=some (Value.string ⟨y.toArray⟩):=by
    have:(dz.toList.take (xs.length*1))[j]?=some (Value.string ⟨y.toArray⟩):=by rw[vk];simp[aF,hy]
    rwa [List.getElem?_take,auT (by omega)]at this
   have:w.cell? ⟨g,j,none⟩=dz[j]?:=by simp[World.cell?,hg]
   rw[this,<-Array.getElem?_toList];exact hc) (sV hg) (by rw[e0];exact hn) (by rw[e0];exact Ko) (by rw[e1];exact aW)
  rw[e0,e1]at h;exact h.mono fun e w' ⟨a,b⟩=>⟨a,ah.ofBelow b⟩
theorem iV {P:Program}{ts te:TypeId}{z:Value}{bytes:Nat}(hs:P.underlying ts=some (.slice te))(hi:(P.info? te).map (fun i=>(i.zero,i.size,i.bytes))=some (some z,1,bytes))(hz:z.cells.size=1)(base:Nat)(v:Value)(n:Nat)(xs:List Value)(w w0:World)
  (aZ:w.ownsRow base te 1 v n xs) (news:List Value) (h1:∀ u∈news,u.oneCell'=true) (hn:n+news.length<=maxLen) (BO:(n+news.length)*bytes<=140737488355328) (FD:base<=w.heap.size) (h0:af w0 w) (iJ:w0.heap.size<=base):
  ∃ v' w',(Builtin.append_ #[ts,ts] ts #[v,.slice (some ⟨w.heap.size,0,none⟩) news.length news.length]).run P (w.alloc (.cells news.toArray te))=.ok v' w'/\w'.ownsRow base te 1 v' (n+news.length) (xs++news)/\af w0 w'/\ah (fun b=>base<=b) w w':=by
 obtain⟨i0,hi,nY,mU,oE⟩:=auZ hi;obtain⟨v',w',h1,h2,h3,_⟩:=run_append_own (P:=P) (w.alloc (.cells news.toArray te)) base ts ts te i0 z 1 bytes hs hi nY mU oE hz (by decide) v n xs (aZ.alloc _) ⟨w.heap.size,0,none⟩ news.length news.length news (by simp) (fun j u hu=>by
  rw[gz,avy,World.cell?_alloc_at _ _ _ _ rfl];simpa using hu) h1 (by exact hn) BO (by simp;omega)
 exact⟨v',w',h1,h2,ah.grown (h0.alloc _) h3 (fun k hk=>.inr (auI iJ (aZ.lt k hk).1)),ah.grown ((ah.refl _ w).alloc _) h3 (fun k hk=>.inl (aZ.lt k hk).1)⟩
end
section
open Go.RowKit
theorem vQ:(prog.info? 9).map (fun i=>(i.zero,i.size,i.bytes))=some (some (.string ⟨#[]⟩),1,16):=by kernel_rfl
theorem iB {w w':World}{base n:Nat}{t:TypeId}{v:Value}{xs:List Value}(h:w.ownsRow base t 1 v n xs)(k:af w w'):w'.ownsRow base t 1 v n xs:=by
 obtain⟨h1,h2⟩:=h;refine⟨h1,?_⟩;rcases h2 with h2|⟨g,cap,dz,a,b,c,d⟩
 ·exact .inl h2
 ·exact .inr ⟨g,cap,dz,a,b,k.obj c id,d⟩
theorem yI {w:World}{base:Nat}{v:Value}{xs ys:List (List UInt8)}(h:w.ownsRow base 9 1 v (xs.length+(aF ys).toList.length) ((aF xs).toList++(aF ys).toList)):iA w base v (xs++ys):=by
 have e:(aF (xs++ys)).toList=(aF xs).toList++(aF ys).toList:=by simp[aF]
 have e2:(xs++ys).length=xs.length+(aF ys).toList.length:=by simp[aF]
 unfold iA;rw[e,e2];exact h
theorem bi {w:World}{b:Nat}(h:b=w.heap.size)(c:Array Value)(t:TypeId):World.blk (w.alloc (.cells c t)) b c t:=h▸aw w c t
def eI (w:World)(v:Value)(xs:List Value):Prop:=
 ∃ a cap,v=.slice a xs.length cap/\∀ j x,xs[j]?=some x->∃ b o,a=some ⟨b,o,none⟩/\w.cell? ⟨b,o+j,none⟩=some x
theorem aY {w:World}{base n:Nat}{t:TypeId}{v:Value}{xs:List Value}(h:w.ownsRow base t 1 v n xs):eI w v xs:=by
 obtain⟨h1,h2⟩:=h;have hn:n=xs.length:=by omega
 rcases h2 with⟨rfl,h3⟩|⟨g,cap,dz,rfl,hb,hg,Ko,hm,cJ,vk⟩
 ·obtain rfl:xs=[]:=avj.1 (by omega);exact⟨none,0,rfl,fun j x h=>by simp at h⟩
 ·refine⟨some ⟨g,0,none⟩,cap,by rw[hn],fun j x hx=>⟨g,0,rfl,?_⟩⟩;have aK:=(au0.1 hx).1;rw[avy];have hc:dz.toList[j]?=some x:=by
   rw[<-vk,List.getElem?_take]at hx;split at hx
   ·exact hx
   ·cases hx
  simp[World.cell?,hg,<-Array.getElem?_toList,hc]
theorem AW {w:World}{b:Nat}{c:Array Value}{t:TypeId}(cap:Nat)(h:World.blk w b c t):eI w (.slice (some ⟨b,0,none⟩) c.size cap) c.toList:=
 ⟨_,_,rfl,fun j x hx=>⟨b,0,rfl,by rw[avy,aa h];simpa using hx⟩⟩
def uI (l:List (List UInt8)):List Value:=l.map fun x=>Value.string ⟨x.toArray⟩
@[simp] theorem kM (l:List (List UInt8)):(uI l).length=l.length:=by simp[uI]
theorem JF {w w':World}{base n:Nat}{t:TypeId}{v:Value}{xs:List Value}{S:Nat->Prop}(h:w.ownsRow base t 1 v n xs)(k:ah S w w')(hS:∀ b,base<=b->¬ S b):w'.ownsRow base t 1 v n xs:=by
 obtain⟨h1,h2⟩:=h;refine⟨h1,?_⟩;rcases h2 with h2|⟨g,cap,dz,a,b,c,d⟩
 ·exact .inl h2
 ·exact .inr ⟨g,cap,dz,a,b,k.obj c (hS g b),d⟩
theorem ub (l:List (List UInt8)):(aF l).toList=uI l:=by simp[aF,uI]
theorem oM {w:World}{base:Nat}{v:Value}{xs:List (List UInt8)}(h:iA w base v xs):eI w v (uI xs):=by
 have h1:=aY h;rw[ub]at h1;exact h1
end
section
open Go.RowKit
theorem rL:(prog.info? 176).map (·.size)=some 2:=by kernel_rfl
theorem Pe:liesAt prog prog.depth 176 (2/prog.cellsOf 176) 0 176 1=true:=by kernel_rfl
theorem ke:(prog.info? 5).map (fun i=>(i.zero,i.size,i.bytes))=some (some (.int .u8 0),1,1):=by kernel_rfl
theorem Pf:(176:TypeId)≠5:=by decide
abbrev dc (B b:Nat)(l:List UInt8)(w:World):Prop:=Lib.IsBuilder 176 5 B b (Lib.byteCells l) w
theorem oN (b:Nat)(w:World)(h0:w.cell? ⟨b,0,none⟩=some (.pointer (some ⟨b,0,none⟩))):
  Calls prog 187 #[.pointer (some ⟨b,0,none⟩)] w fun e w'=>e=.returned (.tuple #[])/\w'=w:=by
 obtain⟨j,hj,_⟩:=avX.1 rL;go_enter func187,ntmps187;go_wp2_with fail;rw[Lib.run_neq_ptr_same w _ underlying174 hj];go_wp2_with fail;go_end0;exact⟨rfl,rfl⟩
theorem oe (b:Nat)(w:World)(h0:w.cell? ⟨b,0,none⟩=some (.pointer none))(hsh:w.shape? b=some (176,2))(hfz:w.frozen? ⟨b,0,none⟩=false):
  Calls prog 187 #[.pointer (some ⟨b,0,none⟩)] w fun e w'=>e=.returned (.tuple #[])/\w'=w.setCell ⟨b,0,none⟩ (.pointer (some ⟨b,0,none⟩)):=by
 obtain⟨j,hj,hjs⟩:=avX.1 rL;go_enter func187,ntmps187;go_wp2_with fail;rw[Lib.run_to_unsafe w ⟨b,0,none⟩ underlying174 underlying310 hj (by rw[hjs];decide) hsh (Nat.zero_lt_succ 1)];simp only[Result.andThen];rw[Oper.upon_value];go_wp2_with fail;rw[av5 func241 (by kernel_rfl) (by kernel_rfl) (by kernel_rfl) (e:=Extern.AbiNoEscape.same) (by kernel_rfl)];rw[Lib.run_noEscape];simp only[Result.andThen];rw[Oper.upon_value];go_wp2_with fail;rw[Lib.run_from_unsafe w ⟨b,0,none⟩ underlying310 underlying174 hj hsh Pe];simp only[Result.andThen];rw[Oper.upon_value];go_wp2_with fail;go_end0;exact⟨rfl,rfl⟩
theorem Lb (B b:Nat)(bs:List Value)(w:World)(h:Lib.IsBuilder 176 5 B b bs w):
  Calls prog 187 #[.pointer (some ⟨b,0,none⟩)] w fun e w'=>e=.returned (.tuple #[])/\(Lib.BuilderAt 176 5 B b (.pointer (some ⟨b,0,none⟩)) bs w'/\Below B w w'):=by
 rcases h with h|h
 ·refine(oe b w h.cell0 h.shape h.frozen0).mono ?_;rintro e w' ⟨rfl,rfl⟩;exact⟨rfl,h.used _,(Below.refl B w).setCell (p:=⟨b,0,none⟩) h.1 _⟩
 ·refine(oN b w h.cell0).mono ?_;rintro e w' ⟨rfl,rfl⟩;exact⟨rfl,h,Below.refl B _⟩
theorem vR (l:List UInt8)(c:UInt8):Lib.byteCells (l++[c])=Lib.byteCells l++[.int .u8 (c.toNat:Int)]:=by simp[Lib.byteCells]
theorem vS (B b:Nat)(l:List UInt8)(c:UInt8)(w:World)(h:dc B b l w)(aW:l.length+1<=140737488355328)(hBw:B<=w.heap.size):
  Calls prog 251 #[.pointer (some ⟨b,0,none⟩),.int .u8 (c.toNat:Int)] w fun e w'=>e=.returned .nilIface/\dc B b (l++[c]) w'/\Below B w w':=by
 unfold dc at*;rw[vR];have ru:(Lib.byteCells l).length=l.length:=Lib.byteCells_length l;generalize Lib.byteCells l=bs at*;rw[<-ru]at aW;clear ru;obtain⟨i0,hi,nY,mU,oE⟩:=auZ ke;go_enter func251,ntmps251;go_wp2_with fail;refine(Lb B b bs _ h).mono ?_;rintro e w1 ⟨rfl,h1,hb1⟩;obtain⟨hB,v,AP,aZ,dZ⟩:=h1;have c0:w1.cell? ⟨b,0,none⟩=some (.pointer (some ⟨b,0,none⟩)):=by rw[Lib.cell_of_heap AP];rfl
 have c1:w1.cell? ⟨b,1,none⟩=some v:=by rw[Lib.cell_of_heap AP];rfl
 go_wp2_with (at_builtin;refine wpList_append_own _ rfl _ _ 131 rfl B 5 i0 (.int .u8 0) 1 1 underlying131 hi nY mU oE rfl (by decide) _ _ _ rfl (aZ.alloc _) ⟨w1.heap.size,0,none⟩ 1 1 [.int .u8 (c.toNat:Int)] rfl rfl ?c1 ?c2 ?c3 ?c4 ?c5 ?_)
 case c1=>
  intro j u hj
  match j,hj with
  |0,hj=>simp at hj;subst hj;simp[Addr.add]
 case c2=>intro u hu;simp at hu;subst hu;rfl
 case c3=>unfold maxLen;omega
 case c4=>omega
 case c5=>have:=hb1.size;simp;omega
 intro v' w2 ow qv _;have aK:b<w1.heap.size:=by
  rcases Nat.lt_or_ge b w1.heap.size with h'|h'
  ·exact h'
  ·simp[Array.getElem?_eq_none h']at AP
 have eL:w2.heap[b]?=some (.cells #[.pointer (some ⟨b,0,none⟩),v] 176 (0,0)):=by
  rw[qv.block b (by simp;omega) (fun e=>dZ e.symm),Lib.alloc_old w1 _ b aK];exact AP
 have d0:w2.cell? ⟨b,0,none⟩=some (.pointer (some ⟨b,0,none⟩)):=by rw[Lib.cell_of_heap eL];rfl
 have d1:w2.cell? ⟨b,1,none⟩=some v:=by rw[Lib.cell_of_heap eL];rfl
 have f1:w2.frozen? ⟨b,1,none⟩=false:=Lib.frozen_of_heap eL 1;obtain⟨g,cap,rfl⟩:∃ g cap,v'=.slice (some ⟨g,0,none⟩) (bs.length+1) cap:=by
  rcases ow.2 with⟨_,h0⟩|⟨g,cap,dz,hv,_⟩
  ·omega
  ·exact⟨g,cap,hv⟩
 have SS:=hd0 ow;have Hgr:=hd0 qv;have Hb1:=hd0 hb1;have Hb2:=hd0 eL;have SI:=hd0 aZ;clear ow qv hb1 eL aZ AP h c0 c1 hi nY mU oE;go_wp2;go_ret;refine⟨rfl,.inr ?_,?_⟩
 ·exact Lib.BuilderAt.put (T:=176) (e:=5) hB Hb2.out (bs':=bs++[.int .u8 (c.toNat:Int)]) (by simpa using SS.out) Pf
 ·exact((Hb1.out.alloc (by have:=Hb1.out.size;omega) _).grown Hgr.out (by have:=Hb1.out.size;simp;omega) (fun k hk=>(SI.out.lt k hk).1)).setCell (p:=⟨b,1,none⟩) hB _
theorem gN (B b:Nat)(l:List UInt8)(w:World)(h:dc B b l w)(hBw:B<=w.heap.size):
  Calls prog 112 #[.pointer (some ⟨b,0,none⟩)] w fun e w'=>e=.returned (.string ⟨l.toArray⟩)/\Below B w w':=Tryz.Builder_String_any B b l w h hBw
theorem nB (w:World):dc w.heap.size w.heap.size [] (w.alloc (.cells #[.pointer none,.slice none 0 0] 176)):=Lib.fresh_isBuilder _ _ _
end
section
open Go.RowKit
theorem ib:(prog.info? 3).map (fun i=>(i.zero,i.size,i.bytes))=some (some (.int .i64 0),1,8):=by kernel_rfl
def ba (l:List Int):List Value:=l.map (Value.int .i64)
@[simp] theorem fS (l:List Int):(ba l).length=l.length:=by simp[ba]
abbrev aI (w:World)(base:Nat)(v:Value)(l:List Int):Prop:=w.ownsRow base 3 1 v l.length (ba l)
abbrev bP (w:World)(base:Nat)(v:Value)(l:List UInt8):Prop:=w.ownsRow base 5 1 v l.length (gx l)
theorem eX {w:World}{base XY n sz:Nat}{t:TypeId}{v:Value}{xs:List Value}(h:w.ownsRow base t sz v n xs)(hb:XY<=base):w.ownsRow XY t sz v n xs:=by
 obtain⟨h1,h2⟩:=h;refine⟨h1,?_⟩;rcases h2 with h2|⟨g,cap,dz,a,b,c,d⟩
 ·exact .inl h2
 ·exact .inr ⟨g,cap,dz,a,auI hb b,c,d⟩
theorem iW {w:World}{base:Nat}{v:Value}{l:List Int}{c:Int}(h:w.ownsRow base 3 1 v (l.length+[Value.int .i64 c].length) (ba l++[.int .i64 c])):aI w base v (l++[c]):=by
 have e:ba (l++[c])=ba l++[.int .i64 c]:=by simp[ba]
 have e2:(l++[c]).length=l.length+[Value.int .i64 c].length:=by simp
 unfold aI;rw[e,e2];exact h
theorem lN {w:World}{base:Nat}{v:Value}{l:List UInt8}(h:bP w base v l):(convert 131 9 v).run prog w=.ok (.string ⟨l.toArray⟩) w:=by
 rcases h.2 with⟨rfl,h3⟩|⟨g,cap,dz,rfl,hb,hg,Ko,hm,cJ,vk⟩
 ·obtain rfl:=avj.1 h3;rw[run_convert_bytes_string w _ _ 5 _ 0 0 underlying131 underlying5 underlying9];simp[Conv.bytesToString];rfl
 ·refine pG w _ _ 5 g 0 _ cap l underlying131 underlying5 underlying9 rfl (fun j hj=>?_);rw[avy,<-vk,List.getElem?_take,auT (by omega)];simp[World.cell?,hg]
end
section
open Go.RowKit
def fG (F:Nat->Prop)(w w':World):Prop:=∀ b,F b->b<w.heap.size->w'.heap[b]?=w.heap[b]?
theorem ah.on {S F:Nat->Prop}{w w':World}(m:ah S w w')(h:∀ b,F b->¬ S b):fG F w w':=fun b hb hl=>m.block b hl (h b hb)
abbrev JG (w:World)(b:Nat)(l:List (Int×List UInt8)):Prop:=fy prog 3 (plainElem prog 9) CX w b l
abbrev JH (w:World)(b:Nat)(l:List (Int×Bool)):Prop:=fy prog 3 (plainElem prog 4) O7 w b l
theorem vT:od prog 9 (plainElem prog 9) CX (fun s=>.string ⟨s.toArray⟩) (fun s=>s.length<=140737488355328) []:=O8 underlying9 (fun _=>by kernel_rfl)
theorem Pg:od prog 4 (plainElem prog 4) O7 Value.bool (fun _=>True) false:=KZ underlying4 (fun _=>by kernel_rfl)
def oO (sb mb xb:Nat)(ov:Value)(st:Int)(keep:List UInt8)(d:Dk):Array Value:=
 #[.slice (some ⟨sb,0,none⟩) d.size d.size,.map (some mb),ov,.map (some xb),.int .i64 st,.int .i64 0,.string ⟨keep.toArray⟩,.bool false]
structure og (w:World)(p sb mb xb:Nat)(ov:Value)(st:Int)(keep:List UInt8)(lo:List (Int×List UInt8))(d:Dk)(F:Nat->Prop):Prop where
 own:World.blk w p (oO sb mb xb ov st keep d) 155
 stays:World.blk w sb (aF d.stays) 9
 loose:JG w mb lo
 bad:JH w xb []
 order:w.ownsRow 0 3 1 ov d.lo.length (ba (d.lo.map fun x=>(x.1:Int)))
 ok:yF d
 get:∀ n:Nat,bE (n:Int) lo=ez d.lo n
 keys:∀ x∈lo,∃ n:Nat,x.1=(n:Int)/\(ez d.lo n).isSome=true
 many:lo.length<=d.lo.length
 steps:-9223372036854775808<=st/\st<=9223372036854775807
 fp:F p
 fs:F sb
 fm:F mb
 fx:F xb
 fo:∀ b,ov.ownBlock=some b->F b
 apart:p≠sb/\p≠mb/\p≠xb/\sb≠mb/\sb≠xb/\mb≠xb
 aparto:∀ b,ov.ownBlock=some b->b≠p/\b≠sb/\b≠mb/\b≠xb
 lt:∀ b,F b->b<w.heap.size
def bB (w:World)(p:Nat)(d:Dk)(F:Nat->Prop):Prop:=∃ sb mb xb ov st keep lo,og w p sb mb xb ov st keep lo d F
theorem aA {w w':World}{base n sz:Nat}{t:TypeId}{v:Value}{xs:List Value}(h:w.ownsRow base t sz v n xs)(k:∀ b,v.ownBlock=some b->w'.heap[b]?=w.heap[b]?):w'.ownsRow base t sz v n xs:=by
 obtain⟨h1,h2⟩:=h;refine⟨h1,?_⟩;rcases h2 with h2|⟨g,cap,dz,rfl,h3,h4,h5⟩
 ·exact .inl h2
 ·exact .inr ⟨g,cap,dz,rfl,h3,(k g rfl).trans h4,h5⟩
theorem og.same {w w':World}{p sb mb xb:Nat}{ov:Value}{st:Int}{keep:List UInt8}{lo:List (Int×List UInt8)}{d:Dk}{F:Nat->Prop}(h:og w p sb mb xb ov st keep lo d F)(m:fG F w w')(hs:w.heap.size<=w'.heap.size):og w' p sb mb xb ov st keep lo d F where
 own:=(m p h.fp (h.lt p h.fp)).trans h.own
 stays:=(m sb h.fs (h.lt sb h.fs)).trans h.stays
 loose:=h.loose.same (m mb h.fm (h.lt mb h.fm))
 bad:=h.bad.same (m xb h.fx (h.lt xb h.fx))
 order:=aA h.order fun b hb=>m b (h.fo b hb) (h.lt b (h.fo b hb))
 ok:=h.ok
 get:=h.get
 keys:=h.keys
 many:=h.many
 steps:=h.steps
 fp:=h.fp
 fs:=h.fs
 fm:=h.fm
 fx:=h.fx
 fo:=h.fo
 apart:=h.apart
 aparto:=h.aparto
 lt b hb:=auW (h.lt b hb) hs
theorem bB.same {w w':World}{p:Nat}{d:Dk}{F:Nat->Prop}(h:bB w p d F)(m:fG F w w')(hs:w.heap.size<=w'.heap.size):bB w' p d F:=by
 obtain⟨sb,mb,xb,ov,st,keep,lo,h⟩:=h;exact⟨sb,mb,xb,ov,st,keep,lo,h.same m hs⟩
theorem bB.mod {w w':World}{p:Nat}{d:Dk}{F S:Nat->Prop}(h:bB w p d F)(m:ah S w w')(hS:∀ b,F b->¬ S b):bB w' p d F:=h.same (m.on hS) m.size
theorem bB.ok {w:World}{p:Nat}{d:Dk}{F:Nat->Prop}(h:bB w p d F):yF d:=by obtain⟨sb,mb,xb,ov,st,keep,lo,h⟩:=h;exact h.ok
theorem bB.lt {w:World}{p:Nat}{d:Dk}{F:Nat->Prop}(h:bB w p d F)(b:Nat)(hb:F b):b<w.heap.size:=by obtain⟨sb,mb,xb,ov,st,keep,lo,h⟩:=h;exact h.lt b hb
theorem og.stepped {w:World}{p sb mb xb:Nat}{ov:Value}{st:Int}{keep:List UInt8}{lo:List (Int×List UInt8)}{d:Dk}{F:Nat->Prop}(h:og w p sb mb xb ov st keep lo d F)(AK:Int)(hs:-9223372036854775808<=AK/\AK<=9223372036854775807):
  og (w.setCell ⟨p,4,none⟩ (.int .i64 AK)) p sb mb xb ov AK keep lo d F:=by
 have m:ah (fun x=>x=p) w (w.setCell ⟨p,4,none⟩ (.int .i64 AK)):=(ah.refl (fun x=>x=p) w).setCell (p:=⟨p,4,none⟩) (.inl rfl) _
 exact { own:=ag h.own 4 _,stays:=ab m h.stays (fun e=>h.apart.1 e.symm),loose:=h.loose.mod m (fun e=>h.apart.2.1 e.symm),bad:=h.bad.mod m (fun e=>h.apart.2.2.1 e.symm),
         order:=aA h.order fun b hb=>m.block b (h.lt b (h.fo b hb)) (h.aparto b hb).1,ok:=h.ok,get:=h.get,keys:=h.keys,many:=h.many,steps:=hs,fp:=h.fp,fs:=h.fs,fm:=h.fm,fx:=h.fx,fo:=h.fo,apart:=h.apart,aparto:=h.aparto,
         lt:=fun b hb=>by have:=h.lt b hb;simpa[go_sem]using this }
theorem jB {w:World}{p:Nat}{d:Dk}{F:Nat->Prop}(h:bB w p d F):
  Calls prog 96 #[.pointer (some ⟨p,0,none⟩)] w fun e w'=>e=.returned (.int .i64 (d.size:Int))/\w'=w:=by
 obtain⟨sb,mb,xb,ov,st,keep,lo,h⟩:=h;have c0:w.cell? ⟨p,0,none⟩=some (.slice (some ⟨sb,0,none⟩) d.size d.size):=aa h.own 0;clear h;go_enter func96,ntmps96
 go_wp2
 go_ret;exact⟨rfl,rfl⟩
theorem C5 {w:World}{p:Nat}{d:Dk}{F:Nat->Prop}(h:bB w p d F)(n:Nat)(hn:n<d.size):
  Calls prog 186 #[.pointer (some ⟨p,0,none⟩),.int .i64 (n:Int)] w fun e w'=>e=.returned (.int .i64 0)/\w'=w:=by
 obtain⟨sb,mb,xb,ov,st,keep,lo,h⟩:=h;have c0:w.cell? ⟨p,0,none⟩=some (.slice (some ⟨sb,0,none⟩) d.size d.size):=aa h.own 0;have c7:w.cell? ⟨p,7,none⟩=some (.bool false):=aa h.own 7;have h1:¬(n:Int)<0:=by omega
 have h2:¬(d.size:Int)<=(n:Int):=by omega
 clear h;go_enter func186,ntmps186
 go_wp2
 go_ret;exact⟨rfl,rfl⟩
theorem vU {w:World}{p:Nat}{d:Dk}{F:Nat->Prop}(h:bB w p d F):
  Calls prog 222 #[.pointer (some ⟨p,0,none⟩)] w fun e w'=>e=.returned (.bool false)/\∃ AK:Int,(-9223372036854775808<=AK/\AK<=9223372036854775807)/\w'=w.setCell ⟨p,4,none⟩ (.int .i64 AK):=by
 obtain⟨sb,mb,xb,ov,st,keep,lo,h⟩:=h;have c4:w.cell? ⟨p,4,none⟩=some (.int .i64 st):=aa h.own 4;have f4:=ae h.own ⟨p,4,none⟩ rfl;have c5:w.cell? ⟨p,5,none⟩=some (.int .i64 0):=aa h.own 5;clear h;go_enter func222,ntmps222
 go_wp2
 go_ret;exact⟨rfl,_,by unfold RowKit.wrap64;omega,rfl⟩
end
section
open Go.RowKit
theorem Lc {w:World}{p:Nat}{d:Dk}{F:Nat->Prop}(h:bB w p d F)(n:Nat)(hn:n<d.size):
  Calls prog 108 #[.pointer (some ⟨p,0,none⟩),.int .i64 (n:Int)] w fun e w'=>e=.returned (.tuple #[.string ⟨(d.get n).toArray⟩,.int .i64 0])/\w'=w:=by
 have M:=hd0 (C5 h n hn);obtain⟨sb,mb,xb,ov,st,keep,lo,h⟩:=h;have hm:=h.ok.many;have cJ:d.size<=16384:=hm;have c0:w.cell? ⟨p,0,none⟩=some (.slice (some ⟨sb,0,none⟩) d.size d.size):=aa h.own 0;have c1:w.cell? ⟨p,1,none⟩=some (.map (some mb)):=aa h.own 1;have c3:w.cell? ⟨p,3,none⟩=some (.map (some xb)):=aa h.own 3;have s0:w.cell? ⟨sb,n,none⟩=some (.string ⟨(d.stays.getD n []).toArray⟩):=by
  rw[aa h.stays n];have:n<d.stays.length:=hn;simp[aF,List.getD,this]
 have l3:=h.bad.look1 (tm:=153) Pg underlying153 underlying3 (n:Int) ⟨by omega,by omega⟩;have l1:=h.loose.look (tm:=152) vT underlying152 underlying3 (n:Int) ⟨by omega,by omega⟩;rw[h.get n]at l1;have TO:(n:Int)<(d.size:Int):=by omega
 obtain⟨q,hq⟩:∃ q,ez d.lo n=q:=⟨_,rfl⟩
 have Hg:Hid (d.get n=q.getD (d.stays.getD n [])):=hd0 (by subst hq;unfold Dk.get;cases ez d.lo n<;>rfl);rw[hq]at l1;have h3:(bE (n:Int) ([]:List (Int×Bool))).getD false=false:=rfl;rw[h3]at l3;clear h hm cJ hn hq h3;go_enter func108,ntmps108;go_wp2_with fail;refine M.out.mono ?_;rintro e w1 ⟨rfl,rfl⟩
 cases q with
 |none=>
  go_wp2
  go_ret2;exact⟨by rw[Hg.out];rfl,rfl⟩
 |some s=>
  go_wp2
  go_ret2;exact⟨by rw[Hg.out];rfl,rfl⟩
theorem Ld {lo:List (Int×List UInt8)}{k:Int}{s:List UInt8}{x:Int×List UInt8}(h:x∈eA kc k s lo):x.1=k\/x∈lo:=by
 unfold eA at h;have key:∀(l:List (Int×List UInt8)) y,x∈jP kc y l->x=y\/x∈l:=by
  intro l y
  induction l with
  |nil=>intro h;simp[jP]at h;exact .inl h
  |cons z r ih=>
   intro h;unfold jP at h;split at h
   ·rcases au8.1 h with h|h
    ·exact .inl h
    ·exact .inr h
   ·rcases au8.1 h with h|h
    ·exact .inr (by rw[h];simp)
    ·rcases ih h with h|h
     ·exact .inl h
     ·exact .inr (by simp[h])
 rcases key _ _ h with h|h
 ·exact .inl (by rw[h])
 ·exact .inr ((auH.1 h).1)
theorem Le {β:Type}(k m:Int)(s:β)(l:List (Int×β))(h:∀ x∈l,x.1≠k):bE m (jP kc (k,s) l)=if m=k then some s else bE m l:=by
 induction l with
 |nil=>
  unfold jP bE;by_cases hm:m=k
  ·simp[hm]
  ·have:¬ k=m:=fun e=>hm e.symm;simp[hm,this]
 |cons y r ih=>
  unfold jP;split
  ·unfold bE;by_cases hm:m=k
   ·simp[hm]
   ·have:¬ k=m:=fun e=>hm e.symm;simp[hm,this,List.find?_cons]
  ·have ih':=ih (fun x hx=>h x (by simp[hx]));unfold bE at ih' ⊢;by_cases hy:y.1=m
   ·have:¬ m=k:=fun e=>h y (by simp) (hy.trans e);simp[hy,this]
   ·have hb:(y.1==m)=false:=by simp[hy]
    simp only[List.find?_cons,hb];exact ih'
theorem kx {β:Type}(k m:Int)(s:β)(l:List (Int×β)):bE m (eA kc k s l)=if m=k then some s else bE m l:=by
 unfold eA;rw[Le _ _ _ _ (by
  intro x hx;unfold gm at hx;have:=(auH.1 hx).2;simpa using this)]
 split
 ·rfl
 ·rename_i hm
  unfold bE gm;rw[List.find?_filter]
  congr 1
  congr 1
  funext x
  by_cases hx:x.1=m
  ·have:¬ x.1=k:=fun e=>hm (hx.symm.trans e);simp[hx,hm]
  ·simp[hx]
theorem pM {β:Type}(k:Int)(s:β)(l:List (Int×β)):(eA kc k s l).length<=if(bE k l).isSome=true then l.length else l.length+1:=by
 unfold eA;rw[CW];split
 ·rename_i h
  unfold bE at h;have h':(l.find? fun p=>p.1==k).isSome=true:=by simpa using h
  rw[List.find?_isSome]at h';obtain⟨x,hx,hk⟩:=h';have:(gm k l).length<l.length:=by
   unfold gm;exact List.length_filter_lt_length_iff_exists.2 ⟨x,hx,by simpa using hk⟩
  omega
 ·have:=rJ k l;omega
theorem tf {lo:List (Nat×ay)}{n:Nat}{s:ay}:(jy lo n s).length=if(ez lo n).isSome=true then lo.length else lo.length+1:=by
 unfold jy;split<;>simp
theorem vV {lo:List (Nat×ay)}{n:Nat}{s:ay}:(jy lo n s).map (·.1)=if(ez lo n).isSome=true then lo.map (·.1)else lo.map (·.1)++[n]:=by
 unfold jy;split
 ·rw[avb];apply avc;intro x _;simp only[Function.comp];split
  ·rename_i hx;simp at hx;simp[hx]
  ·rfl
 ·simp
theorem ic {P:Program}{ts te:TypeId}{z:Value}{sz bytes:Nat}(hs:P.underlying ts=some (.slice te))(hi:(P.info? te).map (fun i=>(i.zero,i.size,i.bytes))=some (some z,sz,bytes))(hz:z.cells.size=sz)(cJ:0<sz)(base:Nat)(v:Value)(n:Nat)(xs:List Value)(w:World)
  (aZ:w.ownsRow base te sz v n xs) (news:List Value) (hl:news.length=sz) (h1:∀ u∈news,u.oneCell'=true) (hn:n+1<=maxLen) (BO:(n+1)*bytes<=140737488355328) (FD:base<=w.heap.size):
  ∃ v' w',(Builtin.append_ #[ts,ts] ts #[v,.slice (some ⟨w.heap.size,0,none⟩) 1 1]).run P (w.alloc (.cells news.toArray te))=.ok v' w'/\w'.ownsRow base te sz v' (n+1) (xs++news)/\ah (fun b=>v.ownBlock=some b) w w'/\(v'.ownBlock=v.ownBlock\/∃ k,v'.ownBlock=some k/\w.heap.size<=k)/\∃ g cap,v'=.slice (some ⟨g,0,none⟩) (n+1) cap:=by
 obtain⟨i0,hi,nY,mU,oE⟩:=auZ hi;obtain⟨v',w',r1,r2,r3,_,r5⟩:=run_append_own_at (P:=P) (w.alloc (.cells news.toArray te)) base ts ts te i0 z sz bytes hs hi nY mU oE hz cJ v n xs (aZ.alloc _) ⟨w.heap.size,0,none⟩ 1 1 news (by omega) (fun j u hu=>by
  rw[gz,avy,World.cell?_alloc_at _ _ _ _ rfl];simpa using hu) h1 hn BO (by simp;omega)
 refine⟨v',w',r1,r2,ah.grown ((ah.refl _ w).alloc _) r3 (fun k hk=>.inl hk),?_,?_⟩
 ·rcases r5 with r5|r5
  ·exact .inl r5
  ·exact .inr ⟨_,r5,by simp⟩
 ·rcases r2.2 with⟨_,h0⟩|⟨g,cap,_,rfl,_⟩
  ·omega
  ·exact⟨g,cap,rfl⟩
theorem og.stored {w w2:World}{p sb mb xb:Nat}{ov ov':Value}{st:Int}{keep:List UInt8}{lo:List (Int×List UInt8)}{d:Dk}{F F':Nat->Prop}(h:og w p sb mb xb ov st keep lo d F)(n:Nat)(hn:n<d.size)(s:List UInt8)(hs:s.length=64)
  (own:World.blk w2 p (oO sb mb xb ov' st keep (d.put n s)) 155) (stays:World.blk w2 sb (aF d.stays) 9) (loose:JG w2 mb (eA kc (n:Int) s lo)) (bad:JH w2 xb [])
  (order:w2.ownsRow 0 3 1 ov' (d.put n s).lo.length (ba ((d.put n s).lo.map fun x=>(x.1:Int)))) (fo:∀ b,ov'.ownBlock=some b->F' b) (ap:∀ b,ov'.ownBlock=some b->b≠p/\b≠sb/\b≠mb/\b≠xb) (hF:∀ b,F b->F' b) (lt:∀ b,F' b->b<w2.heap.size):
  og w2 p sb mb xb ov' st keep (eA kc (n:Int) s lo) (d.put n s) F' where
 own:=own
 stays:=stays
 loose:=loose
 bad:=bad
 order:=order
 ok:=YO h.ok hn hs
 get m:=by
  show _=ez (jy d.lo n s) m;rw[kx,pJ,h.get m];have:((m:Int)=(n:Int))↔m=n:=by omega
  simp only[this]
 keys x hx:=by
  rcases Ld hx with h1|h1
  ·exact⟨n,h1,by show(ez (jy d.lo n s) n).isSome=true;rw[pJ,auT rfl];rfl⟩
  ·obtain⟨m,h2,h3⟩:=h.keys x h1;refine⟨m,h2,?_⟩;show(ez (jy d.lo n s) m).isSome=true;rw[pJ];split
   ·rfl
   ·exact h3
 many:=by
  show _<=(jy d.lo n s).length;have:=pM (n:Int) s lo;rw[tf];rw[h.get n]at this;have h2:=h.many;by_cases hq:(ez d.lo n).isSome=true
  ·rw[auT hq]at this ⊢;omega
  ·rw[auV hq]at this ⊢;omega
 steps:=h.steps
 fp:=hF _ h.fp
 fs:=hF _ h.fs
 fm:=hF _ h.fm
 fx:=hF _ h.fx
 fo:=fo
 apart:=h.apart
 aparto:=ap
 lt:=lt
end
section
open Go.RowKit
structure ec (F F':Nat->Prop)(w w':World):Prop where
 mod:ah F w w'
 foot:∀ b,F' b->F b\/w.heap.size<=b
theorem ec.refl (F:Nat->Prop)(w:World):ec F F w w:=⟨ah.refl _ _,fun _ h=>.inl h⟩
theorem ec.trans {F G H:Nat->Prop}{a b c:World}(h:ec F G a b)(k:ec G H b c):ec F H a c:=
 ⟨h.mod.trans k.mod fun i hi hg=>(h.foot i hg).elim id (fun hh=>absurd hi (by omega)),fun i hi=>(k.foot i hi).elim (fun hg=>h.foot i hg) (fun hh=>.inr (auI h.mod.size hh))⟩
theorem kO {w:World}{p:Nat}{d:Dk}{F:Nat->Prop}(h:bB w p d F)(n:Nat)(hn:n<d.size)(s:List UInt8)(hs:s.length=64):
  Calls prog 152 #[.pointer (some ⟨p,0,none⟩),.int .i64 (n:Int),.string ⟨s.toArray⟩] w fun e w'=>e=.returned (.int .i64 0)/\∃ F',bB w' p (d.put n s) F'/\ec F F' w w':=by
 have M:=hd0 (C5 h n hn);obtain⟨sb,mb,xb,ov,st,keep,lo,h⟩:=h;have H:=hd0 h;have hm:=h.ok.many;have cJ:d.size<=16384:=hm;have hlo:=YP h.ok;have CC:=h.many;have c1:w.cell? ⟨p,1,none⟩=some (.map (some mb)):=aa h.own 1;have c2:w.cell? ⟨p,2,none⟩=some ov:=aa h.own 2;have f2:=ae h.own ⟨p,2,none⟩ rfl;have c3:w.cell? ⟨p,3,none⟩=some (.map (some xb)):=aa h.own 3;have hp:=ak h.own;have l3:=h.bad.look1 (tm:=153) Pg underlying153 underlying3 (n:Int) ⟨by omega,by omega⟩;have l1:=h.loose.look (tm:=152) vT underlying152 underlying3 (n:Int) ⟨by omega,by omega⟩;rw[h.get n]at l1;have sT:(s.length:Int)=64:=by omega
 have h3:(bE (n:Int) ([]:List (Int×Bool))).getD false=false:=rfl;rw[h3]at l3;obtain⟨q,hq⟩:∃ q,ez d.lo n=q:=⟨_,rfl⟩
 rw[hq]at l1
 cases q with
 |some s0=>
  obtain⟨w2,hr,cw,dp,lG⟩:=h.loose.store (tm:=152) vT underlying152 underlying3 (n:Int) ⟨by omega,by omega⟩ s (by omega) (by omega);have X2:og w2 p sb mb xb ov st keep (eA kc (n:Int) s lo) (d.put n s) F:=h.stored n hn s hs
   (ab dp h.own h.apart.2.1) (ab dp h.stays h.apart.2.2.2.1) cw (h.bad.mod dp (fun e=>h.apart.2.2.2.2.2 e.symm))
   (by
    have e:(d.put n s).lo.length=d.lo.length:=by show(jy d.lo n s).length=_;rw[tf,hq];rfl
    have e2:(d.put n s).lo.map (fun x=>(x.1:Int))=d.lo.map (fun x=>(x.1:Int)):=by
     have:=vV (lo:=d.lo) (n:=n) (s:=s);rw[hq]at this;have h2:=avZ (List.map fun(k:Nat)=>(k:Int)) this;simpa[avb,Function.comp_def,Dk.put]using h2
    rw[e,e2];exact aA h.order fun b hb=>dp.block b (h.lt b (h.fo b hb)) (h.aparto b hb).2.2.1)
   h.fo h.aparto (fun _ hb=>hb) (fun b hb=>by rw[lG];exact h.lt b hb)
  have S2:=hd0 (vU ⟨sb,mb,xb,ov,st,keep,_,X2⟩);have HX:=hd0 X2;have Hm:=hd0 dp;have Cj:p<w2.heap.size:=by rw[lG];exact hp
  clear h hm hn hq h3 dp cw lG X2 hs hlo CC;go_enter func152,ntmps152;go_wp2_with fail;refine M.out.mono ?_;rintro e w1 ⟨rfl,rfl⟩;go_wp2_with fail;refine S2.out.mono ?_;rintro e w3 ⟨rfl,AK,dj,rfl⟩
  go_wp2
  go_ret;exact⟨rfl,F,⟨sb,mb,xb,ov,AK,keep,_,HX.out.stepped AK dj⟩,⟨(Hm.out.mono (fun i _ e=>by subst e;exact H.out.fm)).trans ((ah.refl F _).setCell (p:=⟨p,4,none⟩) (.inl H.out.fp) _) (fun _ _ h=>h),fun b hb=>.inl hb⟩⟩
 |none=>
  obtain⟨v',w1,ha,aZ,vo,iq,g,cap,hv'⟩:=ic (P:=prog) underlying46 ib rfl (by decide) 0 ov _ _ w h.order [.int .i64 (n:Int)] rfl (by intro u hu;simp at hu;subst hu;rfl) (by unfold maxLen;omega) (by omega) (avw _);subst hv';obtain⟨W1,Kr⟩:∃ W1,W1=w1.setCell ⟨p,2,none⟩ (.slice (some ⟨g,0,none⟩) (d.lo.length+1) cap):=⟨_,rfl⟩
  have mp:ah (fun b=>b=p) w1 W1:=by rw[Kr];exact(ah.refl (fun b=>b=p) w1).setCell (p:=⟨p,2,none⟩) (.inl rfl) _
  have mm:ah (fun b=>ov.ownBlock=some b\/b=p) w W1:=(vo.mono (fun _ _ e=>.inl e)).trans mp (fun i _ e=>.inr e);have hg:∀ b,(Value.slice (some ⟨g,0,none⟩) (d.lo.length+1) cap).ownBlock=some b->b≠p/\b≠sb/\b≠mb/\b≠xb:=by
   intro b hb;rcases iq with e|⟨k,e,hk⟩
   ·exact h.aparto b (e▸hb)
   ·have:k=b:=by rw[hb]at e;exact(avR e).symm
    have h1:=h.lt p h.fp;have h2:=h.lt sb h.fs;have h3:=h.lt mb h.fm;have h4:=h.lt xb h.fx;exact⟨by omega,by omega,by omega,by omega⟩
  have yr:World.blk W1 p (oO sb mb xb (.slice (some ⟨g,0,none⟩) (d.lo.length+1) cap) st keep d) 155:=by
   rw[Kr];exact ag (ab vo h.own (fun e=>(h.aparto p e).1 rfl)) 2 _
  have nmm:∀ b,b=sb\/b=mb\/b=xb->¬(ov.ownBlock=some b\/b=p):=by
   rintro b hb (e|rfl)
   ·have:=h.aparto b e;rcases hb with rfl|rfl|rfl
    ·exact this.2.1 rfl
    ·exact this.2.2.1 rfl
    ·exact this.2.2.2 rfl
   ·rcases hb with e|e|e
    ·exact h.apart.1 e
    ·exact h.apart.2.1 e
    ·exact h.apart.2.2.1 e
  have SA:World.blk W1 sb (aF d.stays) 9:=ab mm h.stays (nmm sb (.inl rfl));have Tj:JG W1 mb lo:=h.loose.mod mm (nmm mb (.inr (.inl rfl)));have aeZ:JH W1 xb []:=h.bad.mod mm (nmm xb (.inr (.inr rfl)));have Co:W1.ownsRow 0 3 1 (.slice (some ⟨g,0,none⟩) (d.lo.length+1) cap) (d.lo.length+1) (ba (d.lo.map fun x=>(x.1:Int))++[.int .i64 (n:Int)]):=
   aA aZ fun b hb=>mp.block b (aZ.lt b hb).2 (hg b hb).1
  obtain⟨w2,hr,cw,dp,lG⟩:=Tj.store (tm:=152) vT underlying152 underlying3 (n:Int) ⟨by omega,by omega⟩ s (by omega) (by omega);have X2:og w2 p sb mb xb (.slice (some ⟨g,0,none⟩) (d.lo.length+1) cap) st keep (eA kc (n:Int) s lo) (d.put n s) (fun b=>F b\/(Value.slice (some ⟨g,0,none⟩) (d.lo.length+1) cap).ownBlock=some b):=h.stored n hn s hs
   (ab dp yr h.apart.2.1) (ab dp SA h.apart.2.2.2.1) cw (aeZ.mod dp (fun e=>h.apart.2.2.2.2.2 e.symm))
   (by
    have e:(d.put n s).lo.length=d.lo.length+1:=by show(jy d.lo n s).length=_;rw[tf,hq];rfl
    have e2:ba ((d.put n s).lo.map (fun x=>(x.1:Int)))=ba (d.lo.map (fun x=>(x.1:Int)))++[.int .i64 (n:Int)]:=by
     have:=vV (lo:=d.lo) (n:=n) (s:=s);rw[hq]at this;have h2:=avZ (List.map fun(k:Nat)=>(k:Int)) this;have h3:(d.put n s).lo.map (fun x=>(x.1:Int))=d.lo.map (fun x=>(x.1:Int))++[(n:Int)]:=by simpa[avb,Function.comp_def,Dk.put]using h2
     rw[h3];simp[ba]
    rw[e,e2];exact aA Co fun b hb=>dp.block b (by have:=(Co.lt b hb).2;exact this) (hg b hb).2.2.1)
   (fun _ hb=>.inr hb) hg (fun _ hb=>.inl hb) (fun b hb=>by
    rw[lG];rcases hb with hb|hb
    ·exact auW (h.lt b hb) mm.size
    ·exact(Co.lt b hb).2)
  have S2:=hd0 (vU ⟨sb,mb,xb,_,st,keep,_,X2⟩);have HX:=hd0 X2;have Hm:=hd0 dp;have Hmm:=hd0 mm;have yl:=hd0 iq;have cp:w1.cell? ⟨p,2,none⟩=some ov:=aa (ab vo h.own (fun e=>(h.aparto p e).1 rfl)) 2;have fp:=ae (ab vo h.own (fun e=>(h.aparto p e).1 rfl)) ⟨p,2,none⟩ rfl;have cp1:w1.cell? ⟨p,1,none⟩=some (.map (some mb)):=aa (ab vo h.own (fun e=>(h.aparto p e).1 rfl)) 1;have BR:p<w1.heap.size:=auW hp vo.size;have Cj:p<w2.heap.size:=by rw[lG];exact auW BR mp.size
  rw[Kr]at hr;have Ha:=hd0 ha;clear ha;clear h hm hn hq h3 dp cw lG X2 hs hlo CC mp mm hg yr nmm SA Tj aeZ Co aZ vo iq Kr;go_enter func152,ntmps152;go_wp2_with fail;refine M.out.mono ?_;rintro e w3 ⟨rfl,rfl⟩;go_wp2_with ((at_builtin;refine az Ha.out rfl rfl rfl rfl ?_));refine S2.out.mono ?_;rintro e w3 ⟨rfl,AK,dj,rfl⟩
  go_wp2
  go_ret;refine⟨rfl,_,⟨sb,mb,xb,_,AK,keep,_,HX.out.stepped AK dj⟩,⟨(((Hmm.out.mono (fun i _ e=>e.elim (H.out.fo i) (fun e=>by subst e;exact H.out.fp))).trans (Hm.out.mono (T:=F) (fun i _ e=>by subst e;exact H.out.fm)) (fun _ _ h=>h))).trans ((ah.refl F _).setCell (p:=⟨p,4,none⟩) (.inl H.out.fp) _) (fun _ _ h=>h),fun b hb=>?_⟩⟩;rcases hb with hb|hb
  ·exact .inl hb
  ·rcases yl.out with e|⟨k,e,hk⟩
   ·exact .inl (H.out.fo b (e▸hb))
   ·exact .inr (by have:k=b:=by rw[hb]at e;exact(avR e).symm
                   omega)
end
end Go.Proofs.YtkghpdcloaiflaaGreatDoor
