import Derived.Test.YtkghpdcloaiflaaGreatDoorChecked
import Derived.WalkKit
import Derived.WalkLawsBesides
import Derived.WalkSpells
import Derived.Deep.Draws
import Derived.Lib.Hide
import Derived.StillTail
import Derived.Deep.Quiet
import Derived.Deep.QuietTactic
import Derived.BigQuiet
set_option maxHeartbeats 400000
namespace Go.Proofs.YtkghpdcloaiflaaGreatDoor
section
open Go.RowKit
theorem auG:type_of% @Oper.semAt_some:=@Oper.semAt_some
theorem auH:type_of% @List.mem_filter:=@List.mem_filter
theorem auI:type_of% @Nat.le_trans:=@Nat.le_trans
theorem auJ:type_of% @List.map_cons:=@List.map_cons
theorem auK:type_of% @List.sum_cons:=@List.sum_cons
theorem auL:type_of% @List.length_cons:=@List.length_cons
theorem auM:type_of% @List.getElem?_eq_getElem:=@List.getElem?_eq_getElem
theorem auN:type_of% @List.mem_of_getElem?:=@List.mem_of_getElem?
theorem auO:type_of% @List.take_add_one:=@List.take_add_one
theorem auP:type_of% @Nat.le_refl:=@Nat.le_refl
theorem auQ:type_of% @List.take_length:=@List.take_length
theorem auR:type_of% @List.mem_of_mem_take:=@List.mem_of_mem_take
theorem auS:type_of% @List.length_take:=@List.length_take
theorem auT:type_of% @if_pos:=@if_pos
theorem auU:type_of% @decide_eq_false:=@decide_eq_false
theorem auV:type_of% @if_neg:=@if_neg
theorem auW:type_of% @Nat.lt_of_lt_of_le:=@Nat.lt_of_lt_of_le
theorem auX:type_of% @List.length_filter_le:=@List.length_filter_le
theorem auY:type_of% @Calls.mono:=@Calls.mono
theorem auZ:type_of% @info_parts:=@info_parts
theorem au0:type_of% @List.getElem?_eq_some_iff:=@List.getElem?_eq_some_iff
theorem au1:type_of% @Nat.add_assoc:=@Nat.add_assoc
theorem au2:type_of% @List.flatMap_append:=@List.flatMap_append
theorem au3:type_of% @List.length_append:=@List.length_append
theorem au4:type_of% @Bool.and_eq_true:=@Bool.and_eq_true
theorem au5:type_of% @List.all_eq_true:=@List.all_eq_true
theorem au6:type_of% @Bool.or_eq_true:=@Bool.or_eq_true
theorem au7:type_of% @Array.getElem?_eq_some_iff:=@Array.getElem?_eq_some_iff
theorem au8:type_of% @List.mem_cons:=@List.mem_cons
theorem au9:type_of% @decide_eq_true_eq:=@decide_eq_true_eq
theorem ava:type_of% @getD_replicate_false:=@getD_replicate_false
theorem avb:type_of% @List.map_map:=@List.map_map
theorem avc:type_of% @List.map_congr_left:=@List.map_congr_left
theorem avd:type_of% @Nat.mul_le_mul_left:=@Nat.mul_le_mul_left
theorem ave:type_of% @Nat.pow_succ:=@Nat.pow_succ
theorem avf:type_of% @List.length_map:=@List.length_map
theorem avg:type_of% @Nat.pow_le_pow_right:=@Nat.pow_le_pow_right
theorem avh:type_of% @List.mem_map:=@List.mem_map
theorem avi:type_of% @bodyPost_ret:=@bodyPost_ret
theorem avj:type_of% @List.length_eq_zero_iff:=@List.length_eq_zero_iff
theorem avk:type_of% @List.nil_append:=@List.nil_append
theorem avl:type_of% @List.getElem_mem:=@List.getElem_mem
theorem avm:type_of% @Option.getD_some:=@Option.getD_some
theorem avn:type_of% @Int.toNat_natCast:=@Int.toNat_natCast
theorem avo:type_of% @callsIn_wide:=@callsIn_wide
theorem avq:type_of% @beq_iff_eq:=@beq_iff_eq
theorem avr:type_of% @List.cons_append:=@List.cons_append
theorem avs:type_of% @List.flatMap_cons:=@List.flatMap_cons
theorem avt:type_of% @Bool.eq_iff_iff:=@Bool.eq_iff_iff
theorem avu:type_of% @List.append_assoc:=@List.append_assoc
theorem avv:type_of% @beq_eq_false_iff_ne:=@beq_eq_false_iff_ne
theorem avw:type_of% @Nat.zero_le:=@Nat.zero_le
theorem avx:type_of% @List.take_of_length_le:=@List.take_of_length_le
theorem avy:type_of% @Nat.zero_add:=@Nat.zero_add
theorem avz:type_of% @List.take_succ_cons:=@List.take_succ_cons
theorem avA:type_of% @List.take_zero:=@List.take_zero
theorem avB:type_of% @List.drop_succ_cons:=@List.drop_succ_cons
theorem avC:type_of% @List.drop_zero:=@List.drop_zero
theorem avD:type_of% @Calls.quiet_of_same:=@Calls.quiet_of_same
theorem avE:type_of% @wpQuiet_nil:=@wpQuiet_nil
theorem avF:type_of% @List.getElem?_eq_none:=@List.getElem?_eq_none
theorem avG:type_of% @Classical.byContradiction:=@Classical.byContradiction
theorem avH:type_of% @List.mem_range:=@List.mem_range
theorem avI:type_of% @List.find?_some:=@List.find?_some
theorem avJ:type_of% @List.mem_of_find?_eq_some:=@List.mem_of_find?_eq_some
theorem avK:type_of% @List.mem_range'_1:=@List.mem_range'_1
theorem avL:type_of% @List.find?_eq_none:=@List.find?_eq_none
theorem avM:type_of% @List.getElem?_map:=@List.getElem?_map
theorem avN:type_of% @List.getElem?_range:=@List.getElem?_range
theorem avO:type_of% @Option.map_some:=@Option.map_some
theorem avP:type_of% @List.mem_append:=@List.mem_append
theorem avQ:type_of% @List.pairwise_cons:=@List.pairwise_cons
theorem avR:type_of% @Option.some.inj:=@Option.some.inj
theorem avS:type_of% @Region.noSelect_spec:=@Region.noSelect_spec
theorem avT:type_of% @Region.free_spec:=@Region.free_spec
theorem avU:type_of% @List.getElem?_drop:=@List.getElem?_drop
theorem avV:type_of% @List.length_nil:=@List.length_nil
theorem avW:type_of% @Int.tdiv_eq_ediv_of_nonneg:=@Int.tdiv_eq_ediv_of_nonneg
theorem avX:type_of% @Option.map_eq_some_iff:=@Option.map_eq_some_iff
theorem avY:type_of% @List.filter_cons:=@List.filter_cons
theorem avZ:type_of% @congrArg:=@congrArg
theorem av1:type_of% @List.getElem?_of_mem:=@List.getElem?_of_mem
theorem av2:type_of% @Nat.mul_assoc:=@Nat.mul_assoc
theorem av3:type_of% @beq_false_of_ne:=@beq_false_of_ne
theorem av4:type_of% @List.getD_eq_getElem?_getD:=@List.getD_eq_getElem?_getD
theorem av5:type_of% @run_callFunc_extern:=@run_callFunc_extern
theorem av6:type_of% @List.size_toArray:=@List.size_toArray
theorem av7:type_of% @Array.replicate_succ:=@Array.replicate_succ
theorem av8:type_of% @Array.replicate_zero:=@Array.replicate_zero
theorem av9:type_of% @List.push_toArray:=@List.push_toArray
theorem awa:type_of% @List.append_toArray:=@List.append_toArray
theorem awb:type_of% @Nat.mod_eq_of_lt:=@Nat.mod_eq_of_lt
theorem awc:type_of% @List.drop_eq_nil_of_le:=@List.drop_eq_nil_of_le
theorem awd:type_of% @Array.getElem?_setIfInBounds_self_of_lt:=@Array.getElem?_setIfInBounds_self_of_lt
theorem awe:type_of% @Array.getElem?_setIfInBounds_ne:=@Array.getElem?_setIfInBounds_ne
theorem awf:type_of% @IntWalk.i64_in:=@IntWalk.i64_in
theorem awg:type_of% @List.mem_singleton:=@List.mem_singleton
end
end Go.Proofs.YtkghpdcloaiflaaGreatDoor
namespace Go.Proofs.YtkghpdcloaiflaaGreatDoor
open _root_.Go.Proofs.Tryz
def U (x:UInt64):Value:=.int .u64 (x.toNat:Int)
def add (x y:UInt64):UInt64:=x+y
def xor (x y:UInt64):UInt64:=x^^^y
def or (x y:UInt64):UInt64:=x|||y
def shl (x:UInt64)(n:Nat):UInt64:=x<<<UInt64.ofNat n
def shr (x:UInt64)(n:Nat):UInt64:=x>>>UInt64.ofNat n
def Gd (x:UInt64)(n:Nat):UInt64:=or (shl x n) (shr x (64-n))
theorem fD (x y:UInt64):bits .xor .u64 (x.toNat:Int) (y.toNat:Int)=((xor x y).toNat:Int):=by
 rw[bits_xor_u64_nat _ _ x.toNat_lt y.toNat_lt,xor,UInt64.toNat_xor]
theorem gY (x y:UInt64):bits .or .u64 (x.toNat:Int) (y.toNat:Int)=((or x y).toNat:Int):=by
 rw[bits_or_u64_nat _ _ x.toNat_lt y.toNat_lt,or,UInt64.toNat_or]
theorem iS (x y:UInt64):IntKind.u64.wrap ((x.toNat:Int)+(y.toNat:Int))=((add x y).toNat:Int):=by
 rw[IntKind.wrap_u64,add,UInt64.toNat_add];omega
theorem vw (x:UInt64):IntKind.u64.wrap (x.toNat:Int)=(x.toNat:Int):=by
 have:=x.toNat_lt;rw[IntKind.wrap_u64];omega
theorem Ge (x:UInt64)(n:Nat)(h:n<64):IntKind.u64.wrap ((x.toNat:Int)*2 ^ n)=((shl x n).toNat:Int):=by
 rw[IntKind.wrap_u64,shl,UInt64.toNat_shiftLeft,(by simp;omega:(UInt64.ofNat n).toNat=n),awb h,Nat.shiftLeft_eq];simp
theorem WU (x:UInt64)(n:Nat)(h:n<64):(x.toNat:Int)/2 ^ n=((shr x n).toNat:Int):=by
 rw[shr,UInt64.toNat_shiftRight,(by simp;omega:(UInt64.ofNat n).toNat=n),awb h,Nat.shiftRight_eq_div_pow];simp
def lK (s:List UInt8):Nat:=s.foldr (fun c x=>256*x+c.toNat) 0
def qA (s:List UInt8):UInt64:=UInt64.ofNat (lK s)
theorem vx (s:List UInt8):lK s<256 ^ s.length:=by
 induction s with
 |nil=>simp[lK]
 |cons c s ih=>
  have e:lK (c::s)=256*lK s+c.toNat:=rfl;have:=c.toNat_lt;have hp:256 ^ (s.length+1)=256*256 ^ s.length:=by rw[ave];omega
  rw[e,auL,hp];omega
theorem Gf (s:List UInt8)(c:UInt8):lK (s++[c])=lK s+256 ^ s.length*c.toNat:=by
 induction s with
 |nil=>simp[lK]
 |cons d s ih=>
  have e:lK (d::s++[c])=256*lK (s++[c])+d.toNat:=rfl;have e':lK (d::s)=256*lK s+d.toNat:=rfl;have hp:256 ^ (s.length+1)=256*256 ^ s.length:=by rw[ave];omega
  rw[e,e',ih,auL,hp,Nat.mul_add,av2];omega
theorem vy (s:List UInt8)(h:s.length<=8):(qA s).toNat=lK s:=by
 have h1:=vx s;have h2:256 ^ s.length<=256 ^ 8:=avg (by omega) h;rw[qA,UInt64.toNat_ofNat'];exact awb (by omega)
theorem KS (s:List UInt8)(c:UInt8)(h:s.length<8):
  bits .or .u64 ((qA s).toNat:Int) (IntKind.u64.wrap (IntKind.u64.wrap (c.toNat:Int)*2 ^ (8*s.length)))=((qA (s++[c])).toNat:Int):=by
 have hc:=c.toNat_lt;have h1:=vx (s++[c]);have h2:256 ^ (s++[c]).length<=256 ^ 8:=avg (by omega) (by simp;omega);have hs:=vx s;have Js:=Gf s c;have hp:(2:Nat) ^ (8*s.length)=256 ^ s.length:=by rw[Nat.pow_mul]
 have e1:IntKind.u64.wrap (c.toNat:Int)=c.toNat:=by rw[IntKind.wrap_u64];omega
 have e2:((c.toNat:Int)*2 ^ (8*s.length))=((256 ^ s.length*c.toNat:Nat):Int):=by
  rw[<-hp];simp[Int.mul_comm]
 have e3:IntKind.u64.wrap (((256 ^ s.length*c.toNat:Nat):Int))=((256 ^ s.length*c.toNat:Nat):Int):=by
  rw[IntKind.wrap_u64];omega
 rw[e1,e2,e3,vy s (by omega),vy (s++[c]) (by simp;omega),bits_or_u64_nat _ _ (by omega) (by omega),Js];have:=Nat.two_pow_add_eq_or_of_lt (i:=8*s.length) (b:=lK s) (by rw[hp];exact hs) c.toNat;rw[hp]at this;rw[Nat.or_comm,<-this];omega
theorem CE {α:Type}(l:List α)(k:Nat)(h:k<l.length):l.take (k+1)=l.take k++[l[k]]:=by
 rw[List.take_succ_eq_append_getElem h]
end Go.Proofs.YtkghpdcloaiflaaGreatDoor
section
namespace Go.Proofs.YtkghpdcloaiflaaGreatDoor
open _root_.Go.Proofs.Tryz
theorem hd0 {p:Prop} (h:p):Go.RowKit.Hid p:=Go.Lib.hid h
open Go.RowKit
structure ah (S:Nat->Prop)(w w':World):Prop where
 os:w'.os=w.os
 tape:w'.tape=w.tape
 output:w'.output=w.output
 size:w.heap.size<=w'.heap.size
 block:∀ k,k<w.heap.size->¬ S k->w'.heap[k]?=w.heap[k]?
abbrev af (w w':World):Prop:=ah (fun _=>False) w w'
theorem ah.refl (S:Nat->Prop)(w:World):ah S w w:=⟨rfl,rfl,rfl,Nat.le_refl _,fun _ _ _=>rfl⟩
theorem ah.trans {S T:Nat->Prop}{a b c:World}(h:ah S a b)(k:ah T b c)(hT:∀ i,i<a.heap.size->T i->S i):ah S a c:=
 ⟨k.os.trans h.os,k.tape.trans h.tape,k.output.trans h.output,Nat.le_trans h.size k.size,
  fun i hi hS=>(k.block i (Nat.lt_of_lt_of_le hi h.size) (fun ht=>hS (hT i hi ht))).trans (h.block i hi hS)⟩
theorem ah.mono {S T:Nat->Prop}{a b:World}(h:ah S a b)(hT:∀ i,i<a.heap.size->S i->T i):ah T a b:=
 ⟨h.os,h.tape,h.output,h.size,fun i hi hS=>h.block i hi (fun hs=>hS (hT i hi hs))⟩
theorem ah.keep {S:Nat->Prop}{a b c:World}(h:ah S a b)(k:af b c):ah S a c:=h.trans k (fun _ _=>False.elim)
theorem ah.new {S:Nat->Prop}{a b c:World}{k:Nat}(h:ah S a b)(m:ah (·=k) b c)(hk:a.heap.size<=k):ah S a c:=h.trans m (fun i hi e=>by subst e;omega)
theorem ah.drew {S:Nat->Prop}{a w:World}(h:ah S a w):ah S a w.drew:=⟨h.os,h.tape,h.output,h.size,h.block⟩
theorem ah.drawn {S:Nat->Prop}{a w:World}(h:ah S a w)(n:Nat):ah S a { w with drawn:=n }:=⟨h.os,h.tape,h.output,h.size,h.block⟩
theorem ah.drewN {S:Nat->Prop}{a w:World}(h:ah S a w)(n:Nat):ah S a (w.drewN n):=⟨h.os,h.tape,h.output,h.size,h.block⟩
theorem ah.alloc {S:Nat->Prop}{a w:World}(h:ah S a w)(o:Obj):ah S a (w.alloc o):=
 ⟨h.os,h.tape,h.output,by have:=h.size;simp;omega,fun k hk hS=>by rw[Below.heap_alloc _ _ _ (Nat.lt_of_lt_of_le hk h.size)];exact h.block k hk hS⟩
theorem ah.setCell {S:Nat->Prop}{a w:World}(h:ah S a w){p:Addr}(hp:S p.block\/a.heap.size<=p.block)(u:Value):ah S a (w.setCell p u):=
 ⟨h.os,h.tape,h.output,by have:=h.size;simpa[World.setCell]using this,fun k hk hS=>by
  rw[Below.heap_setCell _ _ _ _ (fun e=>by subst e;rcases hp with hp|hp;exact hS hp;omega)];exact h.block k hk hS⟩
theorem ah.cell {S:Nat->Prop}{w w':World}(h:ah S w w'){p:Addr}(hp:p.block<w.heap.size)(hS:¬ S p.block):w'.cell? p=w.cell? p:=
 World.cell?_of_block (w:=w) (h.block p.block hp hS)
theorem am {w:World}{a:Addr}{v:Value}(h:w.cell? a=some v):a.block<w.heap.size:=by
 unfold World.cell? at h
 cases hb:w.heap[a.block]? with
 |none=>simp[hb]at h
 |some o=>exact(Array.getElem?_eq_some_iff.1 hb).1
theorem sV {w:World}{b:Nat}{o:Obj}(h:w.heap[b]?=some o):b<w.heap.size:=(Array.getElem?_eq_some_iff.1 h).1
theorem ah.below {w w':World}(h:af w w'):Below w.heap.size w w':=⟨h.os,h.tape,h.output,h.size,fun k hk=>h.block k hk id⟩
theorem ah.ofBelow {w w':World}(h:Below w.heap.size w w'):af w w':=⟨h.os,h.tape,h.output,h.size,fun k hk _=>h.block k hk⟩
theorem ah.obj {S:Nat->Prop}{w w':World}(h:ah S w w'){b:Nat}{o:Obj}(hb:w.heap[b]?=some o)(hS:¬ S b):w'.heap[b]?=some o:=
 (h.block b (sV hb) hS).trans hb
def World.blk (w:World)(b:Nat)(c:Array Value)(t:TypeId):Prop:=w.heap[b]?=some (.cells c t (0,0))
theorem aa {w:World}{b:Nat}{c:Array Value}{t:TypeId}(h:World.blk w b c t)(i:Nat):w.cell? ⟨b,i,none⟩=c[i]?:=by
 unfold World.blk at h;simp[World.cell?,h]
theorem ae {w:World}{b:Nat}{c:Array Value}{t:TypeId}(h:World.blk w b c t)(a:Addr)(ha:a.block=b):w.frozen? a=false:=by
 unfold World.blk at h;subst ha;simp[World.frozen?,h]
theorem ak {w:World}{b:Nat}{c:Array Value}{t:TypeId}(h:World.blk w b c t):b<w.heap.size:=sV h
theorem ag {w:World}{b:Nat}{c:Array Value}{t:TypeId}(h:World.blk w b c t)(i:Nat)(v:Value):World.blk (w.setCell ⟨b,i,none⟩ v) b (c.setIfInBounds i v) t:=by
 have aK:=ak h;unfold World.blk at*;have h':w.heap[b]=.cells c t (0,0):=by simpa[Array.getElem?_eq_getElem aK]using h
 show(w.heap.modify b _)[b]?=_;rw[Array.getElem?_eq_getElem (by simpa using aK),Array.getElem_modify_self,h'];rfl
theorem bD {w:World}{b:Nat}{c:Array Value}{t:TypeId}(h:World.blk w b c t)(p:Addr)(hp:b≠p.block)(v:Value):World.blk (w.setCell p v) b c t:=by
 unfold World.blk at *;rw[Below.heap_setCell _ _ _ _ hp];exact h
theorem aH {w:World}{b:Nat}{c:Array Value}{t:TypeId}(h:World.blk w b c t)(o:Obj):World.blk (w.alloc o) b c t:=by
 have aK:=ak h;unfold World.blk at *;rw[Below.heap_alloc _ _ _ aK];exact h
theorem aw (w:World)(c:Array Value)(t:TypeId):World.blk (w.alloc (.cells c t)) w.heap.size c t:=by
 unfold World.blk;show(w.heap.push _)[_]?=_;simp
theorem fR {w:World}{b:Nat}{c:Array Value}{t:TypeId}(h:World.blk w b c t)(n:Nat):World.blk (w.drewN n) b c t:=h
theorem CG {w:World}{b:Nat}{c:Array Value}{t:TypeId}(h:World.blk w b c t):World.blk w.drew b c t:=h
theorem ab {S:Nat->Prop}{w w':World}(m:ah S w w'){b:Nat}{c:Array Value}{t:TypeId}(h:World.blk w b c t)(hS:¬ S b):World.blk w' b c t:=m.obj h hS
end Go.Proofs.YtkghpdcloaiflaaGreatDoor
namespace Go
def World.putB (w:World)(b:Nat)(c:Array Value)(t:TypeId):World:={ w with heap:=w.heap.setIfInBounds b (.cells c t (0,0)) }
end Go
namespace Go.Proofs.YtkghpdcloaiflaaGreatDoor
open _root_.Go.Proofs.Tryz
open Go.RowKit
section
variable {w:World}{b:Nat}{c:Array Value}{t:TypeId}
theorem KT (h:World.blk w b c t):w.putB b c t=w:=by
 have aK:=ak h;unfold World.blk at h;show({ w with heap:=w.heap.setIfInBounds b _ }:World)=w;have e:w.heap.setIfInBounds b (.cells c t (0,0))=w.heap:=by
  apply Array.ext_getElem?;intro i;by_cases hi:b=i
  ·subst hi;rw[Array.getElem?_setIfInBounds_self_of_lt aK];exact h.symm
  ·rw[Array.getElem?_setIfInBounds_ne hi]
 rw[e]
@[go_sem] theorem TF (n:Nat)(a:Addr)(v:Value):(w.drewN n).setCell a v=(w.setCell a v).drewN n:=rfl
@[go_sem] theorem WV (n:Nat)(o:Obj):(w.drewN n).alloc o=(w.alloc o).drewN n:=rfl
@[go_sem] theorem YM (n:Nat):(w.drewN n).putB b c t=(w.putB b c t).drewN n:=rfl
@[go_sem] theorem abj:(w.putB b c t).heap.size=w.heap.size:=by simp[World.putB]
theorem vz (hb:b<w.heap.size):World.blk (w.putB b c t) b c t:=by
 unfold World.blk;show(w.heap.setIfInBounds b _)[b]?=_;rw[Array.getElem?_setIfInBounds_self_of_lt hb]
@[go_sem] theorem abk (hb:b<w.heap.size)(i:Nat):(w.putB b c t).cell? ⟨b,i,none⟩=c[i]?:=aa (vz hb) i
@[go_sem] theorem WW (hb:b<w.heap.size)(i:Nat):(w.putB b c t).frozen? ⟨b,i,none⟩=false:=ae (vz hb) _ rfl
theorem Gg {k:Nat}(hk:k≠b):(w.putB b c t).heap[k]?=w.heap[k]?:=by
 show(w.heap.setIfInBounds b _)[k]?=_;rw[Array.getElem?_setIfInBounds_ne (Ne.symm hk)]
@[go_sem] theorem abl (d:Array Value)(u:TypeId):(w.putB b c t).putB b d u=w.putB b d u:=by
 show({ w with heap:=(w.heap.setIfInBounds b _).setIfInBounds b _ }:World)={ w with heap:=_ };rw[Array.setIfInBounds_setIfInBounds]
@[go_sem] theorem Ub (hb:b<w.heap.size)(i:Nat)(v:Value):(w.putB b c t).setCell ⟨b,i,none⟩ v=w.putB b (c.setIfInBounds i v) t:=by
 show({ w with heap:=(w.heap.setIfInBounds b _).modify b _ }:World)={ w with heap:=_ };have e:(w.heap.setIfInBounds b (.cells c t (0,0))).modify b (fun
   | .cells c elem frozen=>.cells (if(none:Option Nat).isSome then c else c.setIfInBounds i v) elem frozen
   |o=>o)=w.heap.setIfInBounds b (.cells (c.setIfInBounds i v) t (0,0)):=by
  apply Array.ext_getElem?;intro k;by_cases hk:b=k
  ·subst hk;have TW:b<(w.heap.setIfInBounds b (.cells c t (0,0))).size:=by simpa using hb
   rw[Array.getElem?_setIfInBounds_self_of_lt hb,Array.getElem?_modify,if_pos rfl,Array.getElem?_setIfInBounds_self_of_lt hb];rfl
  ·rw[Array.getElem?_modify,if_neg hk,Array.getElem?_setIfInBounds_ne hk,Array.getElem?_setIfInBounds_ne hk]
 exact congrArg (fun h=>({ w with heap:=h }:World)) e
theorem iT (d:Array Value)(u:TypeId):(w.alloc (.cells c t)).putB w.heap.size d u=w.alloc (.cells d u):=by
 show({ w with heap:=(w.heap.push _).setIfInBounds w.heap.size _ }:World)={ w with heap:=w.heap.push _ };have e:(w.heap.push (.cells c t)).setIfInBounds w.heap.size (.cells d u (0,0))=w.heap.push (.cells d u):=by
  apply Array.ext_getElem?;intro i;by_cases hi:w.heap.size=i
  ·subst hi;rw[Array.getElem?_setIfInBounds_self_of_lt (by simp)];simp
  ·rw[Array.getElem?_setIfInBounds_ne hi,Array.getElem?_push,Array.getElem?_push,if_neg (Ne.symm hi),if_neg (Ne.symm hi)]
 rw[e]
theorem ah.putB {S:Nat->Prop}{a w:World}(h:ah S a w){b:Nat}(hp:S b\/a.heap.size<=b)(c:Array Value)(t:TypeId):ah S a (w.putB b c t):=
 ⟨h.os,h.tape,h.output,by have:=h.size;simpa[World.putB]using this,fun k hk hS=>by
  rw[Gg (fun e=>by subst e;rcases hp with hp|hp;exact hS hp;omega)];exact h.block k hk hS⟩
end
end Go.Proofs.YtkghpdcloaiflaaGreatDoor
end
namespace Go.Proofs.YtkghpdcloaiflaaGreatDoor
open _root_.Go.Proofs.Tryz
section
open Go
section
variable {P:Program}{aC:Array Oper}{md:Region.Mode}{C:World->Prop}
def ir (P:Program)(md:Region.Mode)(aC:Array Oper)(C:World->Prop)(n:Nat)(L:Array Bool->Act->Prop):Nat->Array Bool->Act->Prop
 |0,listed,a=>L listed a
 |f+1,listed,a=>Region.ready md aC listed≠[]/\
  ∀ i∈Region.ready md aC listed,i<n/\qOp P aC C i (ir P md aC C n L f (listed.setIfInBounds i true)) a
theorem tV {n g:Nat}{L:Array Bool->Act->Prop}{Q:Exit->Act->World->Prop}(hL:∀ listed a w,C w->L listed a->wpAny P md aC Q g listed a w)(f:Nat):
  ∀(listed:Array Bool) (a:Act) (w:World),C w->ir P md aC C n L f listed a->wpAny P md aC Q (f+g) listed a w:=by
 induction f with
 |zero=>intro listed a w hw h;rw[avy];exact hL _ _ _ hw h
 |succ f ih=>
  intro listed a w hw h;rw[show f+1+g=(f+g)+1 by omega];exact⟨fun h0=>absurd h0 h.1,fun i hi=>wpOp_of_qOp hw (fun a' w' cL h'=>ih _ a' w' cL h') (h.2 i hi).2⟩
theorem Jy {n i j:Nat}{listed:Array Bool}(hs:Region.sinkB md aC n=true)(hc:Region.chainB md aC n=true)(hn:n<aC.size)(inv:HeadInv md aC n listed)
  (tN:i<n) (hr:i∈Region.ready md aC listed) (hj:j∈Region.ready md aC listed):j<n:=by
 rcases Nat.lt_or_ge j n with h|h
 ·exact h
 ·exact absurd hj (tail_waits hs hc hn inv _ i rfl tN (mem_ready.1 hr).1 j h)
theorem Gh {n i:Nat}{oi:Oper}{v:Value}{L:Array Bool->Act->Prop}(hi:aC[i]?=some oi)(fP:∀(j:Nat) (o:Oper) cs b,aC[j]?=some o->o.op≠.select cs b)
  (hs:Region.sinkB md aC n=true) (hc:Region.chainB md aC n=true) (hn:n<aC.size) (tN:i<n) (Sk:∀ listed a,L listed a->∀ j∈Region.ready md aC listed,n<=j) (f:Nat):
  ∀(listed:Array Bool) (a:Act),HeadInv md aC n listed->
   (∀ j oj,aC[j]?=some oj->j≠i->listed.getD j true=false->(∀ e∈oj.after,Region.binds md e=true->e.on≠i)->oi.apart aC oj=true)->
   i∈Region.ready md aC listed->YieldsIn P aC C oi v a->
   ir P md aC C n L f (listed.setIfInBounds i true) (a.put oi.dst v)->ir P md aC C n L (f+1) listed a:=by
 induction f with
 |zero=>
  intro listed a inv _ hr hy H;refine⟨fun h=>by simp[h]at hr,fun j hj=>?_⟩;have Fy:=Jy hs hc hn inv tN hr hj;refine⟨Fy,?_⟩;by_cases sA:j=i
  ·subst sA;exact hy.qOp hi H
  ·have:=Sk _ _ H j (ready_mono hj sA);omega
 |succ f ih=>
  intro listed a inv qz hr hy H;refine⟨fun h=>by simp[h]at hr,fun j hj=>?_⟩;have Fy:=Jy hs hc hn inv tN hr hj;refine⟨Fy,?_⟩;by_cases sA:j=i
  ·subst sA;exact hy.qOp hi H
  ·have hun:=(mem_ready.1 hr).1;have h1:=(H.2 j (ready_mono hj sA)).2;obtain⟨Fh,oj,KJ,nV⟩:=mem_ready.1 hj;have SX:∀ e∈oj.after,Region.binds md e=true->e.on≠i:=fun e he hb heq=>by
    have h1:=nV e he hb;rw[heq,getD_both hun]at h1;exact absurd h1 (by simp)
   have h2:=qOp_put KJ (qz j oj KJ sA Fh SX) (fun cs b=>fP i oi cs b hi) (fun cs b=>fP j oj cs b KJ) hy h1;refine qOp_mono (fun a' h3=>ih (listed.setIfInBounds j true) a' (inv.set hj Fy) ?_ (ready_mono hr (Ne.symm sA)) h3.1 ?_) h2
   ·intro k ok hk Cr Ta lJ;refine qz k ok hk Cr ?_ lJ;by_cases yg:j=k
    ·subst yg;exact Fh
    ·rwa [getD_set_ne true yg]at Ta
   ·rw[Array.setIfInBounds_comm _ _ sA];exact h3.2
theorem O0 {n g:Nat}{L:Act->Prop}(fP:Region.noSelect aC=true)(hs:Region.sinkB md aC n=true)(hc:Region.chainB md aC n=true)(hn:n<aC.size)(l:List Oper):
  ∀(k:Nat) (listed:Array Bool) (a:Act),(∀ j,j<l.length->l[j]?=aC[k+j]?)->k+l.length=n->HeadInv md aC n listed->
  Region.lexHead md aC g l.length k listed=true->wpQuiet P aC C L l a->
  ir P md aC C n (fun l5 a'=>Region.seqB md aC g n l5=true/\L a') l.length listed a:=by
 induction l with
 |nil=>
  intro k listed a _ hk _ hB h;obtain rfl:k=n:=by simpa using hk
  exact⟨by simpa[Region.lexHead]using hB,h⟩
 |cons o l ih=>
  intro k listed a hl hk inv hB h;have h0:aC[k]?=some o:=by simpa using(hl 0 (by simp)).symm
  simp only[auL,Region.lexHead,au4]at hB;obtain⟨⟨hr,hf⟩,Wg⟩:=hB;have rm:k<n:=by simp only[auL]at hk;omega
  have zf:k∈Region.ready md aC listed:=by simpa using hr
  have hq:qOp P aC C k (wpQuiet P aC C L l) a:=by unfold qOp;simp only[h0];exact h
  obtain⟨v,hy,hK⟩:=yieldsIn_of_qOp h0 hq;refine Gh h0 (avS fP) hs hc hn rm (fun l5 a' hL=>seqB_ready hL.1) l.length listed a inv (avT h0 hf) zf hy ?_;refine ih (k+1) _ _ (fun j hj=>?_) ?_ (inv.set zf rm) Wg hK
  ·have:=hl (j+1) (by simp;omega);simpa[au1,Nat.add_comm 1 j]using this
  ·simp only[auL]at hk;omega
theorem nt {id:Nat}{Q:Exit->Act->World->Prop}{a:Act}{w:World}{l:List Oper}(n:Nat)(C:World->Prop)(hm:P.follows .mixedOrders=true)(hB:Region.lexTailB .any l.toArray n=true)
  (hC:C { w with drawn:=w.drawn+1 }) (h:wpQuiet P l.toArray C (fun a'=>∀ w',C w'->wpList P l.toArray Q (l.drop n) a' w') (l.take n) a):(Code.region id l.toArray true).wp P Q a w:=by
 simp only[Region.lexTailB,au4,au9]at hB;obtain⟨⟨⟨⟨fP,hn⟩,hs⟩,hc⟩,Tz⟩:=hB;have Wm:n<l.length:=by simpa using hn
 have yq:(l.take n).length=n:=by simp;omega
 have Fw:(l.drop n).length=l.toArray.size-n:=by simp
 have Tn:HeadInv .any l.toArray n (Array.replicate l.toArray.size false):=
  ⟨by simp,fun j oj _ hl=>by rw[ava]at hl;simp at hl,fun t _ ht=>getD_in (by simpa using ht) (ava _ _)⟩
 have H:=O0 (md:=.any) (g:=l.toArray.size-n) fP hs hc hn (l.take n) 0 _ a (fun j hj=>by rw[yq]at hj;simp[hj]) (by simpa using yq) Tn (by rw[yq];exact Tz) h;refine wp_region_any hm ?_;have:=tV (Q:=Q) (g:=l.toArray.size-n) (fun listed a' w' cL hL=>by
  have:=wpAny_of_seq (md:=.any) (Q':=Q) (l.drop n) n listed a' w' (fun j=>by simp) (by rw[Fw];exact hL.1) (hL.2 w' cL)
  rwa [Fw]at this) _ _ _ _ hC H
 rwa [yq,show n+(l.toArray.size-n)=l.toArray.size by omega]at this
end
theorem bI {P:Program}{id:Nat}{Q:Exit->Act->World->Prop}{a:Act}{w:World}{k:Nat}{l:List Oper}(n:Nat)(hm:P.follows .mixedOrders=true)(hB:Region.lexTailB .any l.toArray n=true)
  (h:wpQuiet P l.toArray (fun w'=>∃ m,w'=w.drewN m) (fun a'=>∀ w',(∃ m,w'=w.drewN m)->wpList P l.toArray Q (l.drop n) a' w') (l.take n) a):(Code.region id l.toArray true).wp P Q a (w.drewN k):=
 nt n (fun w'=>∃ m,w'=w.drewN m) hm hB ⟨k+1,rfl⟩ h
theorem nw {P:Program}{id:Nat}{Q:Exit->Act->World->Prop}{a:Act}{w:World}{k:Nat}{l:List Oper}(hm:P.follows .mixedOrders=true)(hB:Region.lexB .any l.toArray=true)
  (h:wpQuiet P l.toArray (fun w'=>∃ m,w'=w.drewN m) (fun a'=>∀ w',(∃ m,w'=w.drewN m)->Q .normal a' w') l a):(Code.region id l.toArray true).wp P Q a (w.drewN k):=
 wp_region_quiet (C:=fun w'=>∃ m,w'=w.drewN m) hm hB ⟨k+1,rfl⟩ (by simpa using h)
theorem dD {P:Program}{id:Nat}{Q:Exit->Act->World->Prop}{a:Act}{w:World}{l:List Oper}(n:Nat)(hm:P.follows .mixedOrders=true)(hB:Region.lexTailB .any l.toArray n=true)
  (h:wpQuiet P l.toArray (fun w'=>∃ m,w'=w.drewN m) (fun a'=>∀ w',(∃ m,w'=w.drewN m)->wpList P l.toArray Q (l.drop n) a' w') (l.take n) a):(Code.region id l.toArray true).wp P Q a w:=
 nt n (fun w'=>∃ m,w'=w.drewN m) hm hB ⟨1,rfl⟩ h
section
variable {P:Program}{aC:Array Oper}{md:Region.Mode}{C:World->Prop}
def l7 (P:Program)(aC:Array Oper)(K:Act->Prop):List Oper->Act->Prop
 |[],a=>K a
 |o::rest,a=>if Region.wanted o (yielded aC a.tmps)then ∃ v,(∀ w,(execOp a.eval o).run P w=.ok (.value v) w)/\l7 P aC K rest (a.put o.dst v)else l7 P aC K rest (a.put o.dst undef)
theorem kH {K:Act->Prop}{a:Act}(h:K a):l7 P aC K [] a:=h
theorem fE {K:Act->Prop}{a:Act}{o:Oper}{rest:List Oper}
  (h:∀ L:Act->Prop,(∀ a,l7 P aC K rest a->L a)->if Region.wanted o (yielded aC a.tmps)then ∃ v,(∀ w,(execOp a.eval o).run P w=.ok (.value v) w)/\L (a.put o.dst v)else L (a.put o.dst undef)):l7 P aC K (o::rest) a:=
 h _ (fun _ h=>h)
def Region.sinkFrom (md:Region.Mode)(aC:Array Oper)(m n:Nat):Bool:=
 (List.range n).all fun i=>decide (i<m)||(List.range (n+1)).any fun j=>decide (i<j)&&Region.waitsFor md aC j i
structure iu (md:Region.Mode)(aC:Array Oper)(m n:Nat)(listed:Array Bool):Prop where
 base:HeadInv md aC n listed
 first:∀ i,i<m->listed.getD i false=true
theorem iu.set {m n i:Nat}{listed:Array Bool}(inv:iu md aC m n listed)(hi:i∈Region.ready md aC listed)(tN:i<n):iu md aC m n (listed.setIfInBounds i true):=
 ⟨inv.base.set hi tN,fun j hj=>getD_set_true (inv.first j hj)⟩
theorem Gi {m n:Nat}{listed:Array Bool}(hs:Region.sinkFrom md aC m n=true)(hc:Region.chainB md aC n=true)(hn:n<aC.size)(inv:iu md aC m n listed)(d:Nat):
  ∀(i:Nat),n-i=d->i<n->listed.getD i true=false->∀ t,n<=t->t∉Region.ready md aC listed:=by
 induction d using Nat.strongRecOn with
 |_ d ih=>
  intro i hd hi hun t ht hr;obtain⟨_,ot,hot,nV⟩:=mem_ready.1 hr;have ajA:t<aC.size:=(au7.1 hot).1;have him:¬ i<m:=fun h=>by
   have h1:=inv.first i h
   rw[getD_both hun]at h1;exact absurd h1 (by simp)
  by_cases htn:t=n
  ·subst htn;have h1:=au5.1 hs i (avH.2 hi);simp only[au6,au9,him,false_or]at h1;obtain⟨j,hj,hj2⟩:=List.any_eq_true.1 h1;simp only[au4,au9]at hj2;obtain⟨oj,KJ,e,he,hb,Jm⟩:=Region.waitsFor_spec hj2.2;have apC:j<=t:=by have:=avH.1 hj;omega
   by_cases hjt:j=t
   ·subst hjt;obtain rfl:oj=ot:=avR (KJ.symm.trans hot);have h2:=nV e he hb;rw[Jm,getD_both hun]at h2;exact absurd h2 (by simp)
   ·cases hl:listed.getD j false with
    |true=>
     have h2:=inv.base.closed j oj KJ hl e he hb;rw[Jm,getD_both hun]at h2;exact absurd h2 (by simp)
    |false=>
     have hjs:j<listed.size:=by rw[inv.base.size];omega
     exact ih (t-j) (by omega) j rfl (by omega) (getD_in hjs hl) t (auP _) hr
  ·have h1:=au5.1 hc t (avH.2 ajA);simp only[au6,au9]at h1;rcases h1 with h1|h1
   ·omega
   ·obtain⟨o',Fs,e,he,hb,Jm⟩:=Region.waitsFor_spec h1;obtain rfl:o'=ot:=avR (Fs.symm.trans hot);have h2:=nV e he hb;rw[Jm,getD_both (inv.base.tail (t-1) (by omega) (by omega))]at h2;exact absurd h2 (by simp)
theorem tW {m n i j:Nat}{listed:Array Bool}(hs:Region.sinkFrom md aC m n=true)(hc:Region.chainB md aC n=true)(hn:n<aC.size)(inv:iu md aC m n listed)
  (tN:i<n) (hr:i∈Region.ready md aC listed) (hj:j∈Region.ready md aC listed):j<n:=by
 rcases Nat.lt_or_ge j n with h|h
 ·exact h
 ·exact absurd hj (Gi hs hc hn inv _ i rfl tN (mem_ready.1 hr).1 j h)
theorem vA {m n i:Nat}{oi:Oper}{v:Value}{L:Array Bool->Act->Prop}(hi:aC[i]?=some oi)(fP:∀(j:Nat) (o:Oper) cs b,aC[j]?=some o->o.op≠.select cs b)
  (hs:Region.sinkFrom md aC m n=true) (hc:Region.chainB md aC n=true) (hn:n<aC.size) (tN:i<n) (Sk:∀ listed a,L listed a->∀ j∈Region.ready md aC listed,n<=j) (f:Nat):
  ∀(listed:Array Bool) (a:Act),iu md aC m n listed->
   (∀ j oj,aC[j]?=some oj->j≠i->listed.getD j true=false->(∀ e∈oj.after,Region.binds md e=true->e.on≠i)->oi.apart aC oj=true)->
   i∈Region.ready md aC listed->YieldsIn P aC C oi v a->
   ir P md aC C n L f (listed.setIfInBounds i true) (a.put oi.dst v)->ir P md aC C n L (f+1) listed a:=by
 induction f with
 |zero=>
  intro listed a inv _ hr hy H;refine⟨fun h=>by simp[h]at hr,fun j hj=>?_⟩;have Fy:=tW hs hc hn inv tN hr hj;refine⟨Fy,?_⟩;by_cases sA:j=i
  ·subst sA;exact hy.qOp hi H
  ·have:=Sk _ _ H j (ready_mono hj sA);omega
 |succ f ih=>
  intro listed a inv qz hr hy H;refine⟨fun h=>by simp[h]at hr,fun j hj=>?_⟩;have Fy:=tW hs hc hn inv tN hr hj;refine⟨Fy,?_⟩;by_cases sA:j=i
  ·subst sA;exact hy.qOp hi H
  ·have hun:=(mem_ready.1 hr).1;have h1:=(H.2 j (ready_mono hj sA)).2;obtain⟨Fh,oj,KJ,nV⟩:=mem_ready.1 hj;have SX:∀ e∈oj.after,Region.binds md e=true->e.on≠i:=fun e he hb heq=>by
    have h1:=nV e he hb;rw[heq,getD_both hun]at h1;exact absurd h1 (by simp)
   have h2:=qOp_put KJ (qz j oj KJ sA Fh SX) (fun cs b=>fP i oi cs b hi) (fun cs b=>fP j oj cs b KJ) hy h1;refine qOp_mono (fun a' h3=>ih (listed.setIfInBounds j true) a' (inv.set hj Fy) ?_ (ready_mono hr (Ne.symm sA)) h3.1 ?_) h2
   ·intro k ok hk Cr Ta lJ;refine qz k ok hk Cr ?_ lJ;by_cases yg:j=k
    ·subst yg;exact Fh
    ·rwa [getD_set_ne true yg]at Ta
   ·rw[Array.setIfInBounds_comm _ _ sA];exact h3.2
theorem rE {m n g:Nat}{L:Act->Prop}(fP:Region.noSelect aC=true)(hs:Region.sinkFrom md aC m n=true)(hc:Region.chainB md aC n=true)(hn:n<aC.size)(l:List Oper):
  ∀(k:Nat) (listed:Array Bool) (a:Act),(∀ j,j<l.length->l[j]?=aC[k+j]?)->k+l.length=n->iu md aC m n listed->
  Region.lexHead md aC g l.length k listed=true->wpQuiet P aC C L l a->
  ir P md aC C n (fun l5 a'=>Region.seqB md aC g n l5=true/\L a') l.length listed a:=by
 induction l with
 |nil=>
  intro k listed a _ hk _ hB h;obtain rfl:k=n:=by simpa using hk
  exact⟨by simpa[Region.lexHead]using hB,h⟩
 |cons o l ih=>
  intro k listed a hl hk inv hB h;have h0:aC[k]?=some o:=by simpa using(hl 0 (by simp)).symm
  simp only[auL,Region.lexHead,au4]at hB;obtain⟨⟨hr,hf⟩,Wg⟩:=hB;have rm:k<n:=by simp only[auL]at hk;omega
  have zf:k∈Region.ready md aC listed:=by simpa using hr
  have hq:qOp P aC C k (wpQuiet P aC C L l) a:=by unfold qOp;simp only[h0];exact h
  obtain⟨v,hy,hK⟩:=yieldsIn_of_qOp h0 hq;refine vA h0 (avS fP) hs hc hn rm (fun l5 a' hL=>seqB_ready hL.1) l.length listed a inv (avT h0 hf) zf hy ?_;refine ih (k+1) _ _ (fun j hj=>?_) ?_ (inv.set zf rm) Wg hK
  ·have:=hl (j+1) (by simp;omega);simpa[au1,Nat.add_comm 1 j]using this
  ·simp only[auL]at hk;omega
def Region.markFirst:Nat->Nat->Array Bool->Array Bool
 |0,_,listed=>listed
 |f+1,k,listed=>Region.markFirst f (k+1) (listed.setIfInBounds k true)
def Region.pureB (md:Region.Mode)(aC:Array Oper):Nat->Nat->Array Bool->Bool
 |0,_,_=>true
 |f+1,k,listed=>(Region.ready md aC listed).contains k&&Region.free md aC listed k&&Region.pureB md aC f (k+1) (listed.setIfInBounds k true)
theorem CI {Q:Exit->Act->World->Prop}{K:Act->Prop}{n:Nat}(fP:Region.noSelect aC=true)(hQ:∀ c o v a w,Q (.panic c) (Act.put a o v) w->Q (.panic c) a w)(g:Nat)(w:World)(l:List Oper):
  ∀(k:Nat) (listed:Array Bool) (a:Act),(∀ j,j<l.length->l[j]?=aC[k+j]?)->k+l.length<=n->HeadInv md aC n listed->(∀ i,i<k->listed.getD i false=true)->
  (iu md aC (k+l.length) n (Region.markFirst l.length k listed)->∀ a',K a'->wpAny P md aC Q g (Region.markFirst l.length k listed) a' w)->
  Region.pureB md aC l.length k listed=true->l7 P aC K l a->wpAny P md aC Q (l.length+g) listed a w:=by
 induction l with
 |nil=>
  intro k listed a _ _ inv hf lF _ h;have:=lF ⟨by simpa[Region.markFirst]using inv,fun i hi=>by simpa[Region.markFirst]using hf i (by simpa using hi)⟩ a h;simpa[Region.markFirst]using this
 |cons o l ih=>
  intro k listed a hl hk inv hf lF hB h;have h0:aC[k]?=some o:=by simpa using(hl 0 (by simp)).symm
  simp only[auL,Region.pureB,au4]at hB;obtain⟨⟨hr,OQ⟩,Wg⟩:=hB;have zf:k∈Region.ready md aC listed:=by simpa using hr
  have rm:k<n:=by simp only[auL]at hk;omega
  obtain⟨v,hy,hK⟩:∃ v,Yields P aC o v a/\l7 P aC K l (a.put o.dst v):=by
   unfold l7 at h;by_cases hw:Region.wanted o (yielded aC a.tmps)=true
   ·simp only[hw,if_true]at h;obtain⟨v,h1,h2⟩:=h;exact⟨v,.inl ⟨hw,h1⟩,h2⟩
   ·simp only[hw]at h;exact⟨undef,.inr ⟨by simpa using hw,rfl⟩,h⟩
  rw[show(o::l).length+g=(l.length+g)+1 by simp;omega];refine wpAny_first h0 (avS fP) (fun c a w=>hQ c _ _ a w) (l.length+g) listed a w (avT h0 OQ) zf hy ?_;refine ih (k+1) _ _ (fun j hj=>?_) ?_ (inv.set zf rm) (fun i hi=>?_) ?_ Wg hK
  ·have:=hl (j+1) (by simp;omega);simpa[au1,Nat.add_comm 1 j]using this
  ·simp only[auL]at hk;omega
  ·by_cases hik:i=k
   ·subst hik;have aK:i<listed.size:=by rw[inv.size];exact(au7.1 h0).1
    simp[aK]
   ·exact getD_set_true (hf i (by omega))
  ·intro hh a' FQ;have e:k+1+l.length=k+(o::l).length:=by simp;omega
   rw[e]at hh;have:=lF hh a' FQ;simpa[Region.markFirst]using this
def Region.lexMidB (md:Region.Mode)(aC:Array Oper)(m n:Nat):Bool:=
 Region.noSelect aC&&decide (n<aC.size)&&decide (m<=n)&&Region.sinkFrom md aC m n&&Region.chainB md aC n&&Region.pureB md aC m 0 (Array.replicate aC.size false)&&
 Region.lexHead md aC (aC.size-n) (n-m) m (Region.markFirst m 0 (Array.replicate aC.size false))
theorem yE {id:Nat}{Q:Exit->Act->World->Prop}{a:Act}{w:World}{l:List Oper}(m n:Nat)(C:World->Prop)(hm:P.follows .mixedOrders=true)(hB:Region.lexMidB .any l.toArray m n=true)
  (hQ:∀ c o v a w,Q (.panic c) (Act.put a o v) w->Q (.panic c) a w) (hC:C { w with drawn:=w.drawn+1 })
  (h:l7 P l.toArray (wpQuiet P l.toArray C (fun a'=>∀ w',C w'->wpList P l.toArray Q (l.drop n) a' w') ((l.take n).drop m)) (l.take m) a):(Code.region id l.toArray true).wp P Q a w:=by
 simp only[Region.lexMidB,au4,au9]at hB;obtain⟨⟨⟨⟨⟨⟨fP,hn⟩,KO⟩,hs⟩,hc⟩,R2⟩,Tz⟩:=hB;have Wm:n<l.length:=by simpa using hn
 have yq:(l.take m).length=m:=by simp;omega
 have CC:((l.take n).drop m).length=n-m:=by simp;omega
 have Fw:(l.drop n).length=l.toArray.size-n:=by simp
 have Tn:HeadInv .any l.toArray n (Array.replicate l.toArray.size false):=
  ⟨by simp,fun j oj _ hl=>by rw[ava]at hl;simp at hl,fun t _ ht=>getD_in (by simpa using ht) (ava _ _)⟩
 refine wp_region_any hm ?_;have H:=CI (md:=.any) (n:=n) (Q:=Q) fP hQ ((n-m)+(l.toArray.size-n)) { w with drawn:=w.drawn+1 } (l.take m) 0 (Array.replicate l.toArray.size false) a
  (fun j hj=>by rw[yq]at hj;simp[hj]) (by omega) Tn (fun i hi=>by omega) (fun hh a' FQ=>?_) (by rw[yq];exact R2) h
 ·rw[yq]at H
  rwa [show m+(n-m+(l.toArray.size-n))=l.toArray.size by omega]at H
 ·rw[yq]at hh ⊢;rw[avy]at hh;have H2:=rE (md:=.any) (g:=l.toArray.size-n) fP hs hc hn ((l.take n).drop m) m _ a' (fun j hj=>by
   rw[CC]at hj;simp only[avU,List.getElem?_take,List.getElem?_toArray];rw[auT (by omega)]) (by rw[CC];omega) hh (by rw[CC];exact Tz) FQ
  have:=tV (Q:=Q) (g:=l.toArray.size-n) (fun listed a' w' cL hL=>by
   have:=wpAny_of_seq (md:=.any) (Q':=Q) (l.drop n) n listed a' w' (fun j=>by simp) (by rw[Fw];exact hL.1) (hL.2 w' cL)
   rwa [Fw]at this) _ _ _ _ hC H2
  rwa [CC]at this
end
end
section
open Go.RowKit
theorem acs (n:Nat)(h2:n<=63):bits .and .u64 (n:Int) 63=n:=by
 have h:n&&&63=n:=by rw[show(63:Nat)=2 ^ 6-1 from rfl,Nat.and_two_pow_sub_one_eq_mod];omega
 have:=bits_and_u64_nat n 63 (by omega) (by omega);rw[h]at this;simpa using this
theorem pF (x:UInt64)(n:Int)(h1:1<=n)(h2:n<=63)(w:World):
  Calls prog 190 #[.int .u64 x.toNat,.int .i64 n] w fun e w'=>e=.returned (.int .u64 (Gd x n.toNat).toNat)/\w'=w:=by
 obtain⟨n,rfl⟩:=Int.eq_ofNat_of_zero_le (show 0<=n by omega);have hb:=acs n (by omega);have hw:IntKind.u64.wrap (n:Int)=n:=by rw[IntKind.wrap_u64];omega
 go_enter func190,ntmps190
 go_wp2
 rw[Ge x n (by omega),WU x (64-n) (by omega),gY];go_ret;exact⟨rfl,rfl⟩
structure St where
 a:UInt64
 b:UInt64
 c:UInt64
 d:UInt64
def St.round (v:St):St:=
 let a:=add v.a v.b
 let c:=add v.c v.d
 let b:=xor (Gd v.b 13) a
 let d:=xor (Gd v.d 16) c
 let a:=Gd a 32
 let c:=add c b
 let a:=add a d
 let b:=xor (Gd b 17) c
 let d:=xor (Gd d 21) a
 let c:=Gd c 32
 ⟨a,b,c,d⟩
attribute [local go_sem] iS fD gY
def St.cells (v:St)(more:List Value):Array Value:=(.int .u64 v.a.toNat::.int .u64 v.b.toNat::.int .u64 v.c.toNat::.int .u64 v.d.toNat::more).toArray
theorem sW (b:Nat)(v:St)(more:List Value)(t:TypeId)(w:World)(k:Nat)(hb:b<w.heap.size):
  Calls prog 116 #[.pointer (some ⟨b,0,none⟩)] ((w.putB b (v.cells more) t).drewN k) fun e w'=>e=.returned (.tuple #[])/\∃ n,(w.putB b (v.round.cells more) t).drewN n=w':=by
 unfold St.cells;go_enter func116,ntmps116;go_wp2_with fail;refine bI 11 (by kernel_rfl) (by kernel_rfl) ?_;simp only[avz,avA,avB,avC]
 repeat (quiet_step (fail))
 refine avE ?_;intro _ cL;obtain⟨nq,rfl⟩:=cL;go_wp2_with fail;refine bI 11 (by kernel_rfl) (by kernel_rfl) ?_;simp only[avz,avA,avB,avC]
 repeat (quiet_step (fail))
 refine avE ?_;intro _ cL;obtain⟨nq,rfl⟩:=cL;go_wp2_with fail;refine bI 13 (by kernel_rfl) (by kernel_rfl) ?_;simp only[avz,avA,avB,avC]
 repeat (quiet_step ((exact avD (pF _ _ (by omega) (by omega) _))))
 refine avE ?_;intro _ cL;obtain⟨nq,rfl⟩:=cL;go_wp2_with fail;refine bI 13 (by kernel_rfl) (by kernel_rfl) ?_;simp only[avz,avA,avB,avC]
 repeat (quiet_step ((exact avD (pF _ _ (by omega) (by omega) _))))
 refine avE ?_;intro _ cL;obtain⟨nq,rfl⟩:=cL;go_wp2_with fail;refine bI 8 (by kernel_rfl) (by kernel_rfl) ?_;simp only[avz,avA,avB,avC]
 repeat (quiet_step ((exact avD (pF _ _ (by omega) (by omega) _))))
 refine avE ?_;intro _ cL;obtain⟨nq,rfl⟩:=cL;go_wp2_with fail;refine bI 11 (by kernel_rfl) (by kernel_rfl) ?_;simp only[avz,avA,avB,avC]
 repeat (quiet_step (fail))
 refine avE ?_;intro _ cL;obtain⟨nq,rfl⟩:=cL;go_wp2_with fail;refine bI 11 (by kernel_rfl) (by kernel_rfl) ?_;simp only[avz,avA,avB,avC]
 repeat (quiet_step (fail))
 refine avE ?_;intro _ cL;obtain⟨nq,rfl⟩:=cL;go_wp2_with fail;refine bI 13 (by kernel_rfl) (by kernel_rfl) ?_;simp only[avz,avA,avB,avC]
 repeat (quiet_step ((exact avD (pF _ _ (by omega) (by omega) _))))
 refine avE ?_;intro _ cL;obtain⟨nq,rfl⟩:=cL;go_wp2_with fail;refine bI 13 (by kernel_rfl) (by kernel_rfl) ?_;simp only[avz,avA,avB,avC]
 repeat (quiet_step ((exact avD (pF _ _ (by omega) (by omega) _))))
 refine avE ?_;intro _ cL;obtain⟨nq,rfl⟩:=cL;go_wp2_with fail;refine bI 8 (by kernel_rfl) (by kernel_rfl) ?_;simp only[avz,avA,avB,avC]
 repeat (quiet_step ((exact avD (pF _ _ (by omega) (by omega) _))))
 refine avE ?_;intro _ cL;obtain⟨nq,rfl⟩:=cL;go_wp2_with fail;go_end0;exact⟨rfl,_,rfl⟩
end
section
open Go.RowKit
attribute [local go_sem] iS fD gY vw
def St.take (v:St)(m:UInt64):St:=
 let r:=St.round (St.round { v with d:=xor v.d m })
 { r with a:=xor r.a m }
theorem vB (b:Nat)(v:St)(m:UInt64)(more:List Value)(t:TypeId)(w:World)(k:Nat)(hb:b<w.heap.size):
  Calls prog 115 #[.pointer (some ⟨b,0,none⟩),.int .u64 m.toNat] ((w.putB b (v.cells more) t).drewN k) fun e w'=>e=.returned (.tuple #[])/\∃ n,(w.putB b ((v.take m).cells more) t).drewN n=w':=by
 have hc:∀ v:St,v.cells more=(.int .u64 v.a.toNat::.int .u64 v.b.toNat::.int .u64 v.c.toNat::.int .u64 v.d.toNat::more).toArray:=fun _=>rfl;rw[hc v];go_enter func115,ntmps115;go_wp2_with fail;refine bI 8 (by kernel_rfl) (by kernel_rfl) ?_;simp only[avz,avA,avB,avC]
 repeat (quiet_step (fail))
 refine avE ?_;intro _ cL;obtain⟨nq,rfl⟩:=cL;go_wp2_with fail;refine(sW b { v with d:=xor v.d m } more t _ _ hb).mono ?_;rintro e w1 ⟨rfl,n1,rfl⟩;go_wp2_with fail;refine(sW b _ more t _ _ hb).mono ?_;rintro e w1 ⟨rfl,n2,rfl⟩;generalize hr:St.round (St.round { v with d:=xor v.d m })=r;have Hr:=hd0 hr;clear hr;rw[hc r];go_wp2_with fail;refine bI 8 (by kernel_rfl) (by kernel_rfl) ?_;simp only[avz,avA,avB,avC]
 repeat (quiet_step (fail))
 refine avE ?_;intro _ cL;obtain⟨nq,rfl⟩:=cL;go_wp2_with fail;go_end0;refine⟨rfl,nq,?_⟩;rw[St.take,Hr.out];rfl
end
section
open Go.RowKit
attribute [local go_sem] iS fD gY vw
theorem Gj (s:ByteArray)(w:World)(hs:s.size<=8):
  Calls prog 114 #[.string s] w fun e w'=>e=.returned (.int .u64 (qA s.data.toList).toNat)/\w'=w:=by
 go_enter func114,ntmps114
 go_wp2
 go_loop [3,4,7] (fun x i j=>∃ k:Nat,k<=s.size/\j=.int .i64 k/\x=.int .u64 (qA (s.data.toList.take k)).toNat) (fun _ _ j=>s.size-(intOf j).toNat)
 case atStart=>exact⟨0,avw _,rfl,rfl⟩
 case round=>
  obtain⟨k,hk,rfl,rfl⟩:=hrel;by_cases aK:k<s.size
  ·have FM:k<s.data.toList.length:=by simpa using aK
   have Js:=KS (s.data.toList.take k) s[k] (by simp;omega);rw[List.length_take_of_le (by omega),show s[k]=s.data.toList[k]from rfl,<-CE _ k FM]at Js;have Hsn:=hd0 Js;clear Js
   go_wp2
   refine⟨⟨k+1,by omega,by go_num,by rw[<-Hsn.out];rfl⟩,by simp[intOf];omega⟩
  ·obtain rfl:k=s.size:=by omega
   have e:s.data.toList.take s.size=s.data.toList:=avx (by simp);rw[e];clear e
   go_wp2
   go_ret;exact⟨rfl,rfl⟩
theorem sX (l:List UInt8)(w:World)(hs:l.length<=8):
  Calls prog 114 #[.string ⟨l.toArray⟩] w fun e w'=>e=.returned (.int .u64 (qA l).toNat)/\w'=w:=
 Gj ⟨l.toArray⟩ w hs
end
end Go.Proofs.YtkghpdcloaiflaaGreatDoor
