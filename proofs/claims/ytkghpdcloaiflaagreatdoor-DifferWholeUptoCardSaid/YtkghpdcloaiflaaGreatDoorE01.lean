import Derived.Test.YtkghpdcloaiflaaGreatDoorChecked
import Derived.WalkKit
import Derived.WalkLawsBesides
import Derived.WalkSpells
import Derived.Deep.Draws
import Derived.Lib.Hide
import Derived.StillTail
import Derived.Deep.Quiet
import Derived.Deep.QuietTactic
import Derived.BigQuiet
set_option maxHeartbeats 400000
namespace Go.Proofs.YtkghpdcloaiflaaGreatDoor
section
open Go.RowKit
theorem auv:type_of% @Oper.semAt_some:=@Oper.semAt_some
theorem auw:type_of% @List.mem_filter:=@List.mem_filter
theorem aux:type_of% @Nat.le_trans:=@Nat.le_trans
theorem auy:type_of% @List.map_cons:=@List.map_cons
theorem auz:type_of% @List.sum_cons:=@List.sum_cons
theorem auA:type_of% @List.length_cons:=@List.length_cons
theorem auB:type_of% @List.getElem?_eq_getElem:=@List.getElem?_eq_getElem
theorem auC:type_of% @List.mem_of_getElem?:=@List.mem_of_getElem?
theorem auD:type_of% @List.take_add_one:=@List.take_add_one
theorem auE:type_of% @Nat.le_refl:=@Nat.le_refl
theorem auF:type_of% @List.take_length:=@List.take_length
theorem auG:type_of% @List.mem_of_mem_take:=@List.mem_of_mem_take
theorem auH:type_of% @List.length_take:=@List.length_take
theorem auI:type_of% @if_pos:=@if_pos
theorem auJ:type_of% @decide_eq_false:=@decide_eq_false
theorem auK:type_of% @if_neg:=@if_neg
theorem auL:type_of% @Nat.lt_of_lt_of_le:=@Nat.lt_of_lt_of_le
theorem auM:type_of% @List.length_filter_le:=@List.length_filter_le
theorem auN:type_of% @Calls.mono:=@Calls.mono
theorem auO:type_of% @info_parts:=@info_parts
theorem auP:type_of% @List.getElem?_eq_some_iff:=@List.getElem?_eq_some_iff
theorem auQ:type_of% @Nat.add_assoc:=@Nat.add_assoc
theorem auR:type_of% @List.flatMap_append:=@List.flatMap_append
theorem auS:type_of% @List.length_append:=@List.length_append
theorem auT:type_of% @Bool.and_eq_true:=@Bool.and_eq_true
theorem auU:type_of% @List.all_eq_true:=@List.all_eq_true
theorem auV:type_of% @Bool.or_eq_true:=@Bool.or_eq_true
theorem auW:type_of% @Array.getElem?_eq_some_iff:=@Array.getElem?_eq_some_iff
theorem auX:type_of% @List.mem_cons:=@List.mem_cons
theorem auY:type_of% @decide_eq_true_eq:=@decide_eq_true_eq
theorem auZ:type_of% @getD_replicate_false:=@getD_replicate_false
theorem au0:type_of% @List.map_map:=@List.map_map
theorem au1:type_of% @List.map_congr_left:=@List.map_congr_left
theorem au2:type_of% @Nat.mul_le_mul_left:=@Nat.mul_le_mul_left
theorem au3:type_of% @Nat.pow_succ:=@Nat.pow_succ
theorem au4:type_of% @List.length_map:=@List.length_map
theorem au5:type_of% @Nat.pow_le_pow_right:=@Nat.pow_le_pow_right
theorem au6:type_of% @List.mem_map:=@List.mem_map
theorem au7:type_of% @bodyPost_ret:=@bodyPost_ret
theorem au8:type_of% @List.length_eq_zero_iff:=@List.length_eq_zero_iff
theorem au9:type_of% @List.nil_append:=@List.nil_append
theorem ava:type_of% @List.getElem_mem:=@List.getElem_mem
theorem avb:type_of% @Option.getD_some:=@Option.getD_some
theorem avc:type_of% @Int.toNat_natCast:=@Int.toNat_natCast
theorem avd:type_of% @callsIn_wide:=@callsIn_wide
theorem ave:type_of% @beq_iff_eq:=@beq_iff_eq
theorem avf:type_of% @List.cons_append:=@List.cons_append
theorem avg:type_of% @List.flatMap_cons:=@List.flatMap_cons
theorem avh:type_of% @Bool.eq_iff_iff:=@Bool.eq_iff_iff
theorem avi:type_of% @List.append_assoc:=@List.append_assoc
theorem avj:type_of% @beq_eq_false_iff_ne:=@beq_eq_false_iff_ne
theorem avk:type_of% @Nat.zero_le:=@Nat.zero_le
theorem avl:type_of% @List.take_of_length_le:=@List.take_of_length_le
theorem avm:type_of% @Nat.zero_add:=@Nat.zero_add
theorem avn:type_of% @List.take_succ_cons:=@List.take_succ_cons
theorem avo:type_of% @List.take_zero:=@List.take_zero
theorem avq:type_of% @List.drop_succ_cons:=@List.drop_succ_cons
theorem avr:type_of% @List.drop_zero:=@List.drop_zero
theorem avs:type_of% @Calls.quiet_of_same:=@Calls.quiet_of_same
theorem avt:type_of% @wpQuiet_nil:=@wpQuiet_nil
theorem avu:type_of% @List.getElem?_eq_none:=@List.getElem?_eq_none
theorem avv:type_of% @Classical.byContradiction:=@Classical.byContradiction
theorem avw:type_of% @List.mem_range:=@List.mem_range
theorem avx:type_of% @List.find?_some:=@List.find?_some
theorem avy:type_of% @List.mem_of_find?_eq_some:=@List.mem_of_find?_eq_some
theorem avz:type_of% @List.mem_range'_1:=@List.mem_range'_1
theorem avA:type_of% @List.find?_eq_none:=@List.find?_eq_none
theorem avB:type_of% @List.getElem?_map:=@List.getElem?_map
theorem avC:type_of% @List.getElem?_range:=@List.getElem?_range
theorem avD:type_of% @Option.map_some:=@Option.map_some
theorem avE:type_of% @List.mem_append:=@List.mem_append
theorem avF:type_of% @List.pairwise_cons:=@List.pairwise_cons
theorem avG:type_of% @Option.some.inj:=@Option.some.inj
theorem avH:type_of% @Region.noSelect_spec:=@Region.noSelect_spec
theorem avI:type_of% @Region.free_spec:=@Region.free_spec
theorem avJ:type_of% @List.getElem?_drop:=@List.getElem?_drop
theorem avK:type_of% @List.length_nil:=@List.length_nil
theorem avL:type_of% @Int.tdiv_eq_ediv_of_nonneg:=@Int.tdiv_eq_ediv_of_nonneg
theorem avM:type_of% @Option.map_eq_some_iff:=@Option.map_eq_some_iff
theorem avN:type_of% @List.filter_cons:=@List.filter_cons
theorem avO:type_of% @congrArg:=@congrArg
theorem avP:type_of% @List.getElem?_of_mem:=@List.getElem?_of_mem
theorem avQ:type_of% @Nat.mul_assoc:=@Nat.mul_assoc
theorem avR:type_of% @beq_false_of_ne:=@beq_false_of_ne
theorem avS:type_of% @List.getD_eq_getElem?_getD:=@List.getD_eq_getElem?_getD
theorem avT:type_of% @run_callFunc_extern:=@run_callFunc_extern
theorem avU:type_of% @List.size_toArray:=@List.size_toArray
theorem avV:type_of% @Array.replicate_succ:=@Array.replicate_succ
theorem avW:type_of% @Array.replicate_zero:=@Array.replicate_zero
theorem avX:type_of% @List.push_toArray:=@List.push_toArray
theorem avY:type_of% @List.append_toArray:=@List.append_toArray
theorem avZ:type_of% @Nat.mod_eq_of_lt:=@Nat.mod_eq_of_lt
theorem av1:type_of% @List.drop_eq_nil_of_le:=@List.drop_eq_nil_of_le
theorem av2:type_of% @Array.getElem?_setIfInBounds_self_of_lt:=@Array.getElem?_setIfInBounds_self_of_lt
theorem av3:type_of% @Array.getElem?_setIfInBounds_ne:=@Array.getElem?_setIfInBounds_ne
theorem av4:type_of% @IntWalk.i64_in:=@IntWalk.i64_in
theorem av5:type_of% @List.mem_singleton:=@List.mem_singleton
end
end Go.Proofs.YtkghpdcloaiflaaGreatDoor
namespace Go.Proofs.YtkghpdcloaiflaaGreatDoor
open _root_.Go.Proofs.Tryz
def U (x:UInt64):Value:=.int .u64 (x.toNat:Int)
def add (x y:UInt64):UInt64:=x+y
def xor (x y:UInt64):UInt64:=x^^^y
def or (x y:UInt64):UInt64:=x|||y
def shl (x:UInt64)(n:Nat):UInt64:=x<<<UInt64.ofNat n
def shr (x:UInt64)(n:Nat):UInt64:=x>>>UInt64.ofNat n
def Ga (x:UInt64)(n:Nat):UInt64:=or (shl x n) (shr x (64-n))
theorem fD (x y:UInt64):bits .xor .u64 (x.toNat:Int) (y.toNat:Int)=((xor x y).toNat:Int):=by
 rw[bits_xor_u64_nat _ _ x.toNat_lt y.toNat_lt,xor,UInt64.toNat_xor]
theorem gX (x y:UInt64):bits .or .u64 (x.toNat:Int) (y.toNat:Int)=((or x y).toNat:Int):=by
 rw[bits_or_u64_nat _ _ x.toNat_lt y.toNat_lt,or,UInt64.toNat_or]
theorem iU (x y:UInt64):IntKind.u64.wrap ((x.toNat:Int)+(y.toNat:Int))=((add x y).toNat:Int):=by
 rw[IntKind.wrap_u64,add,UInt64.toNat_add];omega
theorem vA (x:UInt64):IntKind.u64.wrap (x.toNat:Int)=(x.toNat:Int):=by
 have:=x.toNat_lt;rw[IntKind.wrap_u64];omega
theorem Gb (x:UInt64)(n:Nat)(h:n<64):IntKind.u64.wrap ((x.toNat:Int)*2 ^ n)=((shl x n).toNat:Int):=by
 rw[IntKind.wrap_u64,shl,UInt64.toNat_shiftLeft,(by simp;omega:(UInt64.ofNat n).toNat=n),avZ h,Nat.shiftLeft_eq];simp
theorem WI (x:UInt64)(n:Nat)(h:n<64):(x.toNat:Int)/2 ^ n=((shr x n).toNat:Int):=by
 rw[shr,UInt64.toNat_shiftRight,(by simp;omega:(UInt64.ofNat n).toNat=n),avZ h,Nat.shiftRight_eq_div_pow];simp
def lK (s:List UInt8):Nat:=s.foldr (fun c x=>256*x+c.toNat) 0
def qB (s:List UInt8):UInt64:=UInt64.ofNat (lK s)
theorem vB (s:List UInt8):lK s<256 ^ s.length:=by
 induction s with
 |nil=>simp[lK]
 |cons c s ih=>
  have e:lK (c::s)=256*lK s+c.toNat:=rfl;have:=c.toNat_lt;have hp:256 ^ (s.length+1)=256*256 ^ s.length:=by rw[au3];omega
  rw[e,auA,hp];omega
theorem Gc (s:List UInt8)(c:UInt8):lK (s++[c])=lK s+256 ^ s.length*c.toNat:=by
 induction s with
 |nil=>simp[lK]
 |cons d s ih=>
  have e:lK (d::s++[c])=256*lK (s++[c])+d.toNat:=rfl;have e':lK (d::s)=256*lK s+d.toNat:=rfl;have hp:256 ^ (s.length+1)=256*256 ^ s.length:=by rw[au3];omega
  rw[e,e',ih,auA,hp,Nat.mul_add,avQ];omega
theorem vC (s:List UInt8)(h:s.length<=8):(qB s).toNat=lK s:=by
 have h1:=vB s;have h2:256 ^ s.length<=256 ^ 8:=au5 (by omega) h;rw[qB,UInt64.toNat_ofNat'];exact avZ (by omega)
theorem KU (s:List UInt8)(c:UInt8)(h:s.length<8):
  bits .or .u64 ((qB s).toNat:Int) (IntKind.u64.wrap (IntKind.u64.wrap (c.toNat:Int)*2 ^ (8*s.length)))=((qB (s++[c])).toNat:Int):=by
 have hc:=c.toNat_lt;have h1:=vB (s++[c]);have h2:256 ^ (s++[c]).length<=256 ^ 8:=au5 (by omega) (by simp;omega);have hs:=vB s;have I1:=Gc s c;have hp:(2:Nat) ^ (8*s.length)=256 ^ s.length:=by rw[Nat.pow_mul]
 have e1:IntKind.u64.wrap (c.toNat:Int)=c.toNat:=by rw[IntKind.wrap_u64];omega
 have e2:((c.toNat:Int)*2 ^ (8*s.length))=((256 ^ s.length*c.toNat:Nat):Int):=by
  rw[<-hp];simp[Int.mul_comm]
 have e3:IntKind.u64.wrap (((256 ^ s.length*c.toNat:Nat):Int))=((256 ^ s.length*c.toNat:Nat):Int):=by
  rw[IntKind.wrap_u64];omega
 rw[e1,e2,e3,vC s (by omega),vC (s++[c]) (by simp;omega),bits_or_u64_nat _ _ (by omega) (by omega),I1];have:=Nat.two_pow_add_eq_or_of_lt (i:=8*s.length) (b:=lK s) (by rw[hp];exact hs) c.toNat;rw[hp]at this;rw[Nat.or_comm,<-this];omega
theorem CI {α:Type}(l:List α)(k:Nat)(h:k<l.length):l.take (k+1)=l.take k++[l[k]]:=by
 rw[List.take_succ_eq_append_getElem h]
end Go.Proofs.YtkghpdcloaiflaaGreatDoor
section
namespace Go.Proofs.YtkghpdcloaiflaaGreatDoor
open _root_.Go.Proofs.Tryz
theorem hd0 {p:Prop} (h:p):Go.RowKit.Hid p:=Go.Lib.hid h
open Go.RowKit
structure ah (S:Nat->Prop)(w w':World):Prop where
 os:w'.os=w.os
 tape:w'.tape=w.tape
 output:w'.output=w.output
 size:w.heap.size<=w'.heap.size
 block:∀ k,k<w.heap.size->¬ S k->w'.heap[k]?=w.heap[k]?
abbrev af (w w':World):Prop:=ah (fun _=>False) w w'
theorem ah.refl (S:Nat->Prop)(w:World):ah S w w:=⟨rfl,rfl,rfl,Nat.le_refl _,fun _ _ _=>rfl⟩
theorem ah.trans {S T:Nat->Prop}{a b c:World}(h:ah S a b)(k:ah T b c)(hT:∀ i,i<a.heap.size->T i->S i):ah S a c:=
 ⟨k.os.trans h.os,k.tape.trans h.tape,k.output.trans h.output,Nat.le_trans h.size k.size,
  fun i hi hS=>(k.block i (Nat.lt_of_lt_of_le hi h.size) (fun ht=>hS (hT i hi ht))).trans (h.block i hi hS)⟩
theorem ah.mono {S T:Nat->Prop}{a b:World}(h:ah S a b)(hT:∀ i,i<a.heap.size->S i->T i):ah T a b:=
 ⟨h.os,h.tape,h.output,h.size,fun i hi hS=>h.block i hi (fun hs=>hS (hT i hi hs))⟩
theorem ah.keep {S:Nat->Prop}{a b c:World}(h:ah S a b)(k:af b c):ah S a c:=h.trans k (fun _ _=>False.elim)
theorem ah.new {S:Nat->Prop}{a b c:World}{k:Nat}(h:ah S a b)(m:ah (·=k) b c)(hk:a.heap.size<=k):ah S a c:=h.trans m (fun i hi e=>by subst e;omega)
theorem ah.drew {S:Nat->Prop}{a w:World}(h:ah S a w):ah S a w.drew:=⟨h.os,h.tape,h.output,h.size,h.block⟩
theorem ah.drawn {S:Nat->Prop}{a w:World}(h:ah S a w)(n:Nat):ah S a { w with drawn:=n }:=⟨h.os,h.tape,h.output,h.size,h.block⟩
theorem ah.drewN {S:Nat->Prop}{a w:World}(h:ah S a w)(n:Nat):ah S a (w.drewN n):=⟨h.os,h.tape,h.output,h.size,h.block⟩
theorem ah.alloc {S:Nat->Prop}{a w:World}(h:ah S a w)(o:Obj):ah S a (w.alloc o):=
 ⟨h.os,h.tape,h.output,by have:=h.size;simp;omega,fun k hk hS=>by rw[Below.heap_alloc _ _ _ (Nat.lt_of_lt_of_le hk h.size)];exact h.block k hk hS⟩
theorem ah.setCell {S:Nat->Prop}{a w:World}(h:ah S a w){p:Addr}(hp:S p.block\/a.heap.size<=p.block)(u:Value):ah S a (w.setCell p u):=
 ⟨h.os,h.tape,h.output,by have:=h.size;simpa[World.setCell]using this,fun k hk hS=>by
  rw[Below.heap_setCell _ _ _ _ (fun e=>by subst e;rcases hp with hp|hp;exact hS hp;omega)];exact h.block k hk hS⟩
theorem ah.cell {S:Nat->Prop}{w w':World}(h:ah S w w'){p:Addr}(hp:p.block<w.heap.size)(hS:¬ S p.block):w'.cell? p=w.cell? p:=
 World.cell?_of_block (w:=w) (h.block p.block hp hS)
theorem ak {w:World}{a:Addr}{v:Value}(h:w.cell? a=some v):a.block<w.heap.size:=by
 unfold World.cell? at h
 cases hb:w.heap[a.block]? with
 |none=>simp[hb]at h
 |some o=>exact(Array.getElem?_eq_some_iff.1 hb).1
theorem tc {w:World}{b:Nat}{o:Obj}(h:w.heap[b]?=some o):b<w.heap.size:=(Array.getElem?_eq_some_iff.1 h).1
theorem ah.below {w w':World}(h:af w w'):Below w.heap.size w w':=⟨h.os,h.tape,h.output,h.size,fun k hk=>h.block k hk id⟩
theorem ah.ofBelow {w w':World}(h:Below w.heap.size w w'):af w w':=⟨h.os,h.tape,h.output,h.size,fun k hk _=>h.block k hk⟩
theorem ah.obj {S:Nat->Prop}{w w':World}(h:ah S w w'){b:Nat}{o:Obj}(hb:w.heap[b]?=some o)(hS:¬ S b):w'.heap[b]?=some o:=
 (h.block b (tc hb) hS).trans hb
def World.blk (w:World)(b:Nat)(c:Array Value)(t:TypeId):Prop:=w.heap[b]?=some (.cells c t (0,0))
theorem aa {w:World}{b:Nat}{c:Array Value}{t:TypeId}(h:World.blk w b c t)(i:Nat):w.cell? ⟨b,i,none⟩=c[i]?:=by
 unfold World.blk at h;simp[World.cell?,h]
theorem ae {w:World}{b:Nat}{c:Array Value}{t:TypeId}(h:World.blk w b c t)(a:Addr)(ha:a.block=b):w.frozen? a=false:=by
 unfold World.blk at h;subst ha;simp[World.frozen?,h]
theorem ai {w:World}{b:Nat}{c:Array Value}{t:TypeId}(h:World.blk w b c t):b<w.heap.size:=tc h
theorem ag {w:World}{b:Nat}{c:Array Value}{t:TypeId}(h:World.blk w b c t)(i:Nat)(v:Value):World.blk (w.setCell ⟨b,i,none⟩ v) b (c.setIfInBounds i v) t:=by
 have aL:=ai h;unfold World.blk at*;have h':w.heap[b]=.cells c t (0,0):=by simpa[Array.getElem?_eq_getElem aL]using h
 show(w.heap.modify b _)[b]?=_;rw[Array.getElem?_eq_getElem (by simpa using aL),Array.getElem_modify_self,h'];rfl
theorem bE {w:World}{b:Nat}{c:Array Value}{t:TypeId}(h:World.blk w b c t)(p:Addr)(hp:b≠p.block)(v:Value):World.blk (w.setCell p v) b c t:=by
 unfold World.blk at *;rw[Below.heap_setCell _ _ _ _ hp];exact h
theorem aH {w:World}{b:Nat}{c:Array Value}{t:TypeId}(h:World.blk w b c t)(o:Obj):World.blk (w.alloc o) b c t:=by
 have aL:=ai h;unfold World.blk at *;rw[Below.heap_alloc _ _ _ aL];exact h
theorem aw (w:World)(c:Array Value)(t:TypeId):World.blk (w.alloc (.cells c t)) w.heap.size c t:=by
 unfold World.blk;show(w.heap.push _)[_]?=_;simp
theorem fQ {w:World}{b:Nat}{c:Array Value}{t:TypeId}(h:World.blk w b c t)(n:Nat):World.blk (w.drewN n) b c t:=h
theorem CJ {w:World}{b:Nat}{c:Array Value}{t:TypeId}(h:World.blk w b c t):World.blk w.drew b c t:=h
theorem ab {S:Nat->Prop}{w w':World}(m:ah S w w'){b:Nat}{c:Array Value}{t:TypeId}(h:World.blk w b c t)(hS:¬ S b):World.blk w' b c t:=m.obj h hS
end Go.Proofs.YtkghpdcloaiflaaGreatDoor
namespace Go
def World.putB (w:World)(b:Nat)(c:Array Value)(t:TypeId):World:={ w with heap:=w.heap.setIfInBounds b (.cells c t (0,0)) }
end Go
namespace Go.Proofs.YtkghpdcloaiflaaGreatDoor
open _root_.Go.Proofs.Tryz
open Go.RowKit
section
variable {w:World}{b:Nat}{c:Array Value}{t:TypeId}
theorem KV (h:World.blk w b c t):w.putB b c t=w:=by
 have aL:=ai h;unfold World.blk at h;show({ w with heap:=w.heap.setIfInBounds b _ }:World)=w;have e:w.heap.setIfInBounds b (.cells c t (0,0))=w.heap:=by
  apply Array.ext_getElem?;intro i;by_cases hi:b=i
  ·subst hi;rw[Array.getElem?_setIfInBounds_self_of_lt aL];exact h.symm
  ·rw[Array.getElem?_setIfInBounds_ne hi]
 rw[e]
@[go_sem] theorem Tv (n:Nat)(a:Addr)(v:Value):(w.drewN n).setCell a v=(w.setCell a v).drewN n:=rfl
@[go_sem] theorem WJ (n:Nat)(o:Obj):(w.drewN n).alloc o=(w.alloc o).drewN n:=rfl
@[go_sem] theorem Yz (n:Nat):(w.drewN n).putB b c t=(w.putB b c t).drewN n:=rfl
@[go_sem] theorem aa9:(w.putB b c t).heap.size=w.heap.size:=by simp[World.putB]
theorem vD (hb:b<w.heap.size):World.blk (w.putB b c t) b c t:=by
 unfold World.blk;show(w.heap.setIfInBounds b _)[b]?=_;rw[Array.getElem?_setIfInBounds_self_of_lt hb]
@[go_sem] theorem aba (hb:b<w.heap.size)(i:Nat):(w.putB b c t).cell? ⟨b,i,none⟩=c[i]?:=aa (vD hb) i
@[go_sem] theorem WK (hb:b<w.heap.size)(i:Nat):(w.putB b c t).frozen? ⟨b,i,none⟩=false:=ae (vD hb) _ rfl
theorem Gd {k:Nat}(hk:k≠b):(w.putB b c t).heap[k]?=w.heap[k]?:=by
 show(w.heap.setIfInBounds b _)[k]?=_;rw[Array.getElem?_setIfInBounds_ne (Ne.symm hk)]
@[go_sem] theorem abb (d:Array Value)(u:TypeId):(w.putB b c t).putB b d u=w.putB b d u:=by
 show({ w with heap:=(w.heap.setIfInBounds b _).setIfInBounds b _ }:World)={ w with heap:=_ };rw[Array.setIfInBounds_setIfInBounds]
@[go_sem] theorem TV (hb:b<w.heap.size)(i:Nat)(v:Value):(w.putB b c t).setCell ⟨b,i,none⟩ v=w.putB b (c.setIfInBounds i v) t:=by
 show({ w with heap:=(w.heap.setIfInBounds b _).modify b _ }:World)={ w with heap:=_ };have e:(w.heap.setIfInBounds b (.cells c t (0,0))).modify b (fun
   | .cells c elem frozen=>.cells (if(none:Option Nat).isSome then c else c.setIfInBounds i v) elem frozen
   |o=>o)=w.heap.setIfInBounds b (.cells (c.setIfInBounds i v) t (0,0)):=by
  apply Array.ext_getElem?;intro k;by_cases hk:b=k
  ·subst hk;have N7:b<(w.heap.setIfInBounds b (.cells c t (0,0))).size:=by simpa using hb
   rw[Array.getElem?_setIfInBounds_self_of_lt hb,Array.getElem?_modify,if_pos rfl,Array.getElem?_setIfInBounds_self_of_lt hb];rfl
  ·rw[Array.getElem?_modify,if_neg hk,Array.getElem?_setIfInBounds_ne hk,Array.getElem?_setIfInBounds_ne hk]
 exact congrArg (fun h=>({ w with heap:=h }:World)) e
theorem iV (d:Array Value)(u:TypeId):(w.alloc (.cells c t)).putB w.heap.size d u=w.alloc (.cells d u):=by
 show({ w with heap:=(w.heap.push _).setIfInBounds w.heap.size _ }:World)={ w with heap:=w.heap.push _ };have e:(w.heap.push (.cells c t)).setIfInBounds w.heap.size (.cells d u (0,0))=w.heap.push (.cells d u):=by
  apply Array.ext_getElem?;intro i;by_cases hi:w.heap.size=i
  ·subst hi;rw[Array.getElem?_setIfInBounds_self_of_lt (by simp)];simp
  ·rw[Array.getElem?_setIfInBounds_ne hi,Array.getElem?_push,Array.getElem?_push,if_neg (Ne.symm hi),if_neg (Ne.symm hi)]
 rw[e]
theorem ah.putB {S:Nat->Prop}{a w:World}(h:ah S a w){b:Nat}(hp:S b\/a.heap.size<=b)(c:Array Value)(t:TypeId):ah S a (w.putB b c t):=
 ⟨h.os,h.tape,h.output,by have:=h.size;simpa[World.putB]using this,fun k hk hS=>by
  rw[Gd (fun e=>by subst e;rcases hp with hp|hp;exact hS hp;omega)];exact h.block k hk hS⟩
end
end Go.Proofs.YtkghpdcloaiflaaGreatDoor
end
namespace Go.Proofs.YtkghpdcloaiflaaGreatDoor
open _root_.Go.Proofs.Tryz
section
open Go
section
variable {P:Program}{aD:Array Oper}{md:Region.Mode}{C:World->Prop}
def iq (P:Program)(md:Region.Mode)(aD:Array Oper)(C:World->Prop)(n:Nat)(L:Array Bool->Act->Prop):Nat->Array Bool->Act->Prop
 |0,listed,a=>L listed a
 |f+1,listed,a=>Region.ready md aD listed≠[]/\
  ∀ i∈Region.ready md aD listed,i<n/\qOp P aD C i (iq P md aD C n L f (listed.setIfInBounds i true)) a
theorem t7 {n g:Nat}{L:Array Bool->Act->Prop}{Q:Exit->Act->World->Prop}(hL:∀ listed a w,C w->L listed a->wpAny P md aD Q g listed a w)(f:Nat):
  ∀(listed:Array Bool) (a:Act) (w:World),C w->iq P md aD C n L f listed a->wpAny P md aD Q (f+g) listed a w:=by
 induction f with
 |zero=>intro listed a w hw h;rw[avm];exact hL _ _ _ hw h
 |succ f ih=>
  intro listed a w hw h;rw[show f+1+g=(f+g)+1 by omega];exact⟨fun h0=>absurd h0 h.1,fun i hi=>wpOp_of_qOp hw (fun a' w' cf h'=>ih _ a' w' cf h') (h.2 i hi).2⟩
theorem Jz {n i j:Nat}{listed:Array Bool}(hs:Region.sinkB md aD n=true)(hc:Region.chainB md aD n=true)(hn:n<aD.size)(inv:HeadInv md aD n listed)
  (sK:i<n) (hr:i∈Region.ready md aD listed) (hj:j∈Region.ready md aD listed):j<n:=by
 rcases Nat.lt_or_ge j n with h|h
 ·exact h
 ·exact absurd hj (tail_waits hs hc hn inv _ i rfl sK (mem_ready.1 hr).1 j h)
theorem Ge {n i:Nat}{oi:Oper}{v:Value}{L:Array Bool->Act->Prop}(hi:aD[i]?=some oi)(fO:∀(j:Nat) (o:Oper) cs b,aD[j]?=some o->o.op≠.select cs b)
  (hs:Region.sinkB md aD n=true) (hc:Region.chainB md aD n=true) (hn:n<aD.size) (sK:i<n) (SV:∀ listed a,L listed a->∀ j∈Region.ready md aD listed,n<=j) (f:Nat):
  ∀(listed:Array Bool) (a:Act),HeadInv md aD n listed->
   (∀ j oj,aD[j]?=some oj->j≠i->listed.getD j true=false->(∀ e∈oj.after,Region.binds md e=true->e.on≠i)->oi.apart aD oj=true)->
   i∈Region.ready md aD listed->YieldsIn P aD C oi v a->
   iq P md aD C n L f (listed.setIfInBounds i true) (a.put oi.dst v)->iq P md aD C n L (f+1) listed a:=by
 induction f with
 |zero=>
  intro listed a inv _ hr hy H;refine⟨fun h=>by simp[h]at hr,fun j hj=>?_⟩;have Fr:=Jz hs hc hn inv sK hr hj;refine⟨Fr,?_⟩;by_cases sG:j=i
  ·subst sG;exact hy.qOp hi H
  ·have:=SV _ _ H j (ready_mono hj sG);omega
 |succ f ih=>
  intro listed a inv qz hr hy H;refine⟨fun h=>by simp[h]at hr,fun j hj=>?_⟩;have Fr:=Jz hs hc hn inv sK hr hj;refine⟨Fr,?_⟩;by_cases sG:j=i
  ·subst sG;exact hy.qOp hi H
  ·have ZB:=(mem_ready.1 hr).1;have h1:=(H.2 j (ready_mono hj sG)).2;obtain⟨Ft,oj,Ky,nV⟩:=mem_ready.1 hj;have Tg:∀ e∈oj.after,Region.binds md e=true->e.on≠i:=fun e he hb heq=>by
    have h1:=nV e he hb;rw[heq,getD_both ZB]at h1;exact absurd h1 (by simp)
   have h2:=qOp_put Ky (qz j oj Ky sG Ft Tg) (fun cs b=>fO i oi cs b hi) (fun cs b=>fO j oj cs b Ky) hy h1;refine qOp_mono (fun a' h3=>ih (listed.setIfInBounds j true) a' (inv.set hj Fr) ?_ (ready_mono hr (Ne.symm sG)) h3.1 ?_) h2
   ·intro k ok hk Cx RK lH;refine qz k ok hk Cx ?_ lH;by_cases yo:j=k
    ·subst yo;exact Ft
    ·rwa [getD_set_ne true yo]at RK
   ·rw[Array.setIfInBounds_comm _ _ sG];exact h3.2
theorem OT {n g:Nat}{L:Act->Prop}(fO:Region.noSelect aD=true)(hs:Region.sinkB md aD n=true)(hc:Region.chainB md aD n=true)(hn:n<aD.size)(l:List Oper):
  ∀(k:Nat) (listed:Array Bool) (a:Act),(∀ j,j<l.length->l[j]?=aD[k+j]?)->k+l.length=n->HeadInv md aD n listed->
  Region.lexHead md aD g l.length k listed=true->wpQuiet P aD C L l a->
  iq P md aD C n (fun l6 a'=>Region.seqB md aD g n l6=true/\L a') l.length listed a:=by
 induction l with
 |nil=>
  intro k listed a _ hk _ hB h;obtain rfl:k=n:=by simpa using hk
  exact⟨by simpa[Region.lexHead]using hB,h⟩
 |cons o l ih=>
  intro k listed a hl hk inv hB h;have h0:aD[k]?=some o:=by simpa using(hl 0 (by simp)).symm
  simp only[auA,Region.lexHead,auT]at hB;obtain⟨⟨hr,hf⟩,VU⟩:=hB;have rl:k<n:=by simp only[auA]at hk;omega
  have zj:k∈Region.ready md aD listed:=by simpa using hr
  have hq:qOp P aD C k (wpQuiet P aD C L l) a:=by unfold qOp;simp only[h0];exact h
  obtain⟨v,hy,hK⟩:=yieldsIn_of_qOp h0 hq;refine Ge h0 (avH fO) hs hc hn rl (fun l6 a' hL=>seqB_ready hL.1) l.length listed a inv (avI h0 hf) zj hy ?_;refine ih (k+1) _ _ (fun j hj=>?_) ?_ (inv.set zj rl) VU hK
  ·have:=hl (j+1) (by simp;omega);simpa[auQ,Nat.add_comm 1 j]using this
  ·simp only[auA]at hk;omega
theorem nk {id:Nat}{Q:Exit->Act->World->Prop}{a:Act}{w:World}{l:List Oper}(n:Nat)(C:World->Prop)(hm:P.follows .mixedOrders=true)(hB:Region.lexTailB .any l.toArray n=true)
  (hC:C { w with drawn:=w.drawn+1 }) (h:wpQuiet P l.toArray C (fun a'=>∀ w',C w'->wpList P l.toArray Q (l.drop n) a' w') (l.take n) a):(Code.region id l.toArray true).wp P Q a w:=by
 simp only[Region.lexTailB,auT,auY]at hB;obtain⟨⟨⟨⟨fO,hn⟩,hs⟩,hc⟩,SA⟩:=hB;have Wf:n<l.length:=by simpa using hn
 have yw:(l.take n).length=n:=by simp;omega
 have Fz:(l.drop n).length=l.toArray.size-n:=by simp
 have Ta:HeadInv .any l.toArray n (Array.replicate l.toArray.size false):=
  ⟨by simp,fun j oj _ hl=>by rw[auZ]at hl;simp at hl,fun t _ ht=>getD_in (by simpa using ht) (auZ _ _)⟩
 have H:=OT (md:=.any) (g:=l.toArray.size-n) fO hs hc hn (l.take n) 0 _ a (fun j hj=>by rw[yw]at hj;simp[hj]) (by simpa using yw) Ta (by rw[yw];exact SA) h;refine wp_region_any hm ?_;have:=t7 (Q:=Q) (g:=l.toArray.size-n) (fun listed a' w' cf hL=>by
  have:=wpAny_of_seq (md:=.any) (Q':=Q) (l.drop n) n listed a' w' (fun j=>by simp) (by rw[Fz];exact hL.1) (hL.2 w' cf)
  rwa [Fz]at this) _ _ _ _ hC H
 rwa [yw,show n+(l.toArray.size-n)=l.toArray.size by omega]at this
end
theorem bJ {P:Program}{id:Nat}{Q:Exit->Act->World->Prop}{a:Act}{w:World}{k:Nat}{l:List Oper}(n:Nat)(hm:P.follows .mixedOrders=true)(hB:Region.lexTailB .any l.toArray n=true)
  (h:wpQuiet P l.toArray (fun w'=>∃ m,w'=w.drewN m) (fun a'=>∀ w',(∃ m,w'=w.drewN m)->wpList P l.toArray Q (l.drop n) a' w') (l.take n) a):(Code.region id l.toArray true).wp P Q a (w.drewN k):=
 nk n (fun w'=>∃ m,w'=w.drewN m) hm hB ⟨k+1,rfl⟩ h
theorem nt {P:Program}{id:Nat}{Q:Exit->Act->World->Prop}{a:Act}{w:World}{k:Nat}{l:List Oper}(hm:P.follows .mixedOrders=true)(hB:Region.lexB .any l.toArray=true)
  (h:wpQuiet P l.toArray (fun w'=>∃ m,w'=w.drewN m) (fun a'=>∀ w',(∃ m,w'=w.drewN m)->Q .normal a' w') l a):(Code.region id l.toArray true).wp P Q a (w.drewN k):=
 wp_region_quiet (C:=fun w'=>∃ m,w'=w.drewN m) hm hB ⟨k+1,rfl⟩ (by simpa using h)
theorem dD {P:Program}{id:Nat}{Q:Exit->Act->World->Prop}{a:Act}{w:World}{l:List Oper}(n:Nat)(hm:P.follows .mixedOrders=true)(hB:Region.lexTailB .any l.toArray n=true)
  (h:wpQuiet P l.toArray (fun w'=>∃ m,w'=w.drewN m) (fun a'=>∀ w',(∃ m,w'=w.drewN m)->wpList P l.toArray Q (l.drop n) a' w') (l.take n) a):(Code.region id l.toArray true).wp P Q a w:=
 nk n (fun w'=>∃ m,w'=w.drewN m) hm hB ⟨1,rfl⟩ h
section
variable {P:Program}{aD:Array Oper}{md:Region.Mode}{C:World->Prop}
def l7 (P:Program)(aD:Array Oper)(K:Act->Prop):List Oper->Act->Prop
 |[],a=>K a
 |o::rest,a=>if Region.wanted o (yielded aD a.tmps)then ∃ v,(∀ w,(execOp a.eval o).run P w=.ok (.value v) w)/\l7 P aD K rest (a.put o.dst v)else l7 P aD K rest (a.put o.dst undef)
theorem kH {K:Act->Prop}{a:Act}(h:K a):l7 P aD K [] a:=h
theorem fE {K:Act->Prop}{a:Act}{o:Oper}{rest:List Oper}
  (h:∀ L:Act->Prop,(∀ a,l7 P aD K rest a->L a)->if Region.wanted o (yielded aD a.tmps)then ∃ v,(∀ w,(execOp a.eval o).run P w=.ok (.value v) w)/\L (a.put o.dst v)else L (a.put o.dst undef)):l7 P aD K (o::rest) a:=
 h _ (fun _ h=>h)
def Region.sinkFrom (md:Region.Mode)(aD:Array Oper)(m n:Nat):Bool:=
 (List.range n).all fun i=>decide (i<m)||(List.range (n+1)).any fun j=>decide (i<j)&&Region.waitsFor md aD j i
structure ir (md:Region.Mode)(aD:Array Oper)(m n:Nat)(listed:Array Bool):Prop where
 base:HeadInv md aD n listed
 first:∀ i,i<m->listed.getD i false=true
theorem ir.set {m n i:Nat}{listed:Array Bool}(inv:ir md aD m n listed)(hi:i∈Region.ready md aD listed)(sK:i<n):ir md aD m n (listed.setIfInBounds i true):=
 ⟨inv.base.set hi sK,fun j hj=>getD_set_true (inv.first j hj)⟩
theorem Gf {m n:Nat}{listed:Array Bool}(hs:Region.sinkFrom md aD m n=true)(hc:Region.chainB md aD n=true)(hn:n<aD.size)(inv:ir md aD m n listed)(d:Nat):
  ∀(i:Nat),n-i=d->i<n->listed.getD i true=false->∀ t,n<=t->t∉Region.ready md aD listed:=by
 induction d using Nat.strongRecOn with
 |_ d ih=>
  intro i hd hi ZB t ht hr;obtain⟨_,ot,hot,nV⟩:=mem_ready.1 hr;have ahH:t<aD.size:=(auW.1 hot).1;have him:¬ i<m:=fun h=>by
   have h1:=inv.first i h
   rw[getD_both ZB]at h1;exact absurd h1 (by simp)
  by_cases htn:t=n
  ·subst htn;have h1:=auU.1 hs i (avw.2 hi);simp only[auV,auY,him,false_or]at h1;obtain⟨j,hj,hj2⟩:=List.any_eq_true.1 h1;simp only[auT,auY]at hj2;obtain⟨oj,Ky,e,he,hb,Jj⟩:=Region.waitsFor_spec hj2.2;have aqs:j<=t:=by have:=avw.1 hj;omega
   by_cases hjt:j=t
   ·subst hjt;obtain rfl:oj=ot:=avG (Ky.symm.trans hot);have h2:=nV e he hb;rw[Jj,getD_both ZB]at h2;exact absurd h2 (by simp)
   ·cases hl:listed.getD j false with
    |true=>
     have h2:=inv.base.closed j oj Ky hl e he hb;rw[Jj,getD_both ZB]at h2;exact absurd h2 (by simp)
    |false=>
     have hjs:j<listed.size:=by rw[inv.base.size];omega
     exact ih (t-j) (by omega) j rfl (by omega) (getD_in hjs hl) t (auE _) hr
  ·have h1:=auU.1 hc t (avw.2 ahH);simp only[auV,auY]at h1;rcases h1 with h1|h1
   ·omega
   ·obtain⟨o',Fe,e,he,hb,Jj⟩:=Region.waitsFor_spec h1;obtain rfl:o'=ot:=avG (Fe.symm.trans hot);have h2:=nV e he hb;rw[Jj,getD_both (inv.base.tail (t-1) (by omega) (by omega))]at h2;exact absurd h2 (by simp)
theorem t8 {m n i j:Nat}{listed:Array Bool}(hs:Region.sinkFrom md aD m n=true)(hc:Region.chainB md aD n=true)(hn:n<aD.size)(inv:ir md aD m n listed)
  (sK:i<n) (hr:i∈Region.ready md aD listed) (hj:j∈Region.ready md aD listed):j<n:=by
 rcases Nat.lt_or_ge j n with h|h
 ·exact h
 ·exact absurd hj (Gf hs hc hn inv _ i rfl sK (mem_ready.1 hr).1 j h)
theorem vE {m n i:Nat}{oi:Oper}{v:Value}{L:Array Bool->Act->Prop}(hi:aD[i]?=some oi)(fO:∀(j:Nat) (o:Oper) cs b,aD[j]?=some o->o.op≠.select cs b)
  (hs:Region.sinkFrom md aD m n=true) (hc:Region.chainB md aD n=true) (hn:n<aD.size) (sK:i<n) (SV:∀ listed a,L listed a->∀ j∈Region.ready md aD listed,n<=j) (f:Nat):
  ∀(listed:Array Bool) (a:Act),ir md aD m n listed->
   (∀ j oj,aD[j]?=some oj->j≠i->listed.getD j true=false->(∀ e∈oj.after,Region.binds md e=true->e.on≠i)->oi.apart aD oj=true)->
   i∈Region.ready md aD listed->YieldsIn P aD C oi v a->
   iq P md aD C n L f (listed.setIfInBounds i true) (a.put oi.dst v)->iq P md aD C n L (f+1) listed a:=by
 induction f with
 |zero=>
  intro listed a inv _ hr hy H;refine⟨fun h=>by simp[h]at hr,fun j hj=>?_⟩;have Fr:=t8 hs hc hn inv sK hr hj;refine⟨Fr,?_⟩;by_cases sG:j=i
  ·subst sG;exact hy.qOp hi H
  ·have:=SV _ _ H j (ready_mono hj sG);omega
 |succ f ih=>
  intro listed a inv qz hr hy H;refine⟨fun h=>by simp[h]at hr,fun j hj=>?_⟩;have Fr:=t8 hs hc hn inv sK hr hj;refine⟨Fr,?_⟩;by_cases sG:j=i
  ·subst sG;exact hy.qOp hi H
  ·have ZB:=(mem_ready.1 hr).1;have h1:=(H.2 j (ready_mono hj sG)).2;obtain⟨Ft,oj,Ky,nV⟩:=mem_ready.1 hj;have Tg:∀ e∈oj.after,Region.binds md e=true->e.on≠i:=fun e he hb heq=>by
    have h1:=nV e he hb;rw[heq,getD_both ZB]at h1;exact absurd h1 (by simp)
   have h2:=qOp_put Ky (qz j oj Ky sG Ft Tg) (fun cs b=>fO i oi cs b hi) (fun cs b=>fO j oj cs b Ky) hy h1;refine qOp_mono (fun a' h3=>ih (listed.setIfInBounds j true) a' (inv.set hj Fr) ?_ (ready_mono hr (Ne.symm sG)) h3.1 ?_) h2
   ·intro k ok hk Cx RK lH;refine qz k ok hk Cx ?_ lH;by_cases yo:j=k
    ·subst yo;exact Ft
    ·rwa [getD_set_ne true yo]at RK
   ·rw[Array.setIfInBounds_comm _ _ sG];exact h3.2
theorem rI {m n g:Nat}{L:Act->Prop}(fO:Region.noSelect aD=true)(hs:Region.sinkFrom md aD m n=true)(hc:Region.chainB md aD n=true)(hn:n<aD.size)(l:List Oper):
  ∀(k:Nat) (listed:Array Bool) (a:Act),(∀ j,j<l.length->l[j]?=aD[k+j]?)->k+l.length=n->ir md aD m n listed->
  Region.lexHead md aD g l.length k listed=true->wpQuiet P aD C L l a->
  iq P md aD C n (fun l6 a'=>Region.seqB md aD g n l6=true/\L a') l.length listed a:=by
 induction l with
 |nil=>
  intro k listed a _ hk _ hB h;obtain rfl:k=n:=by simpa using hk
  exact⟨by simpa[Region.lexHead]using hB,h⟩
 |cons o l ih=>
  intro k listed a hl hk inv hB h;have h0:aD[k]?=some o:=by simpa using(hl 0 (by simp)).symm
  simp only[auA,Region.lexHead,auT]at hB;obtain⟨⟨hr,hf⟩,VU⟩:=hB;have rl:k<n:=by simp only[auA]at hk;omega
  have zj:k∈Region.ready md aD listed:=by simpa using hr
  have hq:qOp P aD C k (wpQuiet P aD C L l) a:=by unfold qOp;simp only[h0];exact h
  obtain⟨v,hy,hK⟩:=yieldsIn_of_qOp h0 hq;refine vE h0 (avH fO) hs hc hn rl (fun l6 a' hL=>seqB_ready hL.1) l.length listed a inv (avI h0 hf) zj hy ?_;refine ih (k+1) _ _ (fun j hj=>?_) ?_ (inv.set zj rl) VU hK
  ·have:=hl (j+1) (by simp;omega);simpa[auQ,Nat.add_comm 1 j]using this
  ·simp only[auA]at hk;omega
def Region.markFirst:Nat->Nat->Array Bool->Array Bool
 |0,_,listed=>listed
 |f+1,k,listed=>Region.markFirst f (k+1) (listed.setIfInBounds k true)
def Region.pureB (md:Region.Mode)(aD:Array Oper):Nat->Nat->Array Bool->Bool
 |0,_,_=>true
 |f+1,k,listed=>(Region.ready md aD listed).contains k&&Region.free md aD listed k&&Region.pureB md aD f (k+1) (listed.setIfInBounds k true)
theorem CK {Q:Exit->Act->World->Prop}{K:Act->Prop}{n:Nat}(fO:Region.noSelect aD=true)(hQ:∀ c o v a w,Q (.panic c) (Act.put a o v) w->Q (.panic c) a w)(g:Nat)(w:World)(l:List Oper):
  ∀(k:Nat) (listed:Array Bool) (a:Act),(∀ j,j<l.length->l[j]?=aD[k+j]?)->k+l.length<=n->HeadInv md aD n listed->(∀ i,i<k->listed.getD i false=true)->
  (ir md aD (k+l.length) n (Region.markFirst l.length k listed)->∀ a',K a'->wpAny P md aD Q g (Region.markFirst l.length k listed) a' w)->
  Region.pureB md aD l.length k listed=true->l7 P aD K l a->wpAny P md aD Q (l.length+g) listed a w:=by
 induction l with
 |nil=>
  intro k listed a _ _ inv hf lG _ h;have:=lG ⟨by simpa[Region.markFirst]using inv,fun i hi=>by simpa[Region.markFirst]using hf i (by simpa using hi)⟩ a h;simpa[Region.markFirst]using this
 |cons o l ih=>
  intro k listed a hl hk inv hf lG hB h;have h0:aD[k]?=some o:=by simpa using(hl 0 (by simp)).symm
  simp only[auA,Region.pureB,auT]at hB;obtain⟨⟨hr,Ou⟩,VU⟩:=hB;have zj:k∈Region.ready md aD listed:=by simpa using hr
  have rl:k<n:=by simp only[auA]at hk;omega
  obtain⟨v,hy,hK⟩:∃ v,Yields P aD o v a/\l7 P aD K l (a.put o.dst v):=by
   unfold l7 at h;by_cases hw:Region.wanted o (yielded aD a.tmps)=true
   ·simp only[hw,if_true]at h;obtain⟨v,h1,h2⟩:=h;exact⟨v,.inl ⟨hw,h1⟩,h2⟩
   ·simp only[hw]at h;exact⟨undef,.inr ⟨by simpa using hw,rfl⟩,h⟩
  rw[show(o::l).length+g=(l.length+g)+1 by simp;omega];refine wpAny_first h0 (avH fO) (fun c a w=>hQ c _ _ a w) (l.length+g) listed a w (avI h0 Ou) zj hy ?_;refine ih (k+1) _ _ (fun j hj=>?_) ?_ (inv.set zj rl) (fun i hi=>?_) ?_ VU hK
  ·have:=hl (j+1) (by simp;omega);simpa[auQ,Nat.add_comm 1 j]using this
  ·simp only[auA]at hk;omega
  ·by_cases hik:i=k
   ·subst hik;have aL:i<listed.size:=by rw[inv.size];exact(auW.1 h0).1
    simp[aL]
   ·exact getD_set_true (hf i (by omega))
  ·intro hh a' FS;have e:k+1+l.length=k+(o::l).length:=by simp;omega
   rw[e]at hh;have:=lG hh a' FS;simpa[Region.markFirst]using this
def Region.lexMidB (md:Region.Mode)(aD:Array Oper)(m n:Nat):Bool:=
 Region.noSelect aD&&decide (n<aD.size)&&decide (m<=n)&&Region.sinkFrom md aD m n&&Region.chainB md aD n&&Region.pureB md aD m 0 (Array.replicate aD.size false)&&
 Region.lexHead md aD (aD.size-n) (n-m) m (Region.markFirst m 0 (Array.replicate aD.size false))
theorem yC {id:Nat}{Q:Exit->Act->World->Prop}{a:Act}{w:World}{l:List Oper}(m n:Nat)(C:World->Prop)(hm:P.follows .mixedOrders=true)(hB:Region.lexMidB .any l.toArray m n=true)
  (hQ:∀ c o v a w,Q (.panic c) (Act.put a o v) w->Q (.panic c) a w) (hC:C { w with drawn:=w.drawn+1 })
  (h:l7 P l.toArray (wpQuiet P l.toArray C (fun a'=>∀ w',C w'->wpList P l.toArray Q (l.drop n) a' w') ((l.take n).drop m)) (l.take m) a):(Code.region id l.toArray true).wp P Q a w:=by
 simp only[Region.lexMidB,auT,auY]at hB;obtain⟨⟨⟨⟨⟨⟨fO,hn⟩,Kx⟩,hs⟩,hc⟩,Sc⟩,SA⟩:=hB;have Wf:n<l.length:=by simpa using hn
 have yw:(l.take m).length=m:=by simp;omega
 have Cw:((l.take n).drop m).length=n-m:=by simp;omega
 have Fz:(l.drop n).length=l.toArray.size-n:=by simp
 have Ta:HeadInv .any l.toArray n (Array.replicate l.toArray.size false):=
  ⟨by simp,fun j oj _ hl=>by rw[auZ]at hl;simp at hl,fun t _ ht=>getD_in (by simpa using ht) (auZ _ _)⟩
 refine wp_region_any hm ?_;have H:=CK (md:=.any) (n:=n) (Q:=Q) fO hQ ((n-m)+(l.toArray.size-n)) { w with drawn:=w.drawn+1 } (l.take m) 0 (Array.replicate l.toArray.size false) a
  (fun j hj=>by rw[yw]at hj;simp[hj]) (by omega) Ta (fun i hi=>by omega) (fun hh a' FS=>?_) (by rw[yw];exact Sc) h
 ·rw[yw]at H
  rwa [show m+(n-m+(l.toArray.size-n))=l.toArray.size by omega]at H
 ·rw[yw]at hh ⊢;rw[avm]at hh;have H2:=rI (md:=.any) (g:=l.toArray.size-n) fO hs hc hn ((l.take n).drop m) m _ a' (fun j hj=>by
   rw[Cw]at hj;simp only[avJ,List.getElem?_take,List.getElem?_toArray];rw[auI (by omega)]) (by rw[Cw];omega) hh (by rw[Cw];exact SA) FS
  have:=t7 (Q:=Q) (g:=l.toArray.size-n) (fun listed a' w' cf hL=>by
   have:=wpAny_of_seq (md:=.any) (Q':=Q) (l.drop n) n listed a' w' (fun j=>by simp) (by rw[Fz];exact hL.1) (hL.2 w' cf)
   rwa [Fz]at this) _ _ _ _ hC H2
  rwa [Cw]at this
end
end
section
open Go.RowKit
theorem ach (n:Nat)(h2:n<=63):bits .and .u64 (n:Int) 63=n:=by
 have h:n&&&63=n:=by rw[show(63:Nat)=2 ^ 6-1 from rfl,Nat.and_two_pow_sub_one_eq_mod];omega
 have:=bits_and_u64_nat n 63 (by omega) (by omega);rw[h]at this;simpa using this
theorem pI (x:UInt64)(n:Int)(h1:1<=n)(h2:n<=63)(w:World):
  Calls prog 190 #[.int .u64 x.toNat,.int .i64 n] w fun e w'=>e=.returned (.int .u64 (Ga x n.toNat).toNat)/\w'=w:=by
 obtain⟨n,rfl⟩:=Int.eq_ofNat_of_zero_le (show 0<=n by omega);have hb:=ach n (by omega);have hw:IntKind.u64.wrap (n:Int)=n:=by rw[IntKind.wrap_u64];omega
 go_enter func190,ntmps190
 go_wp2
 rw[Gb x n (by omega),WI x (64-n) (by omega),gX];go_ret;exact⟨rfl,rfl⟩
structure St where
 a:UInt64
 b:UInt64
 c:UInt64
 d:UInt64
def St.round (v:St):St:=
 let a:=add v.a v.b
 let c:=add v.c v.d
 let b:=xor (Ga v.b 13) a
 let d:=xor (Ga v.d 16) c
 let a:=Ga a 32
 let c:=add c b
 let a:=add a d
 let b:=xor (Ga b 17) c
 let d:=xor (Ga d 21) a
 let c:=Ga c 32
 ⟨a,b,c,d⟩
attribute [local go_sem] iU fD gX
def St.cells (v:St)(more:List Value):Array Value:=(.int .u64 v.a.toNat::.int .u64 v.b.toNat::.int .u64 v.c.toNat::.int .u64 v.d.toNat::more).toArray
theorem tf (b:Nat)(v:St)(more:List Value)(t:TypeId)(w:World)(k:Nat)(hb:b<w.heap.size):
  Calls prog 116 #[.pointer (some ⟨b,0,none⟩)] ((w.putB b (v.cells more) t).drewN k) fun e w'=>e=.returned (.tuple #[])/\∃ n,(w.putB b (v.round.cells more) t).drewN n=w':=by
 unfold St.cells;go_enter func116,ntmps116;go_wp2_with fail;refine bJ 11 (by kernel_rfl) (by kernel_rfl) ?_;simp only[avn,avo,avq,avr]
 repeat (quiet_step (fail))
 refine avt ?_;intro _ cf;obtain⟨nq,rfl⟩:=cf;go_wp2_with fail;refine bJ 11 (by kernel_rfl) (by kernel_rfl) ?_;simp only[avn,avo,avq,avr]
 repeat (quiet_step (fail))
 refine avt ?_;intro _ cf;obtain⟨nq,rfl⟩:=cf;go_wp2_with fail;refine bJ 13 (by kernel_rfl) (by kernel_rfl) ?_;simp only[avn,avo,avq,avr]
 repeat (quiet_step ((exact avs (pI _ _ (by omega) (by omega) _))))
 refine avt ?_;intro _ cf;obtain⟨nq,rfl⟩:=cf;go_wp2_with fail;refine bJ 13 (by kernel_rfl) (by kernel_rfl) ?_;simp only[avn,avo,avq,avr]
 repeat (quiet_step ((exact avs (pI _ _ (by omega) (by omega) _))))
 refine avt ?_;intro _ cf;obtain⟨nq,rfl⟩:=cf;go_wp2_with fail;refine bJ 8 (by kernel_rfl) (by kernel_rfl) ?_;simp only[avn,avo,avq,avr]
 repeat (quiet_step ((exact avs (pI _ _ (by omega) (by omega) _))))
 refine avt ?_;intro _ cf;obtain⟨nq,rfl⟩:=cf;go_wp2_with fail;refine bJ 11 (by kernel_rfl) (by kernel_rfl) ?_;simp only[avn,avo,avq,avr]
 repeat (quiet_step (fail))
 refine avt ?_;intro _ cf;obtain⟨nq,rfl⟩:=cf;go_wp2_with fail;refine bJ 11 (by kernel_rfl) (by kernel_rfl) ?_;simp only[avn,avo,avq,avr]
 repeat (quiet_step (fail))
 refine avt ?_;intro _ cf;obtain⟨nq,rfl⟩:=cf;go_wp2_with fail;refine bJ 13 (by kernel_rfl) (by kernel_rfl) ?_;simp only[avn,avo,avq,avr]
 repeat (quiet_step ((exact avs (pI _ _ (by omega) (by omega) _))))
 refine avt ?_;intro _ cf;obtain⟨nq,rfl⟩:=cf;go_wp2_with fail;refine bJ 13 (by kernel_rfl) (by kernel_rfl) ?_;simp only[avn,avo,avq,avr]
 repeat (quiet_step ((exact avs (pI _ _ (by omega) (by omega) _))))
 refine avt ?_;intro _ cf;obtain⟨nq,rfl⟩:=cf;go_wp2_with fail;refine bJ 8 (by kernel_rfl) (by kernel_rfl) ?_;simp only[avn,avo,avq,avr]
 repeat (quiet_step ((exact avs (pI _ _ (by omega) (by omega) _))))
 refine avt ?_;intro _ cf;obtain⟨nq,rfl⟩:=cf;go_wp2_with fail;go_end0;exact⟨rfl,_,rfl⟩
end
section
open Go.RowKit
attribute [local go_sem] iU fD gX vA
def St.take (v:St)(m:UInt64):St:=
 let r:=St.round (St.round { v with d:=xor v.d m })
 { r with a:=xor r.a m }
theorem vG (b:Nat)(v:St)(m:UInt64)(more:List Value)(t:TypeId)(w:World)(k:Nat)(hb:b<w.heap.size):
  Calls prog 115 #[.pointer (some ⟨b,0,none⟩),.int .u64 m.toNat] ((w.putB b (v.cells more) t).drewN k) fun e w'=>e=.returned (.tuple #[])/\∃ n,(w.putB b ((v.take m).cells more) t).drewN n=w':=by
 have hc:∀ v:St,v.cells more=(.int .u64 v.a.toNat::.int .u64 v.b.toNat::.int .u64 v.c.toNat::.int .u64 v.d.toNat::more).toArray:=fun _=>rfl;rw[hc v];go_enter func115,ntmps115;go_wp2_with fail;refine bJ 8 (by kernel_rfl) (by kernel_rfl) ?_;simp only[avn,avo,avq,avr]
 repeat (quiet_step (fail))
 refine avt ?_;intro _ cf;obtain⟨nq,rfl⟩:=cf;go_wp2_with fail;refine(tf b { v with d:=xor v.d m } more t _ _ hb).mono ?_;rintro e w1 ⟨rfl,n1,rfl⟩;go_wp2_with fail;refine(tf b _ more t _ _ hb).mono ?_;rintro e w1 ⟨rfl,n2,rfl⟩;generalize hr:St.round (St.round { v with d:=xor v.d m })=r;have Hr:=hd0 hr;clear hr;rw[hc r];go_wp2_with fail;refine bJ 8 (by kernel_rfl) (by kernel_rfl) ?_;simp only[avn,avo,avq,avr]
 repeat (quiet_step (fail))
 refine avt ?_;intro _ cf;obtain⟨nq,rfl⟩:=cf;go_wp2_with fail;go_end0;refine⟨rfl,nq,?_⟩;rw[St.take,Hr.out];rfl
end
section
open Go.RowKit
attribute [local go_sem] iU fD gX vA
theorem Gg (s:ByteArray)(w:World)(hs:s.size<=8):
  Calls prog 114 #[.string s] w fun e w'=>e=.returned (.int .u64 (qB s.data.toList).toNat)/\w'=w:=by
 go_enter func114,ntmps114
 go_wp2
 go_loop [3,4,7] (fun x i j=>∃ k:Nat,k<=s.size/\j=.int .i64 k/\x=.int .u64 (qB (s.data.toList.take k)).toNat) (fun _ _ j=>s.size-(intOf j).toNat)
 case atStart=>exact⟨0,avk _,rfl,rfl⟩
 case round=>
  obtain⟨k,hk,rfl,rfl⟩:=hrel;by_cases aL:k<s.size
  ·have FQ:k<s.data.toList.length:=by simpa using aL
   have I1:=KU (s.data.toList.take k) s[k] (by simp;omega);rw[List.length_take_of_le (by omega),show s[k]=s.data.toList[k]from rfl,<-CI _ k FQ]at I1;have Hsn:=hd0 I1;clear I1
   go_wp2
   refine⟨⟨k+1,by omega,by go_num,by rw[<-Hsn.out];rfl⟩,by simp[intOf];omega⟩
  ·obtain rfl:k=s.size:=by omega
   have e:s.data.toList.take s.size=s.data.toList:=avl (by simp);rw[e];clear e
   go_wp2
   go_ret;exact⟨rfl,rfl⟩
theorem tg (l:List UInt8)(w:World)(hs:l.length<=8):
  Calls prog 114 #[.string ⟨l.toArray⟩] w fun e w'=>e=.returned (.int .u64 (qB l).toNat)/\w'=w:=
 Gg ⟨l.toArray⟩ w hs
end
end Go.Proofs.YtkghpdcloaiflaaGreatDoor
