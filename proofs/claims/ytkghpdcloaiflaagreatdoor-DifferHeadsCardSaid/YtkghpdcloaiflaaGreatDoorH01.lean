import Derived.Test.YtkghpdcloaiflaaGreatDoorChecked
import Derived.WalkKit
import Derived.WalkLawsBesides
import Derived.WalkSpells
import Derived.Deep.Draws
import Derived.Lib.Hide
import Derived.StillTail
import Derived.Deep.Quiet
import Derived.Deep.QuietTactic
import Derived.BigQuiet
set_option maxHeartbeats 400000
namespace Go.Proofs.YtkghpdcloaiflaaGreatDoor
variable {P p p0 p1 p2 p3 p4 p5 p6 p7:Prop}
theorem Z (h:p):Go.RowKit.Hid p:=Go.Lib.hid h
theorem K2 (h0:p0)(h1:p1):Go.RowKit.Hid p0/\Go.RowKit.Hid p1:=⟨h0,h1⟩
theorem K3 (h0:p0)(h1:p1)(h2:p2):Go.RowKit.Hid p0/\Go.RowKit.Hid p1/\Go.RowKit.Hid p2:=⟨h0,h1,h2⟩
theorem K4 (h0:p0)(h1:p1)(h2:p2)(h3:p3):Go.RowKit.Hid p0/\Go.RowKit.Hid p1/\Go.RowKit.Hid p2/\Go.RowKit.Hid p3:=⟨h0,h1,h2,h3⟩
theorem K5 (h0:p0)(h1:p1)(h2:p2)(h3:p3)(h4:p4):Go.RowKit.Hid p0/\Go.RowKit.Hid p1/\Go.RowKit.Hid p2/\Go.RowKit.Hid p3/\Go.RowKit.Hid p4:=⟨h0,h1,h2,h3,h4⟩
theorem K6 (h0:p0)(h1:p1)(h2:p2)(h3:p3)(h4:p4)(h5:p5):Go.RowKit.Hid p0/\Go.RowKit.Hid p1/\Go.RowKit.Hid p2/\Go.RowKit.Hid p3/\Go.RowKit.Hid p4/\Go.RowKit.Hid p5:=⟨h0,h1,h2,h3,h4,h5⟩
theorem K7 (h0:p0)(h1:p1)(h2:p2)(h3:p3)(h4:p4)(h5:p5)(h6:p6):Go.RowKit.Hid p0/\Go.RowKit.Hid p1/\Go.RowKit.Hid p2/\Go.RowKit.Hid p3/\Go.RowKit.Hid p4/\Go.RowKit.Hid p5/\Go.RowKit.Hid p6:=⟨h0,h1,h2,h3,h4,h5,h6⟩
theorem K8 (h0:p0)(h1:p1)(h2:p2)(h3:p3)(h4:p4)(h5:p5)(h6:p6)(h7:p7):Go.RowKit.Hid p0/\Go.RowKit.Hid p1/\Go.RowKit.Hid p2/\Go.RowKit.Hid p3/\Go.RowKit.Hid p4/\Go.RowKit.Hid p5/\Go.RowKit.Hid p6/\Go.RowKit.Hid p7:=⟨h0,h1,h2,h3,h4,h5,h6,h7⟩
theorem K9 {p8:Prop}(h0:p0)(h1:p1)(h2:p2)(h3:p3)(h4:p4)(h5:p5)(h6:p6)(h7:p7)(h8:p8):Go.RowKit.Hid p0/\Go.RowKit.Hid p1/\Go.RowKit.Hid p2/\Go.RowKit.Hid p3/\Go.RowKit.Hid p4/\Go.RowKit.Hid p5/\Go.RowKit.Hid p6/\Go.RowKit.Hid p7/\Go.RowKit.Hid p8:=⟨h0,h1,h2,h3,h4,h5,h6,h7,h8⟩
theorem _root_.Go.RowKit.Hid.o (h:Go.RowKit.Hid p):p:=h
theorem ck7 {α:Type}{a b:α}(h:some a=some b:=by exact congrArg some (by kernel_rfl)):some a=some b:=h
theorem ak7 (h:P:=by as_aux_lemma=>kernel_rfl):P:=h
theorem kr7 (h:P:=by kernel_rfl):P:=h
theorem J (h:P:=by omega):P:=h
theorem sp7 (h:P:=by simp):P:=h
theorem dc7 (h:P:=by decide):P:=h
end Go.Proofs.YtkghpdcloaiflaaGreatDoor
namespace Go.Proofs.YtkghpdcloaiflaaGreatDoor
section
open Go.RowKit
theorem av0:type_of% @Oper.semAt_some:=@Oper.semAt_some
theorem av1:type_of% @List.mem_filter:=@List.mem_filter
theorem av2:type_of% @Nat.le_trans:=@Nat.le_trans
theorem av3:type_of% @List.map_cons:=@List.map_cons
theorem av4:type_of% @List.sum_cons:=@List.sum_cons
theorem av5:type_of% @List.length_cons:=@List.length_cons
theorem av6:type_of% @List.getElem?_eq_getElem:=@List.getElem?_eq_getElem
theorem av7:type_of% @List.mem_of_getElem?:=@List.mem_of_getElem?
theorem av8:type_of% @List.take_add_one:=@List.take_add_one
theorem av9:type_of% @Nat.le_refl:=@Nat.le_refl
theorem awa:type_of% @List.take_length:=@List.take_length
theorem awb:type_of% @List.mem_of_mem_take:=@List.mem_of_mem_take
theorem awc:type_of% @List.length_take:=@List.length_take
theorem awd:type_of% @if_pos:=@if_pos
theorem awe:type_of% @decide_eq_false:=@decide_eq_false
theorem awf:type_of% @if_neg:=@if_neg
theorem awg:type_of% @Nat.lt_of_lt_of_le:=@Nat.lt_of_lt_of_le
theorem awh:type_of% @List.length_filter_le:=@List.length_filter_le
theorem awi:type_of% @Calls.mono:=@Calls.mono
theorem awj:type_of% @info_parts:=@info_parts
theorem awk:type_of% @List.getElem?_eq_some_iff:=@List.getElem?_eq_some_iff
theorem awl:type_of% @Nat.add_assoc:=@Nat.add_assoc
theorem awm:type_of% @List.flatMap_append:=@List.flatMap_append
theorem awn:type_of% @List.length_append:=@List.length_append
theorem awo:type_of% @Bool.and_eq_true:=@Bool.and_eq_true
theorem awp:type_of% @List.all_eq_true:=@List.all_eq_true
theorem awq:type_of% @Bool.or_eq_true:=@Bool.or_eq_true
theorem awr:type_of% @Array.getElem?_eq_some_iff:=@Array.getElem?_eq_some_iff
theorem aws:type_of% @List.mem_cons:=@List.mem_cons
theorem awt:type_of% @decide_eq_true_eq:=@decide_eq_true_eq
theorem awu:type_of% @getD_replicate_false:=@getD_replicate_false
theorem awv:type_of% @List.map_map:=@List.map_map
theorem aww:type_of% @List.map_congr_left:=@List.map_congr_left
theorem awx:type_of% @Nat.mul_le_mul_left:=@Nat.mul_le_mul_left
theorem awy:type_of% @Nat.pow_succ:=@Nat.pow_succ
theorem awz:type_of% @List.length_map:=@List.length_map
theorem awA:type_of% @Nat.pow_le_pow_right:=@Nat.pow_le_pow_right
theorem awB:type_of% @List.mem_map:=@List.mem_map
theorem awC:type_of% @bodyPost_ret:=@bodyPost_ret
theorem awD:type_of% @List.length_eq_zero_iff:=@List.length_eq_zero_iff
theorem awE:type_of% @List.nil_append:=@List.nil_append
theorem awF:type_of% @List.getElem_mem:=@List.getElem_mem
theorem awG:type_of% @Option.getD_some:=@Option.getD_some
theorem awH:type_of% @Int.toNat_natCast:=@Int.toNat_natCast
theorem awI:type_of% @callsIn_wide:=@callsIn_wide
theorem awJ:type_of% @beq_iff_eq:=@beq_iff_eq
theorem awK:type_of% @List.cons_append:=@List.cons_append
theorem awL:type_of% @List.flatMap_cons:=@List.flatMap_cons
theorem awM:type_of% @Bool.eq_iff_iff:=@Bool.eq_iff_iff
theorem awN:type_of% @List.append_assoc:=@List.append_assoc
theorem awO:type_of% @beq_eq_false_iff_ne:=@beq_eq_false_iff_ne
theorem awP:type_of% @Nat.zero_le:=@Nat.zero_le
theorem awQ:type_of% @List.take_of_length_le:=@List.take_of_length_le
theorem awR:type_of% @Nat.zero_add:=@Nat.zero_add
theorem awS:type_of% @List.take_succ_cons:=@List.take_succ_cons
theorem awT:type_of% @List.take_zero:=@List.take_zero
theorem awU:type_of% @List.drop_succ_cons:=@List.drop_succ_cons
theorem awV:type_of% @List.drop_zero:=@List.drop_zero
theorem awW:type_of% @Calls.quiet_of_same:=@Calls.quiet_of_same
theorem awX:type_of% @wpQuiet_nil:=@wpQuiet_nil
theorem awY:type_of% @List.getElem?_eq_none:=@List.getElem?_eq_none
theorem awZ:type_of% @Classical.byContradiction:=@Classical.byContradiction
theorem aw0:type_of% @List.mem_range:=@List.mem_range
theorem aw1:type_of% @List.find?_some:=@List.find?_some
theorem aw2:type_of% @List.mem_of_find?_eq_some:=@List.mem_of_find?_eq_some
theorem aw3:type_of% @List.mem_range'_1:=@List.mem_range'_1
theorem aw4:type_of% @List.find?_eq_none:=@List.find?_eq_none
theorem aw5:type_of% @List.getElem?_map:=@List.getElem?_map
theorem aw6:type_of% @List.getElem?_range:=@List.getElem?_range
theorem aw7:type_of% @Option.map_some:=@Option.map_some
theorem aw8:type_of% @List.mem_append:=@List.mem_append
theorem aw9:type_of% @List.pairwise_cons:=@List.pairwise_cons
theorem axa:type_of% @Option.some.inj:=@Option.some.inj
theorem axb:type_of% @Region.noSelect_spec:=@Region.noSelect_spec
theorem axc:type_of% @Region.free_spec:=@Region.free_spec
theorem axd:type_of% @List.getElem?_drop:=@List.getElem?_drop
theorem axe:type_of% @List.length_nil:=@List.length_nil
theorem axf:type_of% @Int.tdiv_eq_ediv_of_nonneg:=@Int.tdiv_eq_ediv_of_nonneg
theorem axg:type_of% @Option.map_eq_some_iff:=@Option.map_eq_some_iff
theorem axh:type_of% @List.filter_cons:=@List.filter_cons
theorem axi:type_of% @congrArg:=@congrArg
theorem axj:type_of% @List.getElem?_of_mem:=@List.getElem?_of_mem
theorem axk:type_of% @Nat.mul_assoc:=@Nat.mul_assoc
theorem axl:type_of% @beq_false_of_ne:=@beq_false_of_ne
theorem axm:type_of% @List.getD_eq_getElem?_getD:=@List.getD_eq_getElem?_getD
theorem axn:type_of% @run_callFunc_extern:=@run_callFunc_extern
theorem axo:type_of% @List.size_toArray:=@List.size_toArray
theorem axp:type_of% @Array.replicate_succ:=@Array.replicate_succ
theorem axq:type_of% @Array.replicate_zero:=@Array.replicate_zero
theorem axr:type_of% @List.push_toArray:=@List.push_toArray
theorem axs:type_of% @List.append_toArray:=@List.append_toArray
theorem axt:type_of% @Nat.mod_eq_of_lt:=@Nat.mod_eq_of_lt
theorem axu:type_of% @List.drop_eq_nil_of_le:=@List.drop_eq_nil_of_le
theorem axv:type_of% @Array.getElem?_setIfInBounds_self_of_lt:=@Array.getElem?_setIfInBounds_self_of_lt
theorem axw:type_of% @Array.getElem?_setIfInBounds_ne:=@Array.getElem?_setIfInBounds_ne
theorem axx:type_of% @IntWalk.i64_in:=@IntWalk.i64_in
theorem axy:type_of% @List.mem_singleton:=@List.mem_singleton
end
end Go.Proofs.YtkghpdcloaiflaaGreatDoor
namespace Go.Proofs.YtkghpdcloaiflaaGreatDoor
open _root_.Go.Proofs.Tryz
def U (x:UInt64):Value:=.int .u64 (x.toNat:Int)
def add (x y:UInt64):UInt64:=x+y
def xor (x y:UInt64):UInt64:=x^^^y
def or (x y:UInt64):UInt64:=x|||y
def shl (x:UInt64)(n:Nat):UInt64:=x<<<UInt64.ofNat n
def shr (x:UInt64)(n:Nat):UInt64:=x>>>UInt64.ofNat n
def Gp (x:UInt64)(n:Nat):UInt64:=or (shl x n) (shr x (64-n))
theorem fi (x y:UInt64):bits .xor .u64 (x.toNat:Int) (y.toNat:Int)=((xor x y).toNat:Int):=by
 rw[bits_xor_u64_nat _ _ x.toNat_lt y.toNat_lt,xor,UInt64.toNat_xor]
theorem gO (x y:UInt64):bits .or .u64 (x.toNat:Int) (y.toNat:Int)=((or x y).toNat:Int):=by
 rw[bits_or_u64_nat _ _ x.toNat_lt y.toNat_lt,or,UInt64.toNat_or]
theorem iL (x y:UInt64):IntKind.u64.wrap ((x.toNat:Int)+(y.toNat:Int))=((add x y).toNat:Int):=by
 rw[IntKind.wrap_u64,add,UInt64.toNat_add];omega
theorem vk (x:UInt64):IntKind.u64.wrap (x.toNat:Int)=(x.toNat:Int):=by
 have:=x.toNat_lt;rw[IntKind.wrap_u64];omega
theorem Gq (x:UInt64)(n:Nat)(h:n<64):IntKind.u64.wrap ((x.toNat:Int)*2 ^ n)=((shl x n).toNat:Int):=by
 rw[IntKind.wrap_u64,shl,UInt64.toNat_shiftLeft,(by simp;omega:(UInt64.ofNat n).toNat=n),axt h,Nat.shiftLeft_eq];simp
theorem XE (x:UInt64)(n:Nat)(h:n<64):(x.toNat:Int)/2 ^ n=((shr x n).toNat:Int):=by
 rw[shr,UInt64.toNat_shiftRight,(by simp;omega:(UInt64.ofNat n).toNat=n),axt h,Nat.shiftRight_eq_div_pow];simp
def lj (s:List UInt8):Nat:=s.foldr (λc x=>256*x+c.toNat) 0
def qw (s:List UInt8):UInt64:=UInt64.ofNat (lj s)
theorem vo (s:List UInt8):lj s<256 ^ s.length:=by
 induction s with
 |nil=>simp[lj]
 |cons c s ih=>
  have e:lj (c::s)=256*lj s+c.toNat:=rfl;have:=c.toNat_lt;have hp:256 ^ (s.length+1)=256*256 ^ s.length:=by rw[awy];omega
  rw[e,av5,hp];omega
theorem Gr (s:List UInt8)(c:UInt8):lj (s++[c])=lj s+256 ^ s.length*c.toNat:=by
 induction s with
 |nil=>simp[lj]
 |cons d s ih=>
  have e:lj (d::s++[c])=256*lj (s++[c])+d.toNat:=rfl;have e':lj (d::s)=256*lj s+d.toNat:=rfl;have hp:256 ^ (s.length+1)=256*256 ^ s.length:=by rw[awy];omega
  rw[e,e',ih,av5,hp,Nat.mul_add,axk];omega
theorem vq (s:List UInt8)(h:s.length<=8):(qw s).toNat=lj s:=by
 have h1:=vo s;have h2:256 ^ s.length<=256 ^ 8:=awA J h;rw[qw,UInt64.toNat_ofNat'];exact axt J
theorem La (s:List UInt8)(c:UInt8)(h:s.length<8):
  bits .or .u64 ((qw s).toNat:Int) (IntKind.u64.wrap (IntKind.u64.wrap (c.toNat:Int)*2 ^ (8*s.length)))=((qw (s++[c])).toNat:Int):=by
 have hc:=c.toNat_lt;have h1:=vo (s++[c]);have h2:256 ^ (s++[c]).length<=256 ^ 8:=awA J (by simp;omega);have hs:=vo s;have Jo:=Gr s c;have hp:(2:Nat) ^ (8*s.length)=256 ^ s.length:=by rw[Nat.pow_mul]
 have e1:IntKind.u64.wrap (c.toNat:Int)=c.toNat:=by rw[IntKind.wrap_u64];omega
 have e2:((c.toNat:Int)*2 ^ (8*s.length))=((256 ^ s.length*c.toNat:Nat):Int):=by
  rw[<-hp];simp[Int.mul_comm]
 have e3:IntKind.u64.wrap (((256 ^ s.length*c.toNat:Nat):Int))=((256 ^ s.length*c.toNat:Nat):Int):=by
  rw[IntKind.wrap_u64];omega
 rw[e1,e2,e3,vq s J,vq (s++[c]) (by simp;omega),bits_or_u64_nat _ _ J J,Jo];have:=Nat.two_pow_add_eq_or_of_lt (i:=8*s.length) (b:=lj s) (by rw[hp];exact hs) c.toNat;rw[hp]at this;rw[Nat.or_comm,<-this];omega
theorem CP {α:Type}(l:List α)(k:Nat)(h:k<l.length):l.take (k+1)=l.take k++[l[k]]:=by
 rw[List.take_succ_eq_append_getElem h]
end Go.Proofs.YtkghpdcloaiflaaGreatDoor
section
namespace Go.Proofs.YtkghpdcloaiflaaGreatDoor
open _root_.Go.Proofs.Tryz
variable {S T:Nat->Prop}{a w w':World}{b:Nat}{c:Array Value}{o:Obj}{p:Addr}
open Go.RowKit
structure ai (S:Nat->Prop)(w w':World):Prop where
 os:w'.os=w.os
 tape:w'.tape=w.tape
 output:w'.output=w.output
 size:w.heap.size<=w'.heap.size
 block:∀ k,k<w.heap.size->¬ S k->w'.heap[k]?=w.heap[k]?
abbrev af (w w':World):Prop:=ai (λ_=>False) w w'
theorem ai.refl (S:Nat->Prop)(w:World):ai S w w:=⟨rfl,rfl,rfl,Nat.le_refl _,λ_ _ _=>rfl⟩
theorem ai.trans {b c:World}(h:ai S a b)(k:ai T b c)(hT:∀ i,i<a.heap.size->T i->S i):ai S a c:=
 ⟨k.os.trans h.os,k.tape.trans h.tape,k.output.trans h.output,Nat.le_trans h.size k.size,
  λi hi hS=>(k.block i (Nat.lt_of_lt_of_le hi h.size) (λht=>hS (hT i hi ht))).trans (h.block i hi hS)⟩
theorem ai.mono {b:World}(h:ai S a b)(hT:∀ i,i<a.heap.size->S i->T i):ai T a b:=
 ⟨h.os,h.tape,h.output,h.size,λi hi hS=>h.block i hi (λhs=>hS (hT i hi hs))⟩
theorem ai.keep {b c:World}(h:ai S a b)(k:af b c):ai S a c:=h.trans k (λ_ _=>False.elim)
theorem ai.new {b c:World}{k:Nat}(h:ai S a b)(m:ai (·=k) b c)(hk:a.heap.size<=k):ai S a c:=h.trans m (λi hi e=>by subst e;omega)
theorem ai.drew (h:ai S a w):ai S a w.drew:=⟨h.os,h.tape,h.output,h.size,h.block⟩
theorem ai.drawn (h:ai S a w)(n:Nat):ai S a { w with drawn:=n }:=⟨h.os,h.tape,h.output,h.size,h.block⟩
theorem ai.drewN (h:ai S a w)(n:Nat):ai S a (w.drewN n):=⟨h.os,h.tape,h.output,h.size,h.block⟩
theorem ai.alloc (h:ai S a w)(o:Obj):ai S a (w.alloc o):=
 ⟨h.os,h.tape,h.output,by have:=h.size;simp;omega,λk hk hS=>by rw[Below.heap_alloc _ _ _ (Nat.lt_of_lt_of_le hk h.size)];exact h.block k hk hS⟩
theorem ai.setCell (h:ai S a w)(hp:S p.block\/a.heap.size<=p.block)(u:Value):ai S a (w.setCell p u):=
 ⟨h.os,h.tape,h.output,by have:=h.size;simpa[World.setCell]using this,λk hk hS=>by
  rw[Below.heap_setCell _ _ _ _ (λe=>by subst e;rcases hp with hp|hp;exact hS hp;omega)];exact h.block k hk hS⟩
theorem ai.cell (h:ai S w w')(hp:p.block<w.heap.size)(hS:¬ S p.block):w'.cell? p=w.cell? p:=
 World.cell?_of_block (w:=w) (h.block p.block hp hS)
theorem am {a:Addr}{v:Value}(h:w.cell? a=some v):a.block<w.heap.size:=by
 unfold World.cell? at h
 cases hb:w.heap[a.block]? with
 |none=>simp[hb]at h
 |some o=>exact(Array.getElem?_eq_some_iff.1 hb).1
theorem sL (h:w.heap[b]?=some o):b<w.heap.size:=(Array.getElem?_eq_some_iff.1 h).1
theorem ai.below (h:af w w'):Below w.heap.size w w':=⟨h.os,h.tape,h.output,h.size,λk hk=>h.block k hk id⟩
theorem ai.ofBelow (h:Below w.heap.size w w'):af w w':=⟨h.os,h.tape,h.output,h.size,λk hk _=>h.block k hk⟩
theorem ai.obj (h:ai S w w')(hb:w.heap[b]?=some o)(hS:¬ S b):w'.heap[b]?=some o:=
 (h.block b (sL hb) hS).trans hb
def World.blk (w:World)(b:Nat)(c:Array Value)(t:TypeId):Prop:=w.heap[b]?=some (.cells c t (0,0))
theorem aa {t:TypeId}(h:World.blk w b c t)(i:Nat):w.cell? ⟨b,i,none⟩=c[i]?:=by
 unfold World.blk at h;simp[World.cell?,h]
theorem ae {t:TypeId}(h:World.blk w b c t)(a:Addr)(ha:a.block=b):w.frozen? a=false:=by
 unfold World.blk at h;subst ha;simp[World.frozen?,h]
theorem ak {t:TypeId}(h:World.blk w b c t):b<w.heap.size:=sL h
theorem ah {t:TypeId}(h:World.blk w b c t)(i:Nat)(v:Value):World.blk (w.setCell ⟨b,i,none⟩ v) b (c.setIfInBounds i v) t:=by
 have aP:=ak h;unfold World.blk at*;have h':w.heap[b]=.cells c t (0,0):=by simpa[Array.getElem?_eq_getElem aP]using h
 show(w.heap.modify b _)[b]?=_;rw[Array.getElem?_eq_getElem (by simpa using aP),Array.getElem_modify_self,h'];rfl
theorem aZ {t:TypeId}(h:World.blk w b c t)(p:Addr)(hp:b≠p.block)(v:Value):World.blk (w.setCell p v) b c t:=by
 unfold World.blk at *;rw[Below.heap_setCell _ _ _ _ hp];exact h
theorem aE {t:TypeId}(h:World.blk w b c t)(o:Obj):World.blk (w.alloc o) b c t:=by
 have aP:=ak h;unfold World.blk at *;rw[Below.heap_alloc _ _ _ aP];exact h
theorem av (w:World)(c:Array Value)(t:TypeId):World.blk (w.alloc (.cells c t)) w.heap.size c t:=by
 unfold World.blk;show(w.heap.push _)[_]?=_;simp
theorem cf {t:TypeId}(h:World.blk w b c t)(n:Nat):World.blk (w.drewN n) b c t:=h
theorem CQ {t:TypeId}(h:World.blk w b c t):World.blk w.drew b c t:=h
theorem ab (m:ai S w w'){t:TypeId}(h:World.blk w b c t)(hS:¬ S b):World.blk w' b c t:=m.obj h hS
end Go.Proofs.YtkghpdcloaiflaaGreatDoor
namespace Go
def World.putB (w:World)(b:Nat)(c:Array Value)(t:TypeId):World:={ w with heap:=w.heap.setIfInBounds b (.cells c t (0,0)) }
end Go
namespace Go.Proofs.YtkghpdcloaiflaaGreatDoor
open _root_.Go.Proofs.Tryz
open Go.RowKit
section
variable {w:World}{b:Nat}{c:Array Value}{t:TypeId}
theorem Lb (h:World.blk w b c t):w.putB b c t=w:=by
 have aP:=ak h;unfold World.blk at h;show({ w with heap:=w.heap.setIfInBounds b _ }:World)=w;have e:w.heap.setIfInBounds b (.cells c t (0,0))=w.heap:=by
  apply Array.ext_getElem?;intro i;by_cases hi:b=i
  ·subst hi;rw[Array.getElem?_setIfInBounds_self_of_lt aP];exact h.symm
  ·rw[Array.getElem?_setIfInBounds_ne hi]
 rw[e]
@[go_sem] theorem Uh (n:Nat)(a:Addr)(v:Value):(w.drewN n).setCell a v=(w.setCell a v).drewN n:=rfl
@[go_sem] theorem XF (n:Nat)(o:Obj):(w.drewN n).alloc o=(w.alloc o).drewN n:=rfl
@[go_sem] theorem Zv (n:Nat):(w.drewN n).putB b c t=(w.putB b c t).drewN n:=rfl
@[go_sem] theorem acf:(w.putB b c t).heap.size=w.heap.size:=by simp[World.putB]
theorem vr (hb:b<w.heap.size):World.blk (w.putB b c t) b c t:=by
 unfold World.blk;show(w.heap.setIfInBounds b _)[b]?=_;rw[Array.getElem?_setIfInBounds_self_of_lt hb]
@[go_sem] theorem acg (hb:b<w.heap.size)(i:Nat):(w.putB b c t).cell? ⟨b,i,none⟩=c[i]?:=aa (vr hb) i
@[go_sem] theorem XG (hb:b<w.heap.size)(i:Nat):(w.putB b c t).frozen? ⟨b,i,none⟩=false:=ae (vr hb) _ rfl
theorem Gs {k:Nat}(hk:k≠b):(w.putB b c t).heap[k]?=w.heap[k]?:=by
 show(w.heap.setIfInBounds b _)[k]?=_;rw[Array.getElem?_setIfInBounds_ne (Ne.symm hk)]
@[go_sem] theorem ach (d:Array Value)(u:TypeId):(w.putB b c t).putB b d u=w.putB b d u:=by
 show({ w with heap:=(w.heap.setIfInBounds b _).setIfInBounds b _ }:World)={ w with heap:=_ };rw[Array.setIfInBounds_setIfInBounds]
@[go_sem] theorem UL (hb:b<w.heap.size)(i:Nat)(v:Value):(w.putB b c t).setCell ⟨b,i,none⟩ v=w.putB b (c.setIfInBounds i v) t:=by
 show({ w with heap:=(w.heap.setIfInBounds b _).modify b _ }:World)={ w with heap:=_ };have e:(w.heap.setIfInBounds b (.cells c t (0,0))).modify b (fun
   | .cells c elem frozen=>.cells (if(none:Option Nat).isSome then c else c.setIfInBounds i v) elem frozen
   |o=>o)=w.heap.setIfInBounds b (.cells (c.setIfInBounds i v) t (0,0)):=by
  apply Array.ext_getElem?;intro k;by_cases hk:b=k
  ·subst hk;have Uo:b<(w.heap.setIfInBounds b (.cells c t (0,0))).size:=by simpa using hb
   rw[Array.getElem?_setIfInBounds_self_of_lt hb,Array.getElem?_modify,if_pos rfl,Array.getElem?_setIfInBounds_self_of_lt hb];rfl
  ·rw[Array.getElem?_modify,if_neg hk,Array.getElem?_setIfInBounds_ne hk,Array.getElem?_setIfInBounds_ne hk]
 exact congrArg (λh=>({ w with heap:=h }:World)) e
theorem iM (d:Array Value)(u:TypeId):(w.alloc (.cells c t)).putB w.heap.size d u=w.alloc (.cells d u):=by
 show({ w with heap:=(w.heap.push _).setIfInBounds w.heap.size _ }:World)={ w with heap:=w.heap.push _ };have e:(w.heap.push (.cells c t)).setIfInBounds w.heap.size (.cells d u (0,0))=w.heap.push (.cells d u):=by
  apply Array.ext_getElem?;intro i;by_cases hi:w.heap.size=i
  ·subst hi;rw[Array.getElem?_setIfInBounds_self_of_lt sp7];simp
  ·rw[Array.getElem?_setIfInBounds_ne hi,Array.getElem?_push,Array.getElem?_push,if_neg (Ne.symm hi),if_neg (Ne.symm hi)]
 rw[e]
theorem ai.putB {S:Nat->Prop}{a w:World}(h:ai S a w){b:Nat}(hp:S b\/a.heap.size<=b)(c:Array Value)(t:TypeId):ai S a (w.putB b c t):=
 ⟨h.os,h.tape,h.output,by have:=h.size;simpa[World.putB]using this,λk hk hS=>by
  rw[Gs (λe=>by subst e;rcases hp with hp|hp;exact hS hp;omega)];exact h.block k hk hS⟩
end
end Go.Proofs.YtkghpdcloaiflaaGreatDoor
end
namespace Go.Proofs.YtkghpdcloaiflaaGreatDoor
open _root_.Go.Proofs.Tryz
variable {K:Act->Prop}{L:Array Bool->Act->Prop}{P:Program}{Q:Exit->Act->World->Prop}{a:Act}{g i id j k m n:Nat}{l:List Oper}{listed:Array Bool}{oi:Oper}{v:Value}{w:World}
section
open Go
section
variable {P:Program}{aF:Array Oper}{md:Region.Mode}{C:World->Prop}
def ie (P:Program)(md:Region.Mode)(aF:Array Oper)(C:World->Prop)(n:Nat)(L:Array Bool->Act->Prop):Nat->Array Bool->Act->Prop
 |0,listed,a=>L listed a
 |f+1,listed,a=>Region.ready md aF listed≠[]/\
  ∀ i∈Region.ready md aF listed,i<n/\qOp P aF C i (ie P md aF C n L f (listed.setIfInBounds i true)) a
theorem tS (hL:∀ listed a w,C w->L listed a->wpAny P md aF Q g listed a w)(f:Nat):
  ∀(listed:Array Bool) (a:Act) (w:World),C w->ie P md aF C n L f listed a->wpAny P md aF Q (f+g) listed a w:=by
 induction f with
 |zero=>intro listed a w hw h;rw[awR];exact hL _ _ _ hw h
 |succ f ih=>
  intro listed a w hw h;rw[show f+1+g=(f+g)+1 by omega];exact⟨λh0=>absurd h0 h.1,λi hi=>wpOp_of_qOp hw (λa' w' bD h'=>ih _ a' w' bD h') (h.2 i hi).2⟩
theorem JN (hs:Region.sinkB md aF n=true)(hc:Region.chainB md aF n=true)(hn:n<aF.size)(inv:HeadInv md aF n listed)
  (tQ:i<n) (hr:i∈Region.ready md aF listed) (hj:j∈Region.ready md aF listed):j<n:=by
 rcases Nat.lt_or_ge j n with h|h
 ·exact h
 ·exact absurd hj (tail_waits hs hc hn inv _ i rfl tQ (mem_ready.1 hr).1 j h)
theorem Gt (hi:aF[i]?=some oi)(fH:∀(j:Nat) (o:Oper) cs b,aF[j]?=some o->o.op≠.select cs b)
  (hs:Region.sinkB md aF n=true) (hc:Region.chainB md aF n=true) (hn:n<aF.size) (tQ:i<n) (Tb:∀ listed a,L listed a->∀ j∈Region.ready md aF listed,n<=j) (f:Nat):
  ∀(listed:Array Bool) (a:Act),HeadInv md aF n listed->
   (∀ j oj,aF[j]?=some oj->j≠i->listed.getD j true=false->(∀ e∈oj.after,Region.binds md e=true->e.on≠i)->oi.apart aF oj=true)->
   i∈Region.ready md aF listed->YieldsIn P aF C oi v a->
   ie P md aF C n L f (listed.setIfInBounds i true) (a.put oi.dst v)->ie P md aF C n L (f+1) listed a:=by
 induction f with
 |zero=>
  intro listed a inv _ hr hy H;refine⟨λh=>by simp[h]at hr,λj hj=>?_⟩;have FC:=JN hs hc hn inv tQ hr hj;refine⟨FC,?_⟩;by_cases sy:j=i
  ·subst sy;exact hy.qOp hi H
  ·have:=Tb _ _ H j (ready_mono hj sy);omega
 |succ f ih=>
  intro listed a inv qu hr hy H;refine⟨λh=>by simp[h]at hr,λj hj=>?_⟩;have FC:=JN hs hc hn inv tQ hr hj;refine⟨FC,?_⟩;by_cases sy:j=i
  ·subst sy;exact hy.qOp hi H
  ·have hun:=(mem_ready.1 hr).1;have h1:=(H.2 j (ready_mono hj sy)).2;obtain⟨Fz,oj,K0,nC⟩:=mem_ready.1 hj;have TQ:∀ e∈oj.after,Region.binds md e=true->e.on≠i:=λe he hb heq=>by
    have h1:=nC e he hb;rw[heq,getD_both hun]at h1;exact absurd h1 sp7
   have h2:=qOp_put K0 (qu j oj K0 sy Fz TQ) (λcs b=>fH i oi cs b hi) (λcs b=>fH j oj cs b K0) hy h1;refine qOp_mono (λa' h3=>ih (listed.setIfInBounds j true) a' (inv.set hj FC) ?_ (ready_mono hr (Ne.symm sy)) h3.1 ?_) h2
   ·intro k ok hk B9 Tp lh;refine qu k ok hk B9 ?_ lh;by_cases AF:j=k
    ·subst AF;exact Fz
    ·rwa [getD_set_ne true AF]at Tp
   ·rw[Array.setIfInBounds_comm _ _ sy];exact h3.2
theorem Pa {L:Act->Prop}(fH:Region.noSelect aF=true)(hs:Region.sinkB md aF n=true)(hc:Region.chainB md aF n=true)(hn:n<aF.size)(l:List Oper):
  ∀(k:Nat) (listed:Array Bool) (a:Act),(∀ j,j<l.length->l[j]?=aF[k+j]?)->k+l.length=n->HeadInv md aF n listed->
  Region.lexHead md aF g l.length k listed=true->wpQuiet P aF C L l a->
  ie P md aF C n (λlK a'=>Region.seqB md aF g n lK=true/\L a') l.length listed a:=by
 induction l with
 |nil=>
  intro k listed a _ hk _ hB h;obtain rfl:k=n:=by simpa using hk
  exact⟨by simpa[Region.lexHead]using hB,h⟩
 |cons o l ih=>
  intro k listed a hl hk inv hB h;have h0:aF[k]?=some o:=by simpa using(hl 0 sp7).symm
  simp only[av5,Region.lexHead,awo]at hB;obtain⟨⟨hr,hf⟩,WL⟩:=hB;have rq:k<n:=by simp only[av5]at hk;omega
  have zg:k∈Region.ready md aF listed:=by simpa using hr
  have hq:qOp P aF C k (wpQuiet P aF C L l) a:=by unfold qOp;simp only[h0];exact h
  obtain⟨v,hy,hK⟩:=yieldsIn_of_qOp h0 hq;refine Gt h0 (axb fH) hs hc hn rq (λlK a' hL=>seqB_ready hL.1) l.length listed a inv (axc h0 hf) zg hy ?_;refine ih (k+1) _ _ (λj hj=>?_) ?_ (inv.set zg rq) WL hK
  ·have:=hl (j+1) (by simp;omega);simpa[awl,Nat.add_comm 1 j]using this
  ·simp only[av5]at hk;omega
theorem mN (n:Nat)(C:World->Prop)(hm:P.follows .mixedOrders=true)(hB:Region.lexTailB .any l.toArray n=true)
  (hC:C { w with drawn:=w.drawn+1 }) (h:wpQuiet P l.toArray C (λa'=>∀ w',C w'->wpList P l.toArray Q (l.drop n) a' w') (l.take n) a):(Code.region id l.toArray true).wp P Q a w:=by
 simp only[Region.lexTailB,awo,awt]at hB;obtain⟨⟨⟨⟨fH,hn⟩,hs⟩,hc⟩,SR⟩:=hB;have Zu:n<l.length:=by simpa using hn
 have sJ:(l.take n).length=n:=by simp;omega
 have yw:(l.drop n).length=l.toArray.size-n:=by simp
 have TC:HeadInv .any l.toArray n (Array.replicate l.toArray.size false):=
  ⟨by simp,λj oj _ hl=>by rw[awu]at hl;simp at hl,λt _ ht=>getD_in (by simpa using ht) (awu _ _)⟩
 have H:=Pa (md:=.any) (g:=l.toArray.size-n) fH hs hc hn (l.take n) 0 _ a (λj hj=>by rw[sJ]at hj;simp[hj]) (by simpa using sJ) TC (by rw[sJ];exact SR) h;refine wp_region_any hm ?_;have:=tS (Q:=Q) (g:=l.toArray.size-n) (λlisted a' w' bD hL=>by
  have:=wpAny_of_seq (md:=.any) (Q':=Q) (l.drop n) n listed a' w' (λj=>by simp) (by rw[yw];exact hL.1) (hL.2 w' bD)
  rwa [yw]at this) _ _ _ _ hC H
 rwa [sJ,show n+(l.toArray.size-n)=l.toArray.size by omega]at this
end
theorem bK (n:Nat)(hm:P.follows .mixedOrders=true)(hB:Region.lexTailB .any l.toArray n=true)
  (h:wpQuiet P l.toArray (λw'=>∃ m,w'=w.drewN m) (λa'=>∀ w',(∃ m,w'=w.drewN m)->wpList P l.toArray Q (l.drop n) a' w') (l.take n) a):(Code.region id l.toArray true).wp P Q a (w.drewN k):=
 mN n (λw'=>∃ m,w'=w.drewN m) hm hB ⟨k+1,rfl⟩ h
theorem cK (hm:P.follows .mixedOrders=true)(hB:Region.lexB .any l.toArray=true)
  (h:wpQuiet P l.toArray (λw'=>∃ m,w'=w.drewN m) (λa'=>∀ w',(∃ m,w'=w.drewN m)->Q .normal a' w') l a):(Code.region id l.toArray true).wp P Q a (w.drewN k):=
 wp_region_quiet (C:=λw'=>∃ m,w'=w.drewN m) hm hB ⟨k+1,rfl⟩ (by simpa using h)
theorem gl (n:Nat)(hm:P.follows .mixedOrders=true)(hB:Region.lexTailB .any l.toArray n=true)
  (h:wpQuiet P l.toArray (λw'=>∃ m,w'=w.drewN m) (λa'=>∀ w',(∃ m,w'=w.drewN m)->wpList P l.toArray Q (l.drop n) a' w') (l.take n) a):(Code.region id l.toArray true).wp P Q a w:=
 mN n (λw'=>∃ m,w'=w.drewN m) hm hB ⟨1,rfl⟩ h
section
variable {P:Program}{aF:Array Oper}{md:Region.Mode}{C:World->Prop}
def lL (P:Program)(aF:Array Oper)(K:Act->Prop):List Oper->Act->Prop
 |[],a=>K a
 |o::rest,a=>if Region.wanted o (yielded aF a.tmps)then ∃ v,(∀ w,(execOp a.eval o).run P w=.ok (.value v) w)/\lL P aF K rest (a.put o.dst v)else lL P aF K rest (a.put o.dst undef)
theorem ko (h:K a):lL P aF K [] a:=h
theorem fq {o:Oper}{rest:List Oper}
  (h:∀ L:Act->Prop,(∀ a,lL P aF K rest a->L a)->if Region.wanted o (yielded aF a.tmps)then ∃ v,(∀ w,(execOp a.eval o).run P w=.ok (.value v) w)/\L (a.put o.dst v)else L (a.put o.dst undef)):lL P aF K (o::rest) a:=
 h _ (λ_ h=>h)
def Region.sinkFrom (md:Region.Mode)(aF:Array Oper)(m n:Nat):Bool:=
 (List.range n).all λi=>decide (i<m)||(List.range (n+1)).any λj=>decide (i<j)&&Region.waitsFor md aF j i
structure ig (md:Region.Mode)(aF:Array Oper)(m n:Nat)(listed:Array Bool):Prop where
 base:HeadInv md aF n listed
 first:∀ i,i<m->listed.getD i false=true
theorem ig.set (inv:ig md aF m n listed)(hi:i∈Region.ready md aF listed)(tQ:i<n):ig md aF m n (listed.setIfInBounds i true):=
 ⟨inv.base.set hi tQ,λj hj=>getD_set_true (inv.first j hj)⟩
theorem Gu (hs:Region.sinkFrom md aF m n=true)(hc:Region.chainB md aF n=true)(hn:n<aF.size)(inv:ig md aF m n listed)(d:Nat):
  ∀(i:Nat),n-i=d->i<n->listed.getD i true=false->∀ t,n<=t->t∉Region.ready md aF listed:=by
 induction d using Nat.strongRecOn with
 |_ d ih=>
  intro i hd hi hun t ht hr;obtain⟨_,ot,hot,nC⟩:=mem_ready.1 hr;have akG:t<aF.size:=(awr.1 hot).1;have him:¬ i<m:=λh=>by
   have h1:=inv.first i h
   rw[getD_both hun]at h1;exact absurd h1 sp7
  by_cases htn:t=n
  ·subst htn;have h1:=awp.1 hs i (aw0.2 hi);simp only[awq,awt,him,false_or]at h1;obtain⟨j,hj,hj2⟩:=List.any_eq_true.1 h1;simp only[awo,awt]at hj2;obtain⟨oj,K0,e,he,hb,Tc⟩:=Region.waitsFor_spec hj2.2;have apL:j<=t:=by have:=aw0.1 hj;omega
   by_cases hjt:j=t
   ·subst hjt;obtain rfl:oj=ot:=axa (K0.symm.trans hot);have h2:=nC e he hb;rw[Tc,getD_both hun]at h2;exact absurd h2 sp7
   ·cases hl:listed.getD j false with
    |true=>
     have h2:=inv.base.closed j oj K0 hl e he hb;rw[Tc,getD_both hun]at h2;exact absurd h2 sp7
    |false=>
     have hjs:j<listed.size:=by rw[inv.base.size];omega
     exact ih (t-j) J j rfl J (getD_in hjs hl) t (av9 _) hr
  ·have h1:=awp.1 hc t (aw0.2 akG);simp only[awq,awt]at h1;rcases h1 with h1|h1
   ·omega
   ·obtain⟨o',FG,e,he,hb,Tc⟩:=Region.waitsFor_spec h1;obtain rfl:o'=ot:=axa (FG.symm.trans hot);have h2:=nC e he hb;rw[Tc,getD_both (inv.base.tail (t-1) J J)]at h2;exact absurd h2 sp7
theorem tT (hs:Region.sinkFrom md aF m n=true)(hc:Region.chainB md aF n=true)(hn:n<aF.size)(inv:ig md aF m n listed)
  (tQ:i<n) (hr:i∈Region.ready md aF listed) (hj:j∈Region.ready md aF listed):j<n:=by
 rcases Nat.lt_or_ge j n with h|h
 ·exact h
 ·exact absurd hj (Gu hs hc hn inv _ i rfl tQ (mem_ready.1 hr).1 j h)
theorem vt (hi:aF[i]?=some oi)(fH:∀(j:Nat) (o:Oper) cs b,aF[j]?=some o->o.op≠.select cs b)
  (hs:Region.sinkFrom md aF m n=true) (hc:Region.chainB md aF n=true) (hn:n<aF.size) (tQ:i<n) (Tb:∀ listed a,L listed a->∀ j∈Region.ready md aF listed,n<=j) (f:Nat):
  ∀(listed:Array Bool) (a:Act),ig md aF m n listed->
   (∀ j oj,aF[j]?=some oj->j≠i->listed.getD j true=false->(∀ e∈oj.after,Region.binds md e=true->e.on≠i)->oi.apart aF oj=true)->
   i∈Region.ready md aF listed->YieldsIn P aF C oi v a->
   ie P md aF C n L f (listed.setIfInBounds i true) (a.put oi.dst v)->ie P md aF C n L (f+1) listed a:=by
 induction f with
 |zero=>
  intro listed a inv _ hr hy H;refine⟨λh=>by simp[h]at hr,λj hj=>?_⟩;have FC:=tT hs hc hn inv tQ hr hj;refine⟨FC,?_⟩;by_cases sy:j=i
  ·subst sy;exact hy.qOp hi H
  ·have:=Tb _ _ H j (ready_mono hj sy);omega
 |succ f ih=>
  intro listed a inv qu hr hy H;refine⟨λh=>by simp[h]at hr,λj hj=>?_⟩;have FC:=tT hs hc hn inv tQ hr hj;refine⟨FC,?_⟩;by_cases sy:j=i
  ·subst sy;exact hy.qOp hi H
  ·have hun:=(mem_ready.1 hr).1;have h1:=(H.2 j (ready_mono hj sy)).2;obtain⟨Fz,oj,K0,nC⟩:=mem_ready.1 hj;have TQ:∀ e∈oj.after,Region.binds md e=true->e.on≠i:=λe he hb heq=>by
    have h1:=nC e he hb;rw[heq,getD_both hun]at h1;exact absurd h1 sp7
   have h2:=qOp_put K0 (qu j oj K0 sy Fz TQ) (λcs b=>fH i oi cs b hi) (λcs b=>fH j oj cs b K0) hy h1;refine qOp_mono (λa' h3=>ih (listed.setIfInBounds j true) a' (inv.set hj FC) ?_ (ready_mono hr (Ne.symm sy)) h3.1 ?_) h2
   ·intro k ok hk B9 Tp lh;refine qu k ok hk B9 ?_ lh;by_cases AF:j=k
    ·subst AF;exact Fz
    ·rwa [getD_set_ne true AF]at Tp
   ·rw[Array.setIfInBounds_comm _ _ sy];exact h3.2
theorem ry {L:Act->Prop}(fH:Region.noSelect aF=true)(hs:Region.sinkFrom md aF m n=true)(hc:Region.chainB md aF n=true)(hn:n<aF.size)(l:List Oper):
  ∀(k:Nat) (listed:Array Bool) (a:Act),(∀ j,j<l.length->l[j]?=aF[k+j]?)->k+l.length=n->ig md aF m n listed->
  Region.lexHead md aF g l.length k listed=true->wpQuiet P aF C L l a->
  ie P md aF C n (λlK a'=>Region.seqB md aF g n lK=true/\L a') l.length listed a:=by
 induction l with
 |nil=>
  intro k listed a _ hk _ hB h;obtain rfl:k=n:=by simpa using hk
  exact⟨by simpa[Region.lexHead]using hB,h⟩
 |cons o l ih=>
  intro k listed a hl hk inv hB h;have h0:aF[k]?=some o:=by simpa using(hl 0 sp7).symm
  simp only[av5,Region.lexHead,awo]at hB;obtain⟨⟨hr,hf⟩,WL⟩:=hB;have rq:k<n:=by simp only[av5]at hk;omega
  have zg:k∈Region.ready md aF listed:=by simpa using hr
  have hq:qOp P aF C k (wpQuiet P aF C L l) a:=by unfold qOp;simp only[h0];exact h
  obtain⟨v,hy,hK⟩:=yieldsIn_of_qOp h0 hq;refine vt h0 (axb fH) hs hc hn rq (λlK a' hL=>seqB_ready hL.1) l.length listed a inv (axc h0 hf) zg hy ?_;refine ih (k+1) _ _ (λj hj=>?_) ?_ (inv.set zg rq) WL hK
  ·have:=hl (j+1) (by simp;omega);simpa[awl,Nat.add_comm 1 j]using this
  ·simp only[av5]at hk;omega
def Region.markFirst:Nat->Nat->Array Bool->Array Bool
 |0,_,listed=>listed
 |f+1,k,listed=>Region.markFirst f (k+1) (listed.setIfInBounds k true)
def Region.pureB (md:Region.Mode)(aF:Array Oper):Nat->Nat->Array Bool->Bool
 |0,_,_=>true
 |f+1,k,listed=>(Region.ready md aF listed).contains k&&Region.free md aF listed k&&Region.pureB md aF f (k+1) (listed.setIfInBounds k true)
theorem CR (fH:Region.noSelect aF=true)(hQ:∀ c o v a w,Q (.panic c) (Act.put a o v) w->Q (.panic c) a w)(g:Nat)(w:World)(l:List Oper):
  ∀(k:Nat) (listed:Array Bool) (a:Act),(∀ j,j<l.length->l[j]?=aF[k+j]?)->k+l.length<=n->HeadInv md aF n listed->(∀ i,i<k->listed.getD i false=true)->
  (ig md aF (k+l.length) n (Region.markFirst l.length k listed)->∀ a',K a'->wpAny P md aF Q g (Region.markFirst l.length k listed) a' w)->
  Region.pureB md aF l.length k listed=true->lL P aF K l a->wpAny P md aF Q (l.length+g) listed a w:=by
 induction l with
 |nil=>
  intro k listed a _ _ inv hf gN _ h;have:=gN ⟨by simpa[Region.markFirst]using inv,λi hi=>by simpa[Region.markFirst]using hf i (by simpa using hi)⟩ a h;simpa[Region.markFirst]using this
 |cons o l ih=>
  intro k listed a hl hk inv hf gN hB h;have h0:aF[k]?=some o:=by simpa using(hl 0 sp7).symm
  simp only[av5,Region.pureB,awo]at hB;obtain⟨⟨hr,OW⟩,WL⟩:=hB;have zg:k∈Region.ready md aF listed:=by simpa using hr
  have rq:k<n:=by simp only[av5]at hk;omega
  obtain⟨v,hy,hK⟩:∃ v,Yields P aF o v a/\lL P aF K l (a.put o.dst v):=by
   unfold lL at h;by_cases hw:Region.wanted o (yielded aF a.tmps)=true
   ·simp only[hw,if_true]at h;obtain⟨v,h1,h2⟩:=h;exact⟨v,.inl ⟨hw,h1⟩,h2⟩
   ·simp only[hw]at h;exact⟨undef,.inr ⟨by simpa using hw,rfl⟩,h⟩
  rw[show(o::l).length+g=(l.length+g)+1 by simp;omega];refine wpAny_first h0 (axb fH) (λc a w=>hQ c _ _ a w) (l.length+g) listed a w (axc h0 OW) zg hy ?_;refine ih (k+1) _ _ (λj hj=>?_) ?_ (inv.set zg rq) (λi hi=>?_) ?_ WL hK
  ·have:=hl (j+1) (by simp;omega);simpa[awl,Nat.add_comm 1 j]using this
  ·simp only[av5]at hk;omega
  ·by_cases hik:i=k
   ·subst hik;have aP:i<listed.size:=by rw[inv.size];exact(awr.1 h0).1
    simp[aP]
   ·exact getD_set_true (hf i J)
  ·intro hh a' Gn;have e:k+1+l.length=k+(o::l).length:=by simp;omega
   rw[e]at hh;have:=gN hh a' Gn;simpa[Region.markFirst]using this
def Region.lexMidB (md:Region.Mode)(aF:Array Oper)(m n:Nat):Bool:=
 Region.noSelect aF&&decide (n<aF.size)&&decide (m<=n)&&Region.sinkFrom md aF m n&&Region.chainB md aF n&&Region.pureB md aF m 0 (Array.replicate aF.size false)&&
 Region.lexHead md aF (aF.size-n) (n-m) m (Region.markFirst m 0 (Array.replicate aF.size false))
theorem yG (m n:Nat)(C:World->Prop)(hm:P.follows .mixedOrders=true)(hB:Region.lexMidB .any l.toArray m n=true)
  (hQ:∀ c o v a w,Q (.panic c) (Act.put a o v) w->Q (.panic c) a w) (hC:C { w with drawn:=w.drawn+1 })
  (h:lL P l.toArray (wpQuiet P l.toArray C (λa'=>∀ w',C w'->wpList P l.toArray Q (l.drop n) a' w') ((l.take n).drop m)) (l.take m) a):(Code.region id l.toArray true).wp P Q a w:=by
 simp only[Region.lexMidB,awo,awt]at hB;obtain⟨⟨⟨⟨⟨⟨fH,hn⟩,Kw⟩,hs⟩,hc⟩,Sa⟩,SR⟩:=hB;have Zu:n<l.length:=by simpa using hn
 have sJ:(l.take m).length=m:=by simp;omega
 have CM:((l.take n).drop m).length=n-m:=by simp;omega
 have yw:(l.drop n).length=l.toArray.size-n:=by simp
 have TC:HeadInv .any l.toArray n (Array.replicate l.toArray.size false):=
  ⟨by simp,λj oj _ hl=>by rw[awu]at hl;simp at hl,λt _ ht=>getD_in (by simpa using ht) (awu _ _)⟩
 refine wp_region_any hm ?_;have H:=CR (md:=.any) (n:=n) (Q:=Q) fH hQ ((n-m)+(l.toArray.size-n)) { w with drawn:=w.drawn+1 } (l.take m) 0 (Array.replicate l.toArray.size false) a
  (λj hj=>by rw[sJ]at hj;simp[hj]) J TC (λi hi=>J) (λhh a' Gn=>?_) (by rw[sJ];exact Sa) h
 ·rw[sJ]at H
  rwa [show m+(n-m+(l.toArray.size-n))=l.toArray.size by omega]at H
 ·rw[sJ]at hh ⊢;rw[awR]at hh;have H2:=ry (md:=.any) (g:=l.toArray.size-n) fH hs hc hn ((l.take n).drop m) m _ a' (λj hj=>by
   rw[CM]at hj;simp only[axd,List.getElem?_take,List.getElem?_toArray];rw[awd J]) (by rw[CM];omega) hh (by rw[CM];exact SR) Gn
  have:=tS (Q:=Q) (g:=l.toArray.size-n) (λlisted a' w' bD hL=>by
   have:=wpAny_of_seq (md:=.any) (Q':=Q) (l.drop n) n listed a' w' (λj=>by simp) (by rw[yw];exact hL.1) (hL.2 w' bD)
   rwa [yw]at this) _ _ _ _ hC H2
  rwa [CM]at this
end
end
section
open Go.RowKit
theorem ac7 (n:Nat)(h2:n<=63):bits .and .u64 (n:Int) 63=n:=by
 have h:n&&&63=n:=by rw[show(63:Nat)=2 ^ 6-1 from rfl,Nat.and_two_pow_sub_one_eq_mod];omega
 have:=bits_and_u64_nat n 63 J J;rw[h]at this;simpa using this
theorem pp (x:UInt64)(n:Int)(h1:1<=n)(h2:n<=63)(w:World):
  Calls prog 190 #[.int .u64 x.toNat,.int .i64 n] w λe w'=>e=.returned (.int .u64 (Gp x n.toNat).toNat)/\w'=w:=by
 obtain⟨n,rfl⟩:=Int.eq_ofNat_of_zero_le (show 0<=n by omega);have hb:=ac7 n J;have hw:IntKind.u64.wrap (n:Int)=n:=by rw[IntKind.wrap_u64];omega
 go_enter func190,ntmps190
 go_wp2
 rw[Gq x n J,XE x (64-n) J,gO];go_ret;exact⟨rfl,rfl⟩
structure St where
 a:UInt64
 b:UInt64
 c:UInt64
 d:UInt64
def St.round (v:St):St:=
 let a:=add v.a v.b
 let c:=add v.c v.d
 let b:=xor (Gp v.b 13) a
 let d:=xor (Gp v.d 16) c
 let a:=Gp a 32
 let c:=add c b
 let a:=add a d
 let b:=xor (Gp b 17) c
 let d:=xor (Gp d 21) a
 let c:=Gp c 32
 ⟨a,b,c,d⟩
attribute [local go_sem] iL fi gO
def St.cells (v:St)(more:List Value):Array Value:=(.int .u64 v.a.toNat::.int .u64 v.b.toNat::.int .u64 v.c.toNat::.int .u64 v.d.toNat::more).toArray
theorem sM (b:Nat)(v:St)(more:List Value)(t:TypeId)(w:World)(k:Nat)(hb:b<w.heap.size):
  Calls prog 116 #[.pointer (some ⟨b,0,none⟩)] ((w.putB b (v.cells more) t).drewN k) λe w'=>e=.returned (.tuple #[])/\∃ n,(w.putB b (v.round.cells more) t).drewN n=w':=by
 unfold St.cells;go_enter func116,ntmps116;go_wp2_with fail;refine bK 11 kr7 kr7 ?_;simp only[awS,awT,awU,awV]
 repeat (quiet_step (fail))
 refine awX ?_;intro _ bD;obtain⟨nq,rfl⟩:=bD;go_wp2_with fail;refine bK 11 kr7 kr7 ?_;simp only[awS,awT,awU,awV]
 repeat (quiet_step (fail))
 refine awX ?_;intro _ bD;obtain⟨nq,rfl⟩:=bD;go_wp2_with fail;refine bK 13 kr7 kr7 ?_;simp only[awS,awT,awU,awV]
 repeat (quiet_step ((exact awW (pp _ _ J J _))))
 refine awX ?_;intro _ bD;obtain⟨nq,rfl⟩:=bD;go_wp2_with fail;refine bK 13 kr7 kr7 ?_;simp only[awS,awT,awU,awV]
 repeat (quiet_step ((exact awW (pp _ _ J J _))))
 refine awX ?_;intro _ bD;obtain⟨nq,rfl⟩:=bD;go_wp2_with fail;refine bK 8 kr7 kr7 ?_;simp only[awS,awT,awU,awV]
 repeat (quiet_step ((exact awW (pp _ _ J J _))))
 refine awX ?_;intro _ bD;obtain⟨nq,rfl⟩:=bD;go_wp2_with fail;refine bK 11 kr7 kr7 ?_;simp only[awS,awT,awU,awV]
 repeat (quiet_step (fail))
 refine awX ?_;intro _ bD;obtain⟨nq,rfl⟩:=bD;go_wp2_with fail;refine bK 11 kr7 kr7 ?_;simp only[awS,awT,awU,awV]
 repeat (quiet_step (fail))
 refine awX ?_;intro _ bD;obtain⟨nq,rfl⟩:=bD;go_wp2_with fail;refine bK 13 kr7 kr7 ?_;simp only[awS,awT,awU,awV]
 repeat (quiet_step ((exact awW (pp _ _ J J _))))
 refine awX ?_;intro _ bD;obtain⟨nq,rfl⟩:=bD;go_wp2_with fail;refine bK 13 kr7 kr7 ?_;simp only[awS,awT,awU,awV]
 repeat (quiet_step ((exact awW (pp _ _ J J _))))
 refine awX ?_;intro _ bD;obtain⟨nq,rfl⟩:=bD;go_wp2_with fail;refine bK 8 kr7 kr7 ?_;simp only[awS,awT,awU,awV]
 repeat (quiet_step ((exact awW (pp _ _ J J _))))
 refine awX ?_;intro _ bD;obtain⟨nq,rfl⟩:=bD;go_wp2_with fail;go_end0;exact⟨rfl,_,rfl⟩
end
section
open Go.RowKit
attribute [local go_sem] iL fi gO vk
def St.take (v:St)(m:UInt64):St:=
 let r:=St.round (St.round { v with d:=xor v.d m })
 { r with a:=xor r.a m }
theorem vu (b:Nat)(v:St)(m:UInt64)(more:List Value)(t:TypeId)(w:World)(k:Nat)(hb:b<w.heap.size):
  Calls prog 115 #[.pointer (some ⟨b,0,none⟩),.int .u64 m.toNat] ((w.putB b (v.cells more) t).drewN k) λe w'=>e=.returned (.tuple #[])/\∃ n,(w.putB b ((v.take m).cells more) t).drewN n=w':=by
 have hc:∀ v:St,v.cells more=(.int .u64 v.a.toNat::.int .u64 v.b.toNat::.int .u64 v.c.toNat::.int .u64 v.d.toNat::more).toArray:=λ_=>rfl;rw[hc v];go_enter func115,ntmps115;go_wp2_with fail;refine bK 8 kr7 kr7 ?_;simp only[awS,awT,awU,awV]
 repeat (quiet_step (fail))
 refine awX ?_;intro _ bD;obtain⟨nq,rfl⟩:=bD;go_wp2_with fail;refine(sM b { v with d:=xor v.d m } more t _ _ hb).mono ?_;rintro e w1 ⟨rfl,n1,rfl⟩;go_wp2_with fail;refine(sM b _ more t _ _ hb).mono ?_;rintro e w1 ⟨rfl,n2,rfl⟩;generalize hr:St.round (St.round { v with d:=xor v.d m })=r;have Hr:=Z hr;clear hr;rw[hc r];go_wp2_with fail;refine bK 8 kr7 kr7 ?_;simp only[awS,awT,awU,awV]
 repeat (quiet_step (fail))
 refine awX ?_;intro _ bD;obtain⟨nq,rfl⟩:=bD;go_wp2_with fail;go_end0;refine⟨rfl,nq,?_⟩;rw[St.take,Hr.o];rfl
theorem Gv (s:ByteArray)(w:World)(hs:s.size<=8):
  Calls prog 114 #[.string s] w λe w'=>e=.returned (.int .u64 (qw s.data.toList).toNat)/\w'=w:=by
 go_enter func114,ntmps114
 go_wp2
 go_loop [3,4,7] (λx i j=>∃ k:Nat,k<=s.size/\j=.int .i64 k/\x=.int .u64 (qw (s.data.toList.take k)).toNat) (λ_ _ j=>s.size-(intOf j).toNat)
 case atStart=>exact⟨0,awP _,rfl,rfl⟩
 case round=>
  obtain⟨k,hk,rfl,rfl⟩:=hrel;by_cases aP:k<s.size
  ·have FU:k<s.data.toList.length:=by simpa using aP
   have Jo:=La (s.data.toList.take k) s[k] (by simp;omega);rw[List.length_take_of_le J,show s[k]=s.data.toList[k]from rfl,<-CP _ k FU]at Jo;have Hsn:=Z Jo;clear Jo
   go_wp2
   refine⟨⟨k+1,J,by go_num,by rw[<-Hsn.o];rfl⟩,by simp[intOf];omega⟩
  ·obtain rfl:k=s.size:=J
   have e:s.data.toList.take s.size=s.data.toList:=awQ sp7;rw[e];clear e
   go_wp2
   go_ret;exact⟨rfl,rfl⟩
theorem sN (l:List UInt8)(w:World)(hs:l.length<=8):
  Calls prog 114 #[.string ⟨l.toArray⟩] w λe w'=>e=.returned (.int .u64 (qw l).toNat)/\w'=w:=
 Gv ⟨l.toArray⟩ w hs
end
end Go.Proofs.YtkghpdcloaiflaaGreatDoor
