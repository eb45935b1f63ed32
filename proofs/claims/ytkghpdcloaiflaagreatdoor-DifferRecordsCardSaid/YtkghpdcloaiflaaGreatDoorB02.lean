import Derived.Test.YtkghpdcloaiflaaGreatDoorB01
set_option maxHeartbeats 400000
namespace Go.Proofs.YtkghpdcloaiflaaGreatDoor
open _root_.Go.Proofs.Tryz
section
section
variable (l m:List UInt8)(a b:Nat)
@[go_sem] theorem YM:({ data:=l.toArray }:ByteArray)++{ data:=m.toArray }={ data:=(l++m).toArray }:=by
 apply ByteArray.ext;simp[ByteArray.data_append]
@[go_sem] theorem WT:({ data:=l.toArray }:ByteArray).extract a b={ data:=((l.drop a).take (b-a)).toArray }:=by
 apply ByteArray.ext;simp[ByteArray.data_extract,List.extract_toArray,List.extract]
def WU:Value->Nat | .string s=>s.size|_=>0
@[simp] theorem abu (l:List UInt8):WU (.string ⟨l.toArray⟩)=l.length:=rfl
@[go_sem] theorem Tz:(l.drop a).take (l.length-a)=l.drop a:=avM (by simp)
end
def gl (l:List UInt8):List Value:=l.map fun c=>.int .u8 (c.toNat:Int)
theorem io (b o j:Nat):(⟨b,o,none⟩:Addr).add j=⟨b,o+j,none⟩:=by
 unfold Addr.add;split
 ·subst_vars;rfl
 ·rfl
theorem Gi (l:List UInt8):∀(m:List UInt8),(l.map fun c=>(c.toNat:Int)).foldl (fun(r:ByteArray) (n:Int)=>r.push (UInt8.ofNat n.toNat)) ⟨m.toArray⟩=⟨(m++l).toArray⟩:=by
 induction l with
 |nil=>intro m;simp
 |cons c l ih=>
  intro m;have e:(⟨m.toArray⟩:ByteArray).push (UInt8.ofNat ((c.toNat:Int)).toNat)=⟨(m++[c]).toArray⟩:=by
   show(⟨m.toArray.push _⟩:ByteArray)=_;simp
  rw[auY,List.foldl_cons,e,ih];simp
theorem pD {P:Program}(w:World)(src dst e:TypeId)(b o len cap:Nat)(l:List UInt8)(hs:P.underlying src=some (.slice e))(he:P.underlying e=some (.int .u8))(hd:P.underlying dst=some .string)
  (hl:l.length=len) (h:∀ j,j<len->w.cell? ⟨b,o+j,none⟩=(gl l)[j]?):
  (convert src dst (.slice (some ⟨b,o,none⟩) len cap)).run P w=.ok (.string ⟨l.toArray⟩) w:=by
 have hc:(loadCells ⟨b,o,none⟩ len).run P w=.ok ((l.map fun c=>(c.toNat:Int)).map (Value.int .u8)).toArray w:=by
  have hx:=run_loadCells_list (P:=P) w ⟨b,o,none⟩ (gl l) (fun j v hj=>by
   have aL:j<len:=by
    have:=(avf.1 hj).1;simpa[gl,hl]using this
   rw[io,h j aL];exact hj)
  have e1:(gl l).length=len:=by simp[gl,hl]
  rw[e1]at hx;rw[hx];simp[gl]
 rw[run_convert_bytes_string w src dst e _ _ _ hs he hd,run_bytesToString w _ _ _ _ hc];have:=Gi l [];simp only[avA]at this;rw[<-this];rfl
def aP (l:List UInt8):Array Value:=(gl l).toArray
theorem rB (v:Value)(hv:v.cells=#[v])(r:Nat):madeCells v.cells r=Array.replicate r v:=by
 rw[hv];apply Array.ext
 ·simp[madeCells]
 ·intro i h1 h2;simp[madeCells,Nat.mod_one]
theorem CD (r:Nat):Array.replicate r (Value.int .u8 0)=aP (List.replicate r 0):=by
 apply Array.ext';simp[aP,gl]
theorem jr {P:Program}{ts te:TypeId}(hs:P.underlying ts=some (.slice te))(hi:(P.info? te).map (fun i=>(i.zero,i.size,i.bytes))=some (some (.int .u8 0),1,1))(r:Nat)(hr:r<=281474976710656)(W:World):
  (Instr.makeSlice ts (.int .i64 r) (.int .i64 r)).run P W=.ok (.slice (some ⟨W.heap.size,0,none⟩) r r) (W.alloc (.cells (aP (List.replicate r 0)) te)):=by
 obtain⟨i0,hi,ow,nO,oA⟩:=ave hi;have h:=run_make (P:=P) W ts te i0 (.int .u8 0) hs hi ow .i64 .i64 (r:Int) (r:Int) (by omega) (Int.le_refl _) (by rw[oA];omega) (by omega)
 rwa [avD,nO,Nat.mul_one,rB _ rfl,CD]at h
theorem CE {P:Program}{ts td te:TypeId}(hs:P.underlying ts=some (.slice te))(he:P.underlying te=some (.int .u8))(hd:P.underlying td=some .string)(W:World)(b n:Nat)(l:List UInt8)(hb:b=W.heap.size):
  (convert ts td (.slice (some ⟨b,0,none⟩) l.length l.length)).run P ((W.alloc (.cells (aP l) te)).drewN n)=.ok (.string ⟨l.toArray⟩) ((W.alloc (.cells (aP l) te)).drewN n):=
 pD _ _ _ te b 0 _ _ l hs he hd rfl (fun j hj=>by rw[World.cell?_drewN,avN,World.cell?_alloc_at _ _ _ _ hb];simp[aP])
theorem tP {P:Program}{ts td te:TypeId}(hs:P.underlying ts=some (.slice te))(he:P.underlying te=some (.int .u8))(hd:P.underlying td=some .string){w:World}{b len:Nat}(cap:Nat){l:List UInt8}(hB:World.blk w b (aP l) te)(hl:l.length=len):
  (convert ts td (.slice (some ⟨b,0,none⟩) len cap)).run P w=.ok (.string ⟨l.toArray⟩) w:=
 pD _ _ _ te b 0 _ _ l hs he hd hl (fun j hj=>by rw[avN,aa hB j];simp[aP])
theorem Gj (l:List UInt8)(k:Nat)(d:UInt8):(aP l).setIfInBounds k (.int .u8 (d.toNat:Int))=aP (l.set k d):=by
 apply Array.ext';simp[aP,gl,List.map_set]
theorem ah.grown {w0 w w':World}{S:Nat->Prop}{row:Option Nat}(h:ah S w0 w)(hg:w.grownBy w' row)(cI:∀ k,row=some k->S k\/w0.heap.size<=k):ah S w0 w':=
 ⟨hg.os.trans h.os,hg.tape.trans h.tape,hg.output.trans h.output,auX h.size hg.size,fun k hk hS=>by
  rw[hg.block k (avb hk h.size) (fun e=>by rcases cI k e.symm with h1|h1;exact hS h1;omega)];exact h.block k hk hS⟩
theorem tQ {P:Program}{ts te:TypeId}(hs:P.underlying ts=some (.slice te))(hi:(P.info? te).map (fun i=>(i.zero,i.size,i.bytes))=some (some (.int .u8 0),1,1))(base:Nat)(v:Value)(n:Nat)(xs:List UInt8)(w w0:World)
  (bu:w.ownsRow base te 1 v n (gl xs)) (c:UInt8) (hn:n+1<=140737488355328) (Fp:base<=w.heap.size) (h0:af w0 w) (iI:w0.heap.size<=base):
  ∃ v' w',(Builtin.append_ #[ts,ts] ts #[v,.slice (some ⟨w.heap.size,0,none⟩) 1 1]).run P (w.alloc (.cells #[.int .u8 (c.toNat:Int)] te))=.ok v' w'/\w'.ownsRow base te 1 v' (n+1) (gl (xs++[c]))/\af w0 w':=by
 obtain⟨i0,hi,ow,nO,oA⟩:=ave hi;obtain⟨v',w',h1,h2,h3,_⟩:=run_append_own (P:=P) (w.alloc (.cells #[.int .u8 (c.toNat:Int)] te)) base ts ts te i0 (.int .u8 0) 1 1 hs hi ow nO oA rfl (by decide) v n (gl xs) (bu.alloc _) ⟨w.heap.size,0,none⟩ 1 1 [.int .u8 (c.toNat:Int)] rfl (cell_one_new _ _ _) (by intro u hu;simp at hu;subst hu;rfl) (by unfold maxLen;omega) (by omega) (by simp;omega);refine⟨v',w',h1,?_,ah.grown (h0.alloc _) h3 (fun k hk=>.inr ?_)⟩
 ·have e:gl (xs++[c])=gl xs++[.int .u8 (c.toNat:Int)]:=by simp[gl]
  rw[e];exact h2
 ·exact auX iI (bu.lt k hk).1
theorem aA {P:Program}{w w':World}{aB:Array Oper}{rest:List Oper}{o:Oper}{a:Act}{Q:Exit->Act->World->Prop}{s x:Operand}{t:TypeId}{v xv v':Value}
  (bh:(Builtin.append_ #[t,t] o.type #[v,xv]).run P w=.ok v' w') (Cy:o.guard=none) (ho:o.op=.call { callee:=.builtin .append,args:=#[s,x],argTypes:=#[t,t] }) (hs:a.eval s=v) (hx:a.eval x=xv)
  (h:wpList P aB Q rest (a.put o.dst v') w'):wpList P aB Q (o::rest) a w:=
 wpList_plain Cy fun _ hK=>by
  unfold Oper.wp execOp;simp only[ho,resolve,invoke,builtin,Sem.run_bind,Sem.run_pure,Result.andThen_ok,List.map_toArray,auY,List.map_nil,hs,hx,bh];exact hK _ _ h
end
section
open Go.RowKit
attribute [local go_sem] iP fu gR vi
def jl:Nat->St->List UInt8->St×List UInt8
 |0,v,s=>(v,s)
 |f+1,v,s=>if 8<=s.length then jl f (v.take (qy (s.take 8))) (s.drop 8)else(v,s)
def dQ (v:St)(s:List UInt8):St×List UInt8:=jl s.length v s
theorem qz (f:Nat):∀(g:Nat) (v:St) (s:List UInt8),s.length<=f->s.length<=g->jl f v s=jl g v s:=by
 induction f with
 |zero=>
  intro g v s hf _;have hn:¬ 8<=s.length:=by omega
  cases g<;>simp[jl,hn]
 |succ f ih=>
  intro g v s hf hg;by_cases h8:8<=s.length
  ·cases g with
   |zero=>omega
   |succ g=>
    rw[jl,jl,au8 h8,au8 h8];exact ih g _ _ (by simp;omega) (by simp;omega)
  ·cases g<;>simp[jl,h8]
theorem lF (v:St)(s:List UInt8)(h:8<=s.length):dQ v s=dQ (v.take (qy (s.take 8))) (s.drop 8):=by
 unfold dQ;rw[qz s.length (s.length+1) v s (au4 _) (by omega),jl,au8 h];exact qz _ _ _ _ (by simp) (au4 _)
theorem qA (v:St)(s:List UInt8)(h:¬ 8<=s.length):dQ v s=(v,s):=by
 unfold dQ;rw[qz s.length (s.length+1) v s (au4 _) (by omega),jl,ava h]
def eI (v:St)(rest:List UInt8)(size:Nat):Array Value:=v.cells [.string ⟨rest.toArray⟩,.int .i64 size]
theorem zo (b:Nat)(v:St)(rest s:List UInt8)(size:Nat)(w:World)(k:Nat)(hb:b<w.heap.size)(hr:rest.length<8)(hs:size+s.length+8<=9223372036854775807):
  Calls prog 59 #[.pointer (some ⟨b,0,none⟩),.string ⟨s.toArray⟩] ((w.putB b (eI v rest size) 186).drewN k) fun e w'=>e=.returned (.tuple #[])/\
   ∃ n,(w.putB b (eI (dQ v (rest++s)).1 (dQ v (rest++s)).2 (size+s.length)) 186).drewN n=w':=by
 have hc:∀ v rest size,eI v rest size=#[.int .u64 v.a.toNat,.int .u64 v.b.toNat,.int .u64 v.c.toNat,.int .u64 v.d.toNat,.string ⟨rest.toArray⟩,.int .i64 size]:=fun _ _ _=>rfl;rw[hc v];go_enter func59,ntmps59;go_wp2_with fail
 go_loopw [1] (fun x wr=>∃(l:List UInt8) (u:St) (n:Nat),l.length<=rest.length+s.length/\dQ u l=dQ v (rest++s)/\x=.string ⟨l.toArray⟩/\wr=(w.putB b (#[.int .u64 u.a.toNat,.int .u64 u.b.toNat,.int .u64 u.c.toNat,.int .u64 u.d.toNat,.string ⟨rest.toArray⟩,.int .i64 (size+s.length)]) 186).drewN n)
  (fun x _=>WU x)
 case atStart=>exact⟨rest++s,v,k,by simp,rfl,rfl,rfl⟩
 case round=>
  obtain⟨l,u,n,hl,N0,rfl,rfl⟩:=hrel;have Hab:=hd0 N0;clear N0;by_cases h8:8<=l.length
  ·go_wp2_with fail;refine bK 6 (by kernel_rfl) (by kernel_rfl) ?_;simp only[avO,avP,avQ,avR]
   repeat (quiet_step ((exact avS (sP _ _ (by simp<;>omega)))))
   refine avT ?_;intro _ bf;obtain⟨nq,rfl⟩:=bf;go_wp2_with fail;refine(vt b u (qy (l.take 8)) [.string ⟨rest.toArray⟩,.int .i64 (size+s.length)] _ _ nq hb).mono ?_;rintro e w1 ⟨rfl,n1,rfl⟩;go_wp2_with fail
   go_roundw
   case rel=>exact⟨l.drop 8,u.take (qy (l.take 8)),n1,by simp;omega,by rw[<-lF _ _ h8];exact Hab.out,by simp,rfl⟩
   case measure=>simp;omega
  ·have N0:=qA u l h8;rw[Hab.out]at N0;have aiG:=hd0 N0;clear N0;go_wp2_with fail;go_end0;refine⟨rfl,n,?_⟩;rw[aiG.out];rfl
end
section
open Go.RowKit
attribute [local go_sem] iP fu gR vi
theorem KR (v:St)(t:TypeId)(w:World)(k:Nat):
  Calls prog 116 #[.pointer (some ⟨w.heap.size,0,none⟩)] ((w.alloc (.cells (v.cells []) t)).drewN k) fun e w'=>e=.returned (.tuple #[])/\∃ n,(w.alloc (.cells (v.round.cells []) t)).drewN n=w':=by
 have h:=sO w.heap.size v [] t (w.alloc (.cells (v.cells []) t)) k (by simp)
 rwa [iQ,iQ]at h
theorem OS (v:St)(m:UInt64)(t:TypeId)(w:World)(k:Nat):
  Calls prog 115 #[.pointer (some ⟨w.heap.size,0,none⟩),.int .u64 m.toNat] ((w.alloc (.cells (v.cells []) t)).drewN k) fun e w'=>e=.returned (.tuple #[])/\∃ n,(w.alloc (.cells ((v.take m).cells []) t)).drewN n=w':=by
 have h:=vt w.heap.size v m [] t (w.alloc (.cells (v.cells []) t)) k (by simp)
 rwa [iQ,iQ]at h
def rC (rest:List UInt8)(size:Nat):UInt64:=or (qy rest) (UInt64.ofNat (size*2 ^ 56))
theorem T3 (rest:List UInt8)(size:Nat):bits .or .u64 ((qy rest).toNat:Int) (IntKind.u64.wrap ((size:Int)*72057594037927936))=((rC rest size).toNat:Int):=by
 have e:IntKind.u64.wrap ((size:Int)*72057594037927936)=(((UInt64.ofNat (size*2 ^ 56)).toNat:Nat):Int):=by
  rw[IntKind.wrap_u64,UInt64.toNat_ofNat'];omega
 rw[e,gR,rC]
def St.rounds:Nat->St->St
 |0,v=>v
 |n+1,v=>(St.rounds n v).round
def St.final (v:St):UInt64:=
 let r:=St.rounds 4 { v with c:=xor v.c 255 }
 xor (xor (xor r.a r.b) r.c) r.d
def rD (x:UInt64)(i:Nat):UInt8:=(shr x (8*i)).toUInt8
def uL (x:UInt64):List UInt8:=(List.range 8).map (rD x)
def jt (x:UInt64)(k:Nat):Array Value:=((List.range 8).map fun i=>if i<k then Value.int .u8 ((rD x i).toNat:Int)else .int .u8 0).toArray
theorem T4 (x:UInt64)(k:Nat)(h:k<8):(jt x k).setIfInBounds k (.int .u8 ((rD x k).toNat:Int))=jt x (k+1):=by
 match k,h with
 |0,_=>rfl
 |1,_=>rfl
 |2,_=>rfl
 |3,_=>rfl
 |4,_=>rfl
 |5,_=>rfl
 |6,_=>rfl
 |7,_=>rfl
theorem T5 (x:UInt64)(k:Nat)(h:k<8):(jt x k)[k]?=some (.int .u8 0):=by
 match k,h with
 |0,_=>rfl
 |1,_=>rfl
 |2,_=>rfl
 |3,_=>rfl
 |4,_=>rfl
 |5,_=>rfl
 |6,_=>rfl
 |7,_=>rfl
theorem AJ (x:UInt64)(k:Nat)(h:k<8):(x.toNat:Int)/2 ^ (8*k)%256=((rD x k).toNat:Int):=by
 rw[rD,UInt64.toNat_toUInt8,WP x (8*k) (by omega)];omega
def CG (v:St)(rest:List UInt8)(size:Nat):List UInt8:=uL (v.take (rC rest size)).final
theorem JC (b:Nat)(v:St)(rest:List UInt8)(size:Nat)(w:World)(hB:World.blk w b (eI v rest size) 186)(hr:rest.length<8)(hs:size<=9223372036854775807):
  Calls prog 60 #[.pointer (some ⟨b,0,none⟩)] w fun e w'=>e=.returned (.string ⟨(CG v rest size).toArray⟩)/\af w w':=by
 have hc:∀ v:St,v.cells []=#[.int .u64 v.a.toNat,.int .u64 v.b.toNat,.int .u64 v.c.toNat,.int .u64 v.d.toNat]:=fun _=>rfl;have h0:w.cell? ⟨b,0,none⟩=some (.int .u64 v.a.toNat):=aa hB 0;have h1:w.cell? ⟨b,1,none⟩=some (.int .u64 v.b.toNat):=aa hB 1;have h2:w.cell? ⟨b,2,none⟩=some (.int .u64 v.c.toNat):=aa hB 2;have h3:w.cell? ⟨b,3,none⟩=some (.int .u64 v.d.toNat):=aa hB 3;have h4:w.cell? ⟨b,4,none⟩=some (.string ⟨rest.toArray⟩):=aa hB 4;have h5:w.cell? ⟨b,5,none⟩=some (.int .i64 size):=aa hB 5;have aL:=ak hB;have oe:∀(x:UInt64) (w:World),(Instr.makeSlice 131 (.int .i64 8) (.int .i64 8)).run prog w=.ok (.slice (some ⟨w.heap.size,0,none⟩) 8 8) (w.alloc (.cells (jt x 0) 5)):=fun _ _=>by kernel_rfl
 have Hmk:=hd0 oe;have hx:(255:Int)=((255:UInt64).toNat:Int):=rfl;have Hx:=hd0 hx;clear hB hx oe;go_enter func60,ntmps60;go_wp2_with fail;rw[<-World.drewN_zero (w:=w.alloc _)];refine bK 12 (by kernel_rfl) (by kernel_rfl) ?_;simp only[avO,avP,avQ,avR]
 repeat (quiet_step ((exact avS (sP _ _ (by first|omega|(simp;done)|(simp;omega))))))
 refine avT ?_;intro _ bf;obtain⟨nq,rfl⟩:=bf;go_wp2_with fail;rw[T3];refine(OS v _ _ w nq).mono ?_;rintro e w1 ⟨rfl,n1,rfl⟩;generalize KK:v.take (rC rest size)=r1;have Hr1:=hd0 KK;clear KK h0 h1 h2 h3 h4 h5 aL;rw[hc r1];have Xh:=fu r1.c 255;rw[<-Hx.out]at Xh;go_wp2_with fail
 go_loopw [28] (fun i wr=>∃(k:Nat) (u:St) (n:Nat),k<=4/\i=.int .i64 k/\u=St.rounds k { r1 with c:=xor r1.c 255 }/\wr=(w.alloc (.cells (u.cells []) 184)).drewN n) (fun i _=>4-(intOf i).toNat)
 case atStart=>exact⟨0,_,n1,by omega,rfl,rfl,rfl⟩
 case round=>
  obtain⟨k,u,n,hk,rfl,hu,rfl⟩:=hrel;have Hu:=hd0 hu;clear hu;by_cases aL:k<4
  ·go_wp2_with fail;refine(KR u _ w n).mono ?_;rintro e w1 ⟨rfl,n2,rfl⟩;go_wp2_with fail
   go_roundw
   case rel=>exact⟨k+1,_,n2,by omega,by go_num,by rw[St.rounds,<-Hu.out],rfl⟩
   case measure=>simp[intOf];omega
  ·obtain rfl:k=4:=by omega
   have yU:St.final r1=xor (xor (xor u.a u.b) u.c) u.d:=by rw[Hu.out];rfl
   have ZV:=hd0 yU;clear Hu Hx;have oe:=Hmk.out (xor (xor (xor u.a u.b) u.c) u.d);clear Hmk yU;rw[hc u];go_wp2_with fail;clear oe;have Ya:∀ X,xor (xor (xor u.a u.b) u.c) u.d=X->Hid (St.final r1=X):=fun X h=>ZV.out.trans h;generalize hX:xor (xor (xor u.a u.b) u.c) u.d=X;have ZV:=Ya X hX;clear Ya hX;clear Xh aL hk;obtain⟨w2,TE⟩:∃ w2,w2=w.alloc (.cells #[.int .u64 u.a.toNat,.int .u64 u.b.toNat,.int .u64 u.c.toNat,.int .u64 u.d.toNat] 184):=⟨_,rfl⟩
   have cV:w2.heap.size=w.heap.size+1:=by rw[TE];simp
   rw[<-TE,<-cV];have Hw2:=hd0 TE;have Hsz:=hd0 cV;clear TE cV
   go_loopw [6,46] (fun _ i wr=>∃(k:Nat) (n:Nat),k<=8/\i=.int .i64 k/\wr=(w2.alloc (.cells (jt X k) 5)).drewN n) (fun _ i _=>8-(intOf i).toNat)
   case atStart=>exact⟨0,n,by omega,rfl,rfl⟩
   case round=>
    obtain⟨k,n3,hk,rfl,rfl⟩:=hrel;by_cases aL:k<8
    ·have hg:=T5 X k aL;have hby:=AJ X k aL;go_wp2_with fail;clear hg hby
     go_roundw
     case rel=>exact⟨k+1,n3,by omega,by go_num,by rw[T4 X k aL]⟩
     case measure=>simp[intOf];omega
    ·obtain rfl:k=8:=by omega
     have ym:∀ j,j<8->((w2.alloc (.cells (jt X 8) 5)).drewN n3).cell? ⟨w2.heap.size,0+j,none⟩=(gl (uL X))[j]?:=fun j hj=>by
      rw[World.cell?_drewN,avN,World.cell?_alloc_at _ _ _ _ rfl]
      match j,hj with
      |0,_=>rfl
      |1,_=>rfl
      |2,_=>rfl
      |3,_=>rfl
      |4,_=>rfl
      |5,_=>rfl
      |6,_=>rfl
      |7,_=>rfl
     have dr:=pD (P:=prog) ((w2.alloc (.cells (jt X 8) 5)).drewN n3) 131 9 5 w2.heap.size 0 8 8 (uL X) underlying131 underlying5 underlying9 rfl ym;have Hm:Hid (af w ((w2.alloc (.cells (jt X 8) 5)).drewN n3)):=by rw[Hw2.out];exact(((ah.refl _ _).alloc _).alloc _).drewN _
     clear ym;go_wp2;go_ret;refine⟨?_,Hm.out⟩;rw[CG,Hr1.out,ZV.out];rfl
end
section
open Go.RowKit
attribute [local go_sem] iP fu gR vi
def nU (key:List UInt8):St:=
 let k:=qy (key.take 8)
 let l:=qy (key.drop 8)
 ⟨xor k 8317987319222330741,xor l 7237128888997146477,xor k 7816392313619706465,xor l 8387220255154660723⟩
theorem T6 (x y:UInt64)(n:Int)(h:n=(y.toNat:Int)):bits .xor .u64 (x.toNat:Int) n=((xor x y).toNat:Int):=by
 rw[h,fu]
theorem JD (key:List UInt8)(w:World)(hk:key.length=16):
  Calls prog 58 #[.string ⟨key.toArray⟩] w fun e w'=>e=.returned (.tuple #[.pointer (some ⟨w.heap.size,0,none⟩),.int .i64 0])/\∃ n,(w.alloc (.cells (eI (nU key) [] 0) 186)).drewN n=w':=by
 have FP:((key.length:Int) != 16)=false:=by rw[bne_eq_false_iff_eq];omega
 have hk1:(key.length:Int)<=16:=by omega
 have dd:16<=(key.length:Int):=by omega
 have dg:key.length<=16:=by omega
 have jj:16<=key.length:=by omega
 clear hk;go_enter func58,ntmps58;go_wp2_with fail
 go_quiet ((exact avS (sP _ _ (by first|omega|(simp;done)|(simp;omega)))))
 go_wp2;go_ret2;refine⟨rfl,nq,?_⟩;rw[T6 _ 8317987319222330741 8317987319222330741 rfl,T6 _ 7237128888997146477 7237128888997146477 rfl,T6 _ 7816392313619706465 7816392313619706465 rfl,T6 _ 8387220255154660723 8387220255154660723 rfl];rfl
end
section
open Go.RowKit
def Og (key s:List UInt8):List UInt8:=let r:=dQ (nU key) s;CG r.1 r.2 s.length
theorem oB (v:St)(s:List UInt8):(dQ v s).2.length<8:=by
 generalize hn:s.length=n
 induction n using Nat.strongRecOn generalizing v s with
 |_ n ih=>
  by_cases h:8<=s.length
  ·rw[lF v s h];exact ih (s.length-8) (by omega) _ _ (by simp)
  ·rw[qA v s h];simp;omega
theorem OT (key s:List UInt8)(w:World)(hk:key.length=16)(hs:s.length<=9223372036854775799):
  Calls prog 24 #[.string ⟨key.toArray⟩,.string ⟨s.toArray⟩] w fun e w'=>e=.returned (.tuple #[.string ⟨(Og key s).toArray⟩,.int .i64 0])/\af w w':=by
 go_enter func24,ntmps24;go_wp2_with fail;refine(JD key w hk).mono ?_;rintro e w' ⟨rfl,n,rfl⟩;clear hk;have hb:w.heap.size<(w.alloc (.cells (eI (nU key) [] 0) 186)).heap.size:=by simp
 have hW:=zo w.heap.size (nU key) [] s 0 (w.alloc (.cells (eI (nU key) [] 0) 186)) n hb (by simp) (by omega);rw[iQ,iQ,avA,avN]at hW;have HW:=hd0 hW;clear hW hb;go_wp2_with fail;refine HW.out.mono ?_;rintro e w' ⟨rfl,n1,rfl⟩;clear HW;have aeI:Og key s=CG (dQ (nU key) s).1 (dQ (nU key) s).2 s.length:=rfl;have hr:=oB (nU key) s;generalize N0:dQ (nU key) s=r at*;clear N0;have hS:=JC w.heap.size r.1 r.2 s.length _ (cf (av w (eI r.1 r.2 s.length) 186) n1) hr (by omega);rw[<-aeI]at hS;have HS:=hd0 hS;clear hS aeI hr;go_wp2_with fail;refine HS.out.mono ?_;rintro e w' ⟨rfl,hk⟩;have Hk:=hd0 ((((ah.refl (fun _=>False) w).alloc (.cells (eI r.1 r.2 s.length) 186)).drewN n1).keep hk);clear HS hk;go_wp2;go_ret2;exact⟨rfl,Hk.out⟩
end
def am (s:List UInt8)(n:Nat):Bool:=match s[n/8]? with
 |some b=>b.toNat.testBit (n%8)
 |none=>false
def least (s:List UInt8):List UInt8:=(s.reverse.dropWhile (·==0)).reverse
def fT (s:List UInt8):Prop:=s.getLast?≠some 0
def oC (f:UInt8->UInt8->UInt8)(a b:List UInt8):List UInt8:=least ((List.range (max a.length b.length)).map fun i=>f (a.getD i 0) (b.getD i 0))
def eC (a b:List UInt8):List UInt8:=oC (·|||·) a b
def bV (a b:List UInt8):List UInt8:=oC (fun x y=>x&&&~~~y) a b
def cL (s:List UInt8):List Nat:=(List.range (8*s.length)).filter fun n=>am s n
def jI (s:List UInt8):Nat:=(cL s).length
def ga (s:List UInt8)(a b:Nat):Option Nat:=(List.range' a (b-a)).find? fun n=>!am s n
def mo (s:List UInt8)(a:Nat):Option Nat:=(List.range' a (8*s.length-a)).find? fun n=>am s n
def iK (l:List Nat):List UInt8:=least ((List.range (l.foldl max 0/8+1)).map fun i=>UInt8.ofNat ((List.range 8).foldl (fun a k=>if l.contains (8*i+k)then a+2 ^ k else a) 0))
theorem vu (s:List UInt8)(b:UInt8):least (s++[b])=if b=0 then least s else s++[b]:=by
 unfold least;rw[List.reverse_append,List.reverse_singleton,List.singleton_append,List.dropWhile_cons];by_cases h:b=0
 ·simp[h]
 ·simp[h]
theorem pE {α:Type _}{P:List α->Prop}(h0:P [])(h1:∀ s b,P s->P (s++[b])):∀ s,P s:=by
 intro s;rw[<-List.reverse_reverse s]
 induction s.reverse with
 |nil=>exact h0
 |cons b r ih=>rw[List.reverse_cons];exact h1 _ _ ih
theorem oD (s:List UInt8):fT (least s):=by
 induction s using pE with
 |h0=>simp[fT,least]
 |h1 s b ih=>
  rw[vu];split
  ·exact ih
  ·rename_i h;simp[fT,h]
theorem sQ {s:List UInt8}{n:Nat}(h:8*s.length<=n):am s n=false:=by
 unfold am;rw[avU (by omega)]
theorem Gk {s:List UInt8}{n:Nat}(h:am s n=true):n<8*s.length:=by
 by_cases hn:8*s.length<=n
 ·rw[sQ hn]at h;cases h
 ·omega
theorem qB (s:List UInt8)(n:Nat):am (least s) n=am s n:=by
 induction s using pE with
 |h0=>rfl
 |h1 s b ih=>
  rw[vu];split
  ·rename_i h
   rw[ih];unfold am;by_cases hn:n/8<s.length
   ·rw[List.getElem?_append_left hn]
   ·rw[List.getElem?_append_right (by omega),avU (by omega)];subst h
    cases hk:n/8-s.length with
    |zero=>simp
    |succ k=>simp
  ·rfl
theorem vw {a b:UInt8}(h:∀ k,k<8->a.toNat.testBit k=b.toNat.testBit k):a=b:=by
 apply UInt8.toNat_inj.1;apply Nat.eq_of_testBit_eq;intro i;by_cases hi:i<8
 ·exact h i hi
 ·have ha:a.toNat<2 ^ i:=avb a.toNat_lt (avw (by decide) (by omega:8<=i));have hb:b.toNat<2 ^ i:=avb b.toNat_lt (avw (by decide) (by omega:8<=i));rw[Nat.testBit_lt_two_pow ha,Nat.testBit_lt_two_pow hb]
theorem dS {s:List UInt8}{i k:Nat}(hk:k<8):am s (8*i+k)=(s.getD i 0).toNat.testBit k:=by
 unfold am;rw[show(8*i+k)/8=i by omega,show(8*i+k)%8=k by omega]
 cases h:s[i]? with
 |none=>simp[List.getD,h]
 |some b=>simp[List.getD,h]
theorem CI {b:UInt8}(h:b≠0):∃ k,k<8/\b.toNat.testBit k=true:=by
 apply avV;intro hn;apply h;apply vw;intro k hk;have:¬ b.toNat.testBit k=true:=fun hb=>hn ⟨k,hk,hb⟩;simp at this;simp[this]
theorem zq {a b:List UInt8}(ha:fT a)(h:∀ n,am a n=true->am b n=true):a.length<=b.length:=by
 rcases List.eq_nil_or_concat a with rfl|⟨r,x,rfl⟩
 ·simp
 ·rw[List.concat_eq_append]at*;have hx:x≠0:=by simpa[fT]using ha
  obtain⟨k,hk,hb⟩:=CI hx;have h1:am (r++[x]) (8*r.length+k)=true:=by rw[dS hk];simpa[List.getD]using hb
  have:=Gk (h _ h1);simp;omega
theorem T7 {a b:List UInt8}(ha:fT a)(hb:fT b)(h:∀ n,am a n=am b n):a=b:=by
 have h1:=zq ha (fun n hn=>(h n).symm.trans hn);have h2:=zq hb (fun n hn=>(h n).trans hn);have hl:a.length=b.length:=by omega
 apply List.ext_getElem hl;intro i hi hi';apply vw;intro k hk;have:=h (8*i+k);rw[dS hk,dS hk]at this;simpa[List.getD,hi,hi']using this
theorem CJ {f:UInt8->UInt8->UInt8}{g:Bool->Bool->Bool}(hf:∀ x y k,k<8->(f x y).toNat.testBit k=g (x.toNat.testBit k) (y.toNat.testBit k))(hg:g false false=false)(a b:List UInt8)(n:Nat):
  am (oC f a b) n=g (am a n) (am b n):=by
 unfold oC;rw[qB];obtain⟨i,k,hk,rfl⟩:∃ i k,k<8/\n=8*i+k:=⟨n/8,n%8,by omega,by omega⟩
 rw[dS hk,dS hk,dS hk,<-hf _ _ _ hk];by_cases hi:i<max a.length b.length
 ·simp[List.getD,hi]
 ·have h1:a.getD i 0=0:=by simp[List.getD,avU (show a.length<=i by omega)]
  have h2:b.getD i 0=0:=by simp[List.getD,avU (show b.length<=i by omega)]
  rw[h1,h2,hf _ _ _ hk];simp[List.getD,avU (show((List.range (max a.length b.length)).map _).length<=i by simp only[avv,List.length_range];omega),hg]
theorem jJ (a b:List UInt8)(n:Nat):am (eC a b) n=(am a n||am b n):=
 CJ (f:=(·|||·)) (g:=(·||·)) (fun x y k _=>by rw[UInt8.toNat_or,Nat.testBit_or]) rfl a b n
theorem T8 (y:UInt8)(k:Nat)(hk:k<8):(~~~y).toNat.testBit k = !(y.toNat.testBit k):=by
 have:(~~~y).toNat=255-y.toNat:=by
  rw[UInt8.toNat_not];rfl
 rw[this,show 255-y.toNat=2 ^ 8-(y.toNat+1) by have:=y.toNat_lt;omega,Nat.testBit_two_pow_sub_succ y.toNat_lt];simp[hk]
theorem pF (a b:List UInt8)(n:Nat):am (bV a b) n=(am a n&&!am b n):=
 CJ (f:=fun x y=>x&&&~~~y) (g:=fun p q=>p&&!q) (fun x y k hk=>by rw[UInt8.toNat_and,Nat.testBit_and,T8 y k hk]) rfl a b n
theorem iR (f:UInt8->UInt8->UInt8)(a b:List UInt8):fT (oC f a b):=oD _
theorem gB (n:Nat):am [] n=false:=rfl
theorem rE {s:List UInt8}{n:Nat}:n∈cL s↔am s n=true:=by
 unfold cL;rw[auW,avW];exact⟨fun h=>h.2,fun h=>⟨Gk h,h⟩⟩
theorem vx (s:List UInt8):(cL s).Nodup:=List.nodup_range.filter _
theorem oE {s:List UInt8}{a b n:Nat}(h:ga s a b=some n):a<=n/\n<b/\am s n=false/\∀ m,a<=m->m<n->am s m=true:=by
 unfold ga at h;have h1:=avX h;have h2:=avY h;rw[avZ]at h2;refine⟨h2.1,by omega,by simpa using h1,fun m hm hn=>?_⟩;rw[List.find?_range'_eq_some]at h;have:=h.2.2 m hm (by omega);simpa using this
theorem vy {s:List UInt8}{a b:Nat}(h:ga s a b=none)(m:Nat)(hm:a<=m)(hn:m<b):am s m=true:=by
 unfold ga at h;rw[av0]at h;have:=h m (by rw[avZ];omega);simpa using this
theorem OU (s:List UInt8){a b:Nat}(h:a<b):ga s a b=if am s a=true then ga s (a+1) b else some a:=by
 unfold ga;rw[show b-a=(b-(a+1))+1 by omega,List.range'_succ,List.find?_cons]
 cases am s a<;>simp
theorem T9 (s:List UInt8){a b:Nat}(h:b<=a):ga s a b=none:=by
 unfold ga;rw[show b-a=0 by omega];rfl
theorem zr (p:Nat->Bool)(k:Nat)(hk:k<8):(UInt8.ofNat ((List.range 8).foldl (fun a j=>if p j then a+2 ^ j else a) 0)).toNat.testBit k=p k:=by
 have key:∀ b0 b1 b2 b3 b4 b5 b6 b7:Bool,∀ k:Fin 8,(UInt8.ofNat ((List.range 8).foldl (fun a j=>if [b0,b1,b2,b3,b4,b5,b6,b7].getD j false then a+2 ^ j else a) 0)).toNat.testBit k.1=[b0,b1,b2,b3,b4,b5,b6,b7].getD k.1 false:=by decide +kernel
 have h:=key (p 0) (p 1) (p 2) (p 3) (p 4) (p 5) (p 6) (p 7) ⟨k,hk⟩;have e:∀ j,j<8->[p 0,p 1,p 2,p 3,p 4,p 5,p 6,p 7].getD j false=p j:=by
  intro j hj;rcases j with _|_|_|_|_|_|_|_|j<;>first|rfl|omega
 have e2:(List.range 8).foldl (fun a j=>if [p 0,p 1,p 2,p 3,p 4,p 5,p 6,p 7].getD j false then a+2 ^ j else a) 0=(List.range 8).foldl (fun a j=>if p j then a+2 ^ j else a) 0:=by
  simp[List.range_succ]
 rw[e2,e k hk]at h;exact h
theorem tR (l:List Nat)(m:Nat):m<=l.foldl max m/\∀ n∈l,n<=l.foldl max m:=by
 induction l generalizing m with
 |nil=>simp
 |cons x l ih=>
  obtain⟨h1,h2⟩:=ih (max m x);refine⟨by simp only[List.foldl_cons];omega,fun n hn=>?_⟩;simp only[List.foldl_cons];rcases avn.1 hn with rfl|hn
  ·omega
  ·exact h2 n hn
theorem vz (l:List Nat)(n:Nat):am (iK l) n=l.contains n:=by
 unfold iK;rw[qB];obtain⟨i,k,hk,rfl⟩:∃ i k,k<8/\n=8*i+k:=⟨n/8,n%8,by omega,by omega⟩
 rw[dS hk];by_cases hi:i<l.foldl max 0/8+1
 ·simp only[List.getD,av1,av2 hi,av3,avC];rw[zr (fun j=>l.contains (8*i+j)) k hk]
 ·rw[List.getD,avU (by simp only[avv,List.length_range];omega)];have:¬(8*i+k)∈l:=fun hm=>by have:=(tR l 0).2 _ hm;omega
  simp[this]
theorem KS (l:List Nat):fT (iK l):=oD _
abbrev ay:=List UInt8
abbrev Rd:=Int->Except Int ay
def bN (n each:Nat):Nat:=(n+each-1)/each
def au (size:Nat):List Nat:=
 let n:=bN size 240
 if n=0 then []else if n=1 then [1]else if n<=60 then [n,1]else [n,bN n 60,1]
def WV (n:Int):ay:=[UInt8.ofNat (n.toNat%256),UInt8.ofNat (n.toNat/256%256),UInt8.ofNat (n.toNat/65536%256),UInt8.ofNat (n.toNat/16777216%256)]
def cq:ay->List Int
 |a::b::c::d::r=>((a.toNat+256*b.toNat+65536*c.toNat+16777216*d.toNat:Nat):Int)::cq r
 |_=>[]
def cM (l:List Int):ay:=l.flatMap WV
abbrev ru:=List (Nat×Int)×ay
def cJ (f:Nat->Int->Except Int ru):Nat->List Int->Except Int ru
 |_,[]=>.ok ([],[])
 |i,n::r=>match f i n with
  | .error e=>.error e
  | .ok a=>match cJ f (i+1) r with
   | .error e=>.error e
   | .ok b=>.ok (a.1++b.1,a.2++b.2)
def nV (rd:Rd)(ch:Bool)(size:Nat):Nat->Nat->Int->Except Int ru
 |0,i,num=>if ch=true then match rd num with
   | .error e=>.error e
   | .ok s=>if s.length≠min (size-240*i) 240 then .error 110 else .ok ([(0,num)],s)
  else .ok ([(0,num)],[])
 |l+1,i,num=>match rd num with
  | .error e=>.error e
  | .ok s=>if s.length≠4*min ((au size).getD l 0-60*i) 60 then .error 110 else
    match cJ (nV rd ch size l) (60*i) (cq s)with
    | .error e=>.error e
    | .ok o=>.ok ((l+1,num)::o.1,o.2)
def bL (o:List (Nat×Int))(l:Nat):List Int:=(o.filter fun x=>x.1==l).map (·.2)
def dM (o:List (Nat×Int)):List Int:=o.map (·.2)
structure fU where
 root:Int
 size:Int
deriving DecidableEq
def fU.may (b:fU):Bool:=decide (0<=b.size)&&decide (b.size<=16384)&&(decide (b.root=0)==decide (b.size=0))
def eg (rd:Rd)(b:fU)(ch:Bool):Except Int ru:=
 if b.may=false then .error 110 else if b.size=0 then .ok ([],[])else nV rd ch b.size.toNat ((au b.size.toNat).length-1) 0 b.root
def oF (rd:Rd)(b:fU):Except Int (List Int):=(eg rd b false).map (dM ·.1)
def nW (b:fU)(o:List (Nat×Int)):List (List Int):=(List.range (au b.size.toNat).length).map (bL o)
structure Pl where
 used:ay
 taken:ay
 blocks:Nat
 next:Nat
 left:Nat
def Pl.seek (p:Pl):Nat:=((ga p.used p.next p.blocks).orElse fun _=>ga p.used 1 p.blocks).getD (p.next-1)
def Pl.take (p:Pl):Except Int (Nat×Pl):=if p.left=0 then .error 101 else
 let n:=p.seek
 .ok (n,{ p with used:=eC p.used (iK [n]),taken:=eC p.taken (iK [n]),next:=n+1,left:=p.left-1 })
def gp (used:ay)(blocks next:Nat):Pl:=⟨used,[],blocks,next,((List.range' 1 (blocks-1)).filter fun n=>!am used n).length⟩
def lZ (rd:Rd)(n:Int)(s:ay):Rd:=fun k=>if k=n then .ok s else rd k
def aO (s:ay)(i:Nat):ay:=(s.drop (i*240)).take 240
def aU (l:List Int)(i:Nat):List Int:=(l.drop (i*60)).take 60
structure gC where
 rd:Rd
 pool:Pl
def ip (stay:Nat->Option Int)(s:Nat->ay):Nat->Nat->gC->Except Int (List Int×gC)
 |0,_,t=>.ok ([],t)
 |f+1,i,t=>match stay i with
  |some n=>(ip stay s f (i+1) t).map fun r=>(n::r.1,r.2)
  |none=>match t.pool.take with
   | .error _=>.error 112
   | .ok (n,p)=>(ip stay s f (i+1) ⟨lZ t.rd n (s i),p⟩).map fun r=>((n:Int)::r.1,r.2)
def fV (bg data:ay)(was:List (List Int))(i:Nat):Option Int:=if aO data i=aO bg i then some ((was.getD 0 []).getD i 0)else none
def eE (alike:Bool)(was:List (List Int))(now:List Int)(bo i:Nat):Option Int:=
 if alike=true/\i<(was.getD bo []).length/\cM (aU now i)=cM (aU (was.getD (bo-1) []) i)then some ((was.getD bo []).getD i 0)else none
def qC (alike:Bool)(was:List (List Int)):List Nat->Nat->List Int->gC->Except Int (List (List Int)×gC)
 |[],_,_,t=>.ok ([],t)
 |m::r,bo,now,t=>match ip (eE alike was now bo) (fun i=>cM (aU now i)) m 0 t with
  | .error e=>.error e
  | .ok (next,t1)=>(qC alike was r (bo+1) next t1).map fun x=>(next::x.1,x.2)
def kF (bg data:ay)(was:List (List Int))(t:gC):Except Int (List (List Int)×gC):=
 match au data.length with
 |[]=>.ok ([],t)
 |m::r=>match ip (fV bg data was) (aO data) m 0 t with
  | .error e=>.error e
  | .ok (now,t1)=>(qC (was.length==r.length+1) was r 1 now t1).map fun x=>(now::x.1,x.2)
def iL (l:List (List Int)):Int:=((l.getLastD []).getD 0 0)
def dG (t:gC)(old:fU)(data:ay):Except Int (fU×gC):=
 if 16384<data.length then .error 111 else match eg t.rd old true with
  | .error e=>.error e
  | .ok w=>(kF w.2 data (nW old w.1) t).map fun x=>(if data.length=0 then⟨0,0⟩else⟨iL x.1,data.length⟩,x.2)
structure Dk where
 stays:List ay
 lo:List (Nat×ay)
def eh (lo:List (Nat×ay))(n:Nat):Option ay:=(lo.find? fun x=>x.1==n).map (·.2)
def ju (lo:List (Nat×ay))(n:Nat)(s:ay):List (Nat×ay):=if(eh lo n).isSome=true then lo.map (fun x=>if x.1==n then(n,s)else x)else lo++[(n,s)]
def Dk.get (d:Dk)(n:Nat):ay:=match eh d.lo n with
 |some s=>s
 |none=>d.stays.getD n []
def Dk.put (d:Dk)(n:Nat)(s:ay):Dk:={ d with lo:=ju d.lo n s }
def Dk.sync (d:Dk):Dk:=⟨(List.range d.stays.length).map d.get,[]⟩
def Dk.size (d:Dk):Nat:=d.stays.length
structure yE (d:Dk):Prop where
 each:∀ s∈d.stays,s.length=64
 lo:∀ x∈d.lo,x.1<d.stays.length/\x.2.length=64
 one:(d.lo.map (·.1)).Nodup
 many:d.stays.length<=16384
theorem Gl {lo:List (Nat×ay)}{n:Nat}:eh lo n=none↔∀ x∈lo,x.1≠n:=by
 unfold eh;rw[Option.map_eq_none_iff,av0];simp
theorem pG (lo:List (Nat×ay))(n m:Nat)(s:ay):eh (ju lo n s) m=if m=n then some s else eh lo m:=by
 unfold ju;split
 ·rename_i h
  unfold eh at h ⊢;rw[List.find?_map,Option.map_map];by_cases hm:m=n
  ·subst hm;rw[au8 rfl];have e:((fun x:Nat×ay=>x.1==m)∘fun x:Nat×ay=>if(x.1==m)=true then(m,s)else x)=fun x=>x.1==m:=by
    funext x
    simp only[Function.comp];split
    ·rename_i hx;simp at hx;simp[hx]
    ·rfl
   rw[e]
   cases hf:lo.find? fun x=>x.1==m with
   |none=>rw[hf]at h;cases h
   |some x=>
    have hx:=avX hf;simp only[av3,Function.comp];rw[au8 hx]
  ·rw[ava hm];have e:((fun x:Nat×ay=>x.1==m)∘fun x:Nat×ay=>if(x.1==n)=true then(n,s)else x)=fun x=>x.1==m:=by
    funext x
    simp only[Function.comp];split
    ·rename_i hx
     simp only[avF]at hx;rw[hx]
    ·rfl
   rw[e]
   cases hf:lo.find? fun x=>x.1==m with
   |none=>rfl
   |some x=>
    have hx:=avX hf;simp only[avF]at hx;simp only[av3,Function.comp];rw[ava (by simp only[avF];omega)]
 ·rename_i h
  have hn:eh lo n=none:=by simpa using h
  unfold eh at hn ⊢;rw[List.find?_append,List.find?_singleton];by_cases hm:m=n
  ·subst hm;rw[Option.map_eq_none_iff]at hn;rw[hn,au8 rfl];simp
  ·rw[ava hm,ava (by simp;omega)];simp
theorem JE (d:Dk)(n m:Nat)(s:ay):(d.put n s).get m=if m=n then s else d.get m:=by
 unfold Dk.get Dk.put;simp only[pG];split
 ·rename_i h;split at h
  ·rename_i hm;injection h with h;rw[au8 hm,h]
  ·rename_i hm;rw[ava hm,h]
 ·rename_i h;split at h
  ·cases h
  ·rename_i hm;rw[ava hm,h]
theorem rF {d:Dk}(n:Nat)(h:n<d.size):d.sync.get n=d.get n:=by
 unfold Dk.sync;show(match eh [] n with|some s=>s|none=>((List.range d.stays.length).map d.get).getD n [])=_;have:eh [] n=none:=rfl;rw[this];simp only[List.getD,av1,av2 (show n<d.stays.length from h)];rfl
theorem AK {d:Dk}(h:yE d){n:Nat}(hn:n<d.size):(d.get n).length=64:=by
 unfold Dk.get
 cases hg:eh d.lo n with
 |none=>
  simp only;rw[List.getD,au1 (show n<d.stays.length from hn)];exact h.each _ (avB _)
 |some s=>
  unfold eh at hg;rw[awc]at hg;obtain⟨x,hx,rfl⟩:=hg;exact(h.lo x (avY hx)).2
theorem fA (d:Dk)(n:Nat)(s:ay):(d.put n s).size=d.size:=rfl
theorem dC (d:Dk):d.sync.size=d.size:=by simp[Dk.sync,Dk.size]
theorem YN {d:Dk}(h:yE d){n:Nat}(hn:n<d.size){s:ay}(hs:s.length=64):yE (d.put n s):=by
 refine⟨h.each,fun x hx=>?_,?_,h.many⟩
 ·have VU:x∈ju d.lo n s:=hx;unfold ju at VU;split at VU
  ·obtain⟨y,hy,rfl⟩:=avx.1 VU;split
   ·exact⟨hn,hs⟩
   ·exact h.lo y hy
  ·rcases av4.1 VU with VU|VU
   ·exact h.lo x VU
   ·simp at VU;subst VU;exact⟨hn,hs⟩
 ·show((ju d.lo n s).map (·.1)).Nodup;unfold ju;split
  ·rw[avr];have:((fun x:Nat×ay=>x.1)∘fun x=>if(x.1==n)=true then(n,s)else x)=fun x=>x.1:=by
    funext x
    simp only[Function.comp];split
    ·rename_i hx;simp at hx;simp[hx]
    ·rfl
   rw[this];exact h.one
  ·rename_i lD
   rw[List.map_append,List.nodup_append];refine⟨h.one,by simp,?_⟩;intro a ha b hb;obtain⟨x,hx,rfl⟩:=avx.1 ha;simp at hb;subst hb;exact Gl.1 (by simpa using lD) x hx
theorem Ua {d:Dk}(h:yE d):yE d.sync:=by
 refine⟨fun s hs=>?_,fun x hx=>by simp[Dk.sync]at hx,by simp[Dk.sync],?_⟩
 ·obtain⟨n,hn,rfl⟩:=avx.1 hs;rw[avW]at hn;exact AK h hn
 ·show((List.range d.stays.length).map d.get).length<=16384;simpa using h.many
theorem pH {α:Type}[DecidableEq α]:∀ {a b:List α},a.Nodup->(∀ x∈a,x∈b)->a.length<=b.length
 |[],b,_,_=>by simp
 |x::a,b,hn,hs=>by
  rw[List.nodup_cons]at hn;have hx:=hs x (by simp);have:=pH (a:=a) (b:=b.erase x) hn.2 fun y hy=>(List.mem_erase_of_ne (fun e=>by subst e;exact hn.1 hy)).2 (hs y (by simp[hy]));rw[List.length_erase_of_mem hx]at this;have:=List.length_pos_of_mem hx;simp;omega
theorem YO {d:Dk}(h:yE d):d.lo.length<=d.size:=by
 have:=pH h.one (b:=List.range d.size) (fun x hx=>by
  obtain⟨y,hy,rfl⟩:=avx.1 hx;rw[avW];exact(h.lo y hy).1)
 simpa using this
end Go.Proofs.YtkghpdcloaiflaaGreatDoor
