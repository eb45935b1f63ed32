import Derived.Test.YtkghpdcloaiflaaGreatDoorC01
set_option maxHeartbeats 400000
namespace Go.Proofs.YtkghpdcloaiflaaGreatDoor
open _root_.Go.Proofs.Tryz
section
section
variable (l m:List UInt8)(a b:Nat)
@[go_sem] theorem XV:({ data:=l.toArray }:ByteArray)++{ data:=m.toArray }={ data:=(l++m).toArray }:=by
 apply ByteArray.ext;simp[ByteArray.data_append]
@[go_sem] theorem Wb:({ data:=l.toArray }:ByteArray).extract a b={ data:=((l.drop a).take (b-a)).toArray }:=by
 apply ByteArray.ext;simp[ByteArray.data_extract,List.extract_toArray,List.extract]
def Wc:Value->Nat | .string s=>s.size|_=>0
@[simp] theorem aaB (l:List UInt8):Wc (.string ⟨l.toArray⟩)=l.length:=rfl
@[go_sem] theorem SF:(l.drop a).take (l.length-a)=l.drop a:=aux (by simp)
end
def gi (l:List UInt8):List Value:=l.map fun c=>.int .u8 (c.toNat:Int)
theorem gl (b o j:Nat):(⟨b,o,none⟩:Addr).add j=⟨b,o+j,none⟩:=by
 unfold Addr.add;split
 ·subst_vars;rfl
 ·rfl
theorem FJ (l:List UInt8):∀(m:List UInt8),(l.map fun c=>(c.toNat:Int)).foldl (fun(r:ByteArray) (n:Int)=>r.push (UInt8.ofNat n.toNat)) ⟨m.toArray⟩=⟨(m++l).toArray⟩:=by
 induction l with
 |nil=>intro m;simp
 |cons c l ih=>
  intro m;have e:(⟨m.toArray⟩:ByteArray).push (UInt8.ofNat ((c.toNat:Int)).toNat)=⟨(m++[c]).toArray⟩:=by
   show(⟨m.toArray.push _⟩:ByteArray)=_;simp
  rw[atF,List.foldl_cons,e,ih];simp
theorem rl {P:Program}(w:World)(src dst e:TypeId)(b o len cap:Nat)(l:List UInt8)(hs:P.underlying src=some (.slice e))(he:P.underlying e=some (.int .u8))(hd:P.underlying dst=some .string)
  (hl:l.length=len) (h:∀ j,j<len->w.cell? ⟨b,o+j,none⟩=(gi l)[j]?):
  (convert src dst (.slice (some ⟨b,o,none⟩) len cap)).run P w=.ok (.string ⟨l.toArray⟩) w:=by
 have hc:(loadCells ⟨b,o,none⟩ len).run P w=.ok ((l.map fun c=>(c.toNat:Int)).map (Value.int .u8)).toArray w:=by
  have hx:=run_loadCells_list (P:=P) w ⟨b,o,none⟩ (gi l) (fun j v hj=>by
   have aM:j<len:=by
    have:=(atX.1 hj).1;simpa[gi,hl]using this
   rw[gl,h j aM];exact hj)
  have e1:(gi l).length=len:=by simp[gi,hl]
  rw[e1]at hx;rw[hx];simp[gi]
 rw[run_convert_bytes_string w src dst e _ _ _ hs he hd,run_bytesToString w _ _ _ _ hc];have:=FJ l [];simp only[aul]at this;rw[<-this];rfl
def aP (l:List UInt8):Array Value:=(gi l).toArray
theorem rm (v:Value)(hv:v.cells=#[v])(r:Nat):madeCells v.cells r=Array.replicate r v:=by
 rw[hv];apply Array.ext
 ·simp[madeCells]
 ·intro i h1 h2;simp[madeCells,Nat.mod_one]
theorem Ch (r:Nat):Array.replicate r (Value.int .u8 0)=aP (List.replicate r 0):=by
 apply Array.ext';simp[aP,gi]
theorem jk {P:Program}{ts te:TypeId}(hs:P.underlying ts=some (.slice te))(hi:(P.info? te).map (fun i=>(i.zero,i.size,i.bytes))=some (some (.int .u8 0),1,1))(r:Nat)(hr:r<=281474976710656)(W:World):
  (Instr.makeSlice ts (.int .i64 r) (.int .i64 r)).run P W=.ok (.slice (some ⟨W.heap.size,0,none⟩) r r) (W.alloc (.cells (aP (List.replicate r 0)) te)):=by
 obtain⟨i0,hi,nD,mK,ol⟩:=atW hi;have h:=run_make (P:=P) W ts te i0 (.int .u8 0) hs hi nD .i64 .i64 (r:Int) (r:Int) (by omega) (Int.le_refl _) (by rw[ol];omega) (by omega)
 rwa [auo,mK,Nat.mul_one,rm _ rfl,Ch]at h
theorem Ci {P:Program}{ts td te:TypeId}(hs:P.underlying ts=some (.slice te))(he:P.underlying te=some (.int .u8))(hd:P.underlying td=some .string)(W:World)(b n:Nat)(l:List UInt8)(hb:b=W.heap.size):
  (convert ts td (.slice (some ⟨b,0,none⟩) l.length l.length)).run P ((W.alloc (.cells (aP l) te)).drewN n)=.ok (.string ⟨l.toArray⟩) ((W.alloc (.cells (aP l) te)).drewN n):=
 rl _ _ _ te b 0 _ _ l hs he hd rfl (fun j hj=>by rw[World.cell?_drewN,auy,World.cell?_alloc_at _ _ _ _ hb];simp[aP])
theorem tG {P:Program}{ts td te:TypeId}(hs:P.underlying ts=some (.slice te))(he:P.underlying te=some (.int .u8))(hd:P.underlying td=some .string){w:World}{b len:Nat}(cap:Nat){l:List UInt8}(hB:World.blk w b (aP l) te)(hl:l.length=len):
  (convert ts td (.slice (some ⟨b,0,none⟩) len cap)).run P w=.ok (.string ⟨l.toArray⟩) w:=
 rl _ _ _ te b 0 _ _ l hs he hd hl (fun j hj=>by rw[auy,aa hB j];simp[aP])
theorem FK (l:List UInt8)(k:Nat)(d:UInt8):(aP l).setIfInBounds k (.int .u8 (d.toNat:Int))=aP (l.set k d):=by
 apply Array.ext';simp[aP,gi,List.map_set]
theorem ah.grown {w0 w w':World}{S:Nat->Prop}{row:Option Nat}(h:ah S w0 w)(hg:w.grownBy w' row)(cH:∀ k,row=some k->S k\/w0.heap.size<=k):ah S w0 w':=
 ⟨hg.os.trans h.os,hg.tape.trans h.tape,hg.output.trans h.output,atE h.size hg.size,fun k hk hS=>by
  rw[hg.block k (atS hk h.size) (fun e=>by rcases cH k e.symm with h1|h1;exact hS h1;omega)];exact h.block k hk hS⟩
theorem tH {P:Program}{ts te:TypeId}(hs:P.underlying ts=some (.slice te))(hi:(P.info? te).map (fun i=>(i.zero,i.size,i.bytes))=some (some (.int .u8 0),1,1))(base:Nat)(v:Value)(n:Nat)(xs:List UInt8)(w w0:World)
  (bt:w.ownsRow base te 1 v n (gi xs)) (c:UInt8) (hn:n+1<=140737488355328) (E5:base<=w.heap.size) (h0:af w0 w) (iC:w0.heap.size<=base):
  ∃ v' w',(Builtin.append_ #[ts,ts] ts #[v,.slice (some ⟨w.heap.size,0,none⟩) 1 1]).run P (w.alloc (.cells #[.int .u8 (c.toNat:Int)] te))=.ok v' w'/\w'.ownsRow base te 1 v' (n+1) (gi (xs++[c]))/\af w0 w':=by
 obtain⟨i0,hi,nD,mK,ol⟩:=atW hi;obtain⟨v',w',h1,h2,h3,_⟩:=run_append_own (P:=P) (w.alloc (.cells #[.int .u8 (c.toNat:Int)] te)) base ts ts te i0 (.int .u8 0) 1 1 hs hi nD mK ol rfl (by decide) v n (gi xs) (bt.alloc _) ⟨w.heap.size,0,none⟩ 1 1 [.int .u8 (c.toNat:Int)] rfl (cell_one_new _ _ _) (by intro u hu;simp at hu;subst hu;rfl) (by unfold maxLen;omega) (by omega) (by simp;omega);refine⟨v',w',h1,?_,ah.grown (h0.alloc _) h3 (fun k hk=>.inr ?_)⟩
 ·have e:gi (xs++[c])=gi xs++[.int .u8 (c.toNat:Int)]:=by simp[gi]
  rw[e];exact h2
 ·exact atE iC (bt.lt k hk).1
theorem aA {P:Program}{w w':World}{aC:Array Oper}{rest:List Oper}{o:Oper}{a:Act}{Q:Exit->Act->World->Prop}{s x:Operand}{t:TypeId}{v xv v':Value}
  (bh:(Builtin.append_ #[t,t] o.type #[v,xv]).run P w=.ok v' w') (Cc:o.guard=none) (ho:o.op=.call { callee:=.builtin .append,args:=#[s,x],argTypes:=#[t,t] }) (hs:a.eval s=v) (hx:a.eval x=xv)
  (h:wpList P aC Q rest (a.put o.dst v') w'):wpList P aC Q (o::rest) a w:=
 wpList_plain Cc fun _ hK=>by
  unfold Oper.wp execOp;simp only[ho,resolve,invoke,builtin,Sem.run_bind,Sem.run_pure,Result.andThen_ok,List.map_toArray,atF,List.map_nil,hs,hx,bh];exact hK _ _ h
end
section
open Go.RowKit
attribute [local go_sem] iJ fq gP uX
def jf:Nat->St->List UInt8->St×List UInt8
 |0,v,s=>(v,s)
 |f+1,v,s=>if 8<=s.length then jf f (v.take (qm (s.take 8))) (s.drop 8)else(v,s)
def dP (v:St)(s:List UInt8):St×List UInt8:=jf s.length v s
theorem qn (f:Nat):∀(g:Nat) (v:St) (s:List UInt8),s.length<=f->s.length<=g->jf f v s=jf g v s:=by
 induction f with
 |zero=>
  intro g v s hf _;have hn:¬ 8<=s.length:=by omega
  cases g<;>simp[jf,hn]
 |succ f ih=>
  intro g v s hf hg;by_cases h8:8<=s.length
  ·cases g with
   |zero=>omega
   |succ g=>
    rw[jf,jf,atP h8,atP h8];exact ih g _ _ (by simp;omega) (by simp;omega)
  ·cases g<;>simp[jf,h8]
theorem lF (v:St)(s:List UInt8)(h:8<=s.length):dP v s=dP (v.take (qm (s.take 8))) (s.drop 8):=by
 unfold dP;rw[qn s.length (s.length+1) v s (atL _) (by omega),jf,atP h];exact qn _ _ _ _ (by simp) (atL _)
theorem qo (v:St)(s:List UInt8)(h:¬ 8<=s.length):dP v s=(v,s):=by
 unfold dP;rw[qn s.length (s.length+1) v s (atL _) (by omega),jf,atR h]
def eE (v:St)(rest:List UInt8)(size:Nat):Array Value:=v.cells [.string ⟨rest.toArray⟩,.int .i64 size]
theorem yW (b:Nat)(v:St)(rest s:List UInt8)(size:Nat)(w:World)(k:Nat)(hb:b<w.heap.size)(hr:rest.length<8)(hs:size+s.length+8<=9223372036854775807):
  Calls prog 59 #[.pointer (some ⟨b,0,none⟩),.string ⟨s.toArray⟩] ((w.putB b (eE v rest size) 186).drewN k) fun e w'=>e=.returned (.tuple #[])/\
   ∃ n,(w.putB b (eE (dP v (rest++s)).1 (dP v (rest++s)).2 (size+s.length)) 186).drewN n=w':=by
 have hc:∀ v rest size,eE v rest size=#[.int .u64 v.a.toNat,.int .u64 v.b.toNat,.int .u64 v.c.toNat,.int .u64 v.d.toNat,.string ⟨rest.toArray⟩,.int .i64 size]:=fun _ _ _=>rfl;rw[hc v];go_enter func59,ntmps59;go_wp2_with fail
 go_loopw [1] (fun x wr=>∃(l:List UInt8) (u:St) (n:Nat),l.length<=rest.length+s.length/\dP u l=dP v (rest++s)/\x=.string ⟨l.toArray⟩/\wr=(w.putB b (#[.int .u64 u.a.toNat,.int .u64 u.b.toNat,.int .u64 u.c.toNat,.int .u64 u.d.toNat,.string ⟨rest.toArray⟩,.int .i64 (size+s.length)]) 186).drewN n)
  (fun x _=>Wc x)
 case atStart=>exact⟨rest++s,v,k,by simp,rfl,rfl,rfl⟩
 case round=>
  obtain⟨l,u,n,hl,Na,rfl,rfl⟩:=hrel;have Hab:=hd0 Na;clear Na;by_cases h8:8<=l.length
  ·go_wp2_with fail;refine bI 6 (by kernel_rfl) (by kernel_rfl) ?_;simp only[auz,auA,auB,auC]
   repeat (quiet_step ((exact auD (sG _ _ (by simp<;>omega)))))
   refine auE ?_;intro _ cJ;obtain⟨nq,rfl⟩:=cJ;go_wp2_with fail;refine(ve b u (qm (l.take 8)) [.string ⟨rest.toArray⟩,.int .i64 (size+s.length)] _ _ nq hb).mono ?_;rintro e w1 ⟨rfl,n1,rfl⟩;go_wp2_with fail
   go_roundw
   case rel=>exact⟨l.drop 8,u.take (qm (l.take 8)),n1,by simp;omega,by rw[<-lF _ _ h8];exact Hab.out,by simp,rfl⟩
   case measure=>simp;omega
  ·have Na:=qo u l h8;rw[Hab.out]at Na;have ahO:=hd0 Na;clear Na;go_wp2_with fail;go_end0;refine⟨rfl,n,?_⟩;rw[ahO.out];rfl
end
section
open Go.RowKit
attribute [local go_sem] iJ fq gP uX
theorem Kw (v:St)(t:TypeId)(w:World)(k:Nat):
  Calls prog 116 #[.pointer (some ⟨w.heap.size,0,none⟩)] ((w.alloc (.cells (v.cells []) t)).drewN k) fun e w'=>e=.returned (.tuple #[])/\∃ n,(w.alloc (.cells (v.round.cells []) t)).drewN n=w':=by
 have h:=sF w.heap.size v [] t (w.alloc (.cells (v.cells []) t)) k (by simp)
 rwa [iK,iK]at h
theorem Ox (v:St)(m:UInt64)(t:TypeId)(w:World)(k:Nat):
  Calls prog 115 #[.pointer (some ⟨w.heap.size,0,none⟩),.int .u64 m.toNat] ((w.alloc (.cells (v.cells []) t)).drewN k) fun e w'=>e=.returned (.tuple #[])/\∃ n,(w.alloc (.cells ((v.take m).cells []) t)).drewN n=w':=by
 have h:=ve w.heap.size v m [] t (w.alloc (.cells (v.cells []) t)) k (by simp)
 rwa [iK,iK]at h
def ro (rest:List UInt8)(size:Nat):UInt64:=or (qm rest) (UInt64.ofNat (size*2 ^ 56))
theorem Tl (rest:List UInt8)(size:Nat):bits .or .u64 ((qm rest).toNat:Int) (IntKind.u64.wrap ((size:Int)*72057594037927936))=((ro rest size).toNat:Int):=by
 have e:IntKind.u64.wrap ((size:Int)*72057594037927936)=(((UInt64.ofNat (size*2 ^ 56)).toNat:Nat):Int):=by
  rw[IntKind.wrap_u64,UInt64.toNat_ofNat'];omega
 rw[e,gP,ro]
def St.rounds:Nat->St->St
 |0,v=>v
 |n+1,v=>(St.rounds n v).round
def St.final (v:St):UInt64:=
 let r:=St.rounds 4 { v with c:=xor v.c 255 }
 xor (xor (xor r.a r.b) r.c) r.d
def rp (x:UInt64)(i:Nat):UInt8:=(shr x (8*i)).toUInt8
def uD (x:UInt64):List UInt8:=(List.range 8).map (rp x)
def jl (x:UInt64)(k:Nat):Array Value:=((List.range 8).map fun i=>if i<k then Value.int .u8 ((rp x i).toNat:Int)else .int .u8 0).toArray
theorem Tm (x:UInt64)(k:Nat)(h:k<8):(jl x k).setIfInBounds k (.int .u8 ((rp x k).toNat:Int))=jl x (k+1):=by
 match k,h with
 |0,_=>rfl
 |1,_=>rfl
 |2,_=>rfl
 |3,_=>rfl
 |4,_=>rfl
 |5,_=>rfl
 |6,_=>rfl
 |7,_=>rfl
theorem Tn (x:UInt64)(k:Nat)(h:k<8):(jl x k)[k]?=some (.int .u8 0):=by
 match k,h with
 |0,_=>rfl
 |1,_=>rfl
 |2,_=>rfl
 |3,_=>rfl
 |4,_=>rfl
 |5,_=>rfl
 |6,_=>rfl
 |7,_=>rfl
theorem As (x:UInt64)(k:Nat)(h:k<8):(x.toNat:Int)/2 ^ (8*k)%256=((rp x k).toNat:Int):=by
 rw[rp,UInt64.toNat_toUInt8,V3 x (8*k) (by omega)];omega
def Cj (v:St)(rest:List UInt8)(size:Nat):List UInt8:=uD (v.take (ro rest size)).final
theorem Jb (b:Nat)(v:St)(rest:List UInt8)(size:Nat)(w:World)(hB:World.blk w b (eE v rest size) 186)(hr:rest.length<8)(hs:size<=9223372036854775807):
  Calls prog 60 #[.pointer (some ⟨b,0,none⟩)] w fun e w'=>e=.returned (.string ⟨(Cj v rest size).toArray⟩)/\af w w':=by
 have hc:∀ v:St,v.cells []=#[.int .u64 v.a.toNat,.int .u64 v.b.toNat,.int .u64 v.c.toNat,.int .u64 v.d.toNat]:=fun _=>rfl;have h0:w.cell? ⟨b,0,none⟩=some (.int .u64 v.a.toNat):=aa hB 0;have h1:w.cell? ⟨b,1,none⟩=some (.int .u64 v.b.toNat):=aa hB 1;have h2:w.cell? ⟨b,2,none⟩=some (.int .u64 v.c.toNat):=aa hB 2;have h3:w.cell? ⟨b,3,none⟩=some (.int .u64 v.d.toNat):=aa hB 3;have h4:w.cell? ⟨b,4,none⟩=some (.string ⟨rest.toArray⟩):=aa hB 4;have h5:w.cell? ⟨b,5,none⟩=some (.int .i64 size):=aa hB 5;have aM:=ai hB;have nV:∀(x:UInt64) (w:World),(Instr.makeSlice 131 (.int .i64 8) (.int .i64 8)).run prog w=.ok (.slice (some ⟨w.heap.size,0,none⟩) 8 8) (w.alloc (.cells (jl x 0) 5)):=fun _ _=>by kernel_rfl
 have Hmk:=hd0 nV;have hx:(255:Int)=((255:UInt64).toNat:Int):=rfl;have Hx:=hd0 hx;clear hB hx nV;go_enter func60,ntmps60;go_wp2_with fail;rw[<-World.drewN_zero (w:=w.alloc _)];refine bI 12 (by kernel_rfl) (by kernel_rfl) ?_;simp only[auz,auA,auB,auC]
 repeat (quiet_step ((exact auD (sG _ _ (by first|omega|(simp;done)|(simp;omega))))))
 refine auE ?_;intro _ cJ;obtain⟨nq,rfl⟩:=cJ;go_wp2_with fail;rw[Tl];refine(Ox v _ _ w nq).mono ?_;rintro e w1 ⟨rfl,n1,rfl⟩;generalize Kq:v.take (ro rest size)=r1;have Hr1:=hd0 Kq;clear Kq h0 h1 h2 h3 h4 h5 aM;rw[hc r1];have WC:=fq r1.c 255;rw[<-Hx.out]at WC;go_wp2_with fail
 go_loopw [28] (fun i wr=>∃(k:Nat) (u:St) (n:Nat),k<=4/\i=.int .i64 k/\u=St.rounds k { r1 with c:=xor r1.c 255 }/\wr=(w.alloc (.cells (u.cells []) 184)).drewN n) (fun i _=>4-(intOf i).toNat)
 case atStart=>exact⟨0,_,n1,by omega,rfl,rfl,rfl⟩
 case round=>
  obtain⟨k,u,n,hk,rfl,hu,rfl⟩:=hrel;have Hu:=hd0 hu;clear hu;by_cases aM:k<4
  ·go_wp2_with fail;refine(Kw u _ w n).mono ?_;rintro e w1 ⟨rfl,n2,rfl⟩;go_wp2_with fail
   go_roundw
   case rel=>exact⟨k+1,_,n2,by omega,by go_num,by rw[St.rounds,<-Hu.out],rfl⟩
   case measure=>simp[intOf];omega
  ·obtain rfl:k=4:=by omega
   have sq:St.final r1=xor (xor (xor u.a u.b) u.c) u.d:=by rw[Hu.out];rfl
   have ZU:=hd0 sq;clear Hu Hx;have nV:=Hmk.out (xor (xor (xor u.a u.b) u.c) u.d);clear Hmk sq;rw[hc u];go_wp2_with fail;clear nV;have Xm:∀ X,xor (xor (xor u.a u.b) u.c) u.d=X->Hid (St.final r1=X):=fun X h=>ZU.out.trans h;generalize hX:xor (xor (xor u.a u.b) u.c) u.d=X;have ZU:=Xm X hX;clear Xm hX;clear WC aM hk;obtain⟨w2,Xx⟩:∃ w2,w2=w.alloc (.cells #[.int .u64 u.a.toNat,.int .u64 u.b.toNat,.int .u64 u.c.toNat,.int .u64 u.d.toNat] 184):=⟨_,rfl⟩
   have cA:w2.heap.size=w.heap.size+1:=by rw[Xx];simp
   rw[<-Xx,<-cA];have Hw2:=hd0 Xx;have Hsz:=hd0 cA;clear Xx cA
   go_loopw [6,46] (fun _ i wr=>∃(k:Nat) (n:Nat),k<=8/\i=.int .i64 k/\wr=(w2.alloc (.cells (jl X k) 5)).drewN n) (fun _ i _=>8-(intOf i).toNat)
   case atStart=>exact⟨0,n,by omega,rfl,rfl⟩
   case round=>
    obtain⟨k,n3,hk,rfl,rfl⟩:=hrel;by_cases aM:k<8
    ·have hg:=Tn X k aM;have hby:=As X k aM;go_wp2_with fail;clear hg hby
     go_roundw
     case rel=>exact⟨k+1,n3,by omega,by go_num,by rw[Tm X k aM]⟩
     case measure=>simp[intOf];omega
    ·obtain rfl:k=8:=by omega
     have ya:∀ j,j<8->((w2.alloc (.cells (jl X 8) 5)).drewN n3).cell? ⟨w2.heap.size,0+j,none⟩=(gi (uD X))[j]?:=fun j hj=>by
      rw[World.cell?_drewN,auy,World.cell?_alloc_at _ _ _ _ rfl]
      match j,hj with
      |0,_=>rfl
      |1,_=>rfl
      |2,_=>rfl
      |3,_=>rfl
      |4,_=>rfl
      |5,_=>rfl
      |6,_=>rfl
      |7,_=>rfl
     have dr:=rl (P:=prog) ((w2.alloc (.cells (jl X 8) 5)).drewN n3) 131 9 5 w2.heap.size 0 8 8 (uD X) underlying131 underlying5 underlying9 rfl ya;have Hm:Hid (af w ((w2.alloc (.cells (jl X 8) 5)).drewN n3)):=by rw[Hw2.out];exact(((ah.refl _ _).alloc _).alloc _).drewN _
     clear ya;go_wp2;go_ret;refine⟨?_,Hm.out⟩;rw[Cj,Hr1.out,ZU.out];rfl
end
section
open Go.RowKit
attribute [local go_sem] iJ fq gP uX
def nN (key:List UInt8):St:=
 let k:=qm (key.take 8)
 let l:=qm (key.drop 8)
 ⟨xor k 8317987319222330741,xor l 7237128888997146477,xor k 7816392313619706465,xor l 8387220255154660723⟩
theorem To (x y:UInt64)(n:Int)(h:n=(y.toNat:Int)):bits .xor .u64 (x.toNat:Int) n=((xor x y).toNat:Int):=by
 rw[h,fq]
theorem Jc (key:List UInt8)(w:World)(hk:key.length=16):
  Calls prog 58 #[.string ⟨key.toArray⟩] w fun e w'=>e=.returned (.tuple #[.pointer (some ⟨w.heap.size,0,none⟩),.int .i64 0])/\∃ n,(w.alloc (.cells (eE (nN key) [] 0) 186)).drewN n=w':=by
 have Fz:((key.length:Int) != 16)=false:=by rw[bne_eq_false_iff_eq];omega
 have hk1:(key.length:Int)<=16:=by omega
 have dc:16<=(key.length:Int):=by omega
 have dq:key.length<=16:=by omega
 have je:16<=key.length:=by omega
 clear hk;go_enter func58,ntmps58;go_wp2_with fail
 go_quiet ((exact auD (sG _ _ (by first|omega|(simp;done)|(simp;omega)))))
 go_wp2;go_ret2;refine⟨rfl,nq,?_⟩;rw[To _ 8317987319222330741 8317987319222330741 rfl,To _ 7237128888997146477 7237128888997146477 rfl,To _ 7816392313619706465 7816392313619706465 rfl,To _ 8387220255154660723 8387220255154660723 rfl];rfl
end
section
open Go.RowKit
def NL (key s:List UInt8):List UInt8:=let r:=dP (nN key) s;Cj r.1 r.2 s.length
theorem oo (v:St)(s:List UInt8):(dP v s).2.length<8:=by
 generalize hn:s.length=n
 induction n using Nat.strongRecOn generalizing v s with
 |_ n ih=>
  by_cases h:8<=s.length
  ·rw[lF v s h];exact ih (s.length-8) (by omega) _ _ (by simp)
  ·rw[qo v s h];simp;omega
theorem Oy (key s:List UInt8)(w:World)(hk:key.length=16)(hs:s.length<=9223372036854775799):
  Calls prog 24 #[.string ⟨key.toArray⟩,.string ⟨s.toArray⟩] w fun e w'=>e=.returned (.tuple #[.string ⟨(NL key s).toArray⟩,.int .i64 0])/\af w w':=by
 go_enter func24,ntmps24;go_wp2_with fail;refine(Jc key w hk).mono ?_;rintro e w' ⟨rfl,n,rfl⟩;clear hk;have hb:w.heap.size<(w.alloc (.cells (eE (nN key) [] 0) 186)).heap.size:=by simp
 have hW:=yW w.heap.size (nN key) [] s 0 (w.alloc (.cells (eE (nN key) [] 0) 186)) n hb (by simp) (by omega);rw[iK,iK,aul,auy]at hW;have HW:=hd0 hW;clear hW hb;go_wp2_with fail;refine HW.out.mono ?_;rintro e w' ⟨rfl,n1,rfl⟩;clear HW;have afb:NL key s=Cj (dP (nN key) s).1 (dP (nN key) s).2 s.length:=rfl;have hr:=oo (nN key) s;generalize Na:dP (nN key) s=r at*;clear Na;have hS:=Jb w.heap.size r.1 r.2 s.length _ (fJ (aw w (eE r.1 r.2 s.length) 186) n1) hr (by omega);rw[<-afb]at hS;have HS:=hd0 hS;clear hS afb hr;go_wp2_with fail;refine HS.out.mono ?_;rintro e w' ⟨rfl,hk⟩;have Hk:=hd0 ((((ah.refl (fun _=>False) w).alloc (.cells (eE r.1 r.2 s.length) 186)).drewN n1).keep hk);clear HS hk;go_wp2;go_ret2;exact⟨rfl,Hk.out⟩
end
def ak (s:List UInt8)(n:Nat):Bool:=match s[n/8]? with
 |some b=>b.toNat.testBit (n%8)
 |none=>false
def least (s:List UInt8):List UInt8:=(s.reverse.dropWhile (·==0)).reverse
def eT (s:List UInt8):Prop:=s.getLast?≠some 0
def oq (f:UInt8->UInt8->UInt8)(a b:List UInt8):List UInt8:=least ((List.range (max a.length b.length)).map fun i=>f (a.getD i 0) (b.getD i 0))
def d6 (a b:List UInt8):List UInt8:=oq (·|||·) a b
def bK (a b:List UInt8):List UInt8:=oq (fun x y=>x&&&~~~y) a b
def cK (s:List UInt8):List Nat:=(List.range (8*s.length)).filter fun n=>ak s n
def jz (s:List UInt8):Nat:=(cK s).length
def fY (s:List UInt8)(a b:Nat):Option Nat:=(List.range' a (b-a)).find? fun n=>!ak s n
def mj (s:List UInt8)(a:Nat):Option Nat:=(List.range' a (8*s.length-a)).find? fun n=>ak s n
def iE (l:List Nat):List UInt8:=least ((List.range (l.foldl max 0/8+1)).map fun i=>UInt8.ofNat ((List.range 8).foldl (fun a k=>if l.contains (8*i+k)then a+2 ^ k else a) 0))
theorem vf (s:List UInt8)(b:UInt8):least (s++[b])=if b=0 then least s else s++[b]:=by
 unfold least;rw[List.reverse_append,List.reverse_singleton,List.singleton_append,List.dropWhile_cons];by_cases h:b=0
 ·simp[h]
 ·simp[h]
theorem pu {α:Type _}{P:List α->Prop}(h0:P [])(h1:∀ s b,P s->P (s++[b])):∀ s,P s:=by
 intro s;rw[<-List.reverse_reverse s]
 induction s.reverse with
 |nil=>exact h0
 |cons b r ih=>rw[List.reverse_cons];exact h1 _ _ ih
theorem ou (s:List UInt8):eT (least s):=by
 induction s using pu with
 |h0=>simp[eT,least]
 |h1 s b ih=>
  rw[vf];split
  ·exact ih
  ·rename_i h;simp[eT,h]
theorem sH {s:List UInt8}{n:Nat}(h:8*s.length<=n):ak s n=false:=by
 unfold ak;rw[auF (by omega)]
theorem FL {s:List UInt8}{n:Nat}(h:ak s n=true):n<8*s.length:=by
 by_cases hn:8*s.length<=n
 ·rw[sH hn]at h;cases h
 ·omega
theorem qp (s:List UInt8)(n:Nat):ak (least s) n=ak s n:=by
 induction s using pu with
 |h0=>rfl
 |h1 s b ih=>
  rw[vf];split
  ·rename_i h
   rw[ih];unfold ak;by_cases hn:n/8<s.length
   ·rw[List.getElem?_append_left hn]
   ·rw[List.getElem?_append_right (by omega),auF (by omega)];subst h
    cases hk:n/8-s.length with
    |zero=>simp
    |succ k=>simp
  ·rfl
theorem vg {a b:UInt8}(h:∀ k,k<8->a.toNat.testBit k=b.toNat.testBit k):a=b:=by
 apply UInt8.toNat_inj.1;apply Nat.eq_of_testBit_eq;intro i;by_cases hi:i<8
 ·exact h i hi
 ·have ha:a.toNat<2 ^ i:=atS a.toNat_lt (auh (by decide) (by omega:8<=i));have hb:b.toNat<2 ^ i:=atS b.toNat_lt (auh (by decide) (by omega:8<=i));rw[Nat.testBit_lt_two_pow ha,Nat.testBit_lt_two_pow hb]
theorem dR {s:List UInt8}{i k:Nat}(hk:k<8):ak s (8*i+k)=(s.getD i 0).toNat.testBit k:=by
 unfold ak;rw[show(8*i+k)/8=i by omega,show(8*i+k)%8=k by omega]
 cases h:s[i]? with
 |none=>simp[List.getD,h]
 |some b=>simp[List.getD,h]
theorem Ck {b:UInt8}(h:b≠0):∃ k,k<8/\b.toNat.testBit k=true:=by
 apply auG;intro hn;apply h;apply vg;intro k hk;have:¬ b.toNat.testBit k=true:=fun hb=>hn ⟨k,hk,hb⟩;simp at this;simp[this]
theorem yX {a b:List UInt8}(ha:eT a)(h:∀ n,ak a n=true->ak b n=true):a.length<=b.length:=by
 rcases List.eq_nil_or_concat a with rfl|⟨r,x,rfl⟩
 ·simp
 ·rw[List.concat_eq_append]at*;have hx:x≠0:=by simpa[eT]using ha
  obtain⟨k,hk,hb⟩:=Ck hx;have h1:ak (r++[x]) (8*r.length+k)=true:=by rw[dR hk];simpa[List.getD]using hb
  have:=FL (h _ h1);simp;omega
theorem Jd {a b:List UInt8}(ha:eT a)(hb:eT b)(h:∀ n,ak a n=ak b n):a=b:=by
 have h1:=yX ha (fun n hn=>(h n).symm.trans hn);have h2:=yX hb (fun n hn=>(h n).trans hn);have hl:a.length=b.length:=by omega
 apply List.ext_getElem hl;intro i hi hi';apply vg;intro k hk;have:=h (8*i+k);rw[dR hk,dR hk]at this;simpa[List.getD,hi,hi']using this
theorem Cl {f:UInt8->UInt8->UInt8}{g:Bool->Bool->Bool}(hf:∀ x y k,k<8->(f x y).toNat.testBit k=g (x.toNat.testBit k) (y.toNat.testBit k))(hg:g false false=false)(a b:List UInt8)(n:Nat):
  ak (oq f a b) n=g (ak a n) (ak b n):=by
 unfold oq;rw[qp];obtain⟨i,k,hk,rfl⟩:∃ i k,k<8/\n=8*i+k:=⟨n/8,n%8,by omega,by omega⟩
 rw[dR hk,dR hk,dR hk,<-hf _ _ _ hk];by_cases hi:i<max a.length b.length
 ·simp[List.getD,hi]
 ·have h1:a.getD i 0=0:=by simp[List.getD,auF (show a.length<=i by omega)]
  have h2:b.getD i 0=0:=by simp[List.getD,auF (show b.length<=i by omega)]
  rw[h1,h2,hf _ _ _ hk];simp[List.getD,auF (show((List.range (max a.length b.length)).map _).length<=i by simp only[aug,List.length_range];omega),hg]
theorem iL (a b:List UInt8)(n:Nat):ak (d6 a b) n=(ak a n||ak b n):=
 Cl (f:=(·|||·)) (g:=(·||·)) (fun x y k _=>by rw[UInt8.toNat_or,Nat.testBit_or]) rfl a b n
theorem Tp (y:UInt8)(k:Nat)(hk:k<8):(~~~y).toNat.testBit k = !(y.toNat.testBit k):=by
 have:(~~~y).toNat=255-y.toNat:=by
  rw[UInt8.toNat_not];rfl
 rw[this,show 255-y.toNat=2 ^ 8-(y.toNat+1) by have:=y.toNat_lt;omega,Nat.testBit_two_pow_sub_succ y.toNat_lt];simp[hk]
theorem iM (a b:List UInt8)(n:Nat):ak (bK a b) n=(ak a n&&!ak b n):=
 Cl (f:=fun x y=>x&&&~~~y) (g:=fun p q=>p&&!q) (fun x y k hk=>by rw[UInt8.toNat_and,Nat.testBit_and,Tp y k hk]) rfl a b n
theorem gF (f:UInt8->UInt8->UInt8)(a b:List UInt8):eT (oq f a b):=ou _
theorem fK (n:Nat):ak [] n=false:=rfl
theorem Cm {a:List UInt8}(ha:eT a)(h:∀ n,ak a n=false):a=[]:=Jd ha (by simp[eT]) (by simpa[fK]using h)
theorem rq {s:List UInt8}{n:Nat}:n∈cK s↔ak s n=true:=by
 unfold cK;rw[atD,auH];exact⟨fun h=>h.2,fun h=>⟨FL h,h⟩⟩
theorem vh (s:List UInt8):(cK s).Nodup:=List.nodup_range.filter _
theorem ow {s:List UInt8}{a b n:Nat}(h:fY s a b=some n):a<=n/\n<b/\ak s n=false/\∀ m,a<=m->m<n->ak s m=true:=by
 unfold fY at h;have h1:=auI h;have h2:=auJ h;rw[auK]at h2;refine⟨h2.1,by omega,by simpa using h1,fun m hm hn=>?_⟩;rw[List.find?_range'_eq_some]at h;have:=h.2.2 m hm (by omega);simpa using this
theorem vi {s:List UInt8}{a b:Nat}(h:fY s a b=none)(m:Nat)(hm:a<=m)(hn:m<b):ak s m=true:=by
 unfold fY at h;rw[auL]at h;have:=h m (by rw[auK];omega);simpa using this
theorem Oz (s:List UInt8){a b:Nat}(h:a<b):fY s a b=if ak s a=true then fY s (a+1) b else some a:=by
 unfold fY;rw[show b-a=(b-(a+1))+1 by omega,List.range'_succ,List.find?_cons]
 cases ak s a<;>simp
theorem Tq (s:List UInt8){a b:Nat}(h:b<=a):fY s a b=none:=by
 unfold fY;rw[show b-a=0 by omega];rfl
theorem yY (p:Nat->Bool)(k:Nat)(hk:k<8):(UInt8.ofNat ((List.range 8).foldl (fun a j=>if p j then a+2 ^ j else a) 0)).toNat.testBit k=p k:=by
 have key:∀ b0 b1 b2 b3 b4 b5 b6 b7:Bool,∀ k:Fin 8,(UInt8.ofNat ((List.range 8).foldl (fun a j=>if [b0,b1,b2,b3,b4,b5,b6,b7].getD j false then a+2 ^ j else a) 0)).toNat.testBit k.1=[b0,b1,b2,b3,b4,b5,b6,b7].getD k.1 false:=by decide +kernel
 have h:=key (p 0) (p 1) (p 2) (p 3) (p 4) (p 5) (p 6) (p 7) ⟨k,hk⟩;have e:∀ j,j<8->[p 0,p 1,p 2,p 3,p 4,p 5,p 6,p 7].getD j false=p j:=by
  intro j hj;rcases j with _|_|_|_|_|_|_|_|j<;>first|rfl|omega
 have e2:(List.range 8).foldl (fun a j=>if [p 0,p 1,p 2,p 3,p 4,p 5,p 6,p 7].getD j false then a+2 ^ j else a) 0=(List.range 8).foldl (fun a j=>if p j then a+2 ^ j else a) 0:=by
  simp[List.range_succ]
 rw[e2,e k hk]at h;exact h
theorem tI (l:List Nat)(m:Nat):m<=l.foldl max m/\∀ n∈l,n<=l.foldl max m:=by
 induction l generalizing m with
 |nil=>simp
 |cons x l ih=>
  obtain⟨h1,h2⟩:=ih (max m x);refine⟨by simp only[List.foldl_cons];omega,fun n hn=>?_⟩;simp only[List.foldl_cons];rcases at9.1 hn with rfl|hn
  ·omega
  ·exact h2 n hn
theorem vk (l:List Nat)(n:Nat):ak (iE l) n=l.contains n:=by
 unfold iE;rw[qp];obtain⟨i,k,hk,rfl⟩:∃ i k,k<8/\n=8*i+k:=⟨n/8,n%8,by omega,by omega⟩
 rw[dR hk];by_cases hi:i<l.foldl max 0/8+1
 ·simp only[List.getD,auM,auN hi,auO,aun];rw[yY (fun j=>l.contains (8*i+j)) k hk]
 ·rw[List.getD,auF (by simp only[aug,List.length_range];omega)];have:¬(8*i+k)∈l:=fun hm=>by have:=(tI l 0).2 _ hm;omega
  simp[this]
theorem Kx (l:List Nat):eT (iE l):=ou _
abbrev ay:=List UInt8
abbrev Rd:=Int->Except Int ay
def bN (n each:Nat):Nat:=(n+each-1)/each
def au (size:Nat):List Nat:=
 let n:=bN size 240
 if n=0 then []else if n=1 then [1]else if n<=60 then [n,1]else [n,bN n 60,1]
def Wd (n:Int):ay:=[UInt8.ofNat (n.toNat%256),UInt8.ofNat (n.toNat/256%256),UInt8.ofNat (n.toNat/65536%256),UInt8.ofNat (n.toNat/16777216%256)]
def cl:ay->List Int
 |a::b::c::d::r=>((a.toNat+256*b.toNat+65536*c.toNat+16777216*d.toNat:Nat):Int)::cl r
 |_=>[]
def cL (l:List Int):ay:=l.flatMap Wd
abbrev ra:=List (Nat×Int)×ay
def cI (f:Nat->Int->Except Int ra):Nat->List Int->Except Int ra
 |_,[]=>.ok ([],[])
 |i,n::r=>match f i n with
  | .error e=>.error e
  | .ok a=>match cI f (i+1) r with
   | .error e=>.error e
   | .ok b=>.ok (a.1++b.1,a.2++b.2)
def nO (rd:Rd)(ch:Bool)(size:Nat):Nat->Nat->Int->Except Int ra
 |0,i,num=>if ch=true then match rd num with
   | .error e=>.error e
   | .ok s=>if s.length≠min (size-240*i) 240 then .error 110 else .ok ([(0,num)],s)
  else .ok ([(0,num)],[])
 |l+1,i,num=>match rd num with
  | .error e=>.error e
  | .ok s=>if s.length≠4*min ((au size).getD l 0-60*i) 60 then .error 110 else
    match cI (nO rd ch size l) (60*i) (cl s)with
    | .error e=>.error e
    | .ok o=>.ok ((l+1,num)::o.1,o.2)
def bJ (o:List (Nat×Int))(l:Nat):List Int:=(o.filter fun x=>x.1==l).map (·.2)
def dK (o:List (Nat×Int)):List Int:=o.map (·.2)
structure fR where
 root:Int
 size:Int
deriving DecidableEq
def fR.may (b:fR):Bool:=decide (0<=b.size)&&decide (b.size<=16384)&&(decide (b.root=0)==decide (b.size=0))
def d7 (rd:Rd)(b:fR)(ch:Bool):Except Int ra:=
 if b.may=false then .error 110 else if b.size=0 then .ok ([],[])else nO rd ch b.size.toNat ((au b.size.toNat).length-1) 0 b.root
def ox (rd:Rd)(b:fR):Except Int (List Int):=(d7 rd b false).map (dK ·.1)
def nP (b:fR)(o:List (Nat×Int)):List (List Int):=(List.range (au b.size.toNat).length).map (bJ o)
structure Pl where
 used:ay
 taken:ay
 blocks:Nat
 next:Nat
 left:Nat
def Pl.seek (p:Pl):Nat:=((fY p.used p.next p.blocks).orElse fun _=>fY p.used 1 p.blocks).getD (p.next-1)
def Pl.take (p:Pl):Except Int (Nat×Pl):=if p.left=0 then .error 101 else
 let n:=p.seek
 .ok (n,{ p with used:=d6 p.used (iE [n]),taken:=d6 p.taken (iE [n]),next:=n+1,left:=p.left-1 })
def gm (used:ay)(blocks next:Nat):Pl:=⟨used,[],blocks,next,((List.range' 1 (blocks-1)).filter fun n=>!ak used n).length⟩
def lW (rd:Rd)(n:Int)(s:ay):Rd:=fun k=>if k=n then .ok s else rd k
def aN (s:ay)(i:Nat):ay:=(s.drop (i*240)).take 240
def aT (l:List Int)(i:Nat):List Int:=(l.drop (i*60)).take 60
structure gA where
 rd:Rd
 pool:Pl
def ij (stay:Nat->Option Int)(s:Nat->ay):Nat->Nat->gA->Except Int (List Int×gA)
 |0,_,t=>.ok ([],t)
 |f+1,i,t=>match stay i with
  |some n=>(ij stay s f (i+1) t).map fun r=>(n::r.1,r.2)
  |none=>match t.pool.take with
   | .error _=>.error 112
   | .ok (n,p)=>(ij stay s f (i+1) ⟨lW t.rd n (s i),p⟩).map fun r=>((n:Int)::r.1,r.2)
def fS (bg data:ay)(was:List (List Int))(i:Nat):Option Int:=if aN data i=aN bg i then some ((was.getD 0 []).getD i 0)else none
def em (alike:Bool)(was:List (List Int))(now:List Int)(bo i:Nat):Option Int:=
 if alike=true/\i<(was.getD bo []).length/\cL (aT now i)=cL (aT (was.getD (bo-1) []) i)then some ((was.getD bo []).getD i 0)else none
def qq (alike:Bool)(was:List (List Int)):List Nat->Nat->List Int->gA->Except Int (List (List Int)×gA)
 |[],_,_,t=>.ok ([],t)
 |m::r,bo,now,t=>match ij (em alike was now bo) (fun i=>cL (aT now i)) m 0 t with
  | .error e=>.error e
  | .ok (next,t1)=>(qq alike was r (bo+1) next t1).map fun x=>(next::x.1,x.2)
def ku (bg data:ay)(was:List (List Int))(t:gA):Except Int (List (List Int)×gA):=
 match au data.length with
 |[]=>.ok ([],t)
 |m::r=>match ij (fS bg data was) (aN data) m 0 t with
  | .error e=>.error e
  | .ok (now,t1)=>(qq (was.length==r.length+1) was r 1 now t1).map fun x=>(now::x.1,x.2)
def iF (l:List (List Int)):Int:=((l.getLastD []).getD 0 0)
def dE (t:gA)(old:fR)(data:ay):Except Int (fR×gA):=
 if 16384<data.length then .error 111 else match d7 t.rd old true with
  | .error e=>.error e
  | .ok w=>(ku w.2 data (nP old w.1) t).map fun x=>(if data.length=0 then⟨0,0⟩else⟨iF x.1,data.length⟩,x.2)
structure Dk where
 stays:List ay
 lo:List (Nat×ay)
def ec (lo:List (Nat×ay))(n:Nat):Option ay:=(lo.find? fun x=>x.1==n).map (·.2)
def jm (lo:List (Nat×ay))(n:Nat)(s:ay):List (Nat×ay):=if(ec lo n).isSome=true then lo.map (fun x=>if x.1==n then(n,s)else x)else lo++[(n,s)]
def Dk.get (d:Dk)(n:Nat):ay:=match ec d.lo n with
 |some s=>s
 |none=>d.stays.getD n []
def Dk.put (d:Dk)(n:Nat)(s:ay):Dk:={ d with lo:=jm d.lo n s }
def Dk.sync (d:Dk):Dk:=⟨(List.range d.stays.length).map d.get,[]⟩
def Dk.size (d:Dk):Nat:=d.stays.length
structure yn (d:Dk):Prop where
 each:∀ s∈d.stays,s.length=64
 lo:∀ x∈d.lo,x.1<d.stays.length/\x.2.length=64
 one:(d.lo.map (·.1)).Nodup
 many:d.stays.length<=16384
theorem FM {lo:List (Nat×ay)}{n:Nat}:ec lo n=none↔∀ x∈lo,x.1≠n:=by
 unfold ec;rw[Option.map_eq_none_iff,auL];simp
theorem pw (lo:List (Nat×ay))(n m:Nat)(s:ay):ec (jm lo n s) m=if m=n then some s else ec lo m:=by
 unfold jm;split
 ·rename_i h
  unfold ec at h ⊢;rw[List.find?_map,Option.map_map];by_cases hm:m=n
  ·subst hm;rw[atP rfl];have e:((fun x:Nat×ay=>x.1==m)∘fun x:Nat×ay=>if(x.1==m)=true then(m,s)else x)=fun x=>x.1==m:=by
    funext x
    simp only[Function.comp];split
    ·rename_i hx;simp at hx;simp[hx]
    ·rfl
   rw[e]
   cases hf:lo.find? fun x=>x.1==m with
   |none=>rw[hf]at h;cases h
   |some x=>
    have hx:=auI hf;simp only[auO,Function.comp];rw[atP hx]
  ·rw[atR hm];have e:((fun x:Nat×ay=>x.1==m)∘fun x:Nat×ay=>if(x.1==n)=true then(n,s)else x)=fun x=>x.1==m:=by
    funext x
    simp only[Function.comp];split
    ·rename_i hx
     simp only[auq]at hx;rw[hx]
    ·rfl
   rw[e]
   cases hf:lo.find? fun x=>x.1==m with
   |none=>rfl
   |some x=>
    have hx:=auI hf;simp only[auq]at hx;simp only[auO,Function.comp];rw[atR (by simp only[auq];omega)]
 ·rename_i h
  have hn:ec lo n=none:=by simpa using h
  unfold ec at hn ⊢;rw[List.find?_append,List.find?_singleton];by_cases hm:m=n
  ·subst hm;rw[Option.map_eq_none_iff]at hn;rw[hn,atP rfl];simp
  ·rw[atR hm,atR (by simp;omega)];simp
theorem Je (d:Dk)(n m:Nat)(s:ay):(d.put n s).get m=if m=n then s else d.get m:=by
 unfold Dk.get Dk.put;simp only[pw];split
 ·rename_i h;split at h
  ·rename_i hm;injection h with h;rw[atP hm,h]
  ·rename_i hm;rw[atR hm,h]
 ·rename_i h;split at h
  ·cases h
  ·rename_i hm;rw[atR hm,h]
theorem rr {d:Dk}(n:Nat)(h:n<d.size):d.sync.get n=d.get n:=by
 unfold Dk.sync;show(match ec [] n with|some s=>s|none=>((List.range d.stays.length).map d.get).getD n [])=_;have:ec [] n=none:=rfl;rw[this];simp only[List.getD,auM,auN (show n<d.stays.length from h)];rfl
theorem At {d:Dk}(h:yn d){n:Nat}(hn:n<d.size):(d.get n).length=64:=by
 unfold Dk.get
 cases hg:ec d.lo n with
 |none=>
  simp only;rw[List.getD,atI (show n<d.stays.length from hn)];exact h.each _ (aum _)
 |some s=>
  unfold ec at hg;rw[auX]at hg;obtain⟨x,hx,rfl⟩:=hg;exact(h.lo x (auJ hx)).2
theorem fu (d:Dk)(n:Nat)(s:ay):(d.put n s).size=d.size:=rfl
theorem dB (d:Dk):d.sync.size=d.size:=by simp[Dk.sync,Dk.size]
theorem XW {d:Dk}(h:yn d){n:Nat}(hn:n<d.size){s:ay}(hs:s.length=64):yn (d.put n s):=by
 refine⟨h.each,fun x hx=>?_,?_,h.many⟩
 ·have VY:x∈jm d.lo n s:=hx;unfold jm at VY;split at VY
  ·obtain⟨y,hy,rfl⟩:=aui.1 VY;split
   ·exact⟨hn,hs⟩
   ·exact h.lo y hy
  ·rcases auP.1 VY with VY|VY
   ·exact h.lo x VY
   ·simp at VY;subst VY;exact⟨hn,hs⟩
 ·show((jm d.lo n s).map (·.1)).Nodup;unfold jm;split
  ·rw[auc];have:((fun x:Nat×ay=>x.1)∘fun x=>if(x.1==n)=true then(n,s)else x)=fun x=>x.1:=by
    funext x
    simp only[Function.comp];split
    ·rename_i hx;simp at hx;simp[hx]
    ·rfl
   rw[this];exact h.one
  ·rename_i lB
   rw[List.map_append,List.nodup_append];refine⟨h.one,by simp,?_⟩;intro a ha b hb;obtain⟨x,hx,rfl⟩:=aui.1 ha;simp at hb;subst hb;exact FM.1 (by simpa using lB) x hx
theorem Ts {d:Dk}(h:yn d):yn d.sync:=by
 refine⟨fun s hs=>?_,fun x hx=>by simp[Dk.sync]at hx,by simp[Dk.sync],?_⟩
 ·obtain⟨n,hn,rfl⟩:=aui.1 hs;rw[auH]at hn;exact At h hn
 ·show((List.range d.stays.length).map d.get).length<=16384;simpa using h.many
theorem px {α:Type}[DecidableEq α]:∀ {a b:List α},a.Nodup->(∀ x∈a,x∈b)->a.length<=b.length
 |[],b,_,_=>by simp
 |x::a,b,hn,hs=>by
  rw[List.nodup_cons]at hn;have hx:=hs x (by simp);have:=px (a:=a) (b:=b.erase x) hn.2 fun y hy=>(List.mem_erase_of_ne (fun e=>by subst e;exact hn.1 hy)).2 (hs y (by simp[hy]));rw[List.length_erase_of_mem hx]at this;have:=List.length_pos_of_mem hx;simp;omega
theorem XX {d:Dk}(h:yn d):d.lo.length<=d.size:=by
 have:=px h.one (b:=List.range d.size) (fun x hx=>by
  obtain⟨y,hy,rfl⟩:=aui.1 hx;rw[auH];exact(h.lo y hy).1)
 simpa using this
end Go.Proofs.YtkghpdcloaiflaaGreatDoor
