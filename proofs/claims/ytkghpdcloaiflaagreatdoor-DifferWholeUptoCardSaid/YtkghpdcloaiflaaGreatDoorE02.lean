import Derived.Test.YtkghpdcloaiflaaGreatDoorE01
set_option maxHeartbeats 400000
namespace Go.Proofs.YtkghpdcloaiflaaGreatDoor
open _root_.Go.Proofs.Tryz
section
section
variable (l m:List UInt8)(a b:Nat)
@[go_sem] theorem YA:({ data:=l.toArray }:ByteArray)++{ data:=m.toArray }={ data:=(l++m).toArray }:=by
 apply ByteArray.ext;simp[ByteArray.data_append]
@[go_sem] theorem WL:({ data:=l.toArray }:ByteArray).extract a b={ data:=((l.drop a).take (b-a)).toArray }:=by
 apply ByteArray.ext;simp[ByteArray.data_extract,List.extract_toArray,List.extract]
def WM:Value->Nat | .string s=>s.size|_=>0
@[simp] theorem abc (l:List UInt8):WM (.string ⟨l.toArray⟩)=l.length:=rfl
@[go_sem] theorem Tw:(l.drop a).take (l.length-a)=l.drop a:=avl (by simp)
end
def gz (l:List UInt8):List Value:=l.map fun c=>.int .u8 (c.toNat:Int)
theorem gA (b o j:Nat):(⟨b,o,none⟩:Addr).add j=⟨b,o+j,none⟩:=by
 unfold Addr.add;split
 ·subst_vars;rfl
 ·rfl
theorem Gh (l:List UInt8):∀(m:List UInt8),(l.map fun c=>(c.toNat:Int)).foldl (fun(r:ByteArray) (n:Int)=>r.push (UInt8.ofNat n.toNat)) ⟨m.toArray⟩=⟨(m++l).toArray⟩:=by
 induction l with
 |nil=>intro m;simp
 |cons c l ih=>
  intro m;have e:(⟨m.toArray⟩:ByteArray).push (UInt8.ofNat ((c.toNat:Int)).toNat)=⟨(m++[c]).toArray⟩:=by
   show(⟨m.toArray.push _⟩:ByteArray)=_;simp
  rw[auy,List.foldl_cons,e,ih];simp
theorem rJ {P:Program}(w:World)(src dst e:TypeId)(b o len cap:Nat)(l:List UInt8)(hs:P.underlying src=some (.slice e))(he:P.underlying e=some (.int .u8))(hd:P.underlying dst=some .string)
  (hl:l.length=len) (h:∀ j,j<len->w.cell? ⟨b,o+j,none⟩=(gz l)[j]?):
  (convert src dst (.slice (some ⟨b,o,none⟩) len cap)).run P w=.ok (.string ⟨l.toArray⟩) w:=by
 have hc:(loadCells ⟨b,o,none⟩ len).run P w=.ok ((l.map fun c=>(c.toNat:Int)).map (Value.int .u8)).toArray w:=by
  have hx:=run_loadCells_list (P:=P) w ⟨b,o,none⟩ (gz l) (fun j v hj=>by
   have aL:j<len:=by
    have:=(auP.1 hj).1;simpa[gz,hl]using this
   rw[gA,h j aL];exact hj)
  have e1:(gz l).length=len:=by simp[gz,hl]
  rw[e1]at hx;rw[hx];simp[gz]
 rw[run_convert_bytes_string w src dst e _ _ _ hs he hd,run_bytesToString w _ _ _ _ hc];have:=Gh l [];simp only[au9]at this;rw[<-this];rfl
def aQ (l:List UInt8):Array Value:=(gz l).toArray
theorem rK (v:Value)(hv:v.cells=#[v])(r:Nat):madeCells v.cells r=Array.replicate r v:=by
 rw[hv];apply Array.ext
 ·simp[madeCells]
 ·intro i h1 h2;simp[madeCells,Nat.mod_one]
theorem CM (r:Nat):Array.replicate r (Value.int .u8 0)=aQ (List.replicate r 0):=by
 apply Array.ext';simp[aQ,gz]
theorem jv {P:Program}{ts te:TypeId}(hs:P.underlying ts=some (.slice te))(hi:(P.info? te).map (fun i=>(i.zero,i.size,i.bytes))=some (some (.int .u8 0),1,1))(r:Nat)(hr:r<=281474976710656)(W:World):
  (Instr.makeSlice ts (.int .i64 r) (.int .i64 r)).run P W=.ok (.slice (some ⟨W.heap.size,0,none⟩) r r) (W.alloc (.cells (aQ (List.replicate r 0)) te)):=by
 obtain⟨i0,hi,nX,mZ,oH⟩:=auO hi;have h:=run_make (P:=P) W ts te i0 (.int .u8 0) hs hi nX .i64 .i64 (r:Int) (r:Int) (by omega) (Int.le_refl _) (by rw[oH];omega) (by omega)
 rwa [avc,mZ,Nat.mul_one,rK _ rfl,CM]at h
theorem CP {P:Program}{ts td te:TypeId}(hs:P.underlying ts=some (.slice te))(he:P.underlying te=some (.int .u8))(hd:P.underlying td=some .string)(W:World)(b n:Nat)(l:List UInt8)(hb:b=W.heap.size):
  (convert ts td (.slice (some ⟨b,0,none⟩) l.length l.length)).run P ((W.alloc (.cells (aQ l) te)).drewN n)=.ok (.string ⟨l.toArray⟩) ((W.alloc (.cells (aQ l) te)).drewN n):=
 rJ _ _ _ te b 0 _ _ l hs he hd rfl (fun j hj=>by rw[World.cell?_drewN,avm,World.cell?_alloc_at _ _ _ _ hb];simp[aQ])
theorem ua {P:Program}{ts td te:TypeId}(hs:P.underlying ts=some (.slice te))(he:P.underlying te=some (.int .u8))(hd:P.underlying td=some .string){w:World}{b len:Nat}(cap:Nat){l:List UInt8}(hB:World.blk w b (aQ l) te)(hl:l.length=len):
  (convert ts td (.slice (some ⟨b,0,none⟩) len cap)).run P w=.ok (.string ⟨l.toArray⟩) w:=
 rJ _ _ _ te b 0 _ _ l hs he hd hl (fun j hj=>by rw[avm,aa hB j];simp[aQ])
theorem Gi (l:List UInt8)(k:Nat)(d:UInt8):(aQ l).setIfInBounds k (.int .u8 (d.toNat:Int))=aQ (l.set k d):=by
 apply Array.ext';simp[aQ,gz,List.map_set]
theorem ah.grown {w0 w w':World}{S:Nat->Prop}{row:Option Nat}(h:ah S w0 w)(hg:w.grownBy w' row)(cJ:∀ k,row=some k->S k\/w0.heap.size<=k):ah S w0 w':=
 ⟨hg.os.trans h.os,hg.tape.trans h.tape,hg.output.trans h.output,aux h.size hg.size,fun k hk hS=>by
  rw[hg.block k (auL hk h.size) (fun e=>by rcases cJ k e.symm with h1|h1;exact hS h1;omega)];exact h.block k hk hS⟩
theorem ub {P:Program}{ts te:TypeId}(hs:P.underlying ts=some (.slice te))(hi:(P.info? te).map (fun i=>(i.zero,i.size,i.bytes))=some (some (.int .u8 0),1,1))(base:Nat)(v:Value)(n:Nat)(xs:List UInt8)(w w0:World)
  (bw:w.ownsRow base te 1 v n (gz xs)) (c:UInt8) (hn:n+1<=140737488355328) (FC:base<=w.heap.size) (h0:af w0 w) (iM:w0.heap.size<=base):
  ∃ v' w',(Builtin.append_ #[ts,ts] ts #[v,.slice (some ⟨w.heap.size,0,none⟩) 1 1]).run P (w.alloc (.cells #[.int .u8 (c.toNat:Int)] te))=.ok v' w'/\w'.ownsRow base te 1 v' (n+1) (gz (xs++[c]))/\af w0 w':=by
 obtain⟨i0,hi,nX,mZ,oH⟩:=auO hi;obtain⟨v',w',h1,h2,h3,_⟩:=run_append_own (P:=P) (w.alloc (.cells #[.int .u8 (c.toNat:Int)] te)) base ts ts te i0 (.int .u8 0) 1 1 hs hi nX mZ oH rfl (by decide) v n (gz xs) (bw.alloc _) ⟨w.heap.size,0,none⟩ 1 1 [.int .u8 (c.toNat:Int)] rfl (cell_one_new _ _ _) (by intro u hu;simp at hu;subst hu;rfl) (by unfold maxLen;omega) (by omega) (by simp;omega);refine⟨v',w',h1,?_,ah.grown (h0.alloc _) h3 (fun k hk=>.inr ?_)⟩
 ·have e:gz (xs++[c])=gz xs++[.int .u8 (c.toNat:Int)]:=by simp[gz]
  rw[e];exact h2
 ·exact aux iM (bw.lt k hk).1
theorem aB {P:Program}{w w':World}{aD:Array Oper}{rest:List Oper}{o:Oper}{a:Act}{Q:Exit->Act->World->Prop}{s x:Operand}{t:TypeId}{v xv v':Value}
  (bi:(Builtin.append_ #[t,t] o.type #[v,xv]).run P w=.ok v' w') (Cs:o.guard=none) (ho:o.op=.call { callee:=.builtin .append,args:=#[s,x],argTypes:=#[t,t] }) (hs:a.eval s=v) (hx:a.eval x=xv)
  (h:wpList P aD Q rest (a.put o.dst v') w'):wpList P aD Q (o::rest) a w:=
 wpList_plain Cs fun _ hK=>by
  unfold Oper.wp execOp;simp only[ho,resolve,invoke,builtin,Sem.run_bind,Sem.run_pure,Result.andThen_ok,List.map_toArray,auy,List.map_nil,hs,hx,bi];exact hK _ _ h
end
section
open Go.RowKit
attribute [local go_sem] iU fD gX vA
def jq:Nat->St->List UInt8->St×List UInt8
 |0,v,s=>(v,s)
 |f+1,v,s=>if 8<=s.length then jq f (v.take (qB (s.take 8))) (s.drop 8)else(v,s)
def dT (v:St)(s:List UInt8):St×List UInt8:=jq s.length v s
theorem qC (f:Nat):∀(g:Nat) (v:St) (s:List UInt8),s.length<=f->s.length<=g->jq f v s=jq g v s:=by
 induction f with
 |zero=>
  intro g v s hf _;have hn:¬ 8<=s.length:=by omega
  cases g<;>simp[jq,hn]
 |succ f ih=>
  intro g v s hf hg;by_cases h8:8<=s.length
  ·cases g with
   |zero=>omega
   |succ g=>
    rw[jq,jq,auI h8,auI h8];exact ih g _ _ (by simp;omega) (by simp;omega)
  ·cases g<;>simp[jq,h8]
theorem lL (v:St)(s:List UInt8)(h:8<=s.length):dT v s=dT (v.take (qB (s.take 8))) (s.drop 8):=by
 unfold dT;rw[qC s.length (s.length+1) v s (auE _) (by omega),jq,auI h];exact qC _ _ _ _ (by simp) (auE _)
theorem qD (v:St)(s:List UInt8)(h:¬ 8<=s.length):dT v s=(v,s):=by
 unfold dT;rw[qC s.length (s.length+1) v s (auE _) (by omega),jq,auK h]
def eM (v:St)(rest:List UInt8)(size:Nat):Array Value:=v.cells [.string ⟨rest.toArray⟩,.int .i64 size]
theorem zq (b:Nat)(v:St)(rest s:List UInt8)(size:Nat)(w:World)(k:Nat)(hb:b<w.heap.size)(hr:rest.length<8)(hs:size+s.length+8<=9223372036854775807):
  Calls prog 59 #[.pointer (some ⟨b,0,none⟩),.string ⟨s.toArray⟩] ((w.putB b (eM v rest size) 186).drewN k) fun e w'=>e=.returned (.tuple #[])/\
   ∃ n,(w.putB b (eM (dT v (rest++s)).1 (dT v (rest++s)).2 (size+s.length)) 186).drewN n=w':=by
 have hc:∀ v rest size,eM v rest size=#[.int .u64 v.a.toNat,.int .u64 v.b.toNat,.int .u64 v.c.toNat,.int .u64 v.d.toNat,.string ⟨rest.toArray⟩,.int .i64 size]:=fun _ _ _=>rfl;rw[hc v];go_enter func59,ntmps59;go_wp2_with fail
 go_loopw [1] (fun x wr=>∃(l:List UInt8) (u:St) (n:Nat),l.length<=rest.length+s.length/\dT u l=dT v (rest++s)/\x=.string ⟨l.toArray⟩/\wr=(w.putB b (#[.int .u64 u.a.toNat,.int .u64 u.b.toNat,.int .u64 u.c.toNat,.int .u64 u.d.toNat,.string ⟨rest.toArray⟩,.int .i64 (size+s.length)]) 186).drewN n)
  (fun x _=>WM x)
 case atStart=>exact⟨rest++s,v,k,by simp,rfl,rfl,rfl⟩
 case round=>
  obtain⟨l,u,n,hl,Og,rfl,rfl⟩:=hrel;have Hab:=hd0 Og;clear Og;by_cases h8:8<=l.length
  ·go_wp2_with fail;refine bJ 6 (by kernel_rfl) (by kernel_rfl) ?_;simp only[avn,avo,avq,avr]
   repeat (quiet_step ((exact avs (tg _ _ (by simp<;>omega)))))
   refine avt ?_;intro _ cf;obtain⟨nq,rfl⟩:=cf;go_wp2_with fail;refine(vG b u (qB (l.take 8)) [.string ⟨rest.toArray⟩,.int .i64 (size+s.length)] _ _ nq hb).mono ?_;rintro e w1 ⟨rfl,n1,rfl⟩;go_wp2_with fail
   go_roundw
   case rel=>exact⟨l.drop 8,u.take (qB (l.take 8)),n1,by simp;omega,by rw[<-lL _ _ h8];exact Hab.out,by simp,rfl⟩
   case measure=>simp;omega
  ·have Og:=qD u l h8;rw[Hab.out]at Og;have ajo:=hd0 Og;clear Og;go_wp2_with fail;go_end0;refine⟨rfl,n,?_⟩;rw[ajo.out];rfl
end
section
open Go.RowKit
attribute [local go_sem] iU fD gX vA
theorem KW (v:St)(t:TypeId)(w:World)(k:Nat):
  Calls prog 116 #[.pointer (some ⟨w.heap.size,0,none⟩)] ((w.alloc (.cells (v.cells []) t)).drewN k) fun e w'=>e=.returned (.tuple #[])/\∃ n,(w.alloc (.cells (v.round.cells []) t)).drewN n=w':=by
 have h:=tf w.heap.size v [] t (w.alloc (.cells (v.cells []) t)) k (by simp)
 rwa [iV,iV]at h
theorem OU (v:St)(m:UInt64)(t:TypeId)(w:World)(k:Nat):
  Calls prog 115 #[.pointer (some ⟨w.heap.size,0,none⟩),.int .u64 m.toNat] ((w.alloc (.cells (v.cells []) t)).drewN k) fun e w'=>e=.returned (.tuple #[])/\∃ n,(w.alloc (.cells ((v.take m).cells []) t)).drewN n=w':=by
 have h:=vG w.heap.size v m [] t (w.alloc (.cells (v.cells []) t)) k (by simp)
 rwa [iV,iV]at h
def rL (rest:List UInt8)(size:Nat):UInt64:=or (qB rest) (UInt64.ofNat (size*2 ^ 56))
theorem TW (rest:List UInt8)(size:Nat):bits .or .u64 ((qB rest).toNat:Int) (IntKind.u64.wrap ((size:Int)*72057594037927936))=((rL rest size).toNat:Int):=by
 have e:IntKind.u64.wrap ((size:Int)*72057594037927936)=(((UInt64.ofNat (size*2 ^ 56)).toNat:Nat):Int):=by
  rw[IntKind.wrap_u64,UInt64.toNat_ofNat'];omega
 rw[e,gX,rL]
def St.rounds:Nat->St->St
 |0,v=>v
 |n+1,v=>(St.rounds n v).round
def St.final (v:St):UInt64:=
 let r:=St.rounds 4 { v with c:=xor v.c 255 }
 xor (xor (xor r.a r.b) r.c) r.d
def rM (x:UInt64)(i:Nat):UInt8:=(shr x (8*i)).toUInt8
def uY (x:UInt64):List UInt8:=(List.range 8).map (rM x)
def jw (x:UInt64)(k:Nat):Array Value:=((List.range 8).map fun i=>if i<k then Value.int .u8 ((rM x i).toNat:Int)else .int .u8 0).toArray
theorem TY (x:UInt64)(k:Nat)(h:k<8):(jw x k).setIfInBounds k (.int .u8 ((rM x k).toNat:Int))=jw x (k+1):=by
 match k,h with
 |0,_=>rfl
 |1,_=>rfl
 |2,_=>rfl
 |3,_=>rfl
 |4,_=>rfl
 |5,_=>rfl
 |6,_=>rfl
 |7,_=>rfl
theorem TZ (x:UInt64)(k:Nat)(h:k<8):(jw x k)[k]?=some (.int .u8 0):=by
 match k,h with
 |0,_=>rfl
 |1,_=>rfl
 |2,_=>rfl
 |3,_=>rfl
 |4,_=>rfl
 |5,_=>rfl
 |6,_=>rfl
 |7,_=>rfl
theorem AO (x:UInt64)(k:Nat)(h:k<8):(x.toNat:Int)/2 ^ (8*k)%256=((rM x k).toNat:Int):=by
 rw[rM,UInt64.toNat_toUInt8,WI x (8*k) (by omega)];omega
def CQ (v:St)(rest:List UInt8)(size:Nat):List UInt8:=uY (v.take (rL rest size)).final
theorem JA (b:Nat)(v:St)(rest:List UInt8)(size:Nat)(w:World)(hB:World.blk w b (eM v rest size) 186)(hr:rest.length<8)(hs:size<=9223372036854775807):
  Calls prog 60 #[.pointer (some ⟨b,0,none⟩)] w fun e w'=>e=.returned (.string ⟨(CQ v rest size).toArray⟩)/\af w w':=by
 have hc:∀ v:St,v.cells []=#[.int .u64 v.a.toNat,.int .u64 v.b.toNat,.int .u64 v.c.toNat,.int .u64 v.d.toNat]:=fun _=>rfl;have h0:w.cell? ⟨b,0,none⟩=some (.int .u64 v.a.toNat):=aa hB 0;have h1:w.cell? ⟨b,1,none⟩=some (.int .u64 v.b.toNat):=aa hB 1;have h2:w.cell? ⟨b,2,none⟩=some (.int .u64 v.c.toNat):=aa hB 2;have h3:w.cell? ⟨b,3,none⟩=some (.int .u64 v.d.toNat):=aa hB 3;have h4:w.cell? ⟨b,4,none⟩=some (.string ⟨rest.toArray⟩):=aa hB 4;have h5:w.cell? ⟨b,5,none⟩=some (.int .i64 size):=aa hB 5;have aL:=ai hB;have oz:∀(x:UInt64) (w:World),(Instr.makeSlice 131 (.int .i64 8) (.int .i64 8)).run prog w=.ok (.slice (some ⟨w.heap.size,0,none⟩) 8 8) (w.alloc (.cells (jw x 0) 5)):=fun _ _=>by kernel_rfl
 have Hmk:=hd0 oz;have hx:(255:Int)=((255:UInt64).toNat:Int):=rfl;have Hx:=hd0 hx;clear hB hx oz;go_enter func60,ntmps60;go_wp2_with fail;rw[<-World.drewN_zero (w:=w.alloc _)];refine bJ 12 (by kernel_rfl) (by kernel_rfl) ?_;simp only[avn,avo,avq,avr]
 repeat (quiet_step ((exact avs (tg _ _ (by first|omega|(simp;done)|(simp;omega))))))
 refine avt ?_;intro _ cf;obtain⟨nq,rfl⟩:=cf;go_wp2_with fail;rw[TW];refine(OU v _ _ w nq).mono ?_;rintro e w1 ⟨rfl,n1,rfl⟩;generalize KG:v.take (rL rest size)=r1;have Hr1:=hd0 KG;clear KG h0 h1 h2 h3 h4 h5 aL;rw[hc r1];have Xz:=fD r1.c 255;rw[<-Hx.out]at Xz;go_wp2_with fail
 go_loopw [28] (fun i wr=>∃(k:Nat) (u:St) (n:Nat),k<=4/\i=.int .i64 k/\u=St.rounds k { r1 with c:=xor r1.c 255 }/\wr=(w.alloc (.cells (u.cells []) 184)).drewN n) (fun i _=>4-(intOf i).toNat)
 case atStart=>exact⟨0,_,n1,by omega,rfl,rfl,rfl⟩
 case round=>
  obtain⟨k,u,n,hk,rfl,hu,rfl⟩:=hrel;have Hu:=hd0 hu;clear hu;by_cases aL:k<4
  ·go_wp2_with fail;refine(KW u _ w n).mono ?_;rintro e w1 ⟨rfl,n2,rfl⟩;go_wp2_with fail
   go_roundw
   case rel=>exact⟨k+1,_,n2,by omega,by go_num,by rw[St.rounds,<-Hu.out],rfl⟩
   case measure=>simp[intOf];omega
  ·obtain rfl:k=4:=by omega
   have sV:St.final r1=xor (xor (xor u.a u.b) u.c) u.d:=by rw[Hu.out];rfl
   have aal:=hd0 sV;clear Hu Hx;have oz:=Hmk.out (xor (xor (xor u.a u.b) u.c) u.d);clear Hmk sV;rw[hc u];go_wp2_with fail;clear oz;have Yo:∀ X,xor (xor (xor u.a u.b) u.c) u.d=X->Hid (St.final r1=X):=fun X h=>aal.out.trans h;generalize hX:xor (xor (xor u.a u.b) u.c) u.d=X;have aal:=Yo X hX;clear Yo hX;clear Xz aL hk;obtain⟨w2,Yt⟩:∃ w2,w2=w.alloc (.cells #[.int .u64 u.a.toNat,.int .u64 u.b.toNat,.int .u64 u.c.toNat,.int .u64 u.d.toNat] 184):=⟨_,rfl⟩
   have cK:w2.heap.size=w.heap.size+1:=by rw[Yt];simp
   rw[<-Yt,<-cK];have Hw2:=hd0 Yt;have Hsz:=hd0 cK;clear Yt cK
   go_loopw [6,46] (fun _ i wr=>∃(k:Nat) (n:Nat),k<=8/\i=.int .i64 k/\wr=(w2.alloc (.cells (jw X k) 5)).drewN n) (fun _ i _=>8-(intOf i).toNat)
   case atStart=>exact⟨0,n,by omega,rfl,rfl⟩
   case round=>
    obtain⟨k,n3,hk,rfl,rfl⟩:=hrel;by_cases aL:k<8
    ·have hg:=TZ X k aL;have hby:=AO X k aL;go_wp2_with fail;clear hg hby
     go_roundw
     case rel=>exact⟨k+1,n3,by omega,by go_num,by rw[TY X k aL]⟩
     case measure=>simp[intOf];omega
    ·obtain rfl:k=8:=by omega
     have yt:∀ j,j<8->((w2.alloc (.cells (jw X 8) 5)).drewN n3).cell? ⟨w2.heap.size,0+j,none⟩=(gz (uY X))[j]?:=fun j hj=>by
      rw[World.cell?_drewN,avm,World.cell?_alloc_at _ _ _ _ rfl]
      match j,hj with
      |0,_=>rfl
      |1,_=>rfl
      |2,_=>rfl
      |3,_=>rfl
      |4,_=>rfl
      |5,_=>rfl
      |6,_=>rfl
      |7,_=>rfl
     have dg:=rJ (P:=prog) ((w2.alloc (.cells (jw X 8) 5)).drewN n3) 131 9 5 w2.heap.size 0 8 8 (uY X) underlying131 underlying5 underlying9 rfl yt;have Hm:Hid (af w ((w2.alloc (.cells (jw X 8) 5)).drewN n3)):=by rw[Hw2.out];exact(((ah.refl _ _).alloc _).alloc _).drewN _
     clear yt;go_wp2;go_ret;refine⟨?_,Hm.out⟩;rw[CQ,Hr1.out,aal.out];rfl
end
section
open Go.RowKit
attribute [local go_sem] iU fD gX vA
def oa (key:List UInt8):St:=
 let k:=qB (key.take 8)
 let l:=qB (key.drop 8)
 ⟨xor k 8317987319222330741,xor l 7237128888997146477,xor k 7816392313619706465,xor l 8387220255154660723⟩
theorem T2 (x y:UInt64)(n:Int)(h:n=(y.toNat:Int)):bits .xor .u64 (x.toNat:Int) n=((xor x y).toNat:Int):=by
 rw[h,fD]
theorem JB (key:List UInt8)(w:World)(hk:key.length=16):
  Calls prog 58 #[.string ⟨key.toArray⟩] w fun e w'=>e=.returned (.tuple #[.pointer (some ⟨w.heap.size,0,none⟩),.int .i64 0])/\∃ n,(w.alloc (.cells (eM (oa key) [] 0) 186)).drewN n=w':=by
 have FQ:((key.length:Int) != 16)=false:=by rw[bne_eq_false_iff_eq];omega
 have hk1:(key.length:Int)<=16:=by omega
 have de:16<=(key.length:Int):=by omega
 have dw:key.length<=16:=by omega
 have iT:16<=key.length:=by omega
 clear hk;go_enter func58,ntmps58;go_wp2_with fail
 go_quiet ((exact avs (tg _ _ (by first|omega|(simp;done)|(simp;omega)))))
 go_wp2;go_ret2;refine⟨rfl,nq,?_⟩;rw[T2 _ 8317987319222330741 8317987319222330741 rfl,T2 _ 7237128888997146477 7237128888997146477 rfl,T2 _ 7816392313619706465 7816392313619706465 rfl,T2 _ 8387220255154660723 8387220255154660723 rfl];rfl
end
section
open Go.RowKit
def KX (key s:List UInt8):List UInt8:=let r:=dT (oa key) s;CQ r.1 r.2 s.length
theorem oI (v:St)(s:List UInt8):(dT v s).2.length<8:=by
 generalize hn:s.length=n
 induction n using Nat.strongRecOn generalizing v s with
 |_ n ih=>
  by_cases h:8<=s.length
  ·rw[lL v s h];exact ih (s.length-8) (by omega) _ _ (by simp)
  ·rw[qD v s h];simp;omega
theorem OV (key s:List UInt8)(w:World)(hk:key.length=16)(hs:s.length<=9223372036854775799):
  Calls prog 24 #[.string ⟨key.toArray⟩,.string ⟨s.toArray⟩] w fun e w'=>e=.returned (.tuple #[.string ⟨(KX key s).toArray⟩,.int .i64 0])/\af w w':=by
 go_enter func24,ntmps24;go_wp2_with fail;refine(JB key w hk).mono ?_;rintro e w' ⟨rfl,n,rfl⟩;clear hk;have hb:w.heap.size<(w.alloc (.cells (eM (oa key) [] 0) 186)).heap.size:=by simp
 have hW:=zq w.heap.size (oa key) [] s 0 (w.alloc (.cells (eM (oa key) [] 0) 186)) n hb (by simp) (by omega);rw[iV,iV,au9,avm]at hW;have HW:=hd0 hW;clear hW hb;go_wp2_with fail;refine HW.out.mono ?_;rintro e w' ⟨rfl,n1,rfl⟩;clear HW;have adM:KX key s=CQ (dT (oa key) s).1 (dT (oa key) s).2 s.length:=rfl;have hr:=oI (oa key) s;generalize Og:dT (oa key) s=r at*;clear Og;have hS:=JA w.heap.size r.1 r.2 s.length _ (fQ (aw w (eM r.1 r.2 s.length) 186) n1) hr (by omega);rw[<-adM]at hS;have HS:=hd0 hS;clear hS adM hr;go_wp2_with fail;refine HS.out.mono ?_;rintro e w' ⟨rfl,hk⟩;have Hk:=hd0 ((((ah.refl (fun _=>False) w).alloc (.cells (eM r.1 r.2 s.length) 186)).drewN n1).keep hk);clear HS hk;go_wp2;go_ret2;exact⟨rfl,Hk.out⟩
end
def am (s:List UInt8)(n:Nat):Bool:=match s[n/8]? with
 |some b=>b.toNat.testBit (n%8)
 |none=>false
def least (s:List UInt8):List UInt8:=(s.reverse.dropWhile (·==0)).reverse
def ga (s:List UInt8):Prop:=s.getLast?≠some 0
def oJ (f:UInt8->UInt8->UInt8)(a b:List UInt8):List UInt8:=least ((List.range (max a.length b.length)).map fun i=>f (a.getD i 0) (b.getD i 0))
def eH (a b:List UInt8):List UInt8:=oJ (·|||·) a b
def bQ (a b:List UInt8):List UInt8:=oJ (fun x y=>x&&&~~~y) a b
def cy (s:List UInt8):List Nat:=(List.range (8*s.length)).filter fun n=>am s n
def jK (s:List UInt8):Nat:=(cy s).length
def gl (s:List UInt8)(a b:Nat):Option Nat:=(List.range' a (b-a)).find? fun n=>!am s n
def mu (s:List UInt8)(a:Nat):Option Nat:=(List.range' a (8*s.length-a)).find? fun n=>am s n
def iO (l:List Nat):List UInt8:=least ((List.range (l.foldl max 0/8+1)).map fun i=>UInt8.ofNat ((List.range 8).foldl (fun a k=>if l.contains (8*i+k)then a+2 ^ k else a) 0))
theorem vH (s:List UInt8)(b:UInt8):least (s++[b])=if b=0 then least s else s++[b]:=by
 unfold least;rw[List.reverse_append,List.reverse_singleton,List.singleton_append,List.dropWhile_cons];by_cases h:b=0
 ·simp[h]
 ·simp[h]
theorem pJ {α:Type _}{P:List α->Prop}(h0:P [])(h1:∀ s b,P s->P (s++[b])):∀ s,P s:=by
 intro s;rw[<-List.reverse_reverse s]
 induction s.reverse with
 |nil=>exact h0
 |cons b r ih=>rw[List.reverse_cons];exact h1 _ _ ih
theorem oK (s:List UInt8):ga (least s):=by
 induction s using pJ with
 |h0=>simp[ga,least]
 |h1 s b ih=>
  rw[vH];split
  ·exact ih
  ·rename_i h;simp[ga,h]
theorem th {s:List UInt8}{n:Nat}(h:8*s.length<=n):am s n=false:=by
 unfold am;rw[avu (by omega)]
theorem Gj {s:List UInt8}{n:Nat}(h:am s n=true):n<8*s.length:=by
 by_cases hn:8*s.length<=n
 ·rw[th hn]at h;cases h
 ·omega
theorem qE (s:List UInt8)(n:Nat):am (least s) n=am s n:=by
 induction s using pJ with
 |h0=>rfl
 |h1 s b ih=>
  rw[vH];split
  ·rename_i h
   rw[ih];unfold am;by_cases hn:n/8<s.length
   ·rw[List.getElem?_append_left hn]
   ·rw[List.getElem?_append_right (by omega),avu (by omega)];subst h
    cases hk:n/8-s.length with
    |zero=>simp
    |succ k=>simp
  ·rfl
theorem vI {a b:UInt8}(h:∀ k,k<8->a.toNat.testBit k=b.toNat.testBit k):a=b:=by
 apply UInt8.toNat_inj.1;apply Nat.eq_of_testBit_eq;intro i;by_cases hi:i<8
 ·exact h i hi
 ·have ha:a.toNat<2 ^ i:=auL a.toNat_lt (au5 (by decide) (by omega:8<=i));have hb:b.toNat<2 ^ i:=auL b.toNat_lt (au5 (by decide) (by omega:8<=i));rw[Nat.testBit_lt_two_pow ha,Nat.testBit_lt_two_pow hb]
theorem dV {s:List UInt8}{i k:Nat}(hk:k<8):am s (8*i+k)=(s.getD i 0).toNat.testBit k:=by
 unfold am;rw[show(8*i+k)/8=i by omega,show(8*i+k)%8=k by omega]
 cases h:s[i]? with
 |none=>simp[List.getD,h]
 |some b=>simp[List.getD,h]
theorem CR {b:UInt8}(h:b≠0):∃ k,k<8/\b.toNat.testBit k=true:=by
 apply avv;intro hn;apply h;apply vI;intro k hk;have:¬ b.toNat.testBit k=true:=fun hb=>hn ⟨k,hk,hb⟩;simp at this;simp[this]
theorem zr {a b:List UInt8}(ha:ga a)(h:∀ n,am a n=true->am b n=true):a.length<=b.length:=by
 rcases List.eq_nil_or_concat a with rfl|⟨r,x,rfl⟩
 ·simp
 ·rw[List.concat_eq_append]at*;have hx:x≠0:=by simpa[ga]using ha
  obtain⟨k,hk,hb⟩:=CR hx;have h1:am (r++[x]) (8*r.length+k)=true:=by rw[dV hk];simpa[List.getD]using hb
  have:=Gj (h _ h1);simp;omega
theorem T3 {a b:List UInt8}(ha:ga a)(hb:ga b)(h:∀ n,am a n=am b n):a=b:=by
 have h1:=zr ha (fun n hn=>(h n).symm.trans hn);have h2:=zr hb (fun n hn=>(h n).trans hn);have hl:a.length=b.length:=by omega
 apply List.ext_getElem hl;intro i hi hi';apply vI;intro k hk;have:=h (8*i+k);rw[dV hk,dV hk]at this;simpa[List.getD,hi,hi']using this
theorem CT {f:UInt8->UInt8->UInt8}{g:Bool->Bool->Bool}(hf:∀ x y k,k<8->(f x y).toNat.testBit k=g (x.toNat.testBit k) (y.toNat.testBit k))(hg:g false false=false)(a b:List UInt8)(n:Nat):
  am (oJ f a b) n=g (am a n) (am b n):=by
 unfold oJ;rw[qE];obtain⟨i,k,hk,rfl⟩:∃ i k,k<8/\n=8*i+k:=⟨n/8,n%8,by omega,by omega⟩
 rw[dV hk,dV hk,dV hk,<-hf _ _ _ hk];by_cases hi:i<max a.length b.length
 ·simp[List.getD,hi]
 ·have h1:a.getD i 0=0:=by simp[List.getD,avu (show a.length<=i by omega)]
  have h2:b.getD i 0=0:=by simp[List.getD,avu (show b.length<=i by omega)]
  rw[h1,h2,hf _ _ _ hk];simp[List.getD,avu (show((List.range (max a.length b.length)).map _).length<=i by simp only[au4,List.length_range];omega),hg]
theorem jL (a b:List UInt8)(n:Nat):am (eH a b) n=(am a n||am b n):=
 CT (f:=(·|||·)) (g:=(·||·)) (fun x y k _=>by rw[UInt8.toNat_or,Nat.testBit_or]) rfl a b n
theorem T4 (y:UInt8)(k:Nat)(hk:k<8):(~~~y).toNat.testBit k = !(y.toNat.testBit k):=by
 have:(~~~y).toNat=255-y.toNat:=by
  rw[UInt8.toNat_not];rfl
 rw[this,show 255-y.toNat=2 ^ 8-(y.toNat+1) by have:=y.toNat_lt;omega,Nat.testBit_two_pow_sub_succ y.toNat_lt];simp[hk]
theorem ku (a b:List UInt8)(n:Nat):am (bQ a b) n=(am a n&&!am b n):=
 CT (f:=fun x y=>x&&&~~~y) (g:=fun p q=>p&&!q) (fun x y k hk=>by rw[UInt8.toNat_and,Nat.testBit_and,T4 y k hk]) rfl a b n
theorem iW (f:UInt8->UInt8->UInt8)(a b:List UInt8):ga (oJ f a b):=oK _
theorem gJ (n:Nat):am [] n=false:=rfl
theorem mw {s:List UInt8}{n:Nat}:n∈cy s↔am s n=true:=by
 unfold cy;rw[auw,avw];exact⟨fun h=>h.2,fun h=>⟨Gj h,h⟩⟩
theorem vJ (s:List UInt8):(cy s).Nodup:=List.nodup_range.filter _
theorem oL {s:List UInt8}{a b n:Nat}(h:gl s a b=some n):a<=n/\n<b/\am s n=false/\∀ m,a<=m->m<n->am s m=true:=by
 unfold gl at h;have h1:=avx h;have h2:=avy h;rw[avz]at h2;refine⟨h2.1,by omega,by simpa using h1,fun m hm hn=>?_⟩;rw[List.find?_range'_eq_some]at h;have:=h.2.2 m hm (by omega);simpa using this
theorem vK {s:List UInt8}{a b:Nat}(h:gl s a b=none)(m:Nat)(hm:a<=m)(hn:m<b):am s m=true:=by
 unfold gl at h;rw[avA]at h;have:=h m (by rw[avz];omega);simpa using this
theorem OW (s:List UInt8){a b:Nat}(h:a<b):gl s a b=if am s a=true then gl s (a+1) b else some a:=by
 unfold gl;rw[show b-a=(b-(a+1))+1 by omega,List.range'_succ,List.find?_cons]
 cases am s a<;>simp
theorem T5 (s:List UInt8){a b:Nat}(h:b<=a):gl s a b=none:=by
 unfold gl;rw[show b-a=0 by omega];rfl
theorem zt (p:Nat->Bool)(k:Nat)(hk:k<8):(UInt8.ofNat ((List.range 8).foldl (fun a j=>if p j then a+2 ^ j else a) 0)).toNat.testBit k=p k:=by
 have key:∀ b0 b1 b2 b3 b4 b5 b6 b7:Bool,∀ k:Fin 8,(UInt8.ofNat ((List.range 8).foldl (fun a j=>if [b0,b1,b2,b3,b4,b5,b6,b7].getD j false then a+2 ^ j else a) 0)).toNat.testBit k.1=[b0,b1,b2,b3,b4,b5,b6,b7].getD k.1 false:=by decide +kernel
 have h:=key (p 0) (p 1) (p 2) (p 3) (p 4) (p 5) (p 6) (p 7) ⟨k,hk⟩;have e:∀ j,j<8->[p 0,p 1,p 2,p 3,p 4,p 5,p 6,p 7].getD j false=p j:=by
  intro j hj;rcases j with _|_|_|_|_|_|_|_|j<;>first|rfl|omega
 have e2:(List.range 8).foldl (fun a j=>if [p 0,p 1,p 2,p 3,p 4,p 5,p 6,p 7].getD j false then a+2 ^ j else a) 0=(List.range 8).foldl (fun a j=>if p j then a+2 ^ j else a) 0:=by
  simp[List.range_succ]
 rw[e2,e k hk]at h;exact h
theorem uc (l:List Nat)(m:Nat):m<=l.foldl max m/\∀ n∈l,n<=l.foldl max m:=by
 induction l generalizing m with
 |nil=>simp
 |cons x l ih=>
  obtain⟨h1,h2⟩:=ih (max m x);refine⟨by simp only[List.foldl_cons];omega,fun n hn=>?_⟩;simp only[List.foldl_cons];rcases auX.1 hn with rfl|hn
  ·omega
  ·exact h2 n hn
theorem vL (l:List Nat)(n:Nat):am (iO l) n=l.contains n:=by
 unfold iO;rw[qE];obtain⟨i,k,hk,rfl⟩:∃ i k,k<8/\n=8*i+k:=⟨n/8,n%8,by omega,by omega⟩
 rw[dV hk];by_cases hi:i<l.foldl max 0/8+1
 ·simp only[List.getD,avB,avC hi,avD,avb];rw[zt (fun j=>l.contains (8*i+j)) k hk]
 ·rw[List.getD,avu (by simp only[au4,List.length_range];omega)];have:¬(8*i+k)∈l:=fun hm=>by have:=(uc l 0).2 _ hm;omega
  simp[this]
theorem KY (l:List Nat):ga (iO l):=oK _
abbrev az:=List UInt8
abbrev Rd:=Int->Except Int az
def bN (n each:Nat):Nat:=(n+each-1)/each
def au (size:Nat):List Nat:=
 let n:=bN size 240
 if n=0 then []else if n=1 then [1]else if n<=60 then [n,1]else [n,bN n 60,1]
def WO (n:Int):az:=[UInt8.ofNat (n.toNat%256),UInt8.ofNat (n.toNat/256%256),UInt8.ofNat (n.toNat/65536%256),UInt8.ofNat (n.toNat/16777216%256)]
def cr:az->List Int
 |a::b::c::d::r=>((a.toNat+256*b.toNat+65536*c.toNat+16777216*d.toNat:Nat):Int)::cr r
 |_=>[]
def cM (l:List Int):az:=l.flatMap WO
abbrev ry:=List (Nat×Int)×az
def cL (f:Nat->Int->Except Int ry):Nat->List Int->Except Int ry
 |_,[]=>.ok ([],[])
 |i,n::r=>match f i n with
  | .error e=>.error e
  | .ok a=>match cL f (i+1) r with
   | .error e=>.error e
   | .ok b=>.ok (a.1++b.1,a.2++b.2)
def oc (rd:Rd)(ch:Bool)(size:Nat):Nat->Nat->Int->Except Int ry
 |0,i,num=>if ch=true then match rd num with
   | .error e=>.error e
   | .ok s=>if s.length≠min (size-240*i) 240 then .error 110 else .ok ([(0,num)],s)
  else .ok ([(0,num)],[])
 |l+1,i,num=>match rd num with
  | .error e=>.error e
  | .ok s=>if s.length≠4*min ((au size).getD l 0-60*i) 60 then .error 110 else
    match cL (oc rd ch size l) (60*i) (cr s)with
    | .error e=>.error e
    | .ok o=>.ok ((l+1,num)::o.1,o.2)
def bK (o:List (Nat×Int))(l:Nat):List Int:=(o.filter fun x=>x.1==l).map (·.2)
def dP (o:List (Nat×Int)):List Int:=o.map (·.2)
structure fP where
 root:Int
 size:Int
deriving DecidableEq
def fP.may (b:fP):Bool:=decide (0<=b.size)&&decide (b.size<=16384)&&(decide (b.root=0)==decide (b.size=0))
def ei (rd:Rd)(b:fP)(ch:Bool):Except Int ry:=
 if b.may=false then .error 110 else if b.size=0 then .ok ([],[])else oc rd ch b.size.toNat ((au b.size.toNat).length-1) 0 b.root
def oM (rd:Rd)(b:fP):Except Int (List Int):=(ei rd b false).map (dP ·.1)
def od (b:fP)(o:List (Nat×Int)):List (List Int):=(List.range (au b.size.toNat).length).map (bK o)
structure Pl where
 used:az
 taken:az
 blocks:Nat
 next:Nat
 left:Nat
def Pl.seek (p:Pl):Nat:=((gl p.used p.next p.blocks).orElse fun _=>gl p.used 1 p.blocks).getD (p.next-1)
def Pl.take (p:Pl):Except Int (Nat×Pl):=if p.left=0 then .error 101 else
 let n:=p.seek
 .ok (n,{ p with used:=eH p.used (iO [n]),taken:=eH p.taken (iO [n]),next:=n+1,left:=p.left-1 })
def gB (used:az)(blocks next:Nat):Pl:=⟨used,[],blocks,next,((List.range' 1 (blocks-1)).filter fun n=>!am used n).length⟩
def l8 (rd:Rd)(n:Int)(s:az):Rd:=fun k=>if k=n then .ok s else rd k
def aO (s:az)(i:Nat):az:=(s.drop (i*240)).take 240
def aU (l:List Int)(i:Nat):List Int:=(l.drop (i*60)).take 60
structure gK where
 rd:Rd
 pool:Pl
def iu (stay:Nat->Option Int)(s:Nat->az):Nat->Nat->gK->Except Int (List Int×gK)
 |0,_,t=>.ok ([],t)
 |f+1,i,t=>match stay i with
  |some n=>(iu stay s f (i+1) t).map fun r=>(n::r.1,r.2)
  |none=>match t.pool.take with
   | .error _=>.error 112
   | .ok (n,p)=>(iu stay s f (i+1) ⟨l8 t.rd n (s i),p⟩).map fun r=>((n:Int)::r.1,r.2)
def gc (bh data:az)(was:List (List Int))(i:Nat):Option Int:=if aO data i=aO bh i then some ((was.getD 0 []).getD i 0)else none
def eI (alike:Bool)(was:List (List Int))(now:List Int)(br i:Nat):Option Int:=
 if alike=true/\i<(was.getD br []).length/\cM (aU now i)=cM (aU (was.getD (br-1) []) i)then some ((was.getD br []).getD i 0)else none
def qF (alike:Bool)(was:List (List Int)):List Nat->Nat->List Int->gK->Except Int (List (List Int)×gK)
 |[],_,_,t=>.ok ([],t)
 |m::r,br,now,t=>match iu (eI alike was now br) (fun i=>cM (aU now i)) m 0 t with
  | .error e=>.error e
  | .ok (next,t1)=>(qF alike was r (br+1) next t1).map fun x=>(next::x.1,x.2)
def kI (bh data:az)(was:List (List Int))(t:gK):Except Int (List (List Int)×gK):=
 match au data.length with
 |[]=>.ok ([],t)
 |m::r=>match iu (gc bh data was) (aO data) m 0 t with
  | .error e=>.error e
  | .ok (now,t1)=>(qF (was.length==r.length+1) was r 1 now t1).map fun x=>(now::x.1,x.2)
def iP (l:List (List Int)):Int:=((l.getLastD []).getD 0 0)
def dI (t:gK)(old:fP)(data:az):Except Int (fP×gK):=
 if 16384<data.length then .error 111 else match ei t.rd old true with
  | .error e=>.error e
  | .ok w=>(kI w.2 data (od old w.1) t).map fun x=>(if data.length=0 then⟨0,0⟩else⟨iP x.1,data.length⟩,x.2)
structure Dk where
 stays:List az
 lo:List (Nat×az)
def el (lo:List (Nat×az))(n:Nat):Option az:=(lo.find? fun x=>x.1==n).map (·.2)
def jx (lo:List (Nat×az))(n:Nat)(s:az):List (Nat×az):=if(el lo n).isSome=true then lo.map (fun x=>if x.1==n then(n,s)else x)else lo++[(n,s)]
def Dk.get (d:Dk)(n:Nat):az:=match el d.lo n with
 |some s=>s
 |none=>d.stays.getD n []
def Dk.put (d:Dk)(n:Nat)(s:az):Dk:={ d with lo:=jx d.lo n s }
def Dk.sync (d:Dk):Dk:=⟨(List.range d.stays.length).map d.get,[]⟩
def Dk.size (d:Dk):Nat:=d.stays.length
structure yD (d:Dk):Prop where
 each:∀ s∈d.stays,s.length=64
 lo:∀ x∈d.lo,x.1<d.stays.length/\x.2.length=64
 one:(d.lo.map (·.1)).Nodup
 many:d.stays.length<=16384
theorem Gk {lo:List (Nat×az)}{n:Nat}:el lo n=none↔∀ x∈lo,x.1≠n:=by
 unfold el;rw[Option.map_eq_none_iff,avA];simp
theorem pK (lo:List (Nat×az))(n m:Nat)(s:az):el (jx lo n s) m=if m=n then some s else el lo m:=by
 unfold jx;split
 ·rename_i h
  unfold el at h ⊢;rw[List.find?_map,Option.map_map];by_cases hm:m=n
  ·subst hm;rw[auI rfl];have e:((fun x:Nat×az=>x.1==m)∘fun x:Nat×az=>if(x.1==m)=true then(m,s)else x)=fun x=>x.1==m:=by
    funext x
    simp only[Function.comp];split
    ·rename_i hx;simp at hx;simp[hx]
    ·rfl
   rw[e]
   cases hf:lo.find? fun x=>x.1==m with
   |none=>rw[hf]at h;cases h
   |some x=>
    have hx:=avx hf;simp only[avD,Function.comp];rw[auI hx]
  ·rw[auK hm];have e:((fun x:Nat×az=>x.1==m)∘fun x:Nat×az=>if(x.1==n)=true then(n,s)else x)=fun x=>x.1==m:=by
    funext x
    simp only[Function.comp];split
    ·rename_i hx
     simp only[ave]at hx;rw[hx]
    ·rfl
   rw[e]
   cases hf:lo.find? fun x=>x.1==m with
   |none=>rfl
   |some x=>
    have hx:=avx hf;simp only[ave]at hx;simp only[avD,Function.comp];rw[auK (by simp only[ave];omega)]
 ·rename_i h
  have hn:el lo n=none:=by simpa using h
  unfold el at hn ⊢;rw[List.find?_append,List.find?_singleton];by_cases hm:m=n
  ·subst hm;rw[Option.map_eq_none_iff]at hn;rw[hn,auI rfl];simp
  ·rw[auK hm,auK (by simp;omega)];simp
theorem JC (d:Dk)(n m:Nat)(s:az):(d.put n s).get m=if m=n then s else d.get m:=by
 unfold Dk.get Dk.put;simp only[pK];split
 ·rename_i h;split at h
  ·rename_i hm;injection h with h;rw[auI hm,h]
  ·rename_i hm;rw[auK hm,h]
 ·rename_i h;split at h
  ·cases h
  ·rename_i hm;rw[auK hm,h]
theorem rN {d:Dk}(n:Nat)(h:n<d.size):d.sync.get n=d.get n:=by
 unfold Dk.sync;show(match el [] n with|some s=>s|none=>((List.range d.stays.length).map d.get).getD n [])=_;have:el [] n=none:=rfl;rw[this];simp only[List.getD,avB,avC (show n<d.stays.length from h)];rfl
theorem AP {d:Dk}(h:yD d){n:Nat}(hn:n<d.size):(d.get n).length=64:=by
 unfold Dk.get
 cases hg:el d.lo n with
 |none=>
  simp only;rw[List.getD,auB (show n<d.stays.length from hn)];exact h.each _ (ava _)
 |some s=>
  unfold el at hg;rw[avM]at hg;obtain⟨x,hx,rfl⟩:=hg;exact(h.lo x (avy hx)).2
theorem fF (d:Dk)(n:Nat)(s:az):(d.put n s).size=d.size:=rfl
theorem dF (d:Dk):d.sync.size=d.size:=by simp[Dk.sync,Dk.size]
theorem YB {d:Dk}(h:yD d){n:Nat}(hn:n<d.size){s:az}(hs:s.length=64):yD (d.put n s):=by
 refine⟨h.each,fun x hx=>?_,?_,h.many⟩
 ·have WC:x∈jx d.lo n s:=hx;unfold jx at WC;split at WC
  ·obtain⟨y,hy,rfl⟩:=au6.1 WC;split
   ·exact⟨hn,hs⟩
   ·exact h.lo y hy
  ·rcases avE.1 WC with WC|WC
   ·exact h.lo x WC
   ·simp at WC;subst WC;exact⟨hn,hs⟩
 ·show((jx d.lo n s).map (·.1)).Nodup;unfold jx;split
  ·rw[au0];have:((fun x:Nat×az=>x.1)∘fun x=>if(x.1==n)=true then(n,s)else x)=fun x=>x.1:=by
    funext x
    simp only[Function.comp];split
    ·rename_i hx;simp at hx;simp[hx]
    ·rfl
   rw[this];exact h.one
  ·rename_i lH
   rw[List.map_append,List.nodup_append];refine⟨h.one,by simp,?_⟩;intro a ha b hb;obtain⟨x,hx,rfl⟩:=au6.1 ha;simp at hb;subst hb;exact Gk.1 (by simpa using lH) x hx
theorem T6 {d:Dk}(h:yD d):yD d.sync:=by
 refine⟨fun s hs=>?_,fun x hx=>by simp[Dk.sync]at hx,by simp[Dk.sync],?_⟩
 ·obtain⟨n,hn,rfl⟩:=au6.1 hs;rw[avw]at hn;exact AP h hn
 ·show((List.range d.stays.length).map d.get).length<=16384;simpa using h.many
theorem pL {α:Type}[DecidableEq α]:∀ {a b:List α},a.Nodup->(∀ x∈a,x∈b)->a.length<=b.length
 |[],b,_,_=>by simp
 |x::a,b,hn,hs=>by
  rw[List.nodup_cons]at hn;have hx:=hs x (by simp);have:=pL (a:=a) (b:=b.erase x) hn.2 fun y hy=>(List.mem_erase_of_ne (fun e=>by subst e;exact hn.1 hy)).2 (hs y (by simp[hy]));rw[List.length_erase_of_mem hx]at this;have:=List.length_pos_of_mem hx;simp;omega
theorem YC {d:Dk}(h:yD d):d.lo.length<=d.size:=by
 have:=pL h.one (b:=List.range d.size) (fun x hx=>by
  obtain⟨y,hy,rfl⟩:=au6.1 hx;rw[avw];exact(h.lo y hy).1)
 simpa using this
end Go.Proofs.YtkghpdcloaiflaaGreatDoor
