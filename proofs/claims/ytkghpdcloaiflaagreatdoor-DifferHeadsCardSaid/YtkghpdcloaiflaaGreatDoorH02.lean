import Derived.Test.YtkghpdcloaiflaaGreatDoorH01
set_option maxHeartbeats 400000
namespace Go.Proofs.YtkghpdcloaiflaaGreatDoor
open _root_.Go.Proofs.Tryz
variable {P:Program}{a b n:Nat}{s:List UInt8}{w w':World}
section
section
variable (l m:List UInt8)(a b:Nat)
@[go_sem] theorem Zw:({ data:=l.toArray }:ByteArray)++{ data:=m.toArray }={ data:=(l++m).toArray }:=by
 apply ByteArray.ext;simp[ByteArray.data_append]
@[go_sem] theorem XH:({ data:=l.toArray }:ByteArray).extract a b={ data:=((l.drop a).take (b-a)).toArray }:=by
 apply ByteArray.ext;simp[ByteArray.data_extract,List.extract_toArray,List.extract]
def XI:Value->Nat | .string s=>s.size|_=>0
@[simp] theorem aci (l:List UInt8):XI (.string ⟨l.toArray⟩)=l.length:=rfl
@[go_sem] theorem Ui:(l.drop a).take (l.length-a)=l.drop a:=awQ sp7
end
def gg (l:List UInt8):List Value:=l.map λc=>.int .u8 (c.toNat:Int)
theorem ij (b o j:Nat):(⟨b,o,none⟩:Addr).add j=⟨b,o+j,none⟩:=by
 unfold Addr.add;split
 ·subst_vars;rfl
 ·rfl
theorem Gw (l:List UInt8):∀(m:List UInt8),(l.map λc=>(c.toNat:Int)).foldl (λ(r:ByteArray) (n:Int)=>r.push (UInt8.ofNat n.toNat)) ⟨m.toArray⟩=⟨(m++l).toArray⟩:=by
 induction l with
 |nil=>intro m;simp
 |cons c l ih=>
  intro m;have e:(⟨m.toArray⟩:ByteArray).push (UInt8.ofNat ((c.toNat:Int)).toNat)=⟨(m++[c]).toArray⟩:=by
   show(⟨m.toArray.push _⟩:ByteArray)=_;simp
  rw[av3,List.foldl_cons,e,ih];simp
theorem pq (w:World)(src dst e:TypeId)(b o len cap:Nat)(l:List UInt8)(hs:P.underlying src=some (.slice e))(he:P.underlying e=some (.int .u8))(hd:P.underlying dst=some .string)
  (hl:l.length=len) (h:∀ j,j<len->w.cell? ⟨b,o+j,none⟩=(gg l)[j]?):
  (convert src dst (.slice (some ⟨b,o,none⟩) len cap)).run P w=.ok (.string ⟨l.toArray⟩) w:=by
 have hc:(loadCells ⟨b,o,none⟩ len).run P w=.ok ((l.map λc=>(c.toNat:Int)).map (Value.int .u8)).toArray w:=by
  have hx:=run_loadCells_list (P:=P) w ⟨b,o,none⟩ (gg l) (λj v hj=>by
   have aP:j<len:=by
    have:=(awk.1 hj).1;simpa[gg,hl]using this
   rw[ij,h j aP];exact hj)
  have e1:(gg l).length=len:=by simp[gg,hl]
  rw[e1]at hx;rw[hx];simp[gg]
 rw[run_convert_bytes_string w src dst e _ _ _ hs he hd,run_bytesToString w _ _ _ _ hc];have:=Gw l [];simp only[awE]at this;rw[<-this];rfl
def aR (l:List UInt8):Array Value:=(gg l).toArray
theorem rz (v:Value)(hv:v.cells=#[v])(r:Nat):madeCells v.cells r=Array.replicate r v:=by
 rw[hv];apply Array.ext
 ·simp[madeCells]
 ·intro i h1 h2;simp[madeCells,Nat.mod_one]
theorem CT (r:Nat):Array.replicate r (Value.int .u8 0)=aR (List.replicate r 0):=by
 apply Array.ext';simp[aR,gg]
theorem jn {ts te:TypeId}(hs:P.underlying ts=some (.slice te))(hi:(P.info? te).map (λi=>(i.zero,i.size,i.bytes))=some (some (.int .u8 0),1,1))(r:Nat)(hr:r<=281474976710656)(W:World):
  (Instr.makeSlice ts (.int .i64 r) (.int .i64 r)).run P W=.ok (.slice (some ⟨W.heap.size,0,none⟩) r r) (W.alloc (.cells (aR (List.replicate r 0)) te)):=by
 obtain⟨i0,hi,iK,lX,mJ⟩:=awj hi;have h:=run_make (P:=P) W ts te i0 (.int .u8 0) hs hi iK .i64 .i64 (r:Int) (r:Int) J (Int.le_refl _) (by rw[mJ];omega) J
 rwa [awH,lX,Nat.mul_one,rz _ rfl,CT]at h
theorem CU {ts td te:TypeId}(hs:P.underlying ts=some (.slice te))(he:P.underlying te=some (.int .u8))(hd:P.underlying td=some .string)(W:World)(b n:Nat)(l:List UInt8)(hb:b=W.heap.size):
  (convert ts td (.slice (some ⟨b,0,none⟩) l.length l.length)).run P ((W.alloc (.cells (aR l) te)).drewN n)=.ok (.string ⟨l.toArray⟩) ((W.alloc (.cells (aR l) te)).drewN n):=
 pq _ _ _ te b 0 _ _ l hs he hd rfl (λj hj=>by rw[World.cell?_drewN,awR,World.cell?_alloc_at _ _ _ _ hb];simp[aR])
theorem tU {ts td te:TypeId}(hs:P.underlying ts=some (.slice te))(he:P.underlying te=some (.int .u8))(hd:P.underlying td=some .string){len:Nat}(cap:Nat){l:List UInt8}(hB:World.blk w b (aR l) te)(hl:l.length=len):
  (convert ts td (.slice (some ⟨b,0,none⟩) len cap)).run P w=.ok (.string ⟨l.toArray⟩) w:=
 pq _ _ _ te b 0 _ _ l hs he hd hl (λj hj=>by rw[awR,aa hB j];simp[aR])
theorem Gx (l:List UInt8)(k:Nat)(d:UInt8):(aR l).setIfInBounds k (.int .u8 (d.toNat:Int))=aR (l.set k d):=by
 apply Array.ext';simp[aR,gg,List.map_set]
theorem ai.grown {w0:World}{S:Nat->Prop}{row:Option Nat}(h:ai S w0 w)(hg:w.grownBy w' row)(cq:∀ k,row=some k->S k\/w0.heap.size<=k):ai S w0 w':=
 ⟨hg.os.trans h.os,hg.tape.trans h.tape,hg.output.trans h.output,av2 h.size hg.size,λk hk hS=>by
  rw[hg.block k (awg hk h.size) (λe=>by rcases cq k e.symm with h1|h1;exact hS h1;omega)];exact h.block k hk hS⟩
theorem tV {ts te:TypeId}(hs:P.underlying ts=some (.slice te))(hi:(P.info? te).map (λi=>(i.zero,i.size,i.bytes))=some (some (.int .u8 0),1,1))(base:Nat)(v:Value)(n:Nat)(xs:List UInt8)(w w0:World)
  (bC:w.ownsRow base te 1 v n (gg xs)) (c:UInt8) (hn:n+1<=140737488355328) (FB:base<=w.heap.size) (h0:af w0 w) (ic:w0.heap.size<=base):
  ∃ v' w',(Builtin.append_ #[ts,ts] ts #[v,.slice (some ⟨w.heap.size,0,none⟩) 1 1]).run P (w.alloc (.cells #[.int .u8 (c.toNat:Int)] te))=.ok v' w'/\w'.ownsRow base te 1 v' (n+1) (gg (xs++[c]))/\af w0 w':=by
 obtain⟨i0,hi,iK,lX,mJ⟩:=awj hi;obtain⟨v',w',h1,h2,h3,_⟩:=run_append_own (P:=P) (w.alloc (.cells #[.int .u8 (c.toNat:Int)] te)) base ts ts te i0 (.int .u8 0) 1 1 hs hi iK lX mJ rfl dc7 v n (gg xs) (bC.alloc _) ⟨w.heap.size,0,none⟩ 1 1 [.int .u8 (c.toNat:Int)] rfl (cell_one_new _ _ _) (by intro u hu;simp at hu;subst hu;rfl) (by unfold maxLen;omega) J (by simp;omega);refine⟨v',w',h1,?_,ai.grown (h0.alloc _) h3 (λk hk=>.inr ?_)⟩
 ·have e:gg (xs++[c])=gg xs++[.int .u8 (c.toNat:Int)]:=by simp[gg]
  rw[e];exact h2
 ·exact av2 ic (bC.lt k hk).1
theorem aB {aF:Array Oper}{rest:List Oper}{o:Oper}{a:Act}{Q:Exit->Act->World->Prop}{s x:Operand}{t:TypeId}{v xv v':Value}
  (bN:(Builtin.append_ #[t,t] o.type #[v,xv]).run P w=.ok v' w') (O0:o.guard=none) (ho:o.op=.call { callee:=.builtin .append,args:=#[s,x],argTypes:=#[t,t] }) (hs:a.eval s=v) (hx:a.eval x=xv)
  (h:wpList P aF Q rest (a.put o.dst v') w'):wpList P aF Q (o::rest) a w:=
 wpList_plain O0 λ_ hK=>by
  unfold Oper.wp execOp;simp only[ho,resolve,invoke,builtin,Sem.run_bind,Sem.run_pure,Result.andThen_ok,List.map_toArray,av3,List.map_nil,hs,hx,bN];exact hK _ _ h
end
section
open Go.RowKit
attribute [local go_sem] iL fi gO vk
def jh:Nat->St->List UInt8->St×List UInt8
 |0,v,s=>(v,s)
 |f+1,v,s=>if 8<=s.length then jh f (v.take (qw (s.take 8))) (s.drop 8)else(v,s)
def dI (v:St)(s:List UInt8):St×List UInt8:=jh s.length v s
theorem qx (f:Nat):∀(g:Nat) (v:St) (s:List UInt8),s.length<=f->s.length<=g->jh f v s=jh g v s:=by
 induction f with
 |zero=>
  intro g v s hf _;have hn:¬ 8<=s.length:=J
  cases g<;>simp[jh,hn]
 |succ f ih=>
  intro g v s hf hg;by_cases h8:8<=s.length
  ·cases g with
   |zero=>omega
   |succ g=>
    rw[jh,jh,awd h8,awd h8];exact ih g _ _ (by simp;omega) (by simp;omega)
  ·cases g<;>simp[jh,h8]
theorem lp (v:St)(s:List UInt8)(h:8<=s.length):dI v s=dI (v.take (qw (s.take 8))) (s.drop 8):=by
 unfold dI;rw[qx s.length (s.length+1) v s (av9 _) J,jh,awd h];exact qx _ _ _ _ sp7 (av9 _)
theorem qy (v:St)(s:List UInt8)(h:¬ 8<=s.length):dI v s=(v,s):=by
 unfold dI;rw[qx s.length (s.length+1) v s (av9 _) J,jh,awf h]
def eH (v:St)(rest:List UInt8)(size:Nat):Array Value:=v.cells [.string ⟨rest.toArray⟩,.int .i64 size]
theorem zq (b:Nat)(v:St)(rest s:List UInt8)(size:Nat)(w:World)(k:Nat)(hb:b<w.heap.size)(hr:rest.length<8)(hs:size+s.length+8<=9223372036854775807):
  Calls prog 59 #[.pointer (some ⟨b,0,none⟩),.string ⟨s.toArray⟩] ((w.putB b (eH v rest size) 186).drewN k) λe w'=>e=.returned (.tuple #[])/\
   ∃ n,(w.putB b (eH (dI v (rest++s)).1 (dI v (rest++s)).2 (size+s.length)) 186).drewN n=w':=by
 have hc:∀ v rest size,eH v rest size=#[.int .u64 v.a.toNat,.int .u64 v.b.toNat,.int .u64 v.c.toNat,.int .u64 v.d.toNat,.string ⟨rest.toArray⟩,.int .i64 size]:=λ_ _ _=>rfl;rw[hc v];go_enter func59,ntmps59;go_wp2_with fail
 go_loopw [1] (λx wr=>∃(l:List UInt8) (u:St) (n:Nat),l.length<=rest.length+s.length/\dI u l=dI v (rest++s)/\x=.string ⟨l.toArray⟩/\wr=(w.putB b (#[.int .u64 u.a.toNat,.int .u64 u.b.toNat,.int .u64 u.c.toNat,.int .u64 u.d.toNat,.string ⟨rest.toArray⟩,.int .i64 (size+s.length)]) 186).drewN n)
  (λx _=>XI x)
 case atStart=>exact⟨rest++s,v,k,by simp,rfl,rfl,rfl⟩
 case round=>
  obtain⟨l,u,n,hl,NZ,rfl,rfl⟩:=hrel;have Hab:=Z NZ;clear NZ;by_cases h8:8<=l.length
  ·go_wp2_with fail;refine bK 6 kr7 kr7 ?_;simp only[awS,awT,awU,awV]
   repeat (quiet_step ((exact awW (sN _ _ (by simp<;>omega)))))
   refine awX ?_;intro _ bD;obtain⟨nq,rfl⟩:=bD;go_wp2_with fail;refine(vu b u (qw (l.take 8)) [.string ⟨rest.toArray⟩,.int .i64 (size+s.length)] _ _ nq hb).mono ?_;rintro e w1 ⟨rfl,n1,rfl⟩;go_wp2_with fail
   go_roundw
   case rel=>exact⟨l.drop 8,u.take (qw (l.take 8)),n1,by simp;omega,by rw[<-lp _ _ h8];exact Hab.o,by simp,rfl⟩
   case measure=>simp;omega
  ·have NZ:=qy u l h8;rw[Hab.o]at NZ;have ajt:=Z NZ;clear NZ;go_wp2_with fail;go_end0;refine⟨rfl,n,?_⟩;rw[ajt.o];rfl
theorem Lc (v:St)(t:TypeId)(w:World)(k:Nat):
  Calls prog 116 #[.pointer (some ⟨w.heap.size,0,none⟩)] ((w.alloc (.cells (v.cells []) t)).drewN k) λe w'=>e=.returned (.tuple #[])/\∃ n,(w.alloc (.cells (v.round.cells []) t)).drewN n=w':=by
 have h:=sM w.heap.size v [] t (w.alloc (.cells (v.cells []) t)) k sp7
 rwa [iM,iM]at h
theorem Pd (v:St)(m:UInt64)(t:TypeId)(w:World)(k:Nat):
  Calls prog 115 #[.pointer (some ⟨w.heap.size,0,none⟩),.int .u64 m.toNat] ((w.alloc (.cells (v.cells []) t)).drewN k) λe w'=>e=.returned (.tuple #[])/\∃ n,(w.alloc (.cells ((v.take m).cells []) t)).drewN n=w':=by
 have h:=vu w.heap.size v m [] t (w.alloc (.cells (v.cells []) t)) k sp7
 rwa [iM,iM]at h
def rA (rest:List UInt8)(size:Nat):UInt64:=or (qw rest) (UInt64.ofNat (size*2 ^ 56))
theorem UM (rest:List UInt8)(size:Nat):bits .or .u64 ((qw rest).toNat:Int) (IntKind.u64.wrap ((size:Int)*72057594037927936))=((rA rest size).toNat:Int):=by
 have e:IntKind.u64.wrap ((size:Int)*72057594037927936)=(((UInt64.ofNat (size*2 ^ 56)).toNat:Nat):Int):=by
  rw[IntKind.wrap_u64,UInt64.toNat_ofNat'];omega
 rw[e,gO,rA]
def St.rounds:Nat->St->St
 |0,v=>v
 |n+1,v=>(St.rounds n v).round
def St.final (v:St):UInt64:=
 let r:=St.rounds 4 { v with c:=xor v.c 255 }
 xor (xor (xor r.a r.b) r.c) r.d
def rB (x:UInt64)(i:Nat):UInt8:=(shr x (8*i)).toUInt8
def uO (x:UInt64):List UInt8:=(List.range 8).map (rB x)
def jo (x:UInt64)(k:Nat):Array Value:=((List.range 8).map λi=>if i<k then Value.int .u8 ((rB x i).toNat:Int)else .int .u8 0).toArray
theorem UN (x:UInt64)(k:Nat)(h:k<8):(jo x k).setIfInBounds k (.int .u8 ((rB x k).toNat:Int))=jo x (k+1):=by
 match k,h with
 |0,_=>rfl
 |1,_=>rfl
 |2,_=>rfl
 |3,_=>rfl
 |4,_=>rfl
 |5,_=>rfl
 |6,_=>rfl
 |7,_=>rfl
theorem UO (x:UInt64)(k:Nat)(h:k<8):(jo x k)[k]?=some (.int .u8 0):=by
 match k,h with
 |0,_=>rfl
 |1,_=>rfl
 |2,_=>rfl
 |3,_=>rfl
 |4,_=>rfl
 |5,_=>rfl
 |6,_=>rfl
 |7,_=>rfl
theorem AM (x:UInt64)(k:Nat)(h:k<8):(x.toNat:Int)/2 ^ (8*k)%256=((rB x k).toNat:Int):=by
 rw[rB,UInt64.toNat_toUInt8,XE x (8*k) J];omega
def CV (v:St)(rest:List UInt8)(size:Nat):List UInt8:=uO (v.take (rA rest size)).final
theorem JO (b:Nat)(v:St)(rest:List UInt8)(size:Nat)(w:World)(hB:World.blk w b (eH v rest size) 186)(hr:rest.length<8)(hs:size<=9223372036854775807):
  Calls prog 60 #[.pointer (some ⟨b,0,none⟩)] w λe w'=>e=.returned (.string ⟨(CV v rest size).toArray⟩)/\af w w':=by
 have hc:∀ v:St,v.cells []=#[.int .u64 v.a.toNat,.int .u64 v.b.toNat,.int .u64 v.c.toNat,.int .u64 v.d.toNat]:=λ_=>rfl;have h0:w.cell? ⟨b,0,none⟩=some (.int .u64 v.a.toNat):=aa hB 0;have h1:w.cell? ⟨b,1,none⟩=some (.int .u64 v.b.toNat):=aa hB 1;have h2:w.cell? ⟨b,2,none⟩=some (.int .u64 v.c.toNat):=aa hB 2;have h3:w.cell? ⟨b,3,none⟩=some (.int .u64 v.d.toNat):=aa hB 3;have h4:w.cell? ⟨b,4,none⟩=some (.string ⟨rest.toArray⟩):=aa hB 4;have h5:w.cell? ⟨b,5,none⟩=some (.int .i64 size):=aa hB 5;have aP:=ak hB;have rx:∀(x:UInt64) (w:World),(Instr.makeSlice 131 (.int .i64 8) (.int .i64 8)).run prog w=.ok (.slice (some ⟨w.heap.size,0,none⟩) 8 8) (w.alloc (.cells (jo x 0) 5)):=λ_ _=>kr7
 have Hmk:=Z rx;have hx:(255:Int)=((255:UInt64).toNat:Int):=rfl;have Hx:=Z hx;clear hB hx rx;go_enter func60,ntmps60;go_wp2_with fail;rw[<-World.drewN_zero (w:=w.alloc _)];refine bK 12 kr7 kr7 ?_;simp only[awS,awT,awU,awV]
 repeat (quiet_step ((exact awW (sN _ _ (by first|omega|(simp;done)|(simp;omega))))))
 refine awX ?_;intro _ bD;obtain⟨nq,rfl⟩:=bD;go_wp2_with fail;rw[UM];refine(Pd v _ _ w nq).mono ?_;rintro e w1 ⟨rfl,n1,rfl⟩;generalize Gf:v.take (rA rest size)=r1;have Hr1:=Z Gf;clear Gf h0 h1 h2 h3 h4 h5 aP;rw[hc r1];have YS:=fi r1.c 255;rw[<-Hx.o]at YS;go_wp2_with fail
 go_loopw [28] (λi wr=>∃(k:Nat) (u:St) (n:Nat),k<=4/\i=.int .i64 k/\u=St.rounds k { r1 with c:=xor r1.c 255 }/\wr=(w.alloc (.cells (u.cells []) 184)).drewN n) (λi _=>4-(intOf i).toNat)
 case atStart=>exact⟨0,_,n1,J,rfl,rfl,rfl⟩
 case round=>
  obtain⟨k,u,n,hk,rfl,hu,rfl⟩:=hrel;have Hu:=Z hu;clear hu;by_cases aP:k<4
  ·go_wp2_with fail;refine(Lc u _ w n).mono ?_;rintro e w1 ⟨rfl,n2,rfl⟩;go_wp2_with fail
   go_roundw
   case rel=>exact⟨k+1,_,n2,J,by go_num,by rw[St.rounds,<-Hu.o],rfl⟩
   case measure=>simp[intOf];omega
  ·obtain rfl:k=4:=J
   have yV:St.final r1=xor (xor (xor u.a u.b) u.c) u.d:=by rw[Hu.o];rfl
   have aaP:=Z yV;clear Hu Hx;have rx:=Hmk.o (xor (xor (xor u.a u.b) u.c) u.d);clear Hmk yV;rw[hc u];go_wp2_with fail;clear rx;have XY:∀ X,xor (xor (xor u.a u.b) u.c) u.d=X->Hid (St.final r1=X):=λX h=>aaP.trans h;generalize hX:xor (xor (xor u.a u.b) u.c) u.d=X;have aaP:=XY X hX;clear XY hX;clear YS aP hk;obtain⟨w2,UI⟩:∃ w2,w2=w.alloc (.cells #[.int .u64 u.a.toNat,.int .u64 u.b.toNat,.int .u64 u.c.toNat,.int .u64 u.d.toNat] 184):=⟨_,rfl⟩
   have cJ:w2.heap.size=w.heap.size+1:=by rw[UI];simp
   rw[<-UI,<-cJ];obtain⟨Hw2,Hsz⟩:=K2 UI cJ;clear UI cJ
   go_loopw [6,46] (λ_ i wr=>∃(k:Nat) (n:Nat),k<=8/\i=.int .i64 k/\wr=(w2.alloc (.cells (jo X k) 5)).drewN n) (λ_ i _=>8-(intOf i).toNat)
   case atStart=>exact⟨0,n,J,rfl,rfl⟩
   case round=>
    obtain⟨k,n3,hk,rfl,rfl⟩:=hrel;by_cases aP:k<8
    ·have hg:=UO X k aP;have hby:=AM X k aP;go_wp2_with fail;clear hg hby
     go_roundw
     case rel=>exact⟨k+1,n3,J,by go_num,by rw[UN X k aP]⟩
     case measure=>simp[intOf];omega
    ·obtain rfl:k=8:=J
     have ym:∀ j,j<8->((w2.alloc (.cells (jo X 8) 5)).drewN n3).cell? ⟨w2.heap.size,0+j,none⟩=(gg (uO X))[j]?:=λj hj=>by
      rw[World.cell?_drewN,awR,World.cell?_alloc_at _ _ _ _ rfl]
      match j,hj with
      |0,_=>rfl
      |1,_=>rfl
      |2,_=>rfl
      |3,_=>rfl
      |4,_=>rfl
      |5,_=>rfl
      |6,_=>rfl
      |7,_=>rfl
     have dh:=pq (P:=prog) ((w2.alloc (.cells (jo X 8) 5)).drewN n3) 131 9 5 w2.heap.size 0 8 8 (uO X) underlying131 underlying5 underlying9 rfl ym;have Hm:Hid (af w ((w2.alloc (.cells (jo X 8) 5)).drewN n3)):=by rw[Hw2.o];exact(((ai.refl _ _).alloc _).alloc _).drewN _
     clear ym;go_wp2;go_ret;refine⟨?_,Hm.o⟩;rw[CV,Hr1.o,aaP.o];rfl
def nJ (key:List UInt8):St:=
 let k:=qw (key.take 8)
 let l:=qw (key.drop 8)
 ⟨xor k 8317987319222330741,xor l 7237128888997146477,xor k 7816392313619706465,xor l 8387220255154660723⟩
theorem UP (x y:UInt64)(n:Int)(h:n=(y.toNat:Int)):bits .xor .u64 (x.toNat:Int) n=((xor x y).toNat:Int):=by
 rw[h,fi]
theorem JP (key:List UInt8)(w:World)(hk:key.length=16):
  Calls prog 58 #[.string ⟨key.toArray⟩] w λe w'=>e=.returned (.tuple #[.pointer (some ⟨w.heap.size,0,none⟩),.int .i64 0])/\∃ n,(w.alloc (.cells (eH (nJ key) [] 0) 186)).drewN n=w':=by
 have FU:((key.length:Int) != 16)=false:=by rw[bne_eq_false_iff_eq];omega
 have hk1:(key.length:Int)<=16:=J
 have dK:16<=(key.length:Int):=J
 have dr:key.length<=16:=J
 have jE:16<=key.length:=J
 clear hk;go_enter func58,ntmps58;go_wp2_with fail
 go_quiet ((exact awW (sN _ _ (by first|omega|(simp;done)|(simp;omega)))))
 go_wp2;go_ret2;refine⟨rfl,nq,?_⟩;rw[UP _ 8317987319222330741 8317987319222330741 rfl,UP _ 7237128888997146477 7237128888997146477 rfl,UP _ 7816392313619706465 7816392313619706465 rfl,UP _ 8387220255154660723 8387220255154660723 rfl];rfl
end
section
open Go.RowKit
def Oz (key s:List UInt8):List UInt8:=let r:=dI (nJ key) s;CV r.1 r.2 s.length
theorem og (v:St)(s:List UInt8):(dI v s).2.length<8:=by
 generalize hn:s.length=n
 induction n using Nat.strongRecOn generalizing v s with
 |_ n ih=>
  by_cases h:8<=s.length
  ·rw[lp v s h];exact ih (s.length-8) J _ _ sp7
  ·rw[qy v s h];simp;omega
theorem Pe (key s:List UInt8)(w:World)(hk:key.length=16)(hs:s.length<=9223372036854775799):
  Calls prog 24 #[.string ⟨key.toArray⟩,.string ⟨s.toArray⟩] w λe w'=>e=.returned (.tuple #[.string ⟨(Oz key s).toArray⟩,.int .i64 0])/\af w w':=by
 go_enter func24,ntmps24;go_wp2_with fail;refine(JP key w hk).mono ?_;rintro e w' ⟨rfl,n,rfl⟩;clear hk;have hb:w.heap.size<(w.alloc (.cells (eH (nJ key) [] 0) 186)).heap.size:=by simp
 have hW:=zq w.heap.size (nJ key) [] s 0 (w.alloc (.cells (eH (nJ key) [] 0) 186)) n hb sp7 J;rw[iM,iM,awE,awR]at hW;have HW:=Z hW;clear hW hb;go_wp2_with fail;refine HW.mono ?_;rintro e w' ⟨rfl,n1,rfl⟩;clear HW;have aem:Oz key s=CV (dI (nJ key) s).1 (dI (nJ key) s).2 s.length:=rfl;have hr:=og (nJ key) s;generalize NZ:dI (nJ key) s=r at*;clear NZ;have hS:=JO w.heap.size r.1 r.2 s.length _ (cf (av w (eH r.1 r.2 s.length) 186) n1) hr J;rw[<-aem]at hS;have HS:=Z hS;clear hS aem hr;go_wp2_with fail;refine HS.mono ?_;rintro e w' ⟨rfl,hk⟩;have Hk:=Z ((((ai.refl (λ_=>False) w).alloc (.cells (eH r.1 r.2 s.length) 186)).drewN n1).keep hk);clear HS hk;go_wp2;go_ret2;exact⟨rfl,Hk.o⟩
end
def aq (s:List UInt8)(n:Nat):Bool:=match s[n/8]? with
 |some b=>b.toNat.testBit (n%8)
 |none=>false
def least (s:List UInt8):List UInt8:=(s.reverse.dropWhile (·==0)).reverse
def eP (s:List UInt8):Prop:=s.getLast?≠some 0
def oh (f:UInt8->UInt8->UInt8)(a b:List UInt8):List UInt8:=least ((List.range (max a.length b.length)).map λi=>f (a.getD i 0) (b.getD i 0))
def dZ (a b:List UInt8):List UInt8:=oh (·|||·) a b
def bV (a b:List UInt8):List UInt8:=oh (λx y=>x&&&~~~y) a b
def cL (s:List UInt8):List Nat:=(List.range (8*s.length)).filter λn=>aq s n
def jF (s:List UInt8):Nat:=(cL s).length
def fW (s:List UInt8)(a b:Nat):Option Nat:=(List.range' a (b-a)).find? λn=>!aq s n
def gm (s:List UInt8)(a:Nat):Option Nat:=(List.range' a (8*s.length-a)).find? λn=>aq s n
def iE (l:List Nat):List UInt8:=least ((List.range (l.foldl max 0/8+1)).map λi=>UInt8.ofNat ((List.range 8).foldl (λa k=>if l.contains (8*i+k)then a+2 ^ k else a) 0))
theorem mO (s:List UInt8)(b:UInt8):least (s++[b])=if b=0 then least s else s++[b]:=by
 unfold least;rw[List.reverse_append,List.reverse_singleton,List.singleton_append,List.dropWhile_cons];by_cases h:b=0
 ·simp[h]
 ·simp[h]
theorem pr {α:Type _}{P:List α->Prop}(h0:P [])(h1:∀ s b,P s->P (s++[b])):∀ s,P s:=by
 intro s;rw[<-List.reverse_reverse s]
 induction s.reverse with
 |nil=>exact h0
 |cons b r ih=>rw[List.reverse_cons];exact h1 _ _ ih
theorem jp (s:List UInt8):eP (least s):=by
 induction s using pr with
 |h0=>simp[eP,least]
 |h1 s b ih=>
  rw[mO];split
  ·exact ih
  ·rename_i h;simp[eP,h]
theorem l9 (h:8*s.length<=n):aq s n=false:=by
 unfold aq;rw[awY J]
theorem AO (h:aq s n=true):n<8*s.length:=by
 by_cases hn:8*s.length<=n
 ·rw[l9 hn]at h;cases h
 ·omega
theorem mP (s:List UInt8)(n:Nat):aq (least s) n=aq s n:=by
 induction s using pr with
 |h0=>rfl
 |h1 s b ih=>
  rw[mO];split
  ·rename_i h
   rw[ih];unfold aq;by_cases hn:n/8<s.length
   ·rw[List.getElem?_append_left hn]
   ·rw[List.getElem?_append_right J,awY J];subst h
    cases hk:n/8-s.length with
    |zero=>simp
    |succ k=>simp
  ·rfl
theorem vw {a b:UInt8}(h:∀ k,k<8->a.toNat.testBit k=b.toNat.testBit k):a=b:=by
 apply UInt8.toNat_inj.1;apply Nat.eq_of_testBit_eq;intro i;by_cases hi:i<8
 ·exact h i hi
 ·have ha:a.toNat<2 ^ i:=awg a.toNat_lt (awA dc7 (by omega:8<=i));have hb:b.toNat<2 ^ i:=awg b.toNat_lt (awA dc7 (by omega:8<=i));rw[Nat.testBit_lt_two_pow ha,Nat.testBit_lt_two_pow hb]
theorem dw {i k:Nat}(hk:k<8):aq s (8*i+k)=(s.getD i 0).toNat.testBit k:=by
 unfold aq;rw[show(8*i+k)/8=i by omega,show(8*i+k)%8=k by omega]
 cases h:s[i]? with
 |none=>simp[List.getD,h]
 |some b=>simp[List.getD,h]
theorem vx {b:UInt8}(h:b≠0):∃ k,k<8/\b.toNat.testBit k=true:=by
 apply awZ;intro hn;apply h;apply vw;intro k hk;have:¬ b.toNat.testBit k=true:=λhb=>hn ⟨k,hk,hb⟩;simp at this;simp[this]
theorem zr {a b:List UInt8}(ha:eP a)(h:∀ n,aq a n=true->aq b n=true):a.length<=b.length:=by
 rcases List.eq_nil_or_concat a with rfl|⟨r,x,rfl⟩
 ·simp
 ·rw[List.concat_eq_append]at*;have hx:x≠0:=by simpa[eP]using ha
  obtain⟨k,hk,hb⟩:=vx hx;have h1:aq (r++[x]) (8*r.length+k)=true:=by rw[dw hk];simpa[List.getD]using hb
  have:=AO (h _ h1);simp;omega
theorem JQ {a b:List UInt8}(ha:eP a)(hb:eP b)(h:∀ n,aq a n=aq b n):a=b:=by
 have h1:=zr ha (λn hn=>(h n).symm.trans hn);have h2:=zr hb (λn hn=>(h n).trans hn);have hl:a.length=b.length:=J
 apply List.ext_getElem hl;intro i hi hi';apply vw;intro k hk;have:=h (8*i+k);rw[dw hk,dw hk]at this;simpa[List.getD,hi,hi']using this
theorem CW {f:UInt8->UInt8->UInt8}{g:Bool->Bool->Bool}(hf:∀ x y k,k<8->(f x y).toNat.testBit k=g (x.toNat.testBit k) (y.toNat.testBit k))(hg:g false false=false)(a b:List UInt8)(n:Nat):
  aq (oh f a b) n=g (aq a n) (aq b n):=by
 unfold oh;rw[mP];obtain⟨i,k,hk,rfl⟩:∃ i k,k<8/\n=8*i+k:=⟨n/8,n%8,J,J⟩
 rw[dw hk,dw hk,dw hk,<-hf _ _ _ hk];by_cases hi:i<max a.length b.length
 ·simp[List.getD,hi]
 ·have h1:a.getD i 0=0:=by simp[List.getD,awY (show a.length<=i by omega)]
  have h2:b.getD i 0=0:=by simp[List.getD,awY (show b.length<=i by omega)]
  rw[h1,h2,hf _ _ _ hk];simp[List.getD,awY (show((List.range (max a.length b.length)).map _).length<=i by simp only[awz,List.length_range];omega),hg]
theorem iN (a b:List UInt8)(n:Nat):aq (dZ a b) n=(aq a n||aq b n):=
 CW (f:=(·|||·)) (g:=(·||·)) (λx y k _=>by rw[UInt8.toNat_or,Nat.testBit_or]) rfl a b n
theorem UQ (y:UInt8)(k:Nat)(hk:k<8):(~~~y).toNat.testBit k = !(y.toNat.testBit k):=by
 have:(~~~y).toNat=255-y.toNat:=by
  rw[UInt8.toNat_not];rfl
 rw[this,show 255-y.toNat=2 ^ 8-(y.toNat+1) by have:=y.toNat_lt;omega,Nat.testBit_two_pow_sub_succ y.toNat_lt];simp[hk]
theorem pu (a b:List UInt8)(n:Nat):aq (bV a b) n=(aq a n&&!aq b n):=
 CW (f:=λx y=>x&&&~~~y) (g:=λp q=>p&&!q) (λx y k hk=>by rw[UInt8.toNat_and,Nat.testBit_and,UQ y k hk]) rfl a b n
theorem gE (f:UInt8->UInt8->UInt8)(a b:List UInt8):eP (oh f a b):=jp _
theorem fJ (n:Nat):aq [] n=false:=rfl
theorem rC:n∈cL s↔aq s n=true:=by
 unfold cL;rw[av1,aw0];exact⟨λh=>h.2,λh=>⟨AO h,h⟩⟩
theorem vy (s:List UInt8):(cL s).Nodup:=List.nodup_range.filter _
theorem ol (h:fW s a b=some n):a<=n/\n<b/\aq s n=false/\∀ m,a<=m->m<n->aq s m=true:=by
 unfold fW at h;have h1:=aw1 h;have h2:=aw2 h;rw[aw3]at h2;refine⟨h2.1,J,by simpa using h1,λm hm hn=>?_⟩;rw[List.find?_range'_eq_some]at h;have:=h.2.2 m hm J;simpa using this
theorem vz (h:fW s a b=none)(m:Nat)(hm:a<=m)(hn:m<b):aq s m=true:=by
 unfold fW at h;rw[aw4]at h;have:=h m (by rw[aw3];omega);simpa using this
theorem Pf (s:List UInt8)(h:a<b):fW s a b=if aq s a=true then fW s (a+1) b else some a:=by
 unfold fW;rw[show b-a=(b-(a+1))+1 by omega,List.range'_succ,List.find?_cons]
 cases aq s a<;>simp
theorem UR (s:List UInt8)(h:b<=a):fW s a b=none:=by
 unfold fW;rw[show b-a=0 by omega];rfl
theorem zt (p:Nat->Bool)(k:Nat)(hk:k<8):(UInt8.ofNat ((List.range 8).foldl (λa j=>if p j then a+2 ^ j else a) 0)).toNat.testBit k=p k:=by
 have key:∀ b0 b1 b2 b3 b4 b5 b6 b7:Bool,∀ k:Fin 8,(UInt8.ofNat ((List.range 8).foldl (λa j=>if [b0,b1,b2,b3,b4,b5,b6,b7].getD j false then a+2 ^ j else a) 0)).toNat.testBit k.1=[b0,b1,b2,b3,b4,b5,b6,b7].getD k.1 false:=by decide +kernel
 have h:=key (p 0) (p 1) (p 2) (p 3) (p 4) (p 5) (p 6) (p 7) ⟨k,hk⟩;have e:∀ j,j<8->[p 0,p 1,p 2,p 3,p 4,p 5,p 6,p 7].getD j false=p j:=by
  intro j hj;rcases j with _|_|_|_|_|_|_|_|j<;>first|rfl|omega
 have e2:(List.range 8).foldl (λa j=>if [p 0,p 1,p 2,p 3,p 4,p 5,p 6,p 7].getD j false then a+2 ^ j else a) 0=(List.range 8).foldl (λa j=>if p j then a+2 ^ j else a) 0:=by
  simp[List.range_succ]
 rw[e2,e k hk]at h;exact h
theorem tW (l:List Nat)(m:Nat):m<=l.foldl max m/\∀ n∈l,n<=l.foldl max m:=by
 induction l generalizing m with
 |nil=>simp
 |cons x l ih=>
  obtain⟨h1,h2⟩:=ih (max m x);refine⟨by simp only[List.foldl_cons];omega,λn hn=>?_⟩;simp only[List.foldl_cons];rcases aws.1 hn with rfl|hn
  ·omega
  ·exact h2 n hn
theorem vA (l:List Nat)(n:Nat):aq (iE l) n=l.contains n:=by
 unfold iE;rw[mP];obtain⟨i,k,hk,rfl⟩:∃ i k,k<8/\n=8*i+k:=⟨n/8,n%8,J,J⟩
 rw[dw hk];by_cases hi:i<l.foldl max 0/8+1
 ·simp only[List.getD,aw5,aw6 hi,aw7,awG];rw[zt (λj=>l.contains (8*i+j)) k hk]
 ·rw[List.getD,awY (by simp only[awz,List.length_range];omega)];have:¬(8*i+k)∈l:=λhm=>by have:=(tW l 0).2 _ hm;omega
  simp[this]
theorem Ld (l:List Nat):eP (iE l):=jp _
abbrev ay:=List UInt8
abbrev Rd:=Int->Except Int ay
def bQ (n each:Nat):Nat:=(n+each-1)/each
def ax (size:Nat):List Nat:=
 let n:=bQ size 240
 if n=0 then []else if n=1 then [1]else if n<=60 then [n,1]else [n,bQ n 60,1]
def XJ (n:Int):ay:=[UInt8.ofNat (n.toNat%256),UInt8.ofNat (n.toNat/256%256),UInt8.ofNat (n.toNat/65536%256),UInt8.ofNat (n.toNat/16777216%256)]
def co:ay->List Int
 |a::b::c::d::r=>((a.toNat+256*b.toNat+65536*c.toNat+16777216*d.toNat:Nat):Int)::co r
 |_=>[]
def cM (l:List Int):ay:=l.flatMap XJ
abbrev rt:=List (Nat×Int)×ay
def cH (f:Nat->Int->Except Int rt):Nat->List Int->Except Int rt
 |_,[]=>.ok ([],[])
 |i,n::r=>match f i n with
  | .error e=>.error e
  | .ok a=>match cH f (i+1) r with
   | .error e=>.error e
   | .ok b=>.ok (a.1++b.1,a.2++b.2)
def nK (rd:Rd)(ch:Bool)(size:Nat):Nat->Nat->Int->Except Int rt
 |0,i,num=>if ch=true then match rd num with
   | .error e=>.error e
   | .ok s=>if s.length≠min (size-240*i) 240 then .error 110 else .ok ([(0,num)],s)
  else .ok ([(0,num)],[])
 |l+1,i,num=>match rd num with
  | .error e=>.error e
  | .ok s=>if s.length≠4*min ((ax size).getD l 0-60*i) 60 then .error 110 else
    match cH (nK rd ch size l) (60*i) (co s)with
    | .error e=>.error e
    | .ok o=>.ok ((l+1,num)::o.1,o.2)
def bL (o:List (Nat×Int))(l:Nat):List Int:=(o.filter λx=>x.1==l).map (·.2)
def dG (o:List (Nat×Int)):List Int:=o.map (·.2)
structure fI where
 root:Int
 size:Int
deriving DecidableEq
def fI.may (b:fI):Bool:=decide (0<=b.size)&&decide (b.size<=16384)&&(decide (b.root=0)==decide (b.size=0))
def d7 (rd:Rd)(b:fI)(ch:Bool):Except Int rt:=
 if b.may=false then .error 110 else if b.size=0 then .ok ([],[])else nK rd ch b.size.toNat ((ax b.size.toNat).length-1) 0 b.root
def oo (rd:Rd)(b:fI):Except Int (List Int):=(d7 rd b false).map (dG ·.1)
def nL (b:fI)(o:List (Nat×Int)):List (List Int):=(List.range (ax b.size.toNat).length).map (bL o)
structure Pl where
 used:ay
 taken:ay
 blocks:Nat
 next:Nat
 left:Nat
def Pl.seek (p:Pl):Nat:=((fW p.used p.next p.blocks).orElse λ_=>fW p.used 1 p.blocks).getD (p.next-1)
def Pl.take (p:Pl):Except Int (Nat×Pl):=if p.left=0 then .error 101 else
 let n:=p.seek
 .ok (n,{ p with used:=dZ p.used (iE [n]),taken:=dZ p.taken (iE [n]),next:=n+1,left:=p.left-1 })
def gp (used:ay)(blocks next:Nat):Pl:=⟨used,[],blocks,next,((List.range' 1 (blocks-1)).filter λn=>!aq used n).length⟩
def lM (rd:Rd)(n:Int)(s:ay):Rd:=λk=>if k=n then .ok s else rd k
def aQ (s:ay)(i:Nat):ay:=(s.drop (i*240)).take 240
def aY (l:List Int)(i:Nat):List Int:=(l.drop (i*60)).take 60
structure gy where
 rd:Rd
 pool:Pl
def ik (stay:Nat->Option Int)(s:Nat->ay):Nat->Nat->gy->Except Int (List Int×gy)
 |0,_,t=>.ok ([],t)
 |f+1,i,t=>match stay i with
  |some n=>(ik stay s f (i+1) t).map λr=>(n::r.1,r.2)
  |none=>match t.pool.take with
   | .error _=>.error 112
   | .ok (n,p)=>(ik stay s f (i+1) ⟨lM t.rd n (s i),p⟩).map λr=>((n:Int)::r.1,r.2)
def fR (br data:ay)(was:List (List Int))(i:Nat):Option Int:=if aQ data i=aQ br i then some ((was.getD 0 []).getD i 0)else none
def eC (alike:Bool)(was:List (List Int))(now:List Int)(bw i:Nat):Option Int:=
 if alike=true/\i<(was.getD bw []).length/\cM (aY now i)=cM (aY (was.getD (bw-1) []) i)then some ((was.getD bw []).getD i 0)else none
def qz (alike:Bool)(was:List (List Int)):List Nat->Nat->List Int->gy->Except Int (List (List Int)×gy)
 |[],_,_,t=>.ok ([],t)
 |m::r,bw,now,t=>match ik (eC alike was now bw) (λi=>cM (aY now i)) m 0 t with
  | .error e=>.error e
  | .ok (next,t1)=>(qz alike was r (bw+1) next t1).map λx=>(next::x.1,x.2)
def kp (br data:ay)(was:List (List Int))(t:gy):Except Int (List (List Int)×gy):=
 match ax data.length with
 |[]=>.ok ([],t)
 |m::r=>match ik (fR br data was) (aQ data) m 0 t with
  | .error e=>.error e
  | .ok (now,t1)=>(qz (was.length==r.length+1) was r 1 now t1).map λx=>(now::x.1,x.2)
def iF (l:List (List Int)):Int:=((l.getLastD []).getD 0 0)
def dz (t:gy)(old:fI)(data:ay):Except Int (fI×gy):=
 if 16384<data.length then .error 111 else match d7 t.rd old true with
  | .error e=>.error e
  | .ok w=>(kp w.2 data (nL old w.1) t).map λx=>(if data.length=0 then⟨0,0⟩else⟨iF x.1,data.length⟩,x.2)
structure Dk where
 stays:List ay
 lo:List (Nat×ay)
def ec (lo:List (Nat×ay))(n:Nat):Option ay:=(lo.find? λx=>x.1==n).map (·.2)
def jq (lo:List (Nat×ay))(n:Nat)(s:ay):List (Nat×ay):=if(ec lo n).isSome=true then lo.map (λx=>if x.1==n then(n,s)else x)else lo++[(n,s)]
def Dk.get (d:Dk)(n:Nat):ay:=match ec d.lo n with
 |some s=>s
 |none=>d.stays.getD n []
def Dk.put (d:Dk)(n:Nat)(s:ay):Dk:={ d with lo:=jq d.lo n s }
def Dk.sync (d:Dk):Dk:=⟨(List.range d.stays.length).map d.get,[]⟩
def Dk.size (d:Dk):Nat:=d.stays.length
structure yH (d:Dk):Prop where
 each:∀ s∈d.stays,s.length=64
 lo:∀ x∈d.lo,x.1<d.stays.length/\x.2.length=64
 one:(d.lo.map (·.1)).Nodup
 many:d.stays.length<=16384
theorem Gy {lo:List (Nat×ay)}:ec lo n=none↔∀ x∈lo,x.1≠n:=by
 unfold ec;rw[Option.map_eq_none_iff,aw4];simp
theorem pw (lo:List (Nat×ay))(n m:Nat)(s:ay):ec (jq lo n s) m=if m=n then some s else ec lo m:=by
 unfold jq;split
 ·rename_i h
  unfold ec at h ⊢;rw[List.find?_map,Option.map_map];by_cases hm:m=n
  ·subst hm;rw[awd rfl];have e:((λx:Nat×ay=>x.1==m)∘λx:Nat×ay=>if(x.1==m)=true then(m,s)else x)=λx=>x.1==m:=by
    funext x
    simp only[Function.comp];split
    ·rename_i hx;simp at hx;simp[hx]
    ·rfl
   rw[e]
   cases hf:lo.find? λx=>x.1==m with
   |none=>rw[hf]at h;cases h
   |some x=>
    have hx:=aw1 hf;simp only[aw7,Function.comp];rw[awd hx]
  ·rw[awf hm];have e:((λx:Nat×ay=>x.1==m)∘λx:Nat×ay=>if(x.1==n)=true then(n,s)else x)=λx=>x.1==m:=by
    funext x
    simp only[Function.comp];split
    ·rename_i hx
     simp only[awJ]at hx;rw[hx]
    ·rfl
   rw[e]
   cases hf:lo.find? λx=>x.1==m with
   |none=>rfl
   |some x=>
    have hx:=aw1 hf;simp only[awJ]at hx;simp only[aw7,Function.comp];rw[awf (by simp only[awJ];omega)]
 ·rename_i h
  have hn:ec lo n=none:=by simpa using h
  unfold ec at hn ⊢;rw[List.find?_append,List.find?_singleton];by_cases hm:m=n
  ·subst hm;rw[Option.map_eq_none_iff]at hn;rw[hn,awd rfl];simp
  ·rw[awf hm,awf (by simp;omega)];simp
theorem JR (d:Dk)(n m:Nat)(s:ay):(d.put n s).get m=if m=n then s else d.get m:=by
 unfold Dk.get Dk.put;simp only[pw];split
 ·rename_i h;split at h
  ·rename_i hm;injection h with h;rw[awd hm,h]
  ·rename_i hm;rw[awf hm,h]
 ·rename_i h;split at h
  ·cases h
  ·rename_i hm;rw[awf hm,h]
theorem rD {d:Dk}(n:Nat)(h:n<d.size):d.sync.get n=d.get n:=by
 unfold Dk.sync;show(match ec [] n with|some s=>s|none=>((List.range d.stays.length).map d.get).getD n [])=_;have:ec [] n=none:=rfl;rw[this];simp only[List.getD,aw5,aw6 (show n<d.stays.length from h)];rfl
theorem AP {d:Dk}(h:yH d)(hn:n<d.size):(d.get n).length=64:=by
 unfold Dk.get
 cases hg:ec d.lo n with
 |none=>
  simp only;rw[List.getD,av6 (show n<d.stays.length from hn)];exact h.each _ (awF _)
 |some s=>
  unfold ec at hg;rw[axg]at hg;obtain⟨x,hx,rfl⟩:=hg;exact(h.lo x (aw2 hx)).2
theorem ft (d:Dk)(n:Nat)(s:ay):(d.put n s).size=d.size:=rfl
theorem dx (d:Dk):d.sync.size=d.size:=by simp[Dk.sync,Dk.size]
theorem Zx {d:Dk}(h:yH d)(hn:n<d.size){s:ay}(hs:s.length=64):yH (d.put n s):=by
 refine⟨h.each,λx hx=>?_,?_,h.many⟩
 ·have WZ:x∈jq d.lo n s:=hx;unfold jq at WZ;split at WZ
  ·obtain⟨y,hy,rfl⟩:=awB.1 WZ;split
   ·exact⟨hn,hs⟩
   ·exact h.lo y hy
  ·rcases aw8.1 WZ with WZ|WZ
   ·exact h.lo x WZ
   ·simp at WZ;subst WZ;exact⟨hn,hs⟩
 ·show((jq d.lo n s).map (·.1)).Nodup;unfold jq;split
  ·rw[awv];have:((λx:Nat×ay=>x.1)∘λx=>if(x.1==n)=true then(n,s)else x)=λx=>x.1:=by
    funext x
    simp only[Function.comp];split
    ·rename_i hx;simp at hx;simp[hx]
    ·rfl
   rw[this];exact h.one
  ·rename_i lh
   rw[List.map_append,List.nodup_append];refine⟨h.one,by simp,?_⟩;intro a ha b hb;obtain⟨x,hx,rfl⟩:=awB.1 ha;simp at hb;subst hb;exact Gy.1 (by simpa using lh) x hx
theorem UT {d:Dk}(h:yH d):yH d.sync:=by
 refine⟨λs hs=>?_,λx hx=>by simp[Dk.sync]at hx,by simp[Dk.sync],?_⟩
 ·obtain⟨n,hn,rfl⟩:=awB.1 hs;rw[aw0]at hn;exact AP h hn
 ·show((List.range d.stays.length).map d.get).length<=16384;simpa using h.many
theorem px {α:Type}[DecidableEq α]:∀ {a b:List α},a.Nodup->(∀ x∈a,x∈b)->a.length<=b.length
 |[],b,_,_=>by simp
 |x::a,b,hn,hs=>by
  rw[List.nodup_cons]at hn;have hx:=hs x sp7;have:=px (a:=a) (b:=b.erase x) hn.2 λy hy=>(List.mem_erase_of_ne (λe=>by subst e;exact hn.1 hy)).2 (hs y (by simp[hy]));rw[List.length_erase_of_mem hx]at this;have:=List.length_pos_of_mem hx;simp;omega
theorem Zy {d:Dk}(h:yH d):d.lo.length<=d.size:=by
 have:=px h.one (b:=List.range d.size) (λx hx=>by
  obtain⟨y,hy,rfl⟩:=awB.1 hx;rw[aw0];exact(h.lo y hy).1)
 simpa using this
end Go.Proofs.YtkghpdcloaiflaaGreatDoor
