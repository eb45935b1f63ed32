import Derived.Test.YtkghpdcloaiflaaGreatDoorH39
import Derived.LaidEql
import Derived.Stop.Asserts
import Derived.RowKitTokens
set_option maxHeartbeats 16000000
set_option maxRecDepth 100000
namespace Go.Proofs.YtkghpdcloaiflaaGreatDoor
open _root_.Go.Proofs.Tryz
section
section
open Go.RowKit
abbrev yT (w:World)(r:Nat)(s:List UInt8):Prop:=World.blk w r #[.string ⟨s.toArray⟩,.nilIface] 139
theorem tB (s:List UInt8)(w:World):Calls prog 38 #[.string ⟨s.toArray⟩] w λe w'=>e=.returned (.pointer (some ⟨w.heap.size,0,none⟩))/\yT w' w.heap.size s/\af w w':=by
 go_enter func38,ntmps38;go_wp2;go_ret;exact⟨rfl,av _ _ _,(ai.refl _ _).alloc _⟩
theorem Z5 (a b s:Nat)(ha:a<2 ^ s)(hb:a+b*2 ^ s<9223372036854775808):bits .or .i64 (a:Int) ((b*2 ^ s:Nat):Int)=((a+b*2 ^ s:Nat):Int):=by
 have e:=Nat.two_pow_add_eq_or_of_lt ha b;rw[Nat.mul_comm,Nat.or_comm]at e;have e1:(BitVec.ofInt 64 (a:Int)|||BitVec.ofInt 64 ((b*2 ^ s:Nat):Int)).toNat=a+b*2 ^ s:=by
  rw[BitVec.ofInt_natCast,BitVec.ofInt_natCast,BitVec.toNat_or,BitVec.toNat_ofNat,BitVec.toNat_ofNat,axt J,axt J,<-e];omega
 show IntKind.i64.wrap (((BitVec.ofInt 64 (a:Int)|||BitVec.ofInt 64 ((b*2 ^ s:Nat):Int)).toNat:Nat):Int)=_;rw[e1,IntKind.wrap_i64];omega
theorem List.drop_append_of_le_length' {a:List UInt8}{x:UInt8}{r:List UInt8}{k:Nat}(h:a.length+1=k):(a++([x]++r)).drop k=r:=by
 subst h;rw[<-awN,List.drop_append];simp
theorem adl (k:Nat):(2:Nat) ^ (7*(k+1))=128*2 ^ (7*k):=by rw[show 7*(k+1)=7+7*k by omega,Nat.pow_add]
theorem Wi {x:Int}(h:0<=x/\x<9223372036854775808):wrap64 x=x:=by unfold wrap64;omega
theorem BH (n:Nat)(rest:List UInt8)(most:Int)(r:Nat)(w:World)(h:yT w r (aD n++rest))(hn:n<=4611686018427387903)(hm:(n:Int)<=most)(hr:rest.length<=140737488351232):
  Calls prog 39 #[.pointer (some ⟨r,0,none⟩),.int .i64 most] w λe w'=>e=.returned (.tuple #[.int .i64 (n:Int),.int .i64 0])/\yT w' r rest/\ai (·=r) w w':=by
 have H:=Z h;have c0:w.cell? ⟨r,0,none⟩=some (.string ⟨(aD n++rest).toArray⟩):=aa h 0;have c1:w.cell? ⟨r,1,none⟩=some .nilIface:=aa h 1;have f0:w.frozen? ⟨r,0,none⟩=false:=ae h _ rfl;obtain⟨L,hL⟩:∃ L,aD n++rest=L:=⟨_,rfl⟩
 have hLl:(L.length:Int)<=9223372036854775807:=by rw[<-hL,awn];have:=aK (n:=n) J;omega
 rw[hL]at c0 H;obtain⟨HL,Hn,Hm⟩:=K3 hL hn hm;clear h hL hn hm;go_enter func39,ntmps39;go_wp2_with fail
 go_loop [6,7,8] (λa o i=>∃(k dm m:Nat) (pre:List UInt8),i=.int .i64 (k:Int)/\a=.int .i64 (dm:Int)/\o=.bool false/\Hid (aD n=pre++aD m/\pre.length=k/\n=dm+2 ^ (7*k)*m/\dm<2 ^ (7*k)/\(k≠0->m≠0))) (λ_ _ i=>(10-intOf i).toNat)
 case atStart=>exact⟨0,0,n,[],rfl,rfl,rfl,Z ⟨rfl,rfl,J,J,λh=>absurd rfl h⟩⟩
 case round=>
  obtain⟨k,dm,m,pre,rfl,rfl,rfl,HH⟩:=hrel;obtain⟨P,hP⟩:∃ P:Nat,2 ^ (7*k)=P:=⟨_,rfl⟩
  obtain⟨c,hc,CA⟩:∃ c:Nat,c<256/\c=(if m<128 then m else m%128+128):=⟨_,by split<;>omega,rfl⟩
  have tJ:L[k]?=some (UInt8.ofNat c):=by
   rw[<-HL.o,HH.1,awN,List.getElem?_append_right (by have:=HH.2.1;omega),HH.2.1,Nat.sub_self,CA];by_cases aP:m<128
   ·rw[eL aP,awd aP];rfl
   ·rw[jz aP,awf aP];rfl
  have hLL:k<L.length:=(awk.1 tJ).1;have hk9:k<=8:=by
   have h1:=aK (n:=n) (by have:=Hn.o;omega);have h2:=axi List.length HH.1;rw[awn,HH.2.1]at h2;have h3:1<=(aD m).length:=by
    by_cases aP:m<128
    ·rw[eL aP];simp
    ·rw[jz aP];simp
   omega
  have hl:((k:Int)==(L.length:Int))=false:=by rw[awO];omega
  have h9:((k:Int)==9)=false:=by rw[awO];omega
  have OZ:∀ W,(Instr.index 9 (.string ⟨L.toArray⟩) (.int .i64 (k:Int))).run prog W=.ok (.int .u8 (c:Int)) W:=λW=>by
   have h:=aM underlying9 L .i64 k (UInt8.ofNat c) J tJ W;have e8:((UInt8.ofNat c).toNat:Int)=c:=by simp;omega
   rw[e8]at h;exact h
  have hw7:IntKind.i64.wrap (7*(k:Int))=7*(k:Int):=by rw[IntKind.wrap_i64];omega
  obtain⟨V,hV⟩:∃ V:Nat,V=dm+c%128*P:=⟨_,rfl⟩
  have aaR:P*m=P*(m%128)+128*P*(m/128):=by
   conv=>lhs;rw[show m=m%128+128*(m/128) by omega,Nat.mul_add,<-axk,Nat.mul_comm P 128]
  have hcP:c%128=m%128:=by rw[CA];split<;>omega
  have Xv:V<=n/\(m<128->V=n)/\(¬ m<128->n=V+128*P*(m/128)/\V<128*P):=by
   have h1:=HH.2.2.1;have h2:=HH.2.2.2.1;rw[hP]at h1 h2;rw[aaR]at h1;have h3:c%128*P=P*(m%128):=by rw[hcP,Nat.mul_comm]
   have h4:P*(m%128)<=P*127:=awx _ J;rw[hV,h3];refine⟨by omega,λh=>?_,λ_=>⟨by omega,J⟩⟩;rw[show m/128=0 by omega,Nat.mul_zero]at h1;omega
  have Sr:c%128*P<4611686018427387904:=by have:=Xv.1;have:=Hn.o;omega
  have hwr:wrap64 ((c:Int)%128*2 ^ (7*k))=((c%128*2 ^ (7*k):Nat):Int):=by
   have e:((c:Int)%128*2 ^ (7*k))=((c%128*2 ^ (7*k):Nat):Int):=by simp
   rw[e,hP];exact Wi J
  have hor:bits .or .i64 (dm:Int) (wrap64 ((c:Int)%128*2 ^ (7*k)))=(V:Int):=by
   rw[hwr,Z5 dm (c%128) (7*k) HH.2.2.2.1 (by rw[hP];have:=Xv.1;have:=Hn.o;omega),hP,hV]
  have hV1:¬(4611686018427387903:Int)<(V:Int):=by have:=Xv.1;have:=Hn.o;omega
  have hV0:¬(V:Int)<0:=J
  have hVm:¬ most<(V:Int):=by have:=Xv.1;have:=Hm.o;omega
  obtain⟨HV,Hcm,HP,Cg⟩:=K4 Xv CA hP hk9;have dM:k≠0->c≠0:=λh=>by have:=HH.2.2.2.2 h;rw[CA];split<;>omega
  have WG:(k=0/\c=0)\/(k=0/\c≠0)\/(0<k/\c≠0):=by
   by_cases h:k=0
   ·omega
   ·have:=dM h;omega
  clear hV Xv CA tJ hP hwr aaR hcP Sr dM;rcases WG with⟨dM,WG⟩|⟨dM,WG⟩|⟨dM,WG⟩
  all_goals
   first
    |(have Sk:((c:Int)==0)=true:=by(rw[awJ];omega))
    |(have Sk:((c:Int)==0)=false:=by(rw[awO];omega))
   first
    |(have hk1:¬(0:Int)<k:=J)
    |(have hk1:(0:Int)<k:=J)
   clear dM WG;by_cases aP:m<128
   ·have aet:¬(128:Int)<=c:=by have:=Hcm.o;rw[awd aP]at this;omega
    have hVn:Hid (V=n):=Z (HV.2.1 aP);have SG:Hid (L.drop (k+1)=rest):=Z (by
     rw[<-HL.o,HH.1,eL aP,awN,List.drop_append_of_le_length' (by have:=HH.2.1;omega)])
    clear aP;go_wp2;go_ret2;exact⟨by rw[<-hVn.o];rfl,by rw[<-SG.o];exact ah H.o 0 _,(ai.refl (λx=>x=r) w).setCell (p:=⟨r,0,none⟩) (.inl rfl) _⟩
   ·have aet:(128:Int)<=c:=by have:=Hcm.o;rw[awf aP]at this;omega
    have HH2:Hid (aD n=(pre++[UInt8.ofNat (m%128+128)])++aD (m/128)/\(pre++[UInt8.ofNat (m%128+128)]).length=k+1/\n=V+2 ^ (7*(k+1))*(m/128)/\V<2 ^ (7*(k+1))/\(k+1≠0->m/128≠0)):=Z ⟨by rw[HH.1,jz aP];simp,by rw[awn,HH.2.1];rfl,by rw[adl,HP.o];exact(HV.2.2 aP).1,by rw[adl,HP.o];exact(HV.2.2 aP).2,λ_=>J⟩;clear aP;go_wp2_with fail;exact⟨⟨k+1,V,m/128,_,by go_num,rfl,rfl,HH2⟩,by have:=Cg.o;simp[intOf];omega⟩
theorem Fb (n:Nat):1<=(aD n).length:=by
 by_cases h:n<128
 ·rw[eL h];simp
 ·rw[jz h];simp
theorem Fe (s rest:List UInt8)(most:Int)(r:Nat)(w:World)(h:yT w r (aD s.length++(s++rest)))(hs:s.length<=1000)(hm:(s.length:Int)<=most)(db:most<=1000)(hr:rest.length<=900000):
  Calls prog 40 #[.pointer (some ⟨r,0,none⟩),.int .i64 most] w λe w'=>e=.returned (.tuple #[.string ⟨s.toArray⟩,.int .i64 0])/\yT w' r rest/\ai (·=r) w w':=by
 have H:=Z h;have FN:min most (65536:Int)=most:=J
 obtain⟨Hs,Hm,Hr⟩:=K3 hs hm hr;clear h hs hm hr db;go_enter func40,ntmps40;go_wp2_with fail;refine(BH s.length (s++rest) most r w H.o (by have:=Hs.o;omega) Hm.o (by have:=Hs.o;have:=Hr.o;rw[awn];omega)).mono ?_;rintro e w1 ⟨rfl,h1,iB⟩;obtain⟨H1,rl⟩:=K2 h1 iB;obtain⟨X,hX⟩:∃ X,s++rest=X:=⟨_,rfl⟩
 rw[hX]at h1 H1;have c0:w1.cell? ⟨r,0,none⟩=some (.string ⟨X.toArray⟩):=aa h1 0;have f0:w1.frozen? ⟨r,0,none⟩=false:=ae h1 _ rfl;obtain⟨N,hN⟩:∃ N,s.length=N:=⟨_,rfl⟩
 have hXl:N<=X.length/\X.length<=140737488351232:=by rw[<-hX,awn,hN];have:=Hs.o;have:=Hr.o;omega
 have KL:¬(X.length:Int)<N:=J
 have at3:(N:Int)<=X.length:=J
 have hN0:(0:Int)<=N:=J
 have Ht:Hid (X.take N=s):=Z (by rw[<-hX,<-hN,List.take_left' rfl]);have Hd:Hid (X.drop N=rest):=Z (by rw[<-hX,<-hN,List.drop_left' rfl]);rw[hN];clear h1 iB hX hN FN;go_wp2;go_ret2;refine⟨by rw[<-Ht.o];rfl,?_,rl.setCell (p:=⟨r,0,none⟩) (.inl rfl) _⟩;rw[<-Hd.o];exact ah H1.o 0 _
theorem Kq (r:Nat)(w:World)(h:yT w r []):Calls prog 41 #[.pointer (some ⟨r,0,none⟩)] w λe w'=>e=.returned (.int .i64 0)/\af w w':=by
 have c0:w.cell? ⟨r,0,none⟩=some (.string ⟨#[]⟩):=aa h 0;have c1:w.cell? ⟨r,1,none⟩=some .nilIface:=aa h 1;clear h;go_enter func41,ntmps41;go_wp2;go_ret;exact⟨rfl,ai.refl _ _⟩
end
section
open Go.RowKit Go.Extern.Stop Go.Stop Go.Extern
theorem Z6 (t:Value)(w:World):
  Calls prog 166 #[.nilIface,t] w λe w'=>e=.returned (.bool false)/\w'=w:=by
 go_enter func166,ntmps166
 go_wp2
 go_ret;exact⟨rfl,rfl⟩
theorem RK (t:Addr)(w:World):(ReflectliteValue.unpack (.iface 235 (.pointer (some t)))).run prog w
  = .ok (.agg #[.pointer (some ⟨9,235,none⟩),.pointer (some ⟨w.heap.size,0,none⟩),.int .u64 150]) (w.alloc (.cells #[.pointer (some t)] 235)):=kr7
theorem adm (a:Addr)(w:World):(ReflectliteValue.methodAny (ReflectliteValue.valueError "reflectlite.Value.Type" 0) (λt _ _ _=>ReflectliteType.toType t) #[.agg #[.pointer (some ⟨9,235,none⟩),.pointer (some a),.int .u64 150]]).run prog w
  = .ok (.iface 365 (.agg #[.pointer (some ⟨9,235,none⟩)])) w:=kr7
theorem I4 (h:Value)(w:World):(Go.method 583 365 (.agg #[h]) "Kind").run prog w=.ok (388,h) w:=kr7
theorem adn (w:World):((ReflectliteType.abiMethod λt=>(λa:Nat=>Value.int IntKind.u8 (a:Int)) <$> Rtype.kind t) #[.pointer (some ⟨9,235,none⟩)]).run prog w=.ok (.int .u8 22) w:=kr7
theorem ado (w:World):((ReflectliteType.abiMethod λt=>(λa:Nat=>Value.int IntKind.u8 (a:Int)) <$> Rtype.kind t) #[.pointer (some ⟨9,233,none⟩)]).run prog w=.ok (.int .u8 25) w:=kr7
theorem rlm (z:Sem Value)(f:TypeId->Addr->Nat->Nat->Sem Value)(v:Value):
  ReflectliteValue.method z f #[v]=(do match <-ReflectliteValue.parts v with|none=>z|some (t,a,fl)=>f t a fl (fl%32)):=rfl
theorem RL (a:Addr)(w:World):(ReflectliteValue.parts (.agg #[.pointer (some ⟨9,235,none⟩),.pointer (some a),.int .u64 150])).run prog w=.ok (some (235,a,150)) w:=kr7
theorem Z7 (a p:Addr)(W:World)(ha:W.cell? a=some (.pointer (some p))):
  (ReflectliteValue.method (ReflectliteValue.valueError "reflectlite.Value.IsNil" 0) ReflectliteValue.isNil #[.agg #[.pointer (some ⟨9,235,none⟩),.pointer (some a),.int .u64 150]]).run prog W=.ok (.bool false) W:=by
 rw[rlm];simp only[Sem.run_bind,RL,Result.andThen];simp[ReflectliteValue.isNil,loadVar,isAgg,underlying,underlying235,ha,Result.andThen]
theorem I5 (h:Value)(w:World):(Go.method 583 365 (.agg #[h]) "Elem").run prog w=.ok (406,.agg #[h]) w:=kr7
theorem tC (h:Value)(w:World):(Go.method 583 365 (.agg #[h]) "Implements").run prog w=.ok (407,.agg #[h]) w:=kr7
theorem qZ (h:Value)(w:World):(Go.method 583 365 (.agg #[h]) "AssignableTo").run prog w=.ok (404,.agg #[h]) w:=kr7
theorem adp (w:World):(ReflectliteType.method ReflectliteType.elem #[.agg #[.pointer (some ⟨9,235,none⟩)]]).run prog w=.ok (.iface 365 (.agg #[.pointer (some ⟨9,233,none⟩)])) w:=kr7
theorem Ff (w:World):(ReflectliteType.relation "Implements" ReflectliteType.implements_ #[.agg #[.pointer (some ⟨9,233,none⟩)],.iface 365 (.agg #[.pointer (some ⟨9,137,none⟩)])]).run prog w=.ok (.bool true) w:=kr7
theorem Wj (v:Value)(w:World):(ReflectliteType.typeOf #[.iface 233 v]).run prog w=.ok (.iface 365 (.agg #[.pointer (some ⟨9,233,none⟩)])) w:=kr7
theorem Fg (w:World):(ReflectliteType.relation "AssignableTo" ReflectliteType.assignableTo #[.agg #[.pointer (some ⟨9,233,none⟩)],.iface 365 (.agg #[.pointer (some ⟨9,233,none⟩)])]).run prog w=.ok (.bool true) w:=kr7
theorem RO (e:Int)(w:World):(ReflectliteValue.unpack (.iface 233 (.agg #[.int .i64 e]))).run prog w
  = .ok (.agg #[.pointer (some ⟨9,233,none⟩),.pointer (some ⟨w.heap.size,0,none⟩),.int .u64 153]) (w.alloc (.cells #[.int .i64 e] 233)):=kr7
theorem Wk (w:World):(Rtype.elem? 235).run prog w=.ok (some 233) w:=kr7
theorem mkW (p:Addr)(w:World):(ReflectliteValue.mk 233 p ReflectliteValue.flagAddr).run prog w=.ok (.agg #[.pointer (some ⟨9,233,none⟩),.pointer (some p),.int .u64 409]) w:=kr7
theorem Z8 (a p:Addr)(W:World)(ha:W.cell? a=some (.pointer (some p))):
  (ReflectliteValue.method (ReflectliteValue.valueError "reflectlite.Value.Elem" 0) ReflectliteValue.elem #[.agg #[.pointer (some ⟨9,235,none⟩),.pointer (some a),.int .u64 150]]).run prog W
   = .ok (.agg #[.pointer (some ⟨9,233,none⟩),.pointer (some p),.int .u64 409]) W:=by
 rw[rlm];simp only[Sem.run_bind,RL,Result.andThen];simp[ReflectliteValue.elem,loadVar,isAgg,underlying,underlying235,ha,Result.andThen,Wk,mkW]
theorem rls (v x:Value):ReflectliteValue.set #[v,x]=(do
  let (some (dst,a,fl),some (src,b,_)):=(<-ReflectliteValue.parts v,<-ReflectliteValue.parts x)
   |unsupported (.noEntry "extern/(internal/reflectlite.Value).Set.zeroValue")
  if fl/ReflectliteValue.flagAddr%2==0 then unsupported (.noEntry "extern/(internal/reflectlite.Value).Set.unaddressable")
  let val <-loadVar src b
  if <-Rtype.directlyAssignable dst src then storeVar dst a val
  else if <-Rtype.implements dst src then
   if(<-Rtype.kind src)==20 then
    match val with
    | .nilIface=>unsupported (.noEntry "extern/reflectlite: a nil value of one interface type handed on as a value of another")
    |_=>storeVar dst a val
   else storeVar dst a (.iface src val)
  else panicString ("reflectlite.Set: value of type " ++ (<-Rtype.spelt src)++ " is not assignable to type " ++ (<-Rtype.spelt dst))
  pure (.tuple #[])):=rfl
theorem Wl (a:Addr)(w:World):(ReflectliteValue.parts (.agg #[.pointer (some ⟨9,233,none⟩),.pointer (some a),.int .u64 409])).run prog w=.ok (some (233,a,409)) w:=kr7
theorem Z9 (a:Addr)(w:World):(ReflectliteValue.parts (.agg #[.pointer (some ⟨9,233,none⟩),.pointer (some a),.int .u64 153])).run prog w=.ok (some (233,a,153)) w:=kr7
theorem Wm (w:World):(Rtype.directlyAssignable 233 233).run prog w=.ok true w:=kr7
theorem adq (w:World):(sizeOf 233).run prog w=.ok 1 w:=kr7
theorem aiH (ta b:Addr)(e:Int)(old:Value)(W:World)(hb:W.cell? b=some (.int .i64 e))(ht:W.cell? ta=some old)(hf:W.frozen? ta=false):
  (ReflectliteValue.set #[.agg #[.pointer (some ⟨9,233,none⟩),.pointer (some ta),.int .u64 409],.agg #[.pointer (some ⟨9,233,none⟩),.pointer (some b),.int .u64 153]]).run prog W
   = .ok (.tuple #[]) (W.setCell ta (.int .i64 e)):=by
 rw[rls];simp only[Sem.run_bind,Wl,Z9,Result.andThen];simp[ReflectliteValue.flagAddr,loadVar,isAgg,underlying,underlying233,hb,Result.andThen,Wm,storeVar,Value.cells,storeCells,Addr.add,loadCells,loadCellsFrom];rw[run_store prog W ta _ _ (by rfl)];simp[ht,hf]
theorem aaa (e:Int)(t:Addr)(old:Value)(w:World)(hg:w.cell? ⟨0,0,none⟩=some (.iface 365 (.agg #[.pointer (some ⟨9,137,none⟩)])))(ht0:w.cell? t=some old)(hf0:w.frozen? t=false):
  Calls prog 166 #[.iface 233 (.agg #[.int .i64 e]),.iface 235 (.pointer (some t))] w λev w'=>ev=.returned (.bool true)/\w'=((((w.alloc (.cells #[.pointer (some t)] 235)).alloc (.cells #[.pointer (some ⟨9,235,none⟩),.pointer (some ⟨w.heap.size,0,none⟩),.int .u64 150] 313)).alloc (.cells #[.pointer (some ⟨9,235,none⟩),.pointer (some ⟨w.heap.size,0,none⟩),.int .u64 150] 313)).alloc (.cells #[.int .i64 e] 233)).setCell t (.int .i64 e):=by
 have h6:=@axn prog 227 _ (λargs=>ReflectliteValue.unpack (args.getD 0 (.tuple #[]))) func227 kr7 kr7 kr7 kr7;have h7:=@axn prog 228 _ (ReflectliteValue.methodAny (ReflectliteValue.valueError "reflectlite.Value.Type" 0) (λt _ _ _=>ReflectliteType.toType t)) func228 kr7 kr7 kr7 kr7;have h8:=@axn prog 229 _ (ReflectliteValue.method (ReflectliteValue.valueError "reflectlite.Value.IsNil" 0) ReflectliteValue.isNil) func229 kr7 kr7 kr7 kr7;have h27:=@axn prog 388 _ (ReflectliteType.abiMethod λt=>do pure (.int .u8 (<-Rtype.kind t))) func388 kr7 kr7 kr7 kr7;have h37:=@axn prog 406 _ (ReflectliteType.method ReflectliteType.elem) func406 kr7 kr7 kr7 kr7;have h38:=@axn prog 407 _ (ReflectliteType.relation "Implements" ReflectliteType.implements_) func407 kr7 kr7 kr7 kr7;have h10:=@axn prog 281 _ ReflectliteType.typeOf func281 kr7 kr7 kr7 kr7;have h35:=@axn prog 404 _ (ReflectliteType.relation "AssignableTo" ReflectliteType.assignableTo) func404 kr7 kr7 kr7 kr7;have h11:=@axn prog 282 _ (ReflectliteValue.method (ReflectliteValue.valueError "reflectlite.Value.Elem" 0) ReflectliteValue.elem) func282 kr7 kr7 kr7 kr7;have h12:=@axn prog 283 _ ReflectliteValue.set func283 kr7 kr7 kr7 kr7;have tO:=Wj;have mA:=qZ;have a25:=Fg;have v25:=RO;have f6:=RK;have f7:=adm;have mK:=I4;have mE:=I5;have mI:=tC;have k27:=adn;have k25:=ado;have e27:=adp;have i25:=Ff;have n8:=Z7 ⟨w.heap.size,0,none⟩ t ((w.alloc (.cells #[.pointer (some t)] 235)).alloc (.cells #[.pointer (some ⟨9,235,none⟩),.pointer (some ⟨w.heap.size,0,none⟩),.int .u64 150] 313)) sp7;have aP:0<w.heap.size:=am hg;have Cu:((w.alloc (.cells #[.pointer (some t)] 235)).alloc (.cells #[.pointer (some ⟨9,235,none⟩),.pointer (some ⟨w.heap.size,0,none⟩),.int .u64 150] 313)).cell? ⟨0,0,none⟩=some (.iface 365 (.agg #[.pointer (some ⟨9,137,none⟩)])):=by
  rw[World.cell?_alloc_lt _ _ ⟨0,0,none⟩ (by simp<;>omega),World.cell?_alloc_lt _ _ ⟨0,0,none⟩ aP];exact hg
 have sJ:t.block<w.heap.size:=am ht0;have el:=Z8 ⟨w.heap.size,0,none⟩ t (((w.alloc (.cells #[.pointer (some t)] 235)).alloc (.cells #[.pointer (some ⟨9,235,none⟩),.pointer (some ⟨w.heap.size,0,none⟩),.int .u64 150] 313)).alloc (.cells #[.pointer (some ⟨9,235,none⟩),.pointer (some ⟨w.heap.size,0,none⟩),.int .u64 150] 313)) (by rw[World.cell?_alloc_lt _ _ ⟨w.heap.size,0,none⟩ (by simp;omega)];simp);have st:=aiH t ⟨w.heap.size+1+1+1,0,none⟩ e old ((((w.alloc (.cells #[.pointer (some t)] 235)).alloc (.cells #[.pointer (some ⟨9,235,none⟩),.pointer (some ⟨w.heap.size,0,none⟩),.int .u64 150] 313)).alloc (.cells #[.pointer (some ⟨9,235,none⟩),.pointer (some ⟨w.heap.size,0,none⟩),.int .u64 150] 313)).alloc (.cells #[.int .i64 e] 233))
  (by rw[World.cell?_alloc_at _ _ _ _ sp7];rfl)
  (by rw[World.cell?_alloc_lt _ _ t (by simp;omega),World.cell?_alloc_lt _ _ t (by simp;omega),World.cell?_alloc_lt _ _ t (by simp;omega),World.cell?_alloc_lt _ _ t sJ];exact ht0)
  (by rw[World.frozen?_alloc_old _ _ t (by simp;omega),World.frozen?_alloc_old _ _ t (by simp;omega),World.frozen?_alloc_old _ _ t (by simp;omega),World.frozen?_alloc_old _ _ t (Nat.ne_of_lt sJ)];exact hf0)
 go_enter func166,ntmps166
 go_wp2
 refine wp_loop_rounds 1 ?_;rw[rounds_succ]
 go_wp2
 go_ret;exact⟨rfl,rfl⟩
def o6 (w:World):Prop:=w.cell? ⟨0,0,none⟩=some (.iface 365 (.agg #[.pointer (some ⟨9,137,none⟩)]))
theorem o6.keep {w w':World}(h:o6 w)(k:af w w'):o6 w':=by
 unfold o6 at*;rw[k.cell (p:=⟨0,0,none⟩) (am h) id];exact h
def xT:Option Int->Value
 |none=>.nilIface
 |some e=>.iface 233 (.agg #[.int .i64 e])
theorem xU (e:Option Int)(w:World)(hg:o6 w):Calls prog 88 #[xT e] w λev w'=>ev=.returned (.int .i64 (e.getD 0))/\af w w':=by
 have Hg:=Z hg;clear hg
 cases e with
 |none=>
  unfold xT;go_enter func88,ntmps88;go_wp2_with fail;refine(Z6 _ _).mono ?_;rintro e w1 ⟨rfl,rfl⟩;go_wp2;go_ret;exact⟨rfl,(ai.refl _ w).alloc _⟩
 |some e=>
  unfold xT;go_enter func88,ntmps88;go_wp2_with fail;have HB:Hid (World.blk (w.alloc (.cells #[.int .i64 0] 233)) w.heap.size #[.int .i64 0] 233):=Z (av _ _ _);have HG1:Hid (o6 (w.alloc (.cells #[.int .i64 0] 233))):=Z (Hg.keep ((ai.refl _ w).alloc _));refine(aaa e ⟨w.heap.size,0,none⟩ (.int .i64 0) _ HG1.o (aa HB.o 0) (ae HB.o _ rfl)).mono ?_;rintro ev w1 ⟨rfl,h1⟩;have hm:ai (·=w.heap.size) (w.alloc (.cells #[.int .i64 0] 233)) w1:=by
   rw[h1];exact(((((ai.refl (λb=>b=w.heap.size) _).alloc _).alloc _).alloc _).alloc _).setCell (p:=⟨w.heap.size,0,none⟩) (.inl rfl) _
  have hb:w1.cell? ⟨w.heap.size,0,none⟩=some (.int .i64 e):=by
   rw[h1];exact aa (ah (aE (aE (aE (aE HB.o _) _) _) _) 0 (.int .i64 e)) 0
  have HK:Hid (af w w1):=Z (((ai.refl (λ_=>False) w).alloc _).new hm (av9 _));clear h1 hm HB HG1;go_wp2;go_ret;exact⟨rfl,HK.o⟩
end
section
open Go.RowKit
abbrev jP (w:World)(r:Nat)(s:List UInt8)(e:Option Int):Prop:=World.blk w r #[.string ⟨s.toArray⟩,xT e] 139
theorem fG (s:List UInt8)(x:Option Int)(y:Int)(r:Nat)(w:World)(h:jP w r s x):Calls prog 89 #[.pointer (some ⟨r,0,none⟩),.int .i64 y] w λe w'=>e=.returned (.int .i64 y)/\jP w' r s (some y)/\ai (·=r) w w':=by
 have c1:w.cell? ⟨r,1,none⟩=some (xT x):=aa h 1;have f1:w.frozen? ⟨r,1,none⟩=false:=ae h _ rfl;have H:=Z h;clear h;go_enter func89,ntmps89;go_wp2;go_ret;exact⟨rfl,ah H.o 1 _,(ai.refl (λx=>x=r) w).setCell (p:=⟨r,1,none⟩) (.inl rfl) _⟩
def BJ (w:World)(r:Nat)(s:List UInt8)(e:Ending)(w':World):Prop:=
 ∃(n y:Int) (s':List UInt8) (x:Option Int),e=.returned (.tuple #[.int .i64 n,.int .i64 y])/\jP w' r s' x/\ai (·=r) w w'/\s'.length<=s.length/\0<=n/\n<=4611686018427387903
theorem RP (s:List UInt8)(y most:Int)(r:Nat)(w:World)(h:jP w r s (some y))(hg:o6 w):
  Calls prog 39 #[.pointer (some ⟨r,0,none⟩),.int .i64 most] w λe w'=>e=.returned (.tuple #[.int .i64 0,.int .i64 y])/\af w w':=by
 have c1:w.cell? ⟨r,1,none⟩=some (.iface 233 (.agg #[.int .i64 y])):=aa h 1;have hn:=xU (some y) w hg;have Hn:=Z hn;clear h hg hn;go_enter func39,ntmps39;go_wp2_with fail;refine Hn.mono ?_;rintro e w1 ⟨rfl,hk⟩;have HK:=Z hk;clear hk;go_wp2;go_ret2;exact⟨rfl,HK.o⟩
theorem I6 (o:BinOp)(a b:Int):-9223372036854775808<=bits o .i64 a b/\bits o .i64 a b<=9223372036854775807:=by
 unfold bits;rw[IntKind.wrap_i64];omega
theorem Nj (L:List UInt8)(most:Int)(r:Nat)(w:World)(h:jP w r L none)(hL:L.length<=140737488351232):
  Calls prog 39 #[.pointer (some ⟨r,0,none⟩),.int .i64 most] w (BJ w r L):=by
 have H:=Z h;have c0:w.cell? ⟨r,0,none⟩=some (.string ⟨L.toArray⟩):=aa h 0;have c1:w.cell? ⟨r,1,none⟩=some .nilIface:=aa h 1;have f0:w.frozen? ⟨r,0,none⟩=false:=ae h _ rfl;have hLl:(L.length:Int)<=9223372036854775807:=J
 clear h;go_enter func39,ntmps39;go_wp2_with fail
 go_loop [6,7,8] (λa o i=>∃(k:Nat) (dm:Int) (ov:Bool),k<=9/\k<=L.length/\i=.int .i64 (k:Int)/\a=.int .i64 dm/\o=.bool ov/\-9223372036854775808<=dm/\dm<=9223372036854775807) (λ_ _ i=>(10-intOf i).toNat)
 case atStart=>exact⟨0,0,false,J,J,rfl,rfl,rfl,J,J⟩
 case round=>
  obtain⟨k,dm,ov,hk,yA,rfl,rfl,rfl,ha0,ha1⟩:=hrel;by_cases gN:k=L.length
  ·have hl:((k:Int)==(L.length:Int))=true:=by rw[awJ];omega
   clear gN;go_wp2_with fail;refine(fG L none 32 r _ H.o).mono ?_;rintro e w2 ⟨rfl,h2,db⟩;obtain⟨H2,gi⟩:=K2 h2 db;clear h2 db;go_wp2;go_ret2;exact⟨0,32,L,_,rfl,H2.o,gi.o,av9 _,J,J⟩
  ·have hl:((k:Int)==(L.length:Int))=false:=by rw[awO];omega
   by_cases h9:k=9
   ·have h9':((k:Int)==9)=true:=by rw[awJ];omega
    clear gN h9;go_wp2_with fail;refine(fG L none 30 r _ H.o).mono ?_;rintro e w2 ⟨rfl,h2,db⟩;obtain⟨H2,gi⟩:=K2 h2 db;clear h2 db;go_wp2;go_ret2;exact⟨0,30,L,_,rfl,H2.o,gi.o,av9 _,J,J⟩
   ·have h9':((k:Int)==9)=false:=by rw[awO];omega
    have hLL:k<L.length:=J
    clear gN;obtain⟨c,hc⟩:∃ c,L[k]?=some c:=⟨_,av6 hLL⟩
    have OZ:∀ W,(Instr.index 9 (.string ⟨L.toArray⟩) (.int .i64 (k:Int))).run prog W=.ok (.int .u8 (c.toNat:Int)) W:=λW=>aM underlying9 L .i64 k c J hc W;obtain⟨cn,Uv⟩:∃ cn:Nat,c.toNat=cn:=⟨_,rfl⟩
    rw[Uv]at OZ;have YC:cn<256:=by rw[<-Uv];exact c.toNat_lt
    clear hc Uv;have hw7:IntKind.i64.wrap (7*(k:Int))=7*(k:Int):=by rw[IntKind.wrap_i64];omega
    by_cases hz:cn=0/\0<k
    ·obtain⟨rfl,dM⟩:=hz;have hk1:(0:Int)<k:=J
     go_wp2_with fail;refine(fG L none 30 r _ H.o).mono ?_;rintro e w2 ⟨rfl,h2,db⟩;obtain⟨H2,gi⟩:=K2 h2 db;clear h2 db;go_wp2;go_ret2;exact⟨0,30,L,_,rfl,H2.o,gi.o,av9 _,J,J⟩
    ·rcases(by omega:(k=0/\cn=0)\/(k=0/\cn≠0)\/(0<k/\cn≠0))with⟨dM,WG⟩|⟨dM,WG⟩|⟨dM,WG⟩
     all_goals
      first
       |(have Sk:((cn:Int)==0)=true:=by(rw[awJ];omega))
       |(have Sk:((cn:Int)==0)=false:=by(rw[awO];omega))
      first
       |(have hk1:¬(0:Int)<k:=J)
       |(have hk1:(0:Int)<k:=J)
      have kn:k<=8:=J
      clear hz dM WG h9;obtain⟨V,hV⟩:∃ V:Int,bits .or .i64 dm (wrap64 ((cn:Int)%128*2 ^ (7*k)))=V:=⟨_,rfl⟩
      have YG:-9223372036854775808<=V/\V<=9223372036854775807:=by rw[<-hV];exact I6 _ _ _
      by_cases hb:(128:Int)<=cn
      ·cases ov with
       |true=>
        go_wp2_with fail;exact⟨⟨k+1,V,true,J,J,by go_num,rfl,rfl,YG.1,YG.2⟩,by simp[intOf];omega⟩
       |false=>
        by_cases hV1:(4611686018427387903:Int)<V
        ·go_wp2_with fail;exact⟨⟨k+1,V,true,J,J,by go_num,rfl,rfl,YG.1,YG.2⟩,by simp[intOf];omega⟩
        ·by_cases hV0:V<0
         ·go_wp2_with fail;exact⟨⟨k+1,V,true,J,J,by go_num,rfl,rfl,YG.1,YG.2⟩,by simp[intOf];omega⟩
         ·go_wp2_with fail;exact⟨⟨k+1,V,false,J,J,by go_num,rfl,rfl,YG.1,YG.2⟩,by simp[intOf];omega⟩
      ·cases ov with
       |true=>
        go_wp2_with fail;refine(fG (L.drop (k+1)) none 31 r _ (ah H.o 0 _)).mono ?_;rintro e w2 ⟨rfl,h2,db⟩;have H2:=Z h2;have gi:Hid (ai (·=r) w w2):=Z (((ai.refl (λx=>x=r) w).setCell (p:=⟨r,0,none⟩) (.inl rfl) _).trans db (λ_ _ h=>h));clear h2 db;go_wp2;go_ret2;exact⟨0,31,_,_,rfl,H2.o,gi.o,by simp,J,J⟩
       |false=>
        by_cases hV1:(4611686018427387903:Int)<V
        ·go_wp2_with fail;refine(fG (L.drop (k+1)) none 31 r _ (ah H.o 0 _)).mono ?_;rintro e w2 ⟨rfl,h2,db⟩;have H2:=Z h2;have gi:Hid (ai (·=r) w w2):=Z (((ai.refl (λx=>x=r) w).setCell (p:=⟨r,0,none⟩) (.inl rfl) _).trans db (λ_ _ h=>h));clear h2 db;go_wp2;go_ret2;exact⟨0,31,_,_,rfl,H2.o,gi.o,by simp,J,J⟩
        ·by_cases hV0:V<0
         ·go_wp2_with fail;refine(fG (L.drop (k+1)) none 31 r _ (ah H.o 0 _)).mono ?_;rintro e w2 ⟨rfl,h2,db⟩;have H2:=Z h2;have gi:Hid (ai (·=r) w w2):=Z (((ai.refl (λx=>x=r) w).setCell (p:=⟨r,0,none⟩) (.inl rfl) _).trans db (λ_ _ h=>h));clear h2 db;go_wp2;go_ret2;exact⟨0,31,_,_,rfl,H2.o,gi.o,by simp,J,J⟩
         ·by_cases hm:most<V
          ·go_wp2_with fail;refine(fG (L.drop (k+1)) none 31 r _ (ah H.o 0 _)).mono ?_;rintro e w2 ⟨rfl,h2,db⟩;have H2:=Z h2;have gi:Hid (ai (·=r) w w2):=Z (((ai.refl (λx=>x=r) w).setCell (p:=⟨r,0,none⟩) (.inl rfl) _).trans db (λ_ _ h=>h));clear h2 db;go_wp2;go_ret2;exact⟨0,31,_,_,rfl,H2.o,gi.o,by simp,J,J⟩
          ·go_wp2;go_ret2;exact⟨V,0,L.drop (k+1),none,rfl,ah H.o 0 _,(ai.refl (λx=>x=r) w).setCell (p:=⟨r,0,none⟩) (.inl rfl) _,by simp,J,J⟩
theorem At (L:List UInt8)(x:Option Int)(most:Int)(r:Nat)(w:World)(h:jP w r L x)(hL:L.length<=140737488351232)(hg:o6 w):
  Calls prog 39 #[.pointer (some ⟨r,0,none⟩),.int .i64 most] w (BJ w r L):=by
 cases x with
 |none=>exact Nj L most r w h hL
 |some y=>
  refine(RP L y most r w h hg).mono ?_;rintro e w' ⟨rfl,hk⟩;exact⟨0,y,L,some y,rfl,ab hk h id,hk.mono (λ_ _ h=>h.elim),av9 _,J,J⟩
def RQ (w:World)(r:Nat)(s:List UInt8)(e:Ending)(w':World):Prop:=
 ∃(t:List UInt8) (y:Int) (s':List UInt8) (x:Option Int),e=.returned (.tuple #[.string ⟨t.toArray⟩,.int .i64 y])/\jP w' r s' x/\ai (·=r) w w'/\s'.length<=s.length/\t.length<=s.length
theorem I7 (L:List UInt8)(x:Option Int)(most:Int)(r:Nat)(w:World)(h:jP w r L x)(hL:L.length<=140737488351232)(hg:o6 w):
  Calls prog 40 #[.pointer (some ⟨r,0,none⟩),.int .i64 most] w (RQ w r L):=by
 have cI:∀ m,Calls prog 39 #[.pointer (some ⟨r,0,none⟩),.int .i64 m] w (BJ w r L):=λm=>At L x m r w h hL hg;have HC:=Z cI;clear h hg cI;go_enter func40,ntmps40;go_wp2_with fail;refine(HC.o _).mono ?_;rintro e w1 ⟨n,y,s1,x1,rfl,h1,iB,oc,KZ,FS⟩;obtain⟨H1,rl⟩:=K2 h1 iB;have c0:w1.cell? ⟨r,0,none⟩=some (.string ⟨s1.toArray⟩):=aa h1 0;have c1:w1.cell? ⟨r,1,none⟩=some (xT x1):=aa h1 1;have f0:w1.frozen? ⟨r,0,none⟩=false:=ae h1 _ rfl;clear h1 iB;by_cases hy:y=0
 ·subst hy;obtain⟨N,rfl⟩:∃ N:Nat,n=N:=⟨n.toNat,J⟩
  by_cases hb:(s1.length:Int)<N
  ·go_wp2_with fail;refine(fG s1 x1 32 r _ H1.o).mono ?_;rintro e w2 ⟨rfl,h2,db⟩;obtain⟨H2,gi⟩:=K2 h2 (rl.trans db (λ_ _ h=>h));clear h2 db;go_wp2;go_ret2;exact⟨[],32,s1,_,rfl,H2.o,gi.o,oc,by simp⟩
  ·have KL:(N:Int)<=s1.length:=J
   have hN0:(0:Int)<=N:=J
   go_wp2;go_ret2;exact⟨s1.take N,0,s1.drop N,x1,rfl,ah H1.o 0 _,rl.setCell (p:=⟨r,0,none⟩) (.inl rfl) _,by simp;omega,by simp;omega⟩
 ·have hy0:(y==0)=false:=axl hy;have hy1:(y != 0)=true:=bne_iff_ne.2 hy;go_wp2;go_ret2;exact⟨[],y,s1,x1,rfl,H1.o,rl.o,oc,by simp⟩
theorem Nk (s:List UInt8)(x:Option Int)(r:Nat)(w:World)(h:jP w r s x)(hg:o6 w):Calls prog 41 #[.pointer (some ⟨r,0,none⟩)] w λe w'=>∃ y,e=.returned (.int .i64 y)/\af w w':=by
 have c0:w.cell? ⟨r,0,none⟩=some (.string ⟨s.toArray⟩):=aa h 0;have c1:w.cell? ⟨r,1,none⟩=some (xT x):=aa h 1;have Hn:=Z (λy=>xU (some y) w hg);clear h hg
 cases x with
 |none=>
  have c1':w.cell? ⟨r,1,none⟩=some .nilIface:=c1;clear c1;by_cases hs:s=[]
  ·have hq:(s==[])=true:=awJ.2 hs;clear hs;go_enter func41,ntmps41;go_wp2;go_ret;exact⟨_,rfl,ai.refl _ _⟩
  ·have hq:(s==[])=false:=axl hs;clear hs;go_enter func41,ntmps41;go_wp2;go_ret;exact⟨_,rfl,ai.refl _ _⟩
 |some y=>
  have c1':w.cell? ⟨r,1,none⟩=some (.iface 233 (.agg #[.int .i64 y])):=c1;clear c1;go_enter func41,ntmps41;go_wp2_with fail;refine(Hn.o y).mono ?_;rintro e w1 ⟨rfl,hk⟩;have HK:=Z hk;clear hk;go_wp2;go_ret;exact⟨_,rfl,HK.o⟩
end
end
end Go.Proofs.YtkghpdcloaiflaaGreatDoor
