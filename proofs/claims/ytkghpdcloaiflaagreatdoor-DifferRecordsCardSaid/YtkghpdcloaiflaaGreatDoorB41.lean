import Derived.Test.YtkghpdcloaiflaaGreatDoorB31
import Derived.LaidEql
import Derived.Stop.Asserts
import Derived.RowKitTokens
set_option maxHeartbeats 16000000
set_option maxRecDepth 100000
namespace Go.Proofs.YtkghpdcloaiflaaGreatDoor
open _root_.Go.Proofs.Tryz
section
section
open Go.RowKit
abbrev M9 (w:World)(r:Nat)(s:List UInt8):Prop:=World.blk w r #[.string ⟨s.toArray⟩,.nilIface] 139
theorem At (s:List UInt8)(w:World):Calls prog 38 #[.string ⟨s.toArray⟩] w fun e w'=>e=.returned (.pointer (some ⟨w.heap.size,0,none⟩))/\M9 w' w.heap.size s/\af w w':=by
 go_enter func38,ntmps38;go_wp2;go_ret;exact⟨rfl,av _ _ _,(ah.refl _ _).alloc _⟩
theorem Zk (a b s:Nat)(ha:a<2 ^ s)(hb:a+b*2 ^ s<9223372036854775808):bits .or .i64 (a:Int) ((b*2 ^ s:Nat):Int)=((a+b*2 ^ s:Nat):Int):=by
 have e:=Nat.two_pow_add_eq_or_of_lt ha b;rw[Nat.mul_comm,Nat.or_comm]at e;have e1:(BitVec.ofInt 64 (a:Int)|||BitVec.ofInt 64 ((b*2 ^ s:Nat):Int)).toNat=a+b*2 ^ s:=by
  rw[BitVec.ofInt_natCast,BitVec.ofInt_natCast,BitVec.toNat_or,BitVec.toNat_ofNat,BitVec.toNat_ofNat,awp (by omega),awp (by omega),<-e];omega
 show IntKind.i64.wrap (((BitVec.ofInt 64 (a:Int)|||BitVec.ofInt 64 ((b*2 ^ s:Nat):Int)).toNat:Nat):Int)=_;rw[e1,IntKind.wrap_i64];omega
theorem List.drop_append_of_le_length' {a:List UInt8}{x:UInt8}{r:List UInt8}{k:Nat}(h:a.length+1=k):(a++([x]++r)).drop k=r:=by
 subst h;rw[<-avJ,List.drop_append];simp
theorem acI (k:Nat):(2:Nat) ^ (7*(k+1))=128*2 ^ (7*k):=by rw[show 7*(k+1)=7+7*k by omega,Nat.pow_add]
theorem Vm {x:Int}(h:0<=x/\x<9223372036854775808):wrap64 x=x:=by unfold wrap64;omega
theorem Ke (n:Nat)(rest:List UInt8)(most:Int)(r:Nat)(w:World)(h:M9 w r (aG n++rest))(hn:n<=4611686018427387903)(hm:(n:Int)<=most)(hr:rest.length<=140737488351232):
  Calls prog 39 #[.pointer (some ⟨r,0,none⟩),.int .i64 most] w fun e w'=>e=.returned (.tuple #[.int .i64 (n:Int),.int .i64 0])/\M9 w' r rest/\ah (·=r) w w':=by
 have H:=hd0 h;have c0:w.cell? ⟨r,0,none⟩=some (.string ⟨(aG n++rest).toArray⟩):=aa h 0;have c1:w.cell? ⟨r,1,none⟩=some .nilIface:=aa h 1;have f0:w.frozen? ⟨r,0,none⟩=false:=ae h _ rfl;obtain⟨L,hL⟩:∃ L,aG n++rest=L:=⟨_,rfl⟩
 have hLl:(L.length:Int)<=9223372036854775807:=by rw[<-hL,avi];have:=aV (n:=n) (by omega);omega
 rw[hL]at c0 H;have HL:=hd0 hL;have Hn:=hd0 hn;have Hm:=hd0 hm;clear h hL hn hm;go_enter func39,ntmps39;go_wp2_with fail
 go_loop [6,7,8] (fun a o i=>∃(k dw m:Nat) (pre:List UInt8),i=.int .i64 (k:Int)/\a=.int .i64 (dw:Int)/\o=.bool false/\Hid (aG n=pre++aG m/\pre.length=k/\n=dw+2 ^ (7*k)*m/\dw<2 ^ (7*k)/\(k≠0->m≠0))) (fun _ _ i=>(10-intOf i).toNat)
 case atStart=>exact⟨0,0,n,[],rfl,rfl,rfl,hd0 ⟨rfl,rfl,by omega,by omega,fun h=>absurd rfl h⟩⟩
 case round=>
  obtain⟨k,dw,m,pre,rfl,rfl,rfl,HH⟩:=hrel;obtain⟨P,hP⟩:∃ P:Nat,2 ^ (7*k)=P:=⟨_,rfl⟩
  obtain⟨c,hc,FC⟩:∃ c:Nat,c<256/\c=(if m<128 then m else m%128+128):=⟨_,by split<;>omega,rfl⟩
  have NR:L[k]?=some (UInt8.ofNat c):=by
   rw[<-HL.out,HH.out.1,avJ,List.getElem?_append_right (by have:=HH.out.2.1;omega),HH.out.2.1,Nat.sub_self,FC];by_cases aL:m<128
   ·rw[eM aL,au8 aL];rfl
   ·rw[jC aL,ava aL];rfl
  have hLL:k<L.length:=(avf.1 NR).1;have hk9:k<=8:=by
   have h1:=aV (n:=n) (by have:=Hn.out;omega);have h2:=awe List.length HH.out.1;rw[avi,HH.out.2.1]at h2;have h3:1<=(aG m).length:=by
    by_cases aL:m<128
    ·rw[eM aL];simp
    ·rw[jC aL];simp
   omega
  have hl:((k:Int)==(L.length:Int))=false:=by rw[avK];omega
  have h9:((k:Int)==9)=false:=by rw[avK];omega
  have R4:∀ W,(Instr.index 9 (.string ⟨L.toArray⟩) (.int .i64 (k:Int))).run prog W=.ok (.int .u8 (c:Int)) W:=fun W=>by
   have h:=aQ underlying9 L .i64 k (UInt8.ofNat c) (by omega) NR W;have e8:((UInt8.ofNat c).toNat:Int)=c:=by simp;omega
   rw[e8]at h;exact h
  have hw7:IntKind.i64.wrap (7*(k:Int))=7*(k:Int):=by rw[IntKind.wrap_i64];omega
  obtain⟨V,hV⟩:∃ V:Nat,V=dw+c%128*P:=⟨_,rfl⟩
  have ZZ:P*m=P*(m%128)+128*P*(m/128):=by
   conv=>lhs;rw[show m=m%128+128*(m/128) by omega,Nat.mul_add,<-awg,Nat.mul_comm P 128]
  have hcP:c%128=m%128:=by rw[FC];split<;>omega
  have VJ:V<=n/\(m<128->V=n)/\(¬ m<128->n=V+128*P*(m/128)/\V<128*P):=by
   have h1:=HH.out.2.2.1;have h2:=HH.out.2.2.2.1;rw[hP]at h1 h2;rw[ZZ]at h1;have h3:c%128*P=P*(m%128):=by rw[hcP,Nat.mul_comm]
   have h4:P*(m%128)<=P*127:=avt _ (by omega);rw[hV,h3];refine⟨by omega,fun h=>?_,fun _=>⟨by omega,by omega⟩⟩;rw[show m/128=0 by omega,Nat.mul_zero]at h1;omega
  have Sg:c%128*P<4611686018427387904:=by have:=VJ.1;have:=Hn.out;omega
  have hwr:wrap64 ((c:Int)%128*2 ^ (7*k))=((c%128*2 ^ (7*k):Nat):Int):=by
   have e:((c:Int)%128*2 ^ (7*k))=((c%128*2 ^ (7*k):Nat):Int):=by simp
   rw[e,hP];exact Vm (by omega)
  have hor:bits .or .i64 (dw:Int) (wrap64 ((c:Int)%128*2 ^ (7*k)))=(V:Int):=by
   rw[hwr,Zk dw (c%128) (7*k) HH.out.2.2.2.1 (by rw[hP];have:=VJ.1;have:=Hn.out;omega),hP,hV]
  have hV1:¬(4611686018427387903:Int)<(V:Int):=by have:=VJ.1;have:=Hn.out;omega
  have hV0:¬(V:Int)<0:=by omega
  have hVm:¬ most<(V:Int):=by have:=VJ.1;have:=Hm.out;omega
  have HV:=hd0 VJ;have Hcm:=hd0 FC;have HP:=hd0 hP;have Cg:=hd0 hk9;have dt:k≠0->c≠0:=fun h=>by have:=HH.out.2.2.2.2 h;rw[FC];split<;>omega
  have Wk:(k=0/\c=0)\/(k=0/\c≠0)\/(0<k/\c≠0):=by
   by_cases h:k=0
   ·omega
   ·have:=dt h;omega
  clear hV VJ FC NR hP hwr ZZ hcP Sg dt;rcases Wk with⟨dt,Wk⟩|⟨dt,Wk⟩|⟨dt,Wk⟩
  all_goals
   first
    |(have Tb:((c:Int)==0)=true:=by(rw[avF];omega))
    |(have Tb:((c:Int)==0)=false:=by(rw[avK];omega))
   first
    |(have hk1:¬(0:Int)<k:=by omega)
    |(have hk1:(0:Int)<k:=by omega)
   clear dt Wk;by_cases aL:m<128
   ·have afQ:¬(128:Int)<=c:=by have:=Hcm.out;rw[au8 aL]at this;omega
    have hVn:Hid (V=n):=hd0 (HV.out.2.1 aL);have Sv:Hid (L.drop (k+1)=rest):=hd0 (by
     rw[<-HL.out,HH.out.1,eM aL,avJ,List.drop_append_of_le_length' (by have:=HH.out.2.1;omega)])
    clear aL;go_wp2;go_ret2;exact⟨by rw[<-hVn.out];rfl,by rw[<-Sv.out];exact ag H.out 0 _,(ah.refl (fun x=>x=r) w).setCell (p:=⟨r,0,none⟩) (.inl rfl) _⟩
   ·have afQ:(128:Int)<=c:=by have:=Hcm.out;rw[ava aL]at this;omega
    have HH2:Hid (aG n=(pre++[UInt8.ofNat (m%128+128)])++aG (m/128)/\(pre++[UInt8.ofNat (m%128+128)]).length=k+1/\n=V+2 ^ (7*(k+1))*(m/128)/\V<2 ^ (7*(k+1))/\(k+1≠0->m/128≠0)):=hd0 ⟨by rw[HH.out.1,jC aL];simp,by rw[avi,HH.out.2.1];rfl,by rw[acI,HP.out];exact(HV.out.2.2 aL).1,by rw[acI,HP.out];exact(HV.out.2.2 aL).2,fun _=>by omega⟩;clear aL;go_wp2_with fail;exact⟨⟨k+1,V,m/128,_,by go_num,rfl,rfl,HH2⟩,by have:=Cg.out;simp[intOf];omega⟩
theorem EP (n:Nat):1<=(aG n).length:=by
 by_cases h:n<128
 ·rw[eM h];simp
 ·rw[jC h];simp
theorem Rl (s rest:List UInt8)(most:Int)(r:Nat)(w:World)(h:M9 w r (aG s.length++(s++rest)))(hs:s.length<=1000)(hm:(s.length:Int)<=most)(df:most<=1000)(hr:rest.length<=900000):
  Calls prog 40 #[.pointer (some ⟨r,0,none⟩),.int .i64 most] w fun e w'=>e=.returned (.tuple #[.string ⟨s.toArray⟩,.int .i64 0])/\M9 w' r rest/\ah (·=r) w w':=by
 have H:=hd0 h;have Fx:min most (65536:Int)=most:=by omega
 have Hs:=hd0 hs;have Hm:=hd0 hm;have Hr:=hd0 hr;clear h hs hm hr df;go_enter func40,ntmps40;go_wp2_with fail;refine(Ke s.length (s++rest) most r w H.out (by have:=Hs.out;omega) Hm.out (by have:=Hs.out;have:=Hr.out;rw[avi];omega)).mono ?_;rintro e w1 ⟨rfl,h1,ik⟩;have H1:=hd0 h1;have rk:=hd0 ik;obtain⟨X,hX⟩:∃ X,s++rest=X:=⟨_,rfl⟩
 rw[hX]at h1 H1;have c0:w1.cell? ⟨r,0,none⟩=some (.string ⟨X.toArray⟩):=aa h1 0;have f0:w1.frozen? ⟨r,0,none⟩=false:=ae h1 _ rfl;obtain⟨N,hN⟩:∃ N,s.length=N:=⟨_,rfl⟩
 have hXl:N<=X.length/\X.length<=140737488351232:=by rw[<-hX,avi,hN];have:=Hs.out;have:=Hr.out;omega
 have Cx:¬(X.length:Int)<N:=by omega
 have aqC:(N:Int)<=X.length:=by omega
 have hN0:(0:Int)<=N:=by omega
 have Ht:Hid (X.take N=s):=hd0 (by rw[<-hX,<-hN,List.take_left' rfl]);have Hd:Hid (X.drop N=rest):=hd0 (by rw[<-hX,<-hN,List.drop_left' rfl]);rw[hN];clear h1 ik hX hN Fx;go_wp2;go_ret2;refine⟨by rw[<-Ht.out];rfl,?_,rk.out.setCell (p:=⟨r,0,none⟩) (.inl rfl) _⟩;rw[<-Hd.out];exact ag H1.out 0 _
theorem Vn (r:Nat)(w:World)(h:M9 w r []):Calls prog 41 #[.pointer (some ⟨r,0,none⟩)] w fun e w'=>e=.returned (.int .i64 0)/\af w w':=by
 have c0:w.cell? ⟨r,0,none⟩=some (.string ⟨#[]⟩):=aa h 0;have c1:w.cell? ⟨r,1,none⟩=some .nilIface:=aa h 1;clear h;go_enter func41,ntmps41;go_wp2;go_ret;exact⟨rfl,ah.refl _ _⟩
end
section
open Go.RowKit Go.Extern.Stop Go.Stop Go.Extern
theorem Zl (t:Value)(w:World):
  Calls prog 166 #[.nilIface,t] w fun e w'=>e=.returned (.bool false)/\w'=w:=by
 go_enter func166,ntmps166
 go_wp2
 go_ret;exact⟨rfl,rfl⟩
theorem Rm (t:Addr)(w:World):(ReflectliteValue.unpack (.iface 235 (.pointer (some t)))).run prog w
  = .ok (.agg #[.pointer (some ⟨9,235,none⟩),.pointer (some ⟨w.heap.size,0,none⟩),.int .u64 150]) (w.alloc (.cells #[.pointer (some t)] 235)):=by kernel_rfl
theorem acJ (a:Addr)(w:World):(ReflectliteValue.methodAny (ReflectliteValue.valueError "reflectlite.Value.Type" 0) (fun t _ _ _=>ReflectliteType.toType t) #[.agg #[.pointer (some ⟨9,235,none⟩),.pointer (some a),.int .u64 150]]).run prog w
  = .ok (.iface 365 (.agg #[.pointer (some ⟨9,235,none⟩)])) w:=by kernel_rfl
theorem IM (h:Value)(w:World):(Go.method 583 365 (.agg #[h]) "Kind").run prog w=.ok (388,h) w:=by kernel_rfl
theorem acK (w:World):((ReflectliteType.abiMethod fun t=>(fun a:Nat=>Value.int IntKind.u8 (a:Int)) <$> Rtype.kind t) #[.pointer (some ⟨9,235,none⟩)]).run prog w=.ok (.int .u8 22) w:=by kernel_rfl
theorem acL (w:World):((ReflectliteType.abiMethod fun t=>(fun a:Nat=>Value.int IntKind.u8 (a:Int)) <$> Rtype.kind t) #[.pointer (some ⟨9,233,none⟩)]).run prog w=.ok (.int .u8 25) w:=by kernel_rfl
theorem rlm (z:Sem Value)(f:TypeId->Addr->Nat->Nat->Sem Value)(v:Value):
  ReflectliteValue.method z f #[v]=(do match <-ReflectliteValue.parts v with|none=>z|some (t,a,fl)=>f t a fl (fl%32)):=rfl
theorem Rn (a:Addr)(w:World):(ReflectliteValue.parts (.agg #[.pointer (some ⟨9,235,none⟩),.pointer (some a),.int .u64 150])).run prog w=.ok (some (235,a,150)) w:=by kernel_rfl
theorem Zm (a p:Addr)(W:World)(ha:W.cell? a=some (.pointer (some p))):
  (ReflectliteValue.method (ReflectliteValue.valueError "reflectlite.Value.IsNil" 0) ReflectliteValue.isNil #[.agg #[.pointer (some ⟨9,235,none⟩),.pointer (some a),.int .u64 150]]).run prog W=.ok (.bool false) W:=by
 rw[rlm];simp only[Sem.run_bind,Rn,Result.andThen];simp[ReflectliteValue.isNil,loadVar,isAgg,underlying,underlying235,ha,Result.andThen]
theorem IN (h:Value)(w:World):(Go.method 583 365 (.agg #[h]) "Elem").run prog w=.ok (406,.agg #[h]) w:=by kernel_rfl
theorem tA (h:Value)(w:World):(Go.method 583 365 (.agg #[h]) "Implements").run prog w=.ok (407,.agg #[h]) w:=by kernel_rfl
theorem rf (h:Value)(w:World):(Go.method 583 365 (.agg #[h]) "AssignableTo").run prog w=.ok (404,.agg #[h]) w:=by kernel_rfl
theorem acM (w:World):(ReflectliteType.method ReflectliteType.elem #[.agg #[.pointer (some ⟨9,235,none⟩)]]).run prog w=.ok (.iface 365 (.agg #[.pointer (some ⟨9,233,none⟩)])) w:=by kernel_rfl
theorem ER (w:World):(ReflectliteType.relation "Implements" ReflectliteType.implements_ #[.agg #[.pointer (some ⟨9,233,none⟩)],.iface 365 (.agg #[.pointer (some ⟨9,137,none⟩)])]).run prog w=.ok (.bool true) w:=by kernel_rfl
theorem Vo (v:Value)(w:World):(ReflectliteType.typeOf #[.iface 233 v]).run prog w=.ok (.iface 365 (.agg #[.pointer (some ⟨9,233,none⟩)])) w:=by kernel_rfl
theorem ES (w:World):(ReflectliteType.relation "AssignableTo" ReflectliteType.assignableTo #[.agg #[.pointer (some ⟨9,233,none⟩)],.iface 365 (.agg #[.pointer (some ⟨9,233,none⟩)])]).run prog w=.ok (.bool true) w:=by kernel_rfl
theorem Ro (e:Int)(w:World):(ReflectliteValue.unpack (.iface 233 (.agg #[.int .i64 e]))).run prog w
  = .ok (.agg #[.pointer (some ⟨9,233,none⟩),.pointer (some ⟨w.heap.size,0,none⟩),.int .u64 153]) (w.alloc (.cells #[.int .i64 e] 233)):=by kernel_rfl
theorem Vp (w:World):(Rtype.elem? 235).run prog w=.ok (some 233) w:=by kernel_rfl
theorem mkW (p:Addr)(w:World):(ReflectliteValue.mk 233 p ReflectliteValue.flagAddr).run prog w=.ok (.agg #[.pointer (some ⟨9,233,none⟩),.pointer (some p),.int .u64 409]) w:=by kernel_rfl
theorem Zn (a p:Addr)(W:World)(ha:W.cell? a=some (.pointer (some p))):
  (ReflectliteValue.method (ReflectliteValue.valueError "reflectlite.Value.Elem" 0) ReflectliteValue.elem #[.agg #[.pointer (some ⟨9,235,none⟩),.pointer (some a),.int .u64 150]]).run prog W
   = .ok (.agg #[.pointer (some ⟨9,233,none⟩),.pointer (some p),.int .u64 409]) W:=by
 rw[rlm];simp only[Sem.run_bind,Rn,Result.andThen];simp[ReflectliteValue.elem,loadVar,isAgg,underlying,underlying235,ha,Result.andThen,Vp,mkW]
theorem rls (v x:Value):ReflectliteValue.set #[v,x]=(do
  let (some (dst,a,fl),some (src,b,_)):=(<-ReflectliteValue.parts v,<-ReflectliteValue.parts x)
   |unsupported (.noEntry "extern/(internal/reflectlite.Value).Set.zeroValue")
  if fl/ReflectliteValue.flagAddr%2==0 then unsupported (.noEntry "extern/(internal/reflectlite.Value).Set.unaddressable")
  let val <-loadVar src b
  if <-Rtype.directlyAssignable dst src then storeVar dst a val
  else if <-Rtype.implements dst src then
   if(<-Rtype.kind src)==20 then
    match val with
    | .nilIface=>unsupported (.noEntry "extern/reflectlite: a nil value of one interface type handed on as a value of another")
    |_=>storeVar dst a val
   else storeVar dst a (.iface src val)
  else panicString ("reflectlite.Set: value of type " ++ (<-Rtype.spelt src)++ " is not assignable to type " ++ (<-Rtype.spelt dst))
  pure (.tuple #[])):=rfl
theorem Vq (a:Addr)(w:World):(ReflectliteValue.parts (.agg #[.pointer (some ⟨9,233,none⟩),.pointer (some a),.int .u64 409])).run prog w=.ok (some (233,a,409)) w:=by kernel_rfl
theorem Zo (a:Addr)(w:World):(ReflectliteValue.parts (.agg #[.pointer (some ⟨9,233,none⟩),.pointer (some a),.int .u64 153])).run prog w=.ok (some (233,a,153)) w:=by kernel_rfl
theorem Vr (w:World):(Rtype.directlyAssignable 233 233).run prog w=.ok true w:=by kernel_rfl
theorem acN (w:World):(sizeOf 233).run prog w=.ok 1 w:=by kernel_rfl
theorem ahO (ta b:Addr)(e:Int)(old:Value)(W:World)(hb:W.cell? b=some (.int .i64 e))(ht:W.cell? ta=some old)(hf:W.frozen? ta=false):
  (ReflectliteValue.set #[.agg #[.pointer (some ⟨9,233,none⟩),.pointer (some ta),.int .u64 409],.agg #[.pointer (some ⟨9,233,none⟩),.pointer (some b),.int .u64 153]]).run prog W
   = .ok (.tuple #[]) (W.setCell ta (.int .i64 e)):=by
 rw[rls];simp only[Sem.run_bind,Vq,Zo,Result.andThen];simp[ReflectliteValue.flagAddr,loadVar,isAgg,underlying,underlying233,hb,Result.andThen,Vr,storeVar,Value.cells,storeCells,Addr.add,loadCells,loadCellsFrom];rw[run_store prog W ta _ _ (by rfl)];simp[ht,hf]
theorem Zp (e:Int)(t:Addr)(old:Value)(w:World)(hg:w.cell? ⟨0,0,none⟩=some (.iface 365 (.agg #[.pointer (some ⟨9,137,none⟩)])))(ht0:w.cell? t=some old)(hf0:w.frozen? t=false):
  Calls prog 166 #[.iface 233 (.agg #[.int .i64 e]),.iface 235 (.pointer (some t))] w fun ev w'=>ev=.returned (.bool true)/\w'=((((w.alloc (.cells #[.pointer (some t)] 235)).alloc (.cells #[.pointer (some ⟨9,235,none⟩),.pointer (some ⟨w.heap.size,0,none⟩),.int .u64 150] 313)).alloc (.cells #[.pointer (some ⟨9,235,none⟩),.pointer (some ⟨w.heap.size,0,none⟩),.int .u64 150] 313)).alloc (.cells #[.int .i64 e] 233)).setCell t (.int .i64 e):=by
 have h6:=@awj prog 227 _ (fun args=>ReflectliteValue.unpack (args.getD 0 (.tuple #[]))) func227 (by kernel_rfl) (by kernel_rfl) (by kernel_rfl) (by kernel_rfl);have h7:=@awj prog 228 _ (ReflectliteValue.methodAny (ReflectliteValue.valueError "reflectlite.Value.Type" 0) (fun t _ _ _=>ReflectliteType.toType t)) func228 (by kernel_rfl) (by kernel_rfl) (by kernel_rfl) (by kernel_rfl);have h8:=@awj prog 229 _ (ReflectliteValue.method (ReflectliteValue.valueError "reflectlite.Value.IsNil" 0) ReflectliteValue.isNil) func229 (by kernel_rfl) (by kernel_rfl) (by kernel_rfl) (by kernel_rfl);have h27:=@awj prog 388 _ (ReflectliteType.abiMethod fun t=>do pure (.int .u8 (<-Rtype.kind t))) func388 (by kernel_rfl) (by kernel_rfl) (by kernel_rfl) (by kernel_rfl);have h37:=@awj prog 406 _ (ReflectliteType.method ReflectliteType.elem) func406 (by kernel_rfl) (by kernel_rfl) (by kernel_rfl) (by kernel_rfl);have h38:=@awj prog 407 _ (ReflectliteType.relation "Implements" ReflectliteType.implements_) func407 (by kernel_rfl) (by kernel_rfl) (by kernel_rfl) (by kernel_rfl);have h10:=@awj prog 281 _ ReflectliteType.typeOf func281 (by kernel_rfl) (by kernel_rfl) (by kernel_rfl) (by kernel_rfl);have h35:=@awj prog 404 _ (ReflectliteType.relation "AssignableTo" ReflectliteType.assignableTo) func404 (by kernel_rfl) (by kernel_rfl) (by kernel_rfl) (by kernel_rfl);have h11:=@awj prog 282 _ (ReflectliteValue.method (ReflectliteValue.valueError "reflectlite.Value.Elem" 0) ReflectliteValue.elem) func282 (by kernel_rfl) (by kernel_rfl) (by kernel_rfl) (by kernel_rfl);have h12:=@awj prog 283 _ ReflectliteValue.set func283 (by kernel_rfl) (by kernel_rfl) (by kernel_rfl) (by kernel_rfl);have tO:=Vo;have mA:=rf;have a25:=ES;have v25:=Ro;have f6:=Rm;have f7:=acJ;have mK:=IM;have mE:=IN;have mI:=tA;have k27:=acK;have k25:=acL;have e27:=acM;have i25:=ER;have n8:=Zm ⟨w.heap.size,0,none⟩ t ((w.alloc (.cells #[.pointer (some t)] 235)).alloc (.cells #[.pointer (some ⟨9,235,none⟩),.pointer (some ⟨w.heap.size,0,none⟩),.int .u64 150] 313)) (by simp);have aL:0<w.heap.size:=ai hg;have ye:((w.alloc (.cells #[.pointer (some t)] 235)).alloc (.cells #[.pointer (some ⟨9,235,none⟩),.pointer (some ⟨w.heap.size,0,none⟩),.int .u64 150] 313)).cell? ⟨0,0,none⟩=some (.iface 365 (.agg #[.pointer (some ⟨9,137,none⟩)])):=by
  rw[World.cell?_alloc_lt _ _ ⟨0,0,none⟩ (by simp<;>omega),World.cell?_alloc_lt _ _ ⟨0,0,none⟩ aL];exact hg
 have uw:t.block<w.heap.size:=ai ht0;have el:=Zn ⟨w.heap.size,0,none⟩ t (((w.alloc (.cells #[.pointer (some t)] 235)).alloc (.cells #[.pointer (some ⟨9,235,none⟩),.pointer (some ⟨w.heap.size,0,none⟩),.int .u64 150] 313)).alloc (.cells #[.pointer (some ⟨9,235,none⟩),.pointer (some ⟨w.heap.size,0,none⟩),.int .u64 150] 313)) (by rw[World.cell?_alloc_lt _ _ ⟨w.heap.size,0,none⟩ (by simp;omega)];simp);have st:=ahO t ⟨w.heap.size+1+1+1,0,none⟩ e old ((((w.alloc (.cells #[.pointer (some t)] 235)).alloc (.cells #[.pointer (some ⟨9,235,none⟩),.pointer (some ⟨w.heap.size,0,none⟩),.int .u64 150] 313)).alloc (.cells #[.pointer (some ⟨9,235,none⟩),.pointer (some ⟨w.heap.size,0,none⟩),.int .u64 150] 313)).alloc (.cells #[.int .i64 e] 233))
  (by rw[World.cell?_alloc_at _ _ _ _ (by simp)];rfl)
  (by rw[World.cell?_alloc_lt _ _ t (by simp;omega),World.cell?_alloc_lt _ _ t (by simp;omega),World.cell?_alloc_lt _ _ t (by simp;omega),World.cell?_alloc_lt _ _ t uw];exact ht0)
  (by rw[World.frozen?_alloc_old _ _ t (by simp;omega),World.frozen?_alloc_old _ _ t (by simp;omega),World.frozen?_alloc_old _ _ t (by simp;omega),World.frozen?_alloc_old _ _ t (Nat.ne_of_lt uw)];exact hf0)
 go_enter func166,ntmps166
 go_wp2
 refine wp_loop_rounds 1 ?_;rw[rounds_succ]
 go_wp2
 go_ret;exact⟨rfl,rfl⟩
def nN (w:World):Prop:=w.cell? ⟨0,0,none⟩=some (.iface 365 (.agg #[.pointer (some ⟨9,137,none⟩)]))
theorem nN.keep {w w':World}(h:nN w)(k:af w w'):nN w':=by
 unfold nN at*;rw[k.cell (p:=⟨0,0,none⟩) (ai h) id];exact h
def xR:Option Int->Value
 |none=>.nilIface
 |some e=>.iface 233 (.agg #[.int .i64 e])
theorem xS (e:Option Int)(w:World)(hg:nN w):Calls prog 88 #[xR e] w fun ev w'=>ev=.returned (.int .i64 (e.getD 0))/\af w w':=by
 have Hg:=hd0 hg;clear hg
 cases e with
 |none=>
  unfold xR;go_enter func88,ntmps88;go_wp2_with fail;refine(Zl _ _).mono ?_;rintro e w1 ⟨rfl,rfl⟩;go_wp2;go_ret;exact⟨rfl,(ah.refl _ w).alloc _⟩
 |some e=>
  unfold xR;go_enter func88,ntmps88;go_wp2_with fail;have HB:Hid (World.blk (w.alloc (.cells #[.int .i64 0] 233)) w.heap.size #[.int .i64 0] 233):=hd0 (av _ _ _);have HG1:Hid (nN (w.alloc (.cells #[.int .i64 0] 233))):=hd0 (Hg.out.keep ((ah.refl _ w).alloc _));refine(Zp e ⟨w.heap.size,0,none⟩ (.int .i64 0) _ HG1.out (aa HB.out 0) (ae HB.out _ rfl)).mono ?_;rintro ev w1 ⟨rfl,h1⟩;have hm:ah (·=w.heap.size) (w.alloc (.cells #[.int .i64 0] 233)) w1:=by
   rw[h1];exact(((((ah.refl (fun b=>b=w.heap.size) _).alloc _).alloc _).alloc _).alloc _).setCell (p:=⟨w.heap.size,0,none⟩) (.inl rfl) _
  have hb:w1.cell? ⟨w.heap.size,0,none⟩=some (.int .i64 e):=by
   rw[h1];exact aa (ag (aF (aF (aF (aF HB.out _) _) _) _) 0 (.int .i64 e)) 0
  have HK:Hid (af w w1):=hd0 (((ah.refl (fun _=>False) w).alloc _).new hm (au4 _));clear h1 hm HB HG1;go_wp2;go_ret;exact⟨rfl,HK.out⟩
end
section
open Go.RowKit
abbrev pu (w:World)(r:Nat)(s:List UInt8)(e:Option Int):Prop:=World.blk w r #[.string ⟨s.toArray⟩,xR e] 139
theorem fK (s:List UInt8)(x:Option Int)(y:Int)(r:Nat)(w:World)(h:pu w r s x):Calls prog 89 #[.pointer (some ⟨r,0,none⟩),.int .i64 y] w fun e w'=>e=.returned (.int .i64 y)/\pu w' r s (some y)/\ah (·=r) w w':=by
 have c1:w.cell? ⟨r,1,none⟩=some (xR x):=aa h 1;have f1:w.frozen? ⟨r,1,none⟩=false:=ae h _ rfl;have H:=hd0 h;clear h;go_enter func89,ntmps89;go_wp2;go_ret;exact⟨rfl,ag H.out 1 _,(ah.refl (fun x=>x=r) w).setCell (p:=⟨r,1,none⟩) (.inl rfl) _⟩
def BA (w:World)(r:Nat)(s:List UInt8)(e:Ending)(w':World):Prop:=
 ∃(n y:Int) (s':List UInt8) (x:Option Int),e=.returned (.tuple #[.int .i64 n,.int .i64 y])/\pu w' r s' x/\ah (·=r) w w'/\s'.length<=s.length/\0<=n/\n<=4611686018427387903
theorem Rp (s:List UInt8)(y most:Int)(r:Nat)(w:World)(h:pu w r s (some y))(hg:nN w):
  Calls prog 39 #[.pointer (some ⟨r,0,none⟩),.int .i64 most] w fun e w'=>e=.returned (.tuple #[.int .i64 0,.int .i64 y])/\af w w':=by
 have c1:w.cell? ⟨r,1,none⟩=some (.iface 233 (.agg #[.int .i64 y])):=aa h 1;have hn:=xS (some y) w hg;have Hn:=hd0 hn;clear h hg hn;go_enter func39,ntmps39;go_wp2_with fail;refine Hn.out.mono ?_;rintro e w1 ⟨rfl,hk⟩;have HK:=hd0 hk;clear hk;go_wp2;go_ret2;exact⟨rfl,HK.out⟩
theorem IO (o:BinOp)(a b:Int):-9223372036854775808<=bits o .i64 a b/\bits o .i64 a b<=9223372036854775807:=by
 unfold bits;rw[IntKind.wrap_i64];omega
theorem Na (L:List UInt8)(most:Int)(r:Nat)(w:World)(h:pu w r L none)(hL:L.length<=140737488351232):
  Calls prog 39 #[.pointer (some ⟨r,0,none⟩),.int .i64 most] w (BA w r L):=by
 have H:=hd0 h;have c0:w.cell? ⟨r,0,none⟩=some (.string ⟨L.toArray⟩):=aa h 0;have c1:w.cell? ⟨r,1,none⟩=some .nilIface:=aa h 1;have f0:w.frozen? ⟨r,0,none⟩=false:=ae h _ rfl;have hLl:(L.length:Int)<=9223372036854775807:=by omega
 clear h;go_enter func39,ntmps39;go_wp2_with fail
 go_loop [6,7,8] (fun a o i=>∃(k:Nat) (dw:Int) (ov:Bool),k<=9/\k<=L.length/\i=.int .i64 (k:Int)/\a=.int .i64 dw/\o=.bool ov/\-9223372036854775808<=dw/\dw<=9223372036854775807) (fun _ _ i=>(10-intOf i).toNat)
 case atStart=>exact⟨0,0,false,by omega,by omega,rfl,rfl,rfl,by omega,by omega⟩
 case round=>
  obtain⟨k,dw,ov,hk,zk,rfl,rfl,rfl,ha0,ha1⟩:=hrel;by_cases gQ:k=L.length
  ·have hl:((k:Int)==(L.length:Int))=true:=by rw[avF];omega
   clear gQ;go_wp2_with fail;refine(fK L none 32 r _ H.out).mono ?_;rintro e w2 ⟨rfl,h2,df⟩;have H2:=hd0 h2;have ft:=hd0 df;clear h2 df;go_wp2;go_ret2;exact⟨0,32,L,_,rfl,H2.out,ft.out,au4 _,by omega,by omega⟩
  ·have hl:((k:Int)==(L.length:Int))=false:=by rw[avK];omega
   by_cases h9:k=9
   ·have h9':((k:Int)==9)=true:=by rw[avF];omega
    clear gQ h9;go_wp2_with fail;refine(fK L none 30 r _ H.out).mono ?_;rintro e w2 ⟨rfl,h2,df⟩;have H2:=hd0 h2;have ft:=hd0 df;clear h2 df;go_wp2;go_ret2;exact⟨0,30,L,_,rfl,H2.out,ft.out,au4 _,by omega,by omega⟩
   ·have h9':((k:Int)==9)=false:=by rw[avK];omega
    have hLL:k<L.length:=by omega
    clear gQ;obtain⟨c,hc⟩:∃ c,L[k]?=some c:=⟨_,au1 hLL⟩
    have R4:∀ W,(Instr.index 9 (.string ⟨L.toArray⟩) (.int .i64 (k:Int))).run prog W=.ok (.int .u8 (c.toNat:Int)) W:=fun W=>aQ underlying9 L .i64 k c (by omega) hc W;obtain⟨cn,KF⟩:∃ cn:Nat,c.toNat=cn:=⟨_,rfl⟩
    rw[KF]at R4;have Xx:cn<256:=by rw[<-KF];exact c.toNat_lt
    clear hc KF;have hw7:IntKind.i64.wrap (7*(k:Int))=7*(k:Int):=by rw[IntKind.wrap_i64];omega
    by_cases hz:cn=0/\0<k
    ·obtain⟨rfl,dt⟩:=hz;have hk1:(0:Int)<k:=by omega
     go_wp2_with fail;refine(fK L none 30 r _ H.out).mono ?_;rintro e w2 ⟨rfl,h2,df⟩;have H2:=hd0 h2;have ft:=hd0 df;clear h2 df;go_wp2;go_ret2;exact⟨0,30,L,_,rfl,H2.out,ft.out,au4 _,by omega,by omega⟩
    ·rcases(by omega:(k=0/\cn=0)\/(k=0/\cn≠0)\/(0<k/\cn≠0))with⟨dt,Wk⟩|⟨dt,Wk⟩|⟨dt,Wk⟩
     all_goals
      first
       |(have Tb:((cn:Int)==0)=true:=by(rw[avF];omega))
       |(have Tb:((cn:Int)==0)=false:=by(rw[avK];omega))
      first
       |(have hk1:¬(0:Int)<k:=by omega)
       |(have hk1:(0:Int)<k:=by omega)
      have kB:k<=8:=by omega
      clear hz dt Wk h9;obtain⟨V,hV⟩:∃ V:Int,bits .or .i64 dw (wrap64 ((cn:Int)%128*2 ^ (7*k)))=V:=⟨_,rfl⟩
      have Xe:-9223372036854775808<=V/\V<=9223372036854775807:=by rw[<-hV];exact IO _ _ _
      by_cases hb:(128:Int)<=cn
      ·cases ov with
       |true=>
        go_wp2_with fail;exact⟨⟨k+1,V,true,by omega,by omega,by go_num,rfl,rfl,Xe.1,Xe.2⟩,by simp[intOf];omega⟩
       |false=>
        by_cases hV1:(4611686018427387903:Int)<V
        ·go_wp2_with fail;exact⟨⟨k+1,V,true,by omega,by omega,by go_num,rfl,rfl,Xe.1,Xe.2⟩,by simp[intOf];omega⟩
        ·by_cases hV0:V<0
         ·go_wp2_with fail;exact⟨⟨k+1,V,true,by omega,by omega,by go_num,rfl,rfl,Xe.1,Xe.2⟩,by simp[intOf];omega⟩
         ·go_wp2_with fail;exact⟨⟨k+1,V,false,by omega,by omega,by go_num,rfl,rfl,Xe.1,Xe.2⟩,by simp[intOf];omega⟩
      ·cases ov with
       |true=>
        go_wp2_with fail;refine(fK (L.drop (k+1)) none 31 r _ (ag H.out 0 _)).mono ?_;rintro e w2 ⟨rfl,h2,df⟩;have H2:=hd0 h2;have ft:Hid (ah (·=r) w w2):=hd0 (((ah.refl (fun x=>x=r) w).setCell (p:=⟨r,0,none⟩) (.inl rfl) _).trans df (fun _ _ h=>h));clear h2 df;go_wp2;go_ret2;exact⟨0,31,_,_,rfl,H2.out,ft.out,by simp,by omega,by omega⟩
       |false=>
        by_cases hV1:(4611686018427387903:Int)<V
        ·go_wp2_with fail;refine(fK (L.drop (k+1)) none 31 r _ (ag H.out 0 _)).mono ?_;rintro e w2 ⟨rfl,h2,df⟩;have H2:=hd0 h2;have ft:Hid (ah (·=r) w w2):=hd0 (((ah.refl (fun x=>x=r) w).setCell (p:=⟨r,0,none⟩) (.inl rfl) _).trans df (fun _ _ h=>h));clear h2 df;go_wp2;go_ret2;exact⟨0,31,_,_,rfl,H2.out,ft.out,by simp,by omega,by omega⟩
        ·by_cases hV0:V<0
         ·go_wp2_with fail;refine(fK (L.drop (k+1)) none 31 r _ (ag H.out 0 _)).mono ?_;rintro e w2 ⟨rfl,h2,df⟩;have H2:=hd0 h2;have ft:Hid (ah (·=r) w w2):=hd0 (((ah.refl (fun x=>x=r) w).setCell (p:=⟨r,0,none⟩) (.inl rfl) _).trans df (fun _ _ h=>h));clear h2 df;go_wp2;go_ret2;exact⟨0,31,_,_,rfl,H2.out,ft.out,by simp,by omega,by omega⟩
         ·by_cases hm:most<V
          ·go_wp2_with fail;refine(fK (L.drop (k+1)) none 31 r _ (ag H.out 0 _)).mono ?_;rintro e w2 ⟨rfl,h2,df⟩;have H2:=hd0 h2;have ft:Hid (ah (·=r) w w2):=hd0 (((ah.refl (fun x=>x=r) w).setCell (p:=⟨r,0,none⟩) (.inl rfl) _).trans df (fun _ _ h=>h));clear h2 df;go_wp2;go_ret2;exact⟨0,31,_,_,rfl,H2.out,ft.out,by simp,by omega,by omega⟩
          ·go_wp2;go_ret2;exact⟨V,0,L.drop (k+1),none,rfl,ag H.out 0 _,(ah.refl (fun x=>x=r) w).setCell (p:=⟨r,0,none⟩) (.inl rfl) _,by simp,by omega,by omega⟩
theorem Au (L:List UInt8)(x:Option Int)(most:Int)(r:Nat)(w:World)(h:pu w r L x)(hL:L.length<=140737488351232)(hg:nN w):
  Calls prog 39 #[.pointer (some ⟨r,0,none⟩),.int .i64 most] w (BA w r L):=by
 cases x with
 |none=>exact Na L most r w h hL
 |some y=>
  refine(Rp L y most r w h hg).mono ?_;rintro e w' ⟨rfl,hk⟩;exact⟨0,y,L,some y,rfl,ab hk h id,hk.mono (fun _ _ h=>h.elim),au4 _,by omega,by omega⟩
def Rq (w:World)(r:Nat)(s:List UInt8)(e:Ending)(w':World):Prop:=
 ∃(t:List UInt8) (y:Int) (s':List UInt8) (x:Option Int),e=.returned (.tuple #[.string ⟨t.toArray⟩,.int .i64 y])/\pu w' r s' x/\ah (·=r) w w'/\s'.length<=s.length/\t.length<=s.length
theorem IP (L:List UInt8)(x:Option Int)(most:Int)(r:Nat)(w:World)(h:pu w r L x)(hL:L.length<=140737488351232)(hg:nN w):
  Calls prog 40 #[.pointer (some ⟨r,0,none⟩),.int .i64 most] w (Rq w r L):=by
 have cK:∀ m,Calls prog 39 #[.pointer (some ⟨r,0,none⟩),.int .i64 m] w (BA w r L):=fun m=>Au L x m r w h hL hg;have HC:=hd0 cK;clear h hg cK;go_enter func40,ntmps40;go_wp2_with fail;refine(HC.out _).mono ?_;rintro e w1 ⟨n,y,s1,x1,rfl,h1,ik,sM,FZ,BW⟩;have H1:=hd0 h1;have rk:=hd0 ik;have c0:w1.cell? ⟨r,0,none⟩=some (.string ⟨s1.toArray⟩):=aa h1 0;have c1:w1.cell? ⟨r,1,none⟩=some (xR x1):=aa h1 1;have f0:w1.frozen? ⟨r,0,none⟩=false:=ae h1 _ rfl;clear h1 ik;by_cases hy:y=0
 ·subst hy;obtain⟨N,rfl⟩:∃ N:Nat,n=N:=⟨n.toNat,by omega⟩
  by_cases hb:(s1.length:Int)<N
  ·go_wp2_with fail;refine(fK s1 x1 32 r _ H1.out).mono ?_;rintro e w2 ⟨rfl,h2,df⟩;have H2:=hd0 h2;have ft:=hd0 (rk.out.trans df (fun _ _ h=>h));clear h2 df;go_wp2;go_ret2;exact⟨[],32,s1,_,rfl,H2.out,ft.out,sM,by simp⟩
  ·have Cx:(N:Int)<=s1.length:=by omega
   have hN0:(0:Int)<=N:=by omega
   go_wp2;go_ret2;exact⟨s1.take N,0,s1.drop N,x1,rfl,ag H1.out 0 _,rk.out.setCell (p:=⟨r,0,none⟩) (.inl rfl) _,by simp;omega,by simp;omega⟩
 ·have hy0:(y==0)=false:=awh hy;have hy1:(y != 0)=true:=bne_iff_ne.2 hy;go_wp2;go_ret2;exact⟨[],y,s1,x1,rfl,H1.out,rk.out,sM,by simp⟩
theorem us {w w':World}{r:Nat}{s:List UInt8}{x:Option Int}(h:nN w)(hr:pu w r s x)(m:ah (·=r) w w'):nN w':=by
 have dV:¬ 0=r:=fun e=>by
  have h1:=aa hr 0;unfold nN at h;rw[<-e,h]at h1;cases h1
 unfold nN at*;rw[m.cell (p:=⟨0,0,none⟩) (ai h) dV];exact h
theorem Nb (s:List UInt8)(x:Option Int)(r:Nat)(w:World)(h:pu w r s x)(hg:nN w):Calls prog 41 #[.pointer (some ⟨r,0,none⟩)] w fun e w'=>∃ y,e=.returned (.int .i64 y)/\af w w':=by
 have c0:w.cell? ⟨r,0,none⟩=some (.string ⟨s.toArray⟩):=aa h 0;have c1:w.cell? ⟨r,1,none⟩=some (xR x):=aa h 1;have Hn:=hd0 (fun y=>xS (some y) w hg);clear h hg
 cases x with
 |none=>
  have c1':w.cell? ⟨r,1,none⟩=some .nilIface:=c1;clear c1;by_cases hs:s=[]
  ·have hq:(s==[])=true:=avF.2 hs;clear hs;go_enter func41,ntmps41;go_wp2;go_ret;exact⟨_,rfl,ah.refl _ _⟩
  ·have hq:(s==[])=false:=awh hs;clear hs;go_enter func41,ntmps41;go_wp2;go_ret;exact⟨_,rfl,ah.refl _ _⟩
 |some y=>
  have c1':w.cell? ⟨r,1,none⟩=some (.iface 233 (.agg #[.int .i64 y])):=c1;clear c1;go_enter func41,ntmps41;go_wp2_with fail;refine(Hn.out y).mono ?_;rintro e w1 ⟨rfl,hk⟩;have HK:=hd0 hk;clear hk;go_wp2;go_ret;exact⟨_,rfl,HK.out⟩
end
end
end Go.Proofs.YtkghpdcloaiflaaGreatDoor
