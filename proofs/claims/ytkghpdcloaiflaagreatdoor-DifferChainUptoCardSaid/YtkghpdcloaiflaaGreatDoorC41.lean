import Derived.Test.YtkghpdcloaiflaaGreatDoorC40
import Derived.LaidEql
import Derived.Stop.Asserts
import Derived.RowKitTokens
set_option maxHeartbeats 4000000
set_option maxRecDepth 100000
namespace Go.Proofs.YtkghpdcloaiflaaGreatDoor
open _root_.Go.Proofs.Tryz
section
section
open Go.RowKit
abbrev MB (w:World)(r:Nat)(s:List UInt8):Prop:=World.blk w r #[.string ⟨s.toArray⟩,.nilIface] 139
theorem MC (s:List UInt8)(w:World):Calls prog 38 #[.string ⟨s.toArray⟩] w fun e w'=>e=.returned (.pointer (some ⟨w.heap.size,0,none⟩))/\MB w' w.heap.size s/\af w w':=by
 go_enter func38,ntmps38;go_wp2;go_ret;exact⟨rfl,aw _ _ _,(ah.refl _ _).alloc _⟩
theorem YB (a b s:Nat)(ha:a<2 ^ s)(hb:a+b*2 ^ s<9223372036854775808):bits .or .i64 (a:Int) ((b*2 ^ s:Nat):Int)=((a+b*2 ^ s:Nat):Int):=by
 have e:=Nat.two_pow_add_eq_or_of_lt ha b;rw[Nat.mul_comm,Nat.or_comm]at e;have e1:(BitVec.ofInt 64 (a:Int)|||BitVec.ofInt 64 ((b*2 ^ s:Nat):Int)).toNat=a+b*2 ^ s:=by
  rw[BitVec.ofInt_natCast,BitVec.ofInt_natCast,BitVec.toNat_or,BitVec.toNat_ofNat,BitVec.toNat_ofNat,ava (by omega),ava (by omega),<-e];omega
 show IntKind.i64.wrap (((BitVec.ofInt 64 (a:Int)|||BitVec.ofInt 64 ((b*2 ^ s:Nat):Int)).toNat:Nat):Int)=_;rw[e1,IntKind.wrap_i64];omega
theorem List.drop_append_of_le_length' {a:List UInt8}{x:UInt8}{r:List UInt8}{k:Nat}(h:a.length+1=k):(a++([x]++r)).drop k=r:=by
 subst h;rw[<-auu,List.drop_append];simp
theorem abQ (k:Nat):(2:Nat) ^ (7*(k+1))=128*2 ^ (7*k):=by rw[show 7*(k+1)=7+7*k by omega,Nat.pow_add]
theorem UI {x:Int}(h:0<=x/\x<9223372036854775808):wrap64 x=x:=by unfold wrap64;omega
theorem JQ (n:Nat)(rest:List UInt8)(most:Int)(r:Nat)(w:World)(h:MB w r (aO n++rest))(hn:n<=4611686018427387903)(hm:(n:Int)<=most)(hr:rest.length<=140737488351232):
  Calls prog 39 #[.pointer (some ⟨r,0,none⟩),.int .i64 most] w fun e w'=>e=.returned (.tuple #[.int .i64 (n:Int),.int .i64 0])/\MB w' r rest/\ah (·=r) w w':=by
 have H:=hd0 h;have c0:w.cell? ⟨r,0,none⟩=some (.string ⟨(aO n++rest).toArray⟩):=aa h 0;have c1:w.cell? ⟨r,1,none⟩=some .nilIface:=aa h 1;have f0:w.frozen? ⟨r,0,none⟩=false:=ae h _ rfl;obtain⟨L,hL⟩:∃ L,aO n++rest=L:=⟨_,rfl⟩
 have hLl:(L.length:Int)<=9223372036854775807:=by rw[<-hL,at0];have:=bG (n:=n) (by omega);omega
 rw[hL]at c0 H;have HL:=hd0 hL;have Hn:=hd0 hn;have Hm:=hd0 hm;clear h hL hn hm;go_enter func39,ntmps39;go_wp2_with fail
 go_loop [6,7,8] (fun a o i=>∃(k j5 m:Nat) (pre:List UInt8),i=.int .i64 (k:Int)/\a=.int .i64 (j5:Int)/\o=.bool false/\Hid (aO n=pre++aO m/\pre.length=k/\n=j5+2 ^ (7*k)*m/\j5<2 ^ (7*k)/\(k≠0->m≠0))) (fun _ _ i=>(10-intOf i).toNat)
 case atStart=>exact⟨0,0,n,[],rfl,rfl,rfl,hd0 ⟨rfl,rfl,by omega,by omega,fun h=>absurd rfl h⟩⟩
 case round=>
  obtain⟨k,j5,m,pre,rfl,rfl,rfl,HH⟩:=hrel;obtain⟨P,hP⟩:∃ P:Nat,2 ^ (7*k)=P:=⟨_,rfl⟩
  obtain⟨c,hc,EP⟩:∃ c:Nat,c<256/\c=(if m<128 then m else m%128+128):=⟨_,by split<;>omega,rfl⟩
  have qV:L[k]?=some (UInt8.ofNat c):=by
   rw[<-HL.out,HH.out.1,auu,List.getElem?_append_right (by have:=HH.out.2.1;omega),HH.out.2.1,Nat.sub_self,EP];by_cases aM:m<128
   ·rw[iZ aM,atP aM];rfl
   ·rw[oV aM,atR aM];rfl
  have hLL:k<L.length:=(atX.1 qV).1;have hk9:k<=8:=by
   have h1:=bG (n:=n) (by have:=Hn.out;omega);have h2:=auZ List.length HH.out.1;rw[at0,HH.out.2.1]at h2;have h3:1<=(aO m).length:=by
    by_cases aM:m<128
    ·rw[iZ aM];simp
    ·rw[oV aM];simp
   omega
  have hl:((k:Int)==(L.length:Int))=false:=by rw[auv];omega
  have h9:((k:Int)==9)=false:=by rw[auv];omega
  have Vz:∀ W,(Instr.index 9 (.string ⟨L.toArray⟩) (.int .i64 (k:Int))).run prog W=.ok (.int .u8 (c:Int)) W:=fun W=>by
   have h:=ba underlying9 L .i64 k (UInt8.ofNat c) (by omega) qV W;have e8:((UInt8.ofNat c).toNat:Int)=c:=by simp;omega
   rw[e8]at h;exact h
  have hw7:IntKind.i64.wrap (7*(k:Int))=7*(k:Int):=by rw[IntKind.wrap_i64];omega
  obtain⟨V,hV⟩:∃ V:Nat,V=j5+c%128*P:=⟨_,rfl⟩
  have ac5:P*m=P*(m%128)+128*P*(m/128):=by
   conv=>lhs;rw[show m=m%128+128*(m/128) by omega,Nat.mul_add,<-au1,Nat.mul_comm P 128]
  have hcP:c%128=m%128:=by rw[EP];split<;>omega
  have Vl:V<=n/\(m<128->V=n)/\(¬ m<128->n=V+128*P*(m/128)/\V<128*P):=by
   have h1:=HH.out.2.2.1;have h2:=HH.out.2.2.2.1;rw[hP]at h1 h2;rw[ac5]at h1;have h3:c%128*P=P*(m%128):=by rw[hcP,Nat.mul_comm]
   have h4:P*(m%128)<=P*127:=aue _ (by omega);rw[hV,h3];refine⟨by omega,fun h=>?_,fun _=>⟨by omega,by omega⟩⟩;rw[show m/128=0 by omega,Nat.mul_zero]at h1;omega
  have Se:c%128*P<4611686018427387904:=by have:=Vl.1;have:=Hn.out;omega
  have hwr:wrap64 ((c:Int)%128*2 ^ (7*k))=((c%128*2 ^ (7*k):Nat):Int):=by
   have e:((c:Int)%128*2 ^ (7*k))=((c%128*2 ^ (7*k):Nat):Int):=by simp
   rw[e,hP];exact UI (by omega)
  have hor:bits .or .i64 (j5:Int) (wrap64 ((c:Int)%128*2 ^ (7*k)))=(V:Int):=by
   rw[hwr,YB j5 (c%128) (7*k) HH.out.2.2.2.1 (by rw[hP];have:=Vl.1;have:=Hn.out;omega),hP,hV]
  have hV1:¬(4611686018427387903:Int)<(V:Int):=by have:=Vl.1;have:=Hn.out;omega
  have hV0:¬(V:Int)<0:=by omega
  have hVm:¬ most<(V:Int):=by have:=Vl.1;have:=Hm.out;omega
  have HV:=hd0 Vl;have Hcm:=hd0 EP;have HP:=hd0 hP;have Bu:=hd0 hk9;have dA:k≠0->c≠0:=fun h=>by have:=HH.out.2.2.2.2 h;rw[EP];split<;>omega
  have hc0:(k=0/\c=0)\/(k=0/\c≠0)\/(0<k/\c≠0):=by
   by_cases h:k=0
   ·omega
   ·have:=dA h;omega
  clear hV Vl EP qV hP hwr ac5 hcP Se dA;rcases hc0 with⟨dA,hc0⟩|⟨dA,hc0⟩|⟨dA,hc0⟩
  all_goals
   first
    |(have SK:((c:Int)==0)=true:=by(rw[auq];omega))
    |(have SK:((c:Int)==0)=false:=by(rw[auv];omega))
   first
    |(have hk1:¬(0:Int)<k:=by omega)
    |(have hk1:(0:Int)<k:=by omega)
   clear dA hc0;by_cases aM:m<128
   ·have ad6:¬(128:Int)<=c:=by have:=Hcm.out;rw[atP aM]at this;omega
    have hVn:Hid (V=n):=hd0 (HV.out.2.1 aM);have RF:Hid (L.drop (k+1)=rest):=hd0 (by
     rw[<-HL.out,HH.out.1,iZ aM,auu,List.drop_append_of_le_length' (by have:=HH.out.2.1;omega)])
    clear aM;go_wp2;go_ret2;exact⟨by rw[<-hVn.out];rfl,by rw[<-RF.out];exact ag H.out 0 _,(ah.refl (fun x=>x=r) w).setCell (p:=⟨r,0,none⟩) (.inl rfl) _⟩
   ·have ad6:(128:Int)<=c:=by have:=Hcm.out;rw[atR aM]at this;omega
    have HH2:Hid (aO n=(pre++[UInt8.ofNat (m%128+128)])++aO (m/128)/\(pre++[UInt8.ofNat (m%128+128)]).length=k+1/\n=V+2 ^ (7*(k+1))*(m/128)/\V<2 ^ (7*(k+1))/\(k+1≠0->m/128≠0)):=hd0 ⟨by rw[HH.out.1,oV aM];simp,by rw[at0,HH.out.2.1];rfl,by rw[abQ,HP.out];exact(HV.out.2.2 aM).1,by rw[abQ,HP.out];exact(HV.out.2.2 aM).2,fun _=>by omega⟩;clear aM;go_wp2_with fail;exact⟨⟨k+1,V,m/128,_,by go_num,rfl,rfl,HH2⟩,by have:=Bu.out;simp[intOf];omega⟩
theorem QW (s rest:List UInt8)(most:Int)(r:Nat)(w:World)(h:MB w r (aO s.length++(s++rest)))(hs:s.length<=1000)(hm:(s.length:Int)<=most)(gO:most<=1000)(hr:rest.length<=900000):
  Calls prog 40 #[.pointer (some ⟨r,0,none⟩),.int .i64 most] w fun e w'=>e=.returned (.tuple #[.string ⟨s.toArray⟩,.int .i64 0])/\MB w' r rest/\ah (·=r) w w':=by
 have H:=hd0 h;have UU:min most (65536:Int)=most:=by omega
 have Hs:=hd0 hs;have Hm:=hd0 hm;have Hr:=hd0 hr;clear h hs hm hr gO;go_enter func40,ntmps40;go_wp2_with fail;refine(JQ s.length (s++rest) most r w H.out (by have:=Hs.out;omega) Hm.out (by have:=Hs.out;have:=Hr.out;rw[at0];omega)).mono ?_;rintro e w1 ⟨rfl,h1,mM⟩;have H1:=hd0 h1;have yl:=hd0 mM;obtain⟨X,hX⟩:∃ X,s++rest=X:=⟨_,rfl⟩
 rw[hX]at h1 H1;have c0:w1.cell? ⟨r,0,none⟩=some (.string ⟨X.toArray⟩):=aa h1 0;have f0:w1.frozen? ⟨r,0,none⟩=false:=ae h1 _ rfl;obtain⟨N,hN⟩:∃ N,s.length=N:=⟨_,rfl⟩
 have hXl:N<=X.length/\X.length<=140737488351232:=by rw[<-hX,at0,hN];have:=Hs.out;have:=Hr.out;omega
 have I2:¬(X.length:Int)<N:=by omega
 have aoi:(N:Int)<=X.length:=by omega
 have hN0:(0:Int)<=N:=by omega
 have Ht:Hid (X.take N=s):=hd0 (by rw[<-hX,<-hN,List.take_left' rfl]);have Hd:Hid (X.drop N=rest):=hd0 (by rw[<-hX,<-hN,List.drop_left' rfl]);rw[hN];clear h1 mM hX hN UU;go_wp2;go_ret2;refine⟨by rw[<-Ht.out];rfl,?_,yl.out.setCell (p:=⟨r,0,none⟩) (.inl rfl) _⟩;rw[<-Hd.out];exact ag H1.out 0 _
theorem UJ (r:Nat)(w:World)(h:MB w r []):Calls prog 41 #[.pointer (some ⟨r,0,none⟩)] w fun e w'=>e=.returned (.int .i64 0)/\af w w':=by
 have c0:w.cell? ⟨r,0,none⟩=some (.string ⟨#[]⟩):=aa h 0;have c1:w.cell? ⟨r,1,none⟩=some .nilIface:=aa h 1;clear h;go_enter func41,ntmps41;go_wp2;go_ret;exact⟨rfl,ah.refl _ _⟩
end
section
open Go.RowKit Go.Extern.Stop Go.Stop Go.Extern
end
section
open Go.RowKit
end
end
end Go.Proofs.YtkghpdcloaiflaaGreatDoor
