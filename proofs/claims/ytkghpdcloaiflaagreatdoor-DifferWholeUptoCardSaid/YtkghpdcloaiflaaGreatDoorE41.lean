import Derived.Test.YtkghpdcloaiflaaGreatDoorE40
import Derived.LaidEql
import Derived.Stop.Asserts
import Derived.RowKitTokens
set_option maxHeartbeats 4000000
set_option maxRecDepth 100000
namespace Go.Proofs.YtkghpdcloaiflaaGreatDoor
open _root_.Go.Proofs.Tryz
section
section
open Go.RowKit
abbrev Ng (w:World)(r:Nat)(s:List UInt8):Prop:=World.blk w r #[.string ⟨s.toArray⟩,.nilIface] 139
theorem Nh (s:List UInt8)(w:World):Calls prog 38 #[.string ⟨s.toArray⟩] w fun e w'=>e=.returned (.pointer (some ⟨w.heap.size,0,none⟩))/\Ng w' w.heap.size s/\af w w':=by
 go_enter func38,ntmps38;go_wp2;go_ret;exact⟨rfl,aw _ _ _,(ah.refl _ _).alloc _⟩
theorem Y6 (a b s:Nat)(ha:a<2 ^ s)(hb:a+b*2 ^ s<9223372036854775808):bits .or .i64 (a:Int) ((b*2 ^ s:Nat):Int)=((a+b*2 ^ s:Nat):Int):=by
 have e:=Nat.two_pow_add_eq_or_of_lt ha b;rw[Nat.mul_comm,Nat.or_comm]at e;have e1:(BitVec.ofInt 64 (a:Int)|||BitVec.ofInt 64 ((b*2 ^ s:Nat):Int)).toNat=a+b*2 ^ s:=by
  rw[BitVec.ofInt_natCast,BitVec.ofInt_natCast,BitVec.toNat_or,BitVec.toNat_ofNat,BitVec.toNat_ofNat,avZ (by omega),avZ (by omega),<-e];omega
 show IntKind.i64.wrap (((BitVec.ofInt 64 (a:Int)|||BitVec.ofInt 64 ((b*2 ^ s:Nat):Int)).toNat:Nat):Int)=_;rw[e1,IntKind.wrap_i64];omega
theorem List.drop_append_of_le_length' {a:List UInt8}{x:UInt8}{r:List UInt8}{k:Nat}(h:a.length+1=k):(a++([x]++r)).drop k=r:=by
 subst h;rw[<-avi,List.drop_append];simp
theorem act (k:Nat):(2:Nat) ^ (7*(k+1))=128*2 ^ (7*k):=by rw[show 7*(k+1)=7+7*k by omega,Nat.pow_add]
theorem Vh {x:Int}(h:0<=x/\x<9223372036854775808):wrap64 x=x:=by unfold wrap64;omega
theorem Ke (n:Nat)(rest:List UInt8)(most:Int)(r:Nat)(w:World)(h:Ng w r (aP n++rest))(hn:n<=4611686018427387903)(hm:(n:Int)<=most)(hr:rest.length<=140737488351232):
  Calls prog 39 #[.pointer (some ⟨r,0,none⟩),.int .i64 most] w fun e w'=>e=.returned (.tuple #[.int .i64 (n:Int),.int .i64 0])/\Ng w' r rest/\ah (·=r) w w':=by
 have H:=hd0 h;have c0:w.cell? ⟨r,0,none⟩=some (.string ⟨(aP n++rest).toArray⟩):=aa h 0;have c1:w.cell? ⟨r,1,none⟩=some .nilIface:=aa h 1;have f0:w.frozen? ⟨r,0,none⟩=false:=ae h _ rfl;obtain⟨L,hL⟩:∃ L,aP n++rest=L:=⟨_,rfl⟩
 have hLl:(L.length:Int)<=9223372036854775807:=by rw[<-hL,auS];have:=bI (n:=n) (by omega);omega
 rw[hL]at c0 H;have HL:=hd0 hL;have Hn:=hd0 hn;have Hm:=hd0 hm;clear h hL hn hm;go_enter func39,ntmps39;go_wp2_with fail
 go_loop [6,7,8] (fun a o i=>∃(k kn m:Nat) (pre:List UInt8),i=.int .i64 (k:Int)/\a=.int .i64 (kn:Int)/\o=.bool false/\Hid (aP n=pre++aP m/\pre.length=k/\n=kn+2 ^ (7*k)*m/\kn<2 ^ (7*k)/\(k≠0->m≠0))) (fun _ _ i=>(10-intOf i).toNat)
 case atStart=>exact⟨0,0,n,[],rfl,rfl,rfl,hd0 ⟨rfl,rfl,by omega,by omega,fun h=>absurd rfl h⟩⟩
 case round=>
  obtain⟨k,kn,m,pre,rfl,rfl,rfl,HH⟩:=hrel;obtain⟨P,hP⟩:∃ P:Nat,2 ^ (7*k)=P:=⟨_,rfl⟩
  obtain⟨c,hc,Cq⟩:∃ c:Nat,c<256/\c=(if m<128 then m else m%128+128):=⟨_,by split<;>omega,rfl⟩
  have ru:L[k]?=some (UInt8.ofNat c):=by
   rw[<-HL.out,HH.out.1,avi,List.getElem?_append_right (by have:=HH.out.2.1;omega),HH.out.2.1,Nat.sub_self,Cq];by_cases aL:m<128
   ·rw[jj aL,auI aL];rfl
   ·rw[pn aL,auK aL];rfl
  have hLL:k<L.length:=(auP.1 ru).1;have hk9:k<=8:=by
   have h1:=bI (n:=n) (by have:=Hn.out;omega);have h2:=avO List.length HH.out.1;rw[auS,HH.out.2.1]at h2;have h3:1<=(aP m).length:=by
    by_cases aL:m<128
    ·rw[jj aL];simp
    ·rw[pn aL];simp
   omega
  have hl:((k:Int)==(L.length:Int))=false:=by rw[avj];omega
  have h9:((k:Int)==9)=false:=by rw[avj];omega
  have WD:∀ W,(Instr.index 9 (.string ⟨L.toArray⟩) (.int .i64 (k:Int))).run prog W=.ok (.int .u8 (c:Int)) W:=fun W=>by
   have h:=bf underlying9 L .i64 k (UInt8.ofNat c) (by omega) ru W;have e8:((UInt8.ofNat c).toNat:Int)=c:=by simp;omega
   rw[e8]at h;exact h
  have hw7:IntKind.i64.wrap (7*(k:Int))=7*(k:Int):=by rw[IntKind.wrap_i64];omega
  obtain⟨V,hV⟩:∃ V:Nat,V=kn+c%128*P:=⟨_,rfl⟩
  have adr:P*m=P*(m%128)+128*P*(m/128):=by
   conv=>lhs;rw[show m=m%128+128*(m/128) by omega,Nat.mul_add,<-avQ,Nat.mul_comm P 128]
  have hcP:c%128=m%128:=by rw[Cq];split<;>omega
  have Wj:V<=n/\(m<128->V=n)/\(¬ m<128->n=V+128*P*(m/128)/\V<128*P):=by
   have h1:=HH.out.2.2.1;have h2:=HH.out.2.2.2.1;rw[hP]at h1 h2;rw[adr]at h1;have h3:c%128*P=P*(m%128):=by rw[hcP,Nat.mul_comm]
   have h4:P*(m%128)<=P*127:=au2 _ (by omega);rw[hV,h3];refine⟨by omega,fun h=>?_,fun _=>⟨by omega,by omega⟩⟩;rw[show m/128=0 by omega,Nat.mul_zero]at h1;omega
  have Kw:c%128*P<4611686018427387904:=by have:=Wj.1;have:=Hn.out;omega
  have hwr:wrap64 ((c:Int)%128*2 ^ (7*k))=((c%128*2 ^ (7*k):Nat):Int):=by
   have e:((c:Int)%128*2 ^ (7*k))=((c%128*2 ^ (7*k):Nat):Int):=by simp
   rw[e,hP];exact Vh (by omega)
  have hor:bits .or .i64 (kn:Int) (wrap64 ((c:Int)%128*2 ^ (7*k)))=(V:Int):=by
   rw[hwr,Y6 kn (c%128) (7*k) HH.out.2.2.2.1 (by rw[hP];have:=Wj.1;have:=Hn.out;omega),hP,hV]
  have hV1:¬(4611686018427387903:Int)<(V:Int):=by have:=Wj.1;have:=Hn.out;omega
  have hV0:¬(V:Int)<0:=by omega
  have hVm:¬ most<(V:Int):=by have:=Wj.1;have:=Hm.out;omega
  have HV:=hd0 Wj;have Hcm:=hd0 Cq;have HP:=hd0 hP;have BR:=hd0 hk9;have dE:k≠0->c≠0:=fun h=>by have:=HH.out.2.2.2.2 h;rw[Cq];split<;>omega
  have hc0:(k=0/\c=0)\/(k=0/\c≠0)\/(0<k/\c≠0):=by
   by_cases h:k=0
   ·omega
   ·have:=dE h;omega
  clear hV Wj Cq ru hP hwr adr hcP Kw dE;rcases hc0 with⟨dE,hc0⟩|⟨dE,hc0⟩|⟨dE,hc0⟩
  all_goals
   first
    |(have R9:((c:Int)==0)=true:=by(rw[ave];omega))
    |(have R9:((c:Int)==0)=false:=by(rw[avj];omega))
   first
    |(have hk1:¬(0:Int)<k:=by omega)
    |(have hk1:(0:Int)<k:=by omega)
   clear dE hc0;by_cases aL:m<128
   ·have aeF:¬(128:Int)<=c:=by have:=Hcm.out;rw[auI aL]at this;omega
    have hVn:Hid (V=n):=hd0 (HV.out.2.1 aL);have Sl:Hid (L.drop (k+1)=rest):=hd0 (by
     rw[<-HL.out,HH.out.1,jj aL,avi,List.drop_append_of_le_length' (by have:=HH.out.2.1;omega)])
    clear aL;go_wp2;go_ret2;exact⟨by rw[<-hVn.out];rfl,by rw[<-Sl.out];exact ag H.out 0 _,(ah.refl (fun x=>x=r) w).setCell (p:=⟨r,0,none⟩) (.inl rfl) _⟩
   ·have aeF:(128:Int)<=c:=by have:=Hcm.out;rw[auK aL]at this;omega
    have HH2:Hid (aP n=(pre++[UInt8.ofNat (m%128+128)])++aP (m/128)/\(pre++[UInt8.ofNat (m%128+128)]).length=k+1/\n=V+2 ^ (7*(k+1))*(m/128)/\V<2 ^ (7*(k+1))/\(k+1≠0->m/128≠0)):=hd0 ⟨by rw[HH.out.1,pn aL];simp,by rw[auS,HH.out.2.1];rfl,by rw[act,HP.out];exact(HV.out.2.2 aL).1,by rw[act,HP.out];exact(HV.out.2.2 aL).2,fun _=>by omega⟩;clear aL;go_wp2_with fail;exact⟨⟨k+1,V,m/128,_,by go_num,rfl,rfl,HH2⟩,by have:=BR.out;simp[intOf];omega⟩
theorem Rq (s rest:List UInt8)(most:Int)(r:Nat)(w:World)(h:Ng w r (aP s.length++(s++rest)))(hs:s.length<=1000)(hm:(s.length:Int)<=most)(gV:most<=1000)(hr:rest.length<=900000):
  Calls prog 40 #[.pointer (some ⟨r,0,none⟩),.int .i64 most] w fun e w'=>e=.returned (.tuple #[.string ⟨s.toArray⟩,.int .i64 0])/\Ng w' r rest/\ah (·=r) w w':=by
 have H:=hd0 h;have V1:min most (65536:Int)=most:=by omega
 have Hs:=hd0 hs;have Hm:=hd0 hm;have Hr:=hd0 hr;clear h hs hm hr gV;go_enter func40,ntmps40;go_wp2_with fail;refine(Ke s.length (s++rest) most r w H.out (by have:=Hs.out;omega) Hm.out (by have:=Hs.out;have:=Hr.out;rw[auS];omega)).mono ?_;rintro e w1 ⟨rfl,h1,mT⟩;have H1:=hd0 h1;have yB:=hd0 mT;obtain⟨X,hX⟩:∃ X,s++rest=X:=⟨_,rfl⟩
 rw[hX]at h1 H1;have c0:w1.cell? ⟨r,0,none⟩=some (.string ⟨X.toArray⟩):=aa h1 0;have f0:w1.frozen? ⟨r,0,none⟩=false:=ae h1 _ rfl;obtain⟨N,hN⟩:∃ N,s.length=N:=⟨_,rfl⟩
 have hXl:N<=X.length/\X.length<=140737488351232:=by rw[<-hX,auS,hN];have:=Hs.out;have:=Hr.out;omega
 have IY:¬(X.length:Int)<N:=by omega
 have asB:(N:Int)<=X.length:=by omega
 have hN0:(0:Int)<=N:=by omega
 have Ht:Hid (X.take N=s):=hd0 (by rw[<-hX,<-hN,List.take_left' rfl]);have Hd:Hid (X.drop N=rest):=hd0 (by rw[<-hX,<-hN,List.drop_left' rfl]);rw[hN];clear h1 mT hX hN V1;go_wp2;go_ret2;refine⟨by rw[<-Ht.out];rfl,?_,yB.out.setCell (p:=⟨r,0,none⟩) (.inl rfl) _⟩;rw[<-Hd.out];exact ag H1.out 0 _
theorem Vi (r:Nat)(w:World)(h:Ng w r []):Calls prog 41 #[.pointer (some ⟨r,0,none⟩)] w fun e w'=>e=.returned (.int .i64 0)/\af w w':=by
 have c0:w.cell? ⟨r,0,none⟩=some (.string ⟨#[]⟩):=aa h 0;have c1:w.cell? ⟨r,1,none⟩=some .nilIface:=aa h 1;clear h;go_enter func41,ntmps41;go_wp2;go_ret;exact⟨rfl,ah.refl _ _⟩
end
section
open Go.RowKit Go.Extern.Stop Go.Stop Go.Extern
end
section
open Go.RowKit
end
end
end Go.Proofs.YtkghpdcloaiflaaGreatDoor
