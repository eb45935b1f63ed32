import Derived.Test.YtkghpdcloaiflaaGreatDoorH41
set_option maxHeartbeats 4000000
set_option maxRecDepth 100000
namespace Go.Proofs.YtkghpdcloaiflaaGreatDoor
open _root_.Go.Proofs.Tryz
section
section
open Go.RowKit
theorem BM (m:Nat):∀(n:Int) (w:World),0<=n->n<9223372036854775808->n<m->Calls prog 165 #[.int .i64 n] w λe w'=>e=.returned (.string ⟨(aD n.toNat).toArray⟩)/\af w w':=by
 induction m with
 |zero=>intro n w h0 h1 h2;omega
 |succ m ih=>
  intro n w h0 hn hm;have Ih:=Z ih;clear ih;have dh:=λx hx W b h=>Dh (P:=prog) underlying131 underlying5 underlying9 x hx W b h;by_cases h:n<128
  ·have He:=Z (eL (n:=n.toNat) J);have hw:IntKind.u8.wrap n=n:=zA _ J;have j5:=dh n J;clear dh hm hn;go_enter func165,ntmps165;go_wp2;go_ret;exact⟨by rw[He.o];rfl,(ai.refl _ w).alloc _⟩
  ·have He:=Z (jz (n:=n.toNat) J);have hb1:n%128<128:=J
   have ic:0<=n%128:=J
   have hw:IntKind.u8.wrap (128+n%128)=128+n%128:=zA _ J;have j5:=dh (128+n%128) J;have e1:n.tdiv 128=n/128:=by rw[axf J]
   have e2:n.tmod 128=n%128:=Int.tmod_eq_emod_of_nonneg J;have e3:IntKind.i64.wrap (n/128)=n/128:=axx _ J;have e4:IntKind.i64.wrap (128+n%128)=128+n%128:=axx _ J;have abK:(aD (n/128).toNat).length<=9:=aK J;have Hb:=Z (show 0<=n/128/\n/128<9223372036854775808/\n/128<m by omega);have Hx:Hid ((128+n%128).toNat=n.toNat%128+128/\(n/128).toNat=n.toNat/128):=Z J;clear dh hm hn;go_enter func165,ntmps165;go_wp2_with fail
   go_region_with (go_at_call 165;refine(Ih.o _ _ Hb.1 Hb.2.1 Hb.2.2).mono ?_;rintro e w1 ⟨rfl,hk⟩;have hcc:=λb i (h:b<_)=>hk.cell (p:=⟨b,i,none⟩) h id)
   all_goals
    go_wp2;go_ret
    first
     |exact⟨by rw[He.o,<-Hx.1,<-Hx.2];rfl,((ai.refl _ w).drew.keep hk).alloc _⟩
     |exact⟨by rw[He.o,<-Hx.1,<-Hx.2];rfl,((ai.refl _ w).drew.alloc _).keep hk⟩
     |exact⟨by rw[He.o,<-Hx.1,<-Hx.2];rfl,((ai.refl _ w).alloc _).drew.keep hk⟩
theorem ux (n:Nat)(w:World)(hn:n<9223372036854775808):Calls prog 165 #[.int .i64 (n:Int)] w λe w'=>e=.returned (.string ⟨(aD n).toArray⟩)/\af w w':=
 BM (n+1) n w J J J
theorem No (n:Int)(w:World)(hn:-9223372036854775808<=n/\n<=9223372036854775807):
  Calls prog 86 #[.int .i64 n] w λe w'=>e=.returned (if 0<=n/\n<=4611686018427387903 then .tuple #[.string ⟨(aD n.toNat).toArray⟩,.int .i64 0]else .tuple #[.string ⟨#[]⟩,.int .i64 31])/\af w w':=by
 by_cases h:0<=n/\n<=4611686018427387903
 ·rw[awd h];obtain⟨h1,h2⟩:=h;have h3:¬ n<0:=J
  have h4:¬ 4611686018427387903<n:=J
  obtain⟨m,rfl⟩:∃ m:Nat,n=m:=⟨n.toNat,J⟩
  have hm:m<9223372036854775808:=J
  clear h2 hn;go_enter func86,ntmps86;go_wp2_with fail;refine(ux m _ hm).mono ?_;rintro e w1 ⟨rfl,hk⟩;have Hk:=Z hk;clear hk;go_wp2;go_ret2;exact⟨rfl,Hk.o⟩
 ·rw[awf h];have h5:n<0\/4611686018427387903<n:=J
  clear h;by_cases h1:n<0
  ·go_enter func86,ntmps86;go_wp2;go_ret2;exact⟨rfl,ai.refl _ _⟩
  ·have h2:4611686018427387903<n:=J
   clear h5;go_enter func86,ntmps86;go_wp2;go_ret2;exact⟨rfl,ai.refl _ _⟩
theorem RR (n:Nat)(w:World)(hn:n<=4611686018427387903):
  Calls prog 86 #[.int .i64 (n:Int)] w λe w'=>e=.returned (.tuple #[.string ⟨(aD n).toArray⟩,.int .i64 0])/\af w w':=by
 refine(No n w J).mono λe w' ⟨h1,h2⟩=>⟨?_,h2⟩
 rw[awd J]at h1;rw[h1,awH]
theorem I8 (s:List UInt8)(w:World)(hs:s.length<=65536):
  Calls prog 87 #[.string ⟨s.toArray⟩] w λe w'=>e=.returned (.tuple #[.string ⟨(aD s.length++s).toArray⟩,.int .i64 0])/\af w w':=by
 have h1:¬(65536:Int)<s.length:=J
 have Hm:Hid (s.length<9223372036854775808):=Z J;have h2:(s.length:Int)<=9223372036854775807:=J
 clear hs;go_enter func87,ntmps87;go_wp2_with fail;refine(ux s.length _ Hm.o).mono ?_;rintro e w1 ⟨rfl,hk⟩;have Hk:=Z hk;clear hk;have hb:¬ 9223372036854775807<(aD s.length).length+s.length:=by have:=aK Hm.o;omega
 go_wp2;go_ret2;exact⟨rfl,Hk.o⟩
theorem Au (L:List Nat)(w:World)(b:Nat)(hn:∀ n∈L,n<=4611686018427387903)(hl:L.length<=100)(hb:∀(j:Nat) (n:Nat),L[j]?=some n->w.cell? ⟨b,j,none⟩=some (.int .i64 (n:Int))):
  Calls prog 36 #[.slice (some ⟨b,0,none⟩) L.length L.length] w λe w'=>e=.returned (.string ⟨(L.flatMap aD).toArray⟩)/\af w w':=by
 obtain⟨HB,HN⟩:=K2 hb hn;have FK:(L.length:Int)<=100:=J
 clear hb hn;go_enter func36,ntmps36;go_wp2_with fail
 go_loopw [3,4] (λv i wr=>∃(k:Nat) (pre:List UInt8),k<=L.length/\i=.int .i64 (k:Int)/\v=.string ⟨pre.toArray⟩/\pre.length<=9*k/\Hid (pre=(L.take k).flatMap aD)/\af w wr) (λ_ i _=>L.length-(intOf i).toNat)
 case atStart=>exact⟨0,[],J,rfl,rfl,by simp,Z rfl,ai.refl _ _⟩
 case round=>
  obtain⟨k,pre,hk,rfl,rfl,tN,Hp,hK⟩:=hrel;have HK:=Z hK;clear hK;by_cases aP:k<L.length
  ·obtain⟨n,hx⟩:∃ n,L[k]?=some n:=⟨_,av6 aP⟩
   have c0:wr.cell? ⟨b,k,none⟩=some (.int .i64 (n:Int)):=by
    have h:=HB.o k n hx;rw[HK.cell (p:=⟨b,k,none⟩) (am h) id];exact h
   obtain⟨Hnn,Hx⟩:=K2 (HN.o n (av7 hx)) hx;have yA:(k:Int)<L.length:=J
   clear hx;go_wp2_with fail;refine(RR n wr Hnn.o).mono ?_;rintro e w1 ⟨rfl,hk1⟩;have cC:=Z (HK.keep hk1);have abK:(aD n).length<=9:=aK (by have:=Hnn.o;omega);clear hk1 c0;go_wp2_with fail;exact⟨⟨k+1,pre++aD n,J,by go_num,rfl,by rw[awn];omega,Z (by rw[iZ Hx.o,Hp.o];simp),cC.o⟩,by simp[intOf];omega⟩
  ·obtain rfl:k=L.length:=J
   clear aP;go_wp2;go_ret;exact⟨by rw[Hp.o,awa];rfl,HK.o⟩
end
section
open Go.RowKit
def jC:Nat->Nat->List UInt8->Except Int (Nat×Nat)
 |_,_,[]=>.error 32
 |i,n,c::r=>if i=9\/(0<i/\c.toNat=0)then .error 30 else if c.toNat<128 then .ok (n+c.toNat%128*128 ^ i,i+1)else jC (i+1) (n+c.toNat%128*128 ^ i) r
abbrev jd (w:World)(r:Nat)(s:List UInt8)(k:Nat)(e:Int):Prop:=World.blk w r #[.string ⟨s.toArray⟩,.int .i64 (k:Int),.int .i64 e] 75
theorem Fh (n:Nat):∀(i dm:Nat) (rest:List UInt8),(0<i->n≠0)->n<128 ^ (9-i)->i<=8->jC i dm (aD n++rest)=.ok (dm+n*128 ^ i,i+(aD n).length):=by
 induction n using Nat.strongRecOn with
 |_ n ih=>
  intro i dm rest h0 hn hi;by_cases h:n<128
  ·rw[eL h];have hc:(UInt8.ofNat n).toNat=n:=by simp;omega
   show(if i=9\/(0<i/\(UInt8.ofNat n).toNat=0)then _ else _)=_;rw[awf,awd (by rw[hc];exact h),hc,axt h];rfl;rintro(e|⟨e,e2⟩)
   ·omega
   ·rw[hc]at e2;exact h0 e e2
  ·rw[jz h];have hc:(UInt8.ofNat (n%128+128)).toNat=n%128+128:=by simp;omega
   show(if i=9\/(0<i/\(UInt8.ofNat (n%128+128)).toNat=0)then _ else if(UInt8.ofNat (n%128+128)).toNat<128 then _ else jC (i+1) (dm+(UInt8.ofNat (n%128+128)).toNat%128*128 ^ i) (aD (n/128)++rest))=_;have h9:i≠8:=λe=>by subst e;simp at hn;omega
   rw[awf,awf (by rw[hc];omega),hc,ih (n/128) J (i+1) _ rest (λ_=>J) ?_ J]
   ·have e:(n%128+128)%128=n%128:=J
    rw[e,awy];have e2:n=n%128+128*(n/128):=J
    congr 2
    ·conv=>rhs;rw[e2]
     rw[Nat.add_mul,awl]
     congr 2
     rw[Nat.mul_comm (128 ^ i) 128,<-axk,Nat.mul_comm (n/128) 128]
    ·simp only[av5];omega
   ·have e3:9-i=(9-(i+1))+1:=J
    rw[e3,awy]at hn;exact Nat.div_lt_of_lt_mul (by rw[Nat.mul_comm];exact hn)
   ·rintro(e|⟨e,e2⟩)
    ·omega
    ·rw[hc]at e2;omega
theorem ra:∀(s:List UInt8) (i n m k:Nat),i<=9->n<128 ^ i->jC i n s=.ok (m,k)->m<128 ^ 9/\i<k/\k<=i+s.length:=by
 intro s
 induction s with
 |nil=>intro i n m k _ _ h;cases h
 |cons c r ih=>
  intro i n m k hi hn h;rw[jC]at h;split at h
  ·cases h
  ·rename_i hx
   have hi8:i<=8:=J
   have hp:n+c.toNat%128*128 ^ i<128 ^ (i+1):=by
    rw[awy];have h1:c.toNat%128<=127:=J
    have h2:=Nat.mul_le_mul_right (128 ^ i) h1;omega
   split at h
   ·injection h with h;injection h with h1 h2;refine⟨?_,J,by simp only[av5];omega⟩;rw[<-h1];exact awg hp (awA J J)
   ·have:=ih (i+1) _ m k J hp h;exact⟨this.1,J,by simp only[av5];omega⟩
def aab (w:World)(r:Nat)(S:List UInt8)(k0:Nat)(most:Int)(e:Ending)(w':World):Prop:=
 ai (·=r) w w'/\match jC 0 0 (S.drop k0)with
  | .error x=>e=.returned (.tuple #[.int .i64 0,.int .i64 x])/\jd w' r S k0 x
  | .ok (n,k)=>if n<=4611686018427387903/\(n:Int)<=most then e=.returned (.tuple #[.int .i64 (n:Int),.int .i64 0])/\jd w' r S (k0+k) 0 else e=.returned (.tuple #[.int .i64 0,.int .i64 31])/\jd w' r S (k0+k) 31
theorem hZ (S:List UInt8)(k:Nat)(x y:Int)(r:Nat)(w:World)(h:jd w r S k x):Calls prog 90 #[.pointer (some ⟨r,0,none⟩),.int .i64 y] w λe w'=>e=.returned (.int .i64 y)/\jd w' r S k y/\ai (·=r) w w':=by
 have c2:w.cell? ⟨r,2,none⟩=some (.int .i64 x):=aa h 2;have f2:w.frozen? ⟨r,2,none⟩=false:=ae h _ rfl;have H:=Z h;clear h;go_enter func90,ntmps90;go_wp2;go_ret;exact⟨rfl,ah H.o 2 _,(ai.refl (λx=>x=r) w).setCell (p:=⟨r,2,none⟩) (.inl rfl) _⟩
theorem tD (S:List UInt8)(k0:Nat)(most:Int)(r:Nat)(w:World)(h:jd w r S k0 0)(hk:k0<=S.length)(hS:S.length<=140737488351232)(_hm:most<=9223372036854775807):
  Calls prog 42 #[.pointer (some ⟨r,0,none⟩),.int .i64 most] w (aab w r S k0 most):=by
 have H:=Z h;have c0:w.cell? ⟨r,0,none⟩=some (.string ⟨S.toArray⟩):=aa h 0;have c1:w.cell? ⟨r,1,none⟩=some (.int .i64 (k0:Int)):=aa h 1;have c2:w.cell? ⟨r,2,none⟩=some (.int .i64 0):=aa h 2;have f1:w.frozen? ⟨r,1,none⟩=false:=ae h _ rfl;have f2:w.frozen? ⟨r,2,none⟩=false:=ae h _ rfl;have hSi:(S.length:Int)<=140737488351232:=J
 have B9:(k0:Int)<=140737488351232:=J
 clear h;go_enter func42,ntmps42;go_wp2_with fail
 go_loopw [6,7,8] (λa t i wr=>∃(k dm Tm:Nat),k<=9/\k0+k<=S.length/\i=.int .i64 (k:Int)/\a=.int .i64 (dm:Int)/\t=.int .i64 (Tm:Int)/\af w wr/\Hid (Tm=128 ^ min k 8/\dm<128 ^ k/\jC 0 0 (S.drop k0)=jC k dm (S.drop (k0+k)))) (λ_ _ i _=>(10-intOf i).toNat)
 case atStart=>exact⟨0,0,1,J,J,rfl,rfl,rfl,ai.refl _ _,Z ⟨rfl,J,rfl⟩⟩
 case round=>
  clear c0 c1 c2 f1 f2;obtain⟨k,dm,Tm,hk9,yA,rfl,rfl,rfl,hK,HH⟩:=hrel;obtain⟨HK,H'⟩:=K2 hK (ab hK H.o id);have c0:wr.cell? ⟨r,0,none⟩=some (.string ⟨S.toArray⟩):=aa H'.o 0;have c1:wr.cell? ⟨r,1,none⟩=some (.int .i64 (k0:Int)):=aa H'.o 1;have c2:wr.cell? ⟨r,2,none⟩=some (.int .i64 0):=aa H'.o 2;have f1:wr.frozen? ⟨r,1,none⟩=false:=ae H'.o _ rfl;have f2:wr.frozen? ⟨r,2,none⟩=false:=ae H'.o _ rfl;have aaV:(k:Int)<10:=J
  have hwk:IntKind.i64.wrap ((k0:Int)+k)=(k0:Int)+k:=axx _ J;clear hK;by_cases gN:k0+k=S.length
  ·have hv:jC 0 0 (S.drop k0)=.error 32:=by rw[HH.2.2,List.drop_of_length_le J];rfl
   have Hv:=Z hv;have hge:(S.length:Int)<=(k0:Int)+k:=J
   clear hv;go_wp2_with fail;refine ba kr7 kr7 ?_
   repeat (quiet_step (fail))
   refine awX ?_;intro _ bD;obtain⟨nq,rfl⟩:=bD;go_wp2_with fail;refine(hZ S k0 0 32 r _ (cf H'.o nq)).mono ?_;rintro e w2 ⟨rfl,h2,db⟩;have H2:=Z h2;have gi:Hid (ai (·=r) w w2):=Z (((HK.drewN nq).mono (λ_ _ h=>h.elim)).trans db (λ_ _ h=>h));clear h2 db;go_wp2;go_ret2;refine⟨gi.o,?_⟩;rw[Hv.o];exact⟨rfl,H2.o⟩
  ·obtain⟨c,hc⟩:∃ c,S[k0+k]?=some c:=⟨_,av6 J⟩
   have hd:S.drop (k0+k)=c::S.drop (k0+k+1):=by
    rw[List.drop_eq_getElem_cons J]
    congr 1
    exact axa ((av6 J).symm.trans hc)
   have aP:(k0:Int)+k<S.length:=J
   have ajJ:∀ W,(Instr.index 9 (.string ⟨S.toArray⟩) (.int .i64 ((k0:Int)+k))).run prog W=.ok (.int .u8 (c.toNat:Int)) W:=λW=>
    aM underlying9 S .i64 ((k0:Int)+k) c J (by rw[show((k0:Int)+k).toNat=k0+k by omega];exact hc) W
   have YC:=c.toNat_lt;have Ux:jC 0 0 (S.drop k0)=if k=9\/(0<k/\c.toNat=0)then .error 30 else if c.toNat<128 then .ok (dm+c.toNat%128*128 ^ k,k+1)else jC (k+1) (dm+c.toNat%128*128 ^ k) (S.drop (k0+k+1)):=by
    rw[HH.2.2,hd];rfl
   have yf:=HH.2.1;have FM:=HH.1;obtain⟨ci,Tu⟩:∃ ci,c.toNat=ci:=⟨_,rfl⟩
   rw[Tu]at ajJ YC Ux;have TM:=Z Ux;clear hc hd Ux Tu gN HH;by_cases hf:k=9\/(0<k/\ci=0)
   ·have Hv:Hid (jC 0 0 (S.drop k0)=.error 30):=Z (by rw[TM.o,awd hf]);have hvn:k=9\/(¬ k=9/\0<k/\ci=0):=J
    clear TM yf FM hf;rcases hvn with hv9|⟨hv9,Ge,hvc⟩
    ·have h9:((k:Int)==9)=true:=awJ.2 J;clear hv9;go_wp2_with fail;refine ba kr7 kr7 ?_
     repeat (quiet_step (fail))
     refine awX ?_;intro _ bD;obtain⟨nq,rfl⟩:=bD;go_wp2_with fail;refine cK kr7 kr7 ?_
     repeat (quiet_step (fail))
     refine awX ?_;intro _ bD;obtain⟨FE,rfl⟩:=bD;go_wp2_with fail;refine(hZ S k0 0 30 r _ (cf H'.o FE)).mono ?_;rintro e w2 ⟨rfl,h2,db⟩;have H2:=Z h2;have gi:Hid (ai (·=r) w w2):=Z (((HK.drewN FE).mono (λ_ _ h=>h.elim)).trans db (λ_ _ h=>h));clear h2 db;go_wp2;go_ret2;refine⟨gi.o,?_⟩;rw[Hv.o];exact⟨rfl,H2.o⟩
    ·have h9:((k:Int)==9)=false:=axl J;subst hvc;have dM:0<(k:Int):=J
     go_wp2_with fail;refine ba kr7 kr7 ?_
     repeat (quiet_step (fail))
     refine awX ?_;intro _ bD;obtain⟨nq,rfl⟩:=bD;go_wp2_with fail;refine cK kr7 kr7 ?_
     repeat (quiet_step (fail))
     refine awX ?_;intro _ bD;obtain⟨FE,rfl⟩:=bD;go_wp2_with fail;refine(hZ S k0 0 30 r _ (cf H'.o FE)).mono ?_;rintro e w2 ⟨rfl,h2,db⟩;have H2:=Z h2;have gi:Hid (ai (·=r) w w2):=Z (((HK.drewN FE).mono (λ_ _ h=>h.elim)).trans db (λ_ _ h=>h));clear h2 db;go_wp2;go_ret2;refine⟨gi.o,?_⟩;rw[Hv.o];exact⟨rfl,H2.o⟩
   ·have kn:k<=8:=J
    have FN:min k 8=k:=J
    rw[FN]at FM;have hTb:Tm<=72057594037927936:=by
     rw[FM];exact av2 (awA J kn) dc7
    obtain⟨P,hP⟩:∃ P,ci%128*Tm=P:=⟨_,rfl⟩
    have hPb:P<=127*Tm:=by rw[<-hP];exact Nat.mul_le_mul_right _ J
    have aaR:IntKind.i64.wrap ((ci:Int)%128*(Tm:Int))=(P:Int):=by
     have e:(ci:Int)%128*(Tm:Int)=(P:Int):=by rw[<-hP];push_cast;rfl
     rw[e];exact axx _ J
    have anI:dm<Tm:=by rw[FM];exact yf
    have ap9:IntKind.i64.wrap ((dm:Int)+P)=(dm:Int)+P:=by rw[axx _ J]
    have htm:(ci:Int).tmod 128=(ci:Int)%128:=Int.tmod_eq_emod_of_nonneg J;rw[<-FM,hP]at TM;have h9:((k:Int)==9)=false:=axl J;have zh:=Z FM;have hz:(¬ 0<(k:Int))\/(0<(k:Int)/\((ci:Int)==0)=false):=by
     by_cases h0:k=0
     ·exact .inl J
     ·refine .inr ⟨by omega,axl λe=>hf (.inr ⟨by omega,J⟩)⟩
    have Hf:=Z hf;have HB:Hid (World.blk (wr.setCell ⟨r,1,none⟩ (.int .i64 ((k0:Int)+((k:Int)+1)))) r #[.string ⟨S.toArray⟩,.int .i64 ((k0+(k+1):Nat):Int),.int .i64 0] 75):=Z (by
     have h:=ah H'.o 1 (.int .i64 ((k0:Int)+((k:Int)+1)));have e:((k0+(k+1):Nat):Int)=(k0:Int)+((k:Int)+1):=J
     rw[e];exact h)
    have HMs:Hid (ai (·=r) w (wr.setCell ⟨r,1,none⟩ (.int .i64 ((k0:Int)+((k:Int)+1))))):=Z (ai.setCell (S:=λx=>x=r) (p:=⟨r,1,none⟩) (HK.mono (λ_ _ h=>h.elim)) (.inl rfl) _);have atg:=Z yf;have Cy:IntKind.i64.wrap ((k:Int)+1)=(k:Int)+1:=axx _ J;have UI:IntKind.i64.wrap ((k0:Int)+((k:Int)+1))=(k0:Int)+((k:Int)+1):=axx _ J;have Wy:k<8->IntKind.i64.wrap ((Tm:Int)*128)=(Tm:Int)*128:=λh8=>axx _ (by
     have h7:Tm<=562949953421312:=by
      rw[FM];exact av2 (awA J (show k<=7 by omega)) dc7
     omega)
    have agD:=Z Wy;clear hf FM FN yf Wy;rcases hz with hz|⟨hz,mJ⟩
    ·by_cases hc:ci<128
     ·have Tu:(ci:Int)<128:=J
      have Hv:Hid (jC 0 0 (S.drop k0)=.ok (dm+P,k+1)):=Z (by rw[TM.o,awf Hf.o,awd hc]);clear TM hc;by_cases ht:dm+P<=4611686018427387903/\((dm+P:Nat):Int)<=most
      ·have Ht:=Z ht;have OV:¬(4611686018427387903:Int)<(dm:Int)+P:=J
       have Gg:¬ most<(dm:Int)+P:=J
       clear ht;go_wp2_with fail;refine ba kr7 kr7 ?_
       repeat (quiet_step (fail))
       refine awX ?_;intro _ bD;obtain⟨nq,rfl⟩:=bD;go_wp2_with fail;refine cK kr7 kr7 ?_
       repeat (quiet_step (fail))
       refine awX ?_;intro _ bD;obtain⟨FE,rfl⟩:=bD;go_wp2;go_ret2;refine⟨HMs.drewN _,?_⟩;rw[Hv.o];simp only;rw[awd Ht.o];exact⟨by rw[show((dm+P:Nat):Int)=(dm:Int)+P by omega];rfl,cf HB.o _⟩
      ·have Ht:=Z ht;have OV:(4611686018427387903:Int)<(dm:Int)+P\/(¬(4611686018427387903:Int)<(dm:Int)+P/\most<(dm:Int)+P):=J
       clear ht;rcases OV with OV|⟨OV,Gg⟩
       all_goals
        go_wp2_with fail;refine ba kr7 kr7 ?_
        repeat (quiet_step (fail))
        refine awX ?_;intro _ bD;obtain⟨nq,rfl⟩:=bD;go_wp2_with fail;refine cK kr7 kr7 ?_
        repeat (quiet_step (fail))
        refine awX ?_;intro _ bD;obtain⟨FE,rfl⟩:=bD;go_wp2_with fail;refine(hZ S (k0+(k+1)) 0 31 r _ (cf HB.o FE)).mono ?_;rintro e w2 ⟨rfl,h2,db⟩;have H2:=Z h2;have gi:Hid (ai (·=r) w w2):=Z ((HMs.drewN FE).trans db (λ_ _ h=>h));clear h2 db;go_wp2;go_ret2;refine⟨gi.o,?_⟩;rw[Hv.o];simp only;rw[awf Ht.o];exact⟨rfl,H2.o⟩
     ·have Tu:¬(ci:Int)<128:=J
      have Hv:Hid (jC 0 0 (S.drop k0)=jC (k+1) (dm+P) (S.drop (k0+k+1))):=Z (by rw[TM.o,awf Hf.o,awf hc]);clear TM hc;have yk:Hid (dm+P<128 ^ (k+1)):=Z (by
       rw[awy,<-zh.o];omega)
      by_cases aaN:k<8
      ·have aeN:(k:Int)<8:=J
       have Wy:=agD.o aaN;go_wp2_with fail;refine ba kr7 kr7 ?_
       repeat (quiet_step (fail))
       refine awX ?_;intro _ bD;obtain⟨nq,rfl⟩:=bD;go_wp2_with fail;refine cK kr7 kr7 ?_
       repeat (quiet_step (fail))
       refine awX ?_;intro _ bD;obtain⟨FE,rfl⟩:=bD;go_wp2_with fail;exact⟨⟨k+1,dm+P,Tm*128,J,J,by go_num,by rw[show((dm+P:Nat):Int)=(dm:Int)+P by omega],by rw[show((Tm*128:Nat):Int)=(Tm:Int)*128 by omega],HK.drewN _,Z ⟨by rw[show min (k+1) 8=k+1 by omega,awy,<-zh.o],yk.o,Hv.o⟩⟩,by simp[intOf];omega⟩
      ·exfalso;omega
    ·by_cases hc:ci<128
     ·have Tu:(ci:Int)<128:=J
      have Hv:Hid (jC 0 0 (S.drop k0)=.ok (dm+P,k+1)):=Z (by rw[TM.o,awf Hf.o,awd hc]);clear TM hc;by_cases ht:dm+P<=4611686018427387903/\((dm+P:Nat):Int)<=most
      ·have Ht:=Z ht;have OV:¬(4611686018427387903:Int)<(dm:Int)+P:=J
       have Gg:¬ most<(dm:Int)+P:=J
       clear ht;go_wp2_with fail;refine ba kr7 kr7 ?_
       repeat (quiet_step (fail))
       refine awX ?_;intro _ bD;obtain⟨nq,rfl⟩:=bD;go_wp2_with fail;refine cK kr7 kr7 ?_
       repeat (quiet_step (fail))
       refine awX ?_;intro _ bD;obtain⟨FE,rfl⟩:=bD;go_wp2;go_ret2;refine⟨HMs.drewN _,?_⟩;rw[Hv.o];simp only;rw[awd Ht.o];exact⟨by rw[show((dm+P:Nat):Int)=(dm:Int)+P by omega];rfl,cf HB.o _⟩
      ·have Ht:=Z ht;have OV:(4611686018427387903:Int)<(dm:Int)+P\/(¬(4611686018427387903:Int)<(dm:Int)+P/\most<(dm:Int)+P):=J
       clear ht;rcases OV with OV|⟨OV,Gg⟩
       all_goals
        go_wp2_with fail;refine ba kr7 kr7 ?_
        repeat (quiet_step (fail))
        refine awX ?_;intro _ bD;obtain⟨nq,rfl⟩:=bD;go_wp2_with fail;refine cK kr7 kr7 ?_
        repeat (quiet_step (fail))
        refine awX ?_;intro _ bD;obtain⟨FE,rfl⟩:=bD;go_wp2_with fail;refine(hZ S (k0+(k+1)) 0 31 r _ (cf HB.o FE)).mono ?_;rintro e w2 ⟨rfl,h2,db⟩;have H2:=Z h2;have gi:Hid (ai (·=r) w w2):=Z ((HMs.drewN FE).trans db (λ_ _ h=>h));clear h2 db;go_wp2;go_ret2;refine⟨gi.o,?_⟩;rw[Hv.o];simp only;rw[awf Ht.o];exact⟨rfl,H2.o⟩
     ·have Tu:¬(ci:Int)<128:=J
      have Hv:Hid (jC 0 0 (S.drop k0)=jC (k+1) (dm+P) (S.drop (k0+k+1))):=Z (by rw[TM.o,awf Hf.o,awf hc]);clear TM hc;have yk:Hid (dm+P<128 ^ (k+1)):=Z (by
       rw[awy,<-zh.o];omega)
      by_cases aaN:k<8
      ·have aeN:(k:Int)<8:=J
       have Wy:=agD.o aaN;go_wp2_with fail;refine ba kr7 kr7 ?_
       repeat (quiet_step (fail))
       refine awX ?_;intro _ bD;obtain⟨nq,rfl⟩:=bD;go_wp2_with fail;refine cK kr7 kr7 ?_
       repeat (quiet_step (fail))
       refine awX ?_;intro _ bD;obtain⟨FE,rfl⟩:=bD;go_wp2_with fail;exact⟨⟨k+1,dm+P,Tm*128,J,J,by go_num,by rw[show((dm+P:Nat):Int)=(dm:Int)+P by omega],by rw[show((Tm*128:Nat):Int)=(Tm:Int)*128 by omega],HK.drewN _,Z ⟨by rw[show min (k+1) 8=k+1 by omega,awy,<-zh.o],yk.o,Hv.o⟩⟩,by simp[intOf];omega⟩
      ·have aeN:¬(k:Int)<8:=J
       go_wp2_with fail;refine ba kr7 kr7 ?_
       repeat (quiet_step (fail))
       refine awX ?_;intro _ bD;obtain⟨nq,rfl⟩:=bD;go_wp2_with fail;refine cK kr7 kr7 ?_
       repeat (quiet_step (fail))
       refine awX ?_;intro _ bD;obtain⟨FE,rfl⟩:=bD;go_wp2_with fail;exact⟨⟨k+1,dm+P,Tm,J,J,by go_num,by rw[show((dm+P:Nat):Int)=(dm:Int)+P by omega],rfl,HK.drewN _,Z ⟨by rw[show min (k+1) 8=k by omega];exact zh.o,yk.o,Hv.o⟩⟩,by simp[intOf];omega⟩
end
section
open Go.RowKit
theorem RS:∀(s:List UInt8) (i n:Nat) (x:Int),jC i n s=.error x->(x==0)=false:=by
 intro s
 induction s with
 |nil=>intro i n x h;cases h;rfl
 |cons c r ih=>
  intro i n x h;rw[jC]at h;split at h
  ·cases h;rfl
  ·split at h
   ·cases h
   ·exact ih _ _ _ h
theorem Fi (S:List UInt8)(i j:Nat)(x y:Int)(hx:x=i)(hy:y=j)(hij:i<=j)(hj:j<=S.length)(W:World):(Instr.slice 9 (.string ⟨S.toArray⟩) (some (.int .i64 x)) (some (.int .i64 y)) none).run prog W=.ok (.string ⟨((S.drop i).take (j-i)).toArray⟩) W:=by
 subst hx hy;rw[run_slice_string_if W 9 _ .i64 .i64 _ _ underlying9];have hs:(⟨S.toArray⟩:ByteArray).size=S.length:=by simp[ByteArray.size]
 rw[awd (by rw[hs];omega),awd J,awH,awH]
 congr 2
 apply ByteArray.ext;simp[List.extract_eq_take_drop]
def I9 (w:World)(r:Nat)(S:List UInt8)(k0:Nat)(most:Int)(e:Ending)(w':World):Prop:=
 ai (·=r) w w'/\match jC 0 0 (S.drop k0)with
  | .error x=>e=.returned (.tuple #[.string ⟨#[]⟩,.int .i64 x])/\jd w' r S k0 x
  | .ok (n,k)=>if(n:Int)<=most then(if k0+k+n<=S.length then e=.returned (.tuple #[.string ⟨((S.drop (k0+k)).take n).toArray⟩,.int .i64 0])/\jd w' r S (k0+k+n) 0 else e=.returned (.tuple #[.string ⟨#[]⟩,.int .i64 32])/\jd w' r S (k0+k) 32)else e=.returned (.tuple #[.string ⟨#[]⟩,.int .i64 31])/\jd w' r S (k0+k) 31
theorem xV (S:List UInt8)(k0:Nat)(most:Int)(r:Nat)(w:World)(h:jd w r S k0 0)(hk:k0<=S.length)(hS:S.length<=140737488351232)(hm:most<=65536):
  Calls prog 43 #[.pointer (some ⟨r,0,none⟩),.int .i64 most] w (I9 w r S k0 most):=by
 have H:=Z h;have FN:min most 65536=most:=J
 have hSi:(S.length:Int)<=140737488351232:=J
 clear h;go_enter func43,ntmps43;go_wp2_with fail;refine(tD S k0 most r w H.o hk hS J).mono ?_;rintro e w1 ⟨iB,hp⟩;have rl:=Z iB;clear iB
 cases hg:jC 0 0 (S.drop k0)with
 |error x=>
  rw[hg]at hp;obtain⟨rfl,h1⟩:=hp;obtain⟨H1,Hg⟩:=K2 h1 hg;have hx:(x==0)=false:=RS _ _ _ _ hg;clear h1 hg;go_wp2;go_ret2;refine⟨rl.o,?_⟩;rw[Hg.o];exact⟨rfl,H1.o⟩
 |ok nk=>
  obtain⟨n,k⟩:=nk;rw[hg]at hp;simp only at hp;have Hg:=Z hg;obtain⟨hb1,fh,sK⟩:=ra _ _ _ _ _ J J hg;rw[List.length_drop]at sK;clear hg;by_cases hc:n<=4611686018427387903/\(n:Int)<=most
  ·rw[awd hc]at hp;obtain⟨rfl,h1⟩:=hp;have H1:=Z h1;have hn:n<=65536:=J
   have rp:(n:Int)<=most:=hc.2;have c0:w1.cell? ⟨r,0,none⟩=some (.string ⟨S.toArray⟩):=aa h1 0;have c1:w1.cell? ⟨r,1,none⟩=some (.int .i64 ((k0+k:Nat):Int)):=aa h1 1;have f1:w1.frozen? ⟨r,1,none⟩=false:=ae h1 _ rfl;obtain⟨K,hK⟩:∃ K,k0+k=K:=⟨_,rfl⟩
   rw[hK]at H1 c1;have hKl:K<=S.length:=J
   clear h1 hc;have Cy:IntKind.i64.wrap ((S.length:Int)-K)=(S.length:Int)-K:=axx _ J;have UI:IntKind.i64.wrap ((K:Int)+n)=(K:Int)+n:=axx _ J;have hw3:IntKind.i64.wrap ((K:Int)+n-n)=(K:Int):=by rw[axx _ J];omega
   have hwK:IntKind.i64.wrap (K:Int)=(K:Int):=axx _ J;by_cases hl:K+n<=S.length
   ·have KL:¬(S.length:Int)-K<(n:Int):=J
    go_wp2_with fail;refine ba kr7 kr7 ?_
    repeat (quiet_step (fail))
    refine awX ?_;intro _ bD;obtain⟨nq,rfl⟩:=bD;go_wp2_with fail;have HB:Hid (jd (w1.setCell ⟨r,1,none⟩ (.int .i64 ((K:Int)+n))) r S (K+n) 0):=Z (by
     have h:=ah H1.o 1 (.int .i64 ((K:Int)+n));unfold jd;rw[show((K+n:Nat):Int)=(K:Int)+n by omega];exact h)
    have gi:Hid (ai (·=r) w (w1.setCell ⟨r,1,none⟩ (.int .i64 ((K:Int)+n)))):=Z (ai.setCell (S:=λx=>x=r) (p:=⟨r,1,none⟩) rl.o (.inl rfl) _);have d0:(w1.setCell ⟨r,1,none⟩ (.int .i64 ((K:Int)+n))).cell? ⟨r,0,none⟩=some (.string ⟨S.toArray⟩):=aa HB.o 0;have d1:(w1.setCell ⟨r,1,none⟩ (.int .i64 ((K:Int)+n))).cell? ⟨r,1,none⟩=some (.int .i64 ((K:Int)+n)):=by
     have h:=aa HB.o 1;rw[h];show some (Value.int .i64 ((K+n:Nat):Int))=_;rw[show((K+n:Nat):Int)=(K:Int)+n by omega]
    generalize w1.setCell ⟨r,1,none⟩ (.int .i64 ((K:Int)+n))=w3 at*;have hcut:=Fi S K (K+n) (K:Int) ((K:Int)+n) rfl J J hl;rw[show K+n-K=n by omega]at hcut;clear c0 c1 f1;refine cK kr7 kr7 ?_
    repeat (quiet_step (fail))
    refine awX ?_;intro _ bD;obtain⟨FE,rfl⟩:=bD;go_wp2;go_ret2;refine⟨gi.drewN _,?_⟩;rw[Hg.o];simp only;rw[awd rp,hK,awd hl];refine⟨?_,cf HB.o _⟩;rfl
   ·have KL:(S.length:Int)-K<(n:Int):=J
    go_wp2_with fail;refine ba kr7 kr7 ?_
    repeat (quiet_step (fail))
    refine awX ?_;intro _ bD;obtain⟨nq,rfl⟩:=bD;go_wp2_with fail;refine(hZ S K 0 32 r _ (cf H1.o nq)).mono ?_;rintro e w2 ⟨rfl,h2,db⟩;have H2:=Z h2;have gi:Hid (ai (·=r) w w2):=Z ((rl.drewN nq).trans db (λ_ _ h=>h));clear h2 db;go_wp2;go_ret2;refine⟨gi.o,?_⟩;rw[Hg.o];simp only;rw[awd rp,hK,awf hl];exact⟨rfl,H2.o⟩
  ·rw[awf hc]at hp;obtain⟨rfl,h1⟩:=hp;have H1:=Z h1;have Hn:Hid (¬(n:Int)<=most):=Z J;clear h1 hc;go_wp2;go_ret2;refine⟨rl.o,?_⟩;rw[Hg.o];simp only;rw[awf (by have:=Hn.o;omega)];exact⟨rfl,H1.o⟩
end
section
open Go.RowKit
theorem o8 (S rest:List UInt8)(n k0:Nat)(most:Int)(r:Nat)(w:World)(h:jd w r S k0 0)(hd:S.drop k0=aD n++rest)(hS:S.length<=140737488351232)(hm:most<=9223372036854775807)(hn:n<=4611686018427387903)(rp:(n:Int)<=most):
  Calls prog 42 #[.pointer (some ⟨r,0,none⟩),.int .i64 most] w λe w'=>e=.returned (.tuple #[.int .i64 (n:Int),.int .i64 0])/\jd w' r S (k0+(aD n).length) 0/\ai (·=r) w w':=by
 have hk:k0<=S.length:=by
  rcases Nat.lt_or_ge S.length k0 with h1|h1
  ·rw[List.drop_of_length_le J]at hd;have h2:=axi List.length hd;have:=Fb n;rw[awn]at h2;simp at h2;omega
  ·exact h1
 have hg:jC 0 0 (S.drop k0)=.ok (n,(aD n).length):=by
  rw[hd,Fh n 0 0 rest (λh=>J) (by simp only[Nat.reduceSub,Nat.reducePow];omega) J];simp
 refine(tD S k0 most r w h hk hS hm).mono ?_;rintro e w' ⟨iB,hp⟩;rw[hg]at hp;simp only at hp;rw[awd ⟨hn,rp⟩]at hp;exact⟨hp.1,hp.2,iB⟩
theorem Av (S s rest:List UInt8)(k0:Nat)(most:Int)(r:Nat)(w:World)(h:jd w r S k0 0)(hd:S.drop k0=aD s.length++(s++rest))(hS:S.length<=140737488351232)(hm:most<=65536)(rp:(s.length:Int)<=most):
  Calls prog 43 #[.pointer (some ⟨r,0,none⟩),.int .i64 most] w λe w'=>e=.returned (.tuple #[.string ⟨s.toArray⟩,.int .i64 0])/\jd w' r S (k0+(aD s.length).length+s.length) 0/\ai (·=r) w w':=by
 have bt:S.length-k0=(aD s.length).length+(s.length+rest.length):=by
  have h2:=axi List.length hd;rw[List.length_drop,awn,awn]at h2;exact h2
 have:=Fb s.length;have hk:k0<=S.length:=J
 have hg:jC 0 0 (S.drop k0)=.ok (s.length,(aD s.length).length):=by
  rw[hd,Fh s.length 0 0 _ (λh=>J) (by simp only[Nat.reduceSub,Nat.reducePow];omega) J];simp
 have hcut:(S.drop (k0+(aD s.length).length)).take s.length=s:=by
  rw[<-List.drop_drop,hd,List.drop_left' rfl,List.take_left' rfl]
 refine(xV S k0 most r w h hk hS hm).mono ?_;rintro e w' ⟨iB,hp⟩;rw[hg]at hp;simp only at hp;rw[awd rp,awd J,hcut]at hp;exact⟨hp.1,hp.2,iB⟩
theorem RT (S:List UInt8)(r:Nat)(w:World)(h:jd w r S S.length 0)(_hS:S.length<=140737488351232):Calls prog 44 #[.pointer (some ⟨r,0,none⟩)] w λe w'=>e=.returned (.int .i64 0)/\af w w':=by
 have c0:w.cell? ⟨r,0,none⟩=some (.string ⟨S.toArray⟩):=aa h 0;have c1:w.cell? ⟨r,1,none⟩=some (.int .i64 (S.length:Int)):=aa h 1;have c2:w.cell? ⟨r,2,none⟩=some (.int .i64 0):=aa h 2;have hi:¬(S.length:Int)<S.length:=J
 clear h;go_enter func44,ntmps44;go_wp2_with fail;refine ba kr7 kr7 ?_
 repeat (quiet_step (fail))
 refine awX ?_;intro _ bD;obtain⟨nq,rfl⟩:=bD;go_wp2;go_ret;exact⟨rfl,(ai.refl _ w).drewN _⟩
theorem Aw (S:List UInt8)(k:Nat)(x most:Int)(r:Nat)(w:World)(h:jd w r S k x)(hx:x≠0):
  Calls prog 42 #[.pointer (some ⟨r,0,none⟩),.int .i64 most] w λe w'=>e=.returned (.tuple #[.int .i64 0,.int .i64 x])/\af w w':=by
 have c2:w.cell? ⟨r,2,none⟩=some (.int .i64 x):=aa h 2;have rf:(x==0)=false:=axl hx;have Cs:(x != 0)=true:=bne_iff_ne.2 hx;clear h hx;go_enter func42,ntmps42;go_wp2_with fail;refine ba kr7 kr7 ?_
 repeat (go_big_quiet_step (fail))
 refine awX ?_;intro _ bD;obtain⟨nq,rfl⟩:=bD;go_wp2;go_ret2;exact⟨rfl,(ai.refl _ w).drewN _⟩
theorem kT (S:List UInt8)(k:Nat)(x most:Int)(r:Nat)(w:World)(h:jd w r S k x)(hk:k<=S.length)(hS:S.length<=140737488351232)(hm:most<=9223372036854775807):
  Calls prog 42 #[.pointer (some ⟨r,0,none⟩),.int .i64 most] w λe w'=>∃(n y:Int) (k':Nat),e=.returned (.tuple #[.int .i64 n,.int .i64 y])/\jd w' r S k' y/\ai (·=r) w w'/\k'<=S.length/\0<=n/\n<=4611686018427387904:=by
 by_cases hx:x=0
 ·subst hx;refine(tD S k most r w h hk hS hm).mono ?_;rintro e w' ⟨iB,hc⟩
  cases hg:jC 0 0 (S.drop k)with
  |error y=>
   rw[hg]at hc;obtain⟨rfl,hr⟩:=hc;exact⟨0,y,k,rfl,hr,iB,hk,J,J⟩
  |ok nk=>
   obtain⟨n,j⟩:=nk;rw[hg]at hc;have hb:=ra (S.drop k) 0 0 n j J sp7 hg;rw[List.length_drop]at hb;have hj:k+j<=S.length:=J
   simp only at hc;by_cases hn:n<=4611686018427387903/\(n:Int)<=most
   ·rw[awd hn]at hc;obtain⟨rfl,hr⟩:=hc;exact⟨n,0,k+j,rfl,hr,iB,hj,J,J⟩
   ·rw[awf hn]at hc;obtain⟨rfl,hr⟩:=hc;exact⟨0,31,k+j,rfl,hr,iB,hj,J,J⟩
 ·refine(Aw S k x most r w h hx).mono ?_;rintro e w' ⟨rfl,hk1⟩;exact⟨0,x,k,rfl,ab hk1 h id,hk1.mono (λ_ _ h=>h.elim),hk,J,J⟩
theorem Ja (S:List UInt8)(k:Nat)(x most:Int)(r:Nat)(w:World)(h:jd w r S k x)(hx:x≠0):
  Calls prog 43 #[.pointer (some ⟨r,0,none⟩),.int .i64 most] w λe w'=>e=.returned (.tuple #[.string ⟨#[]⟩,.int .i64 x])/\af w w':=by
 have HC:=Z (λm=>Aw S k x m r w h hx);have rf:(x==0)=false:=axl hx;have Cs:(x != 0)=true:=bne_iff_ne.2 hx;clear h hx;go_enter func43,ntmps43;go_wp2_with fail;refine(HC.o _).mono ?_;rintro e w1 ⟨rfl,hk⟩;have HK:=Z hk;clear hk;go_wp2;go_ret2;exact⟨rfl,HK.o⟩
theorem xW (S:List UInt8)(k:Nat)(x:Int)(r:Nat)(w:World)(h:jd w r S k x)(_hS:S.length<=140737488351232)(hk:k<=S.length):Calls prog 44 #[.pointer (some ⟨r,0,none⟩)] w λe w'=>∃ y,e=.returned (.int .i64 y)/\af w w':=by
 have c0:w.cell? ⟨r,0,none⟩=some (.string ⟨S.toArray⟩):=aa h 0;have c1:w.cell? ⟨r,1,none⟩=some (.int .i64 (k:Int)):=aa h 1;have c2:w.cell? ⟨r,2,none⟩=some (.int .i64 x):=aa h 2;clear h;by_cases hx:x=0
 ·subst hx;by_cases hi:(k:Int)<S.length
  ·go_enter func44,ntmps44;go_wp2_with fail;refine ba kr7 kr7 ?_
   repeat (quiet_step (fail))
   refine awX ?_;intro _ bD;obtain⟨nq,rfl⟩:=bD;go_wp2;go_ret;exact⟨_,rfl,(ai.refl _ w).drewN _⟩
  ·go_enter func44,ntmps44;go_wp2_with fail;refine ba kr7 kr7 ?_
   repeat (quiet_step (fail))
   refine awX ?_;intro _ bD;obtain⟨nq,rfl⟩:=bD;go_wp2;go_ret;exact⟨_,rfl,(ai.refl _ w).drewN _⟩
 ·have rf:(x==0)=false:=axl hx;have Cs:(x != 0)=true:=bne_iff_ne.2 hx;clear hx;go_enter func44,ntmps44;go_wp2;go_ret;exact⟨_,rfl,ai.refl _ _⟩
end
end
section
open Go.RowKit
attribute [local go_sem] av0
theorem uy (S:List UInt8)(k:Nat)(x:Int)(r:Nat)(w:World)(h:jd w r S k x)(hk:k<=S.length)(hS:S.length<=140737488351232):
  Calls prog 43 #[.pointer (some ⟨r,0,none⟩),.int .i64 65536] w λe w'=>∃(t:List UInt8) (y:Int) (k':Nat),e=.returned (.tuple #[.string ⟨t.toArray⟩,.int .i64 y])/\jd w' r S k' y/\ai (·=r) w w'/\k'<=S.length/\t.length<=65536:=by
 by_cases hx:x=0
 ·subst hx;refine(xV S k 65536 r w h hk hS J).mono ?_;rintro e w' ⟨iB,hc⟩
  cases hg:jC 0 0 (S.drop k)with
  |error y=>
   rw[hg]at hc;obtain⟨rfl,hr⟩:=hc;exact⟨[],y,k,rfl,hr,iB,hk,by simp⟩
  |ok nk=>
   obtain⟨n,j⟩:=nk;rw[hg]at hc;have hb:=ra (S.drop k) 0 0 n j J sp7 hg;rw[List.length_drop]at hb;have hj:k+j<=S.length:=J
   simp only at hc;by_cases hn:(n:Int)<=65536
   ·rw[awd hn]at hc;by_cases hl:k+j+n<=S.length
    ·rw[awd hl]at hc;obtain⟨rfl,hr⟩:=hc;exact⟨_,0,k+j+n,rfl,hr,iB,hl,by rw[awc];omega⟩
    ·rw[awf hl]at hc;obtain⟨rfl,hr⟩:=hc;exact⟨[],32,k+j,rfl,hr,iB,hj,by simp⟩
   ·rw[awf hn]at hc;obtain⟨rfl,hr⟩:=hc;exact⟨[],31,k+j,rfl,hr,iB,hj,by simp⟩
 ·refine(Ja S k x 65536 r w h hx).mono ?_;rintro e w' ⟨rfl,hk1⟩;exact⟨[],x,k,rfl,ab hk1 h id,hk1.mono (λ_ _ h=>h.elim),hk,by simp⟩
theorem uz (s:ay)(w:World)(hs:s.length<=65536):
  Calls prog 37 #[az s] w λe w'=>e=.returned (az (aD s.length++s))/\af w w':=by
 have TX:=Z (I8 s w hs);go_enter func37,ntmps37;go_wp2_with fail;refine TX.mono ?_;rintro e w1 ⟨rfl,k1⟩;have HK:=Z k1;clear k1 TX;go_wp2;go_ret;exact⟨rfl,HK.o⟩
end
end Go.Proofs.YtkghpdcloaiflaaGreatDoor
