import Derived.Test.YtkghpdcloaiflaaGreatDoorB41
set_option maxHeartbeats 4000000
set_option maxRecDepth 100000
namespace Go.Proofs.YtkghpdcloaiflaaGreatDoor
open _root_.Go.Proofs.Tryz
section
section
open Go.RowKit
theorem BC (m:Nat):∀(n:Int) (w:World),0<=n->n<9223372036854775808->n<m->Calls prog 165 #[.int .i64 n] w fun e w'=>e=.returned (.string ⟨(aG n.toNat).toArray⟩)/\af w w':=by
 induction m with
 |zero=>intro n w h0 h1 h2;omega
 |succ m ih=>
  intro n w h0 hn hm;have Ih:=hd0 ih;clear ih;have dr:=fun x hx W b h=>C5 (P:=prog) underlying131 underlying5 underlying9 x hx W b h;by_cases h:n<128
  ·have He:=hd0 (eM (n:=n.toNat) (by omega));have hw:IntKind.u8.wrap n=n:=zA _ (by omega);have jH:=dr n (by omega);clear dr hm hn;go_enter func165,ntmps165;go_wp2;go_ret;exact⟨by rw[He.out];rfl,(ah.refl _ w).alloc _⟩
  ·have He:=hd0 (jC (n:=n.toNat) (by omega));have hb1:n%128<128:=by omega
   have iI:0<=n%128:=by omega
   have hw:IntKind.u8.wrap (128+n%128)=128+n%128:=zA _ (by omega);have jH:=dr (128+n%128) (by omega);have e1:n.tdiv 128=n/128:=by rw[awb (by omega)]
   have e2:n.tmod 128=n%128:=Int.tmod_eq_emod_of_nonneg (by omega);have e3:IntKind.i64.wrap (n/128)=n/128:=awt _ (by omega);have e4:IntKind.i64.wrap (128+n%128)=128+n%128:=awt _ (by omega);have aaC:(aG (n/128).toNat).length<=9:=aV (by omega);have Hb:=hd0 (show 0<=n/128/\n/128<9223372036854775808/\n/128<m by omega);have Hx:Hid ((128+n%128).toNat=n.toNat%128+128/\(n/128).toNat=n.toNat/128):=hd0 (by omega);clear dr hm hn;go_enter func165,ntmps165;go_wp2_with fail
   go_region_with (go_at_call 165;refine(Ih.out _ _ Hb.out.1 Hb.out.2.1 Hb.out.2.2).mono ?_;rintro e w1 ⟨rfl,hk⟩;have hcc:=fun b i (h:b<_)=>hk.cell (p:=⟨b,i,none⟩) h id)
   all_goals
    go_wp2;go_ret
    first
     |exact⟨by rw[He.out,<-Hx.out.1,<-Hx.out.2];rfl,((ah.refl _ w).drew.keep hk).alloc _⟩
     |exact⟨by rw[He.out,<-Hx.out.1,<-Hx.out.2];rfl,((ah.refl _ w).drew.alloc _).keep hk⟩
     |exact⟨by rw[He.out,<-Hx.out.1,<-Hx.out.2];rfl,((ah.refl _ w).alloc _).drew.keep hk⟩
theorem ut (n:Nat)(w:World)(hn:n<9223372036854775808):Calls prog 165 #[.int .i64 (n:Int)] w fun e w'=>e=.returned (.string ⟨(aG n).toArray⟩)/\af w w':=
 BC (n+1) n w (by omega) (by omega) (by omega)
theorem Nf (n:Int)(w:World)(hn:-9223372036854775808<=n/\n<=9223372036854775807):
  Calls prog 86 #[.int .i64 n] w fun e w'=>e=.returned (if 0<=n/\n<=4611686018427387903 then .tuple #[.string ⟨(aG n.toNat).toArray⟩,.int .i64 0]else .tuple #[.string ⟨#[]⟩,.int .i64 31])/\af w w':=by
 by_cases h:0<=n/\n<=4611686018427387903
 ·rw[au8 h];obtain⟨h1,h2⟩:=h;have h3:¬ n<0:=by omega
  have h4:¬ 4611686018427387903<n:=by omega
  obtain⟨m,rfl⟩:∃ m:Nat,n=m:=⟨n.toNat,by omega⟩
  have hm:m<9223372036854775808:=by omega
  clear h2 hn;go_enter func86,ntmps86;go_wp2_with fail;refine(ut m _ hm).mono ?_;rintro e w1 ⟨rfl,hk⟩;have Hk:=hd0 hk;clear hk;go_wp2;go_ret2;exact⟨rfl,Hk.out⟩
 ·rw[ava h];have h5:n<0\/4611686018427387903<n:=by omega
  clear h;by_cases h1:n<0
  ·go_enter func86,ntmps86;go_wp2;go_ret2;exact⟨rfl,ah.refl _ _⟩
  ·have h2:4611686018427387903<n:=by omega
   clear h5;go_enter func86,ntmps86;go_wp2;go_ret2;exact⟨rfl,ah.refl _ _⟩
theorem Rr (n:Nat)(w:World)(hn:n<=4611686018427387903):
  Calls prog 86 #[.int .i64 (n:Int)] w fun e w'=>e=.returned (.tuple #[.string ⟨(aG n).toArray⟩,.int .i64 0])/\af w w':=by
 refine(Nf n w (by omega)).mono fun e w' ⟨h1,h2⟩=>⟨?_,h2⟩
 rw[au8 (by omega)]at h1;rw[h1,avD]
theorem IR (s:List UInt8)(w:World)(hs:s.length<=65536):
  Calls prog 87 #[.string ⟨s.toArray⟩] w fun e w'=>e=.returned (.tuple #[.string ⟨(aG s.length++s).toArray⟩,.int .i64 0])/\af w w':=by
 have h1:¬(65536:Int)<s.length:=by omega
 have Hm:Hid (s.length<9223372036854775808):=hd0 (by omega);have h2:(s.length:Int)<=9223372036854775807:=by omega
 clear hs;go_enter func87,ntmps87;go_wp2_with fail;refine(ut s.length _ Hm.out).mono ?_;rintro e w1 ⟨rfl,hk⟩;have Hk:=hd0 hk;clear hk;have hb:¬ 9223372036854775807<(aG s.length).length+s.length:=by have:=aV Hm.out;omega
 go_wp2;go_ret2;exact⟨rfl,Hk.out⟩
theorem Ng (L:List Nat)(w:World)(b:Nat)(hn:∀ n∈L,n<=4611686018427387903)(hl:L.length<=100)(hb:∀(j:Nat) (n:Nat),L[j]?=some n->w.cell? ⟨b,j,none⟩=some (.int .i64 (n:Int))):
  Calls prog 36 #[.slice (some ⟨b,0,none⟩) L.length L.length] w fun e w'=>e=.returned (.string ⟨(L.flatMap aG).toArray⟩)/\af w w':=by
 have HB:=hd0 hb;have HN:=hd0 hn;have FF:(L.length:Int)<=100:=by omega
 clear hb hn;go_enter func36,ntmps36;go_wp2_with fail
 go_loopw [3,4] (fun v i wr=>∃(k:Nat) (pre:List UInt8),k<=L.length/\i=.int .i64 (k:Int)/\v=.string ⟨pre.toArray⟩/\pre.length<=9*k/\Hid (pre=(L.take k).flatMap aG)/\af w wr) (fun _ i _=>L.length-(intOf i).toNat)
 case atStart=>exact⟨0,[],by omega,rfl,rfl,by simp,hd0 rfl,ah.refl _ _⟩
 case round=>
  obtain⟨k,pre,hk,rfl,rfl,tF,Hp,hK⟩:=hrel;have HK:=hd0 hK;clear hK;by_cases aL:k<L.length
  ·obtain⟨n,hx⟩:∃ n,L[k]?=some n:=⟨_,au1 aL⟩
   have c0:wr.cell? ⟨b,k,none⟩=some (.int .i64 (n:Int)):=by
    have h:=HB.out k n hx;rw[HK.out.cell (p:=⟨b,k,none⟩) (ai h) id];exact h
   have Hnn:=hd0 (HN.out n (au2 hx));have Hx:=hd0 hx;have zk:(k:Int)<L.length:=by omega
   clear hx;go_wp2_with fail;refine(Rr n wr Hnn.out).mono ?_;rintro e w1 ⟨rfl,hk1⟩;have bZ:=hd0 (HK.out.keep hk1);have aaC:(aG n).length<=9:=aV (by have:=Hnn.out;omega);clear hk1 c0;go_wp2_with fail;exact⟨⟨k+1,pre++aG n,by omega,by go_num,rfl,by rw[avi];omega,hd0 (by rw[jb Hx.out,Hp.out];simp),bZ.out⟩,by simp[intOf];omega⟩
  ·obtain rfl:k=L.length:=by omega
   clear aL;go_wp2;go_ret;exact⟨by rw[Hp.out,au5];rfl,HK.out⟩
end
section
open Go.RowKit
def jF:Nat->Nat->List UInt8->Except Int (Nat×Nat)
 |_,_,[]=>.error 32
 |i,n,c::r=>if i=9\/(0<i/\c.toNat=0)then .error 30 else if c.toNat<128 then .ok (n+c.toNat%128*128 ^ i,i+1)else jF (i+1) (n+c.toNat%128*128 ^ i) r
abbrev jh (w:World)(r:Nat)(s:List UInt8)(k:Nat)(e:Int):Prop:=World.blk w r #[.string ⟨s.toArray⟩,.int .i64 (k:Int),.int .i64 e] 75
theorem EU (n:Nat):∀(i dw:Nat) (rest:List UInt8),(0<i->n≠0)->n<128 ^ (9-i)->i<=8->jF i dw (aG n++rest)=.ok (dw+n*128 ^ i,i+(aG n).length):=by
 induction n using Nat.strongRecOn with
 |_ n ih=>
  intro i dw rest h0 hn hi;by_cases h:n<128
  ·rw[eM h];have hc:(UInt8.ofNat n).toNat=n:=by simp;omega
   show(if i=9\/(0<i/\(UInt8.ofNat n).toNat=0)then _ else _)=_;rw[ava,au8 (by rw[hc];exact h),hc,awp h];rfl;rintro(e|⟨e,e2⟩)
   ·omega
   ·rw[hc]at e2;exact h0 e e2
  ·rw[jC h];have hc:(UInt8.ofNat (n%128+128)).toNat=n%128+128:=by simp;omega
   show(if i=9\/(0<i/\(UInt8.ofNat (n%128+128)).toNat=0)then _ else if(UInt8.ofNat (n%128+128)).toNat<128 then _ else jF (i+1) (dw+(UInt8.ofNat (n%128+128)).toNat%128*128 ^ i) (aG (n/128)++rest))=_;have h9:i≠8:=fun e=>by subst e;simp at hn;omega
   rw[ava,ava (by rw[hc];omega),hc,ih (n/128) (by omega) (i+1) _ rest (fun _=>by omega) ?_ (by omega)]
   ·have e:(n%128+128)%128=n%128:=by omega
    rw[e,avu];have e2:n=n%128+128*(n/128):=by omega
    congr 2
    ·conv=>rhs;rw[e2]
     rw[Nat.add_mul,avg]
     congr 2
     rw[Nat.mul_comm (128 ^ i) 128,<-awg,Nat.mul_comm (n/128) 128]
    ·simp only[au0];omega
   ·have e3:9-i=(9-(i+1))+1:=by omega
    rw[e3,avu]at hn;exact Nat.div_lt_of_lt_mul (by rw[Nat.mul_comm];exact hn)
   ·rintro(e|⟨e,e2⟩)
    ·omega
    ·rw[hc]at e2;omega
theorem rg:∀(s:List UInt8) (i n m k:Nat),i<=9->n<128 ^ i->jF i n s=.ok (m,k)->m<128 ^ 9/\i<k/\k<=i+s.length:=by
 intro s
 induction s with
 |nil=>intro i n m k _ _ h;cases h
 |cons c r ih=>
  intro i n m k hi hn h;rw[jF]at h;split at h
  ·cases h
  ·rename_i hx
   have hi8:i<=8:=by omega
   have hp:n+c.toNat%128*128 ^ i<128 ^ (i+1):=by
    rw[avu];have h1:c.toNat%128<=127:=by omega
    have h2:=Nat.mul_le_mul_right (128 ^ i) h1;omega
   split at h
   ·injection h with h;injection h with h1 h2;refine⟨?_,by omega,by simp only[au0];omega⟩;rw[<-h1];exact avb hp (avw (by omega) (by omega))
   ·have:=ih (i+1) _ m k (by omega) hp h;exact⟨this.1,by omega,by simp only[au0];omega⟩
def Zq (w:World)(r:Nat)(S:List UInt8)(k0:Nat)(most:Int)(e:Ending)(w':World):Prop:=
 ah (·=r) w w'/\match jF 0 0 (S.drop k0)with
  | .error x=>e=.returned (.tuple #[.int .i64 0,.int .i64 x])/\jh w' r S k0 x
  | .ok (n,k)=>if n<=4611686018427387903/\(n:Int)<=most then e=.returned (.tuple #[.int .i64 (n:Int),.int .i64 0])/\jh w' r S (k0+k) 0 else e=.returned (.tuple #[.int .i64 0,.int .i64 31])/\jh w' r S (k0+k) 31
theorem ie (S:List UInt8)(k:Nat)(x y:Int)(r:Nat)(w:World)(h:jh w r S k x):Calls prog 90 #[.pointer (some ⟨r,0,none⟩),.int .i64 y] w fun e w'=>e=.returned (.int .i64 y)/\jh w' r S k y/\ah (·=r) w w':=by
 have c2:w.cell? ⟨r,2,none⟩=some (.int .i64 x):=aa h 2;have f2:w.frozen? ⟨r,2,none⟩=false:=ae h _ rfl;have H:=hd0 h;clear h;go_enter func90,ntmps90;go_wp2;go_ret;exact⟨rfl,ag H.out 2 _,(ah.refl (fun x=>x=r) w).setCell (p:=⟨r,2,none⟩) (.inl rfl) _⟩
theorem tC (S:List UInt8)(k0:Nat)(most:Int)(r:Nat)(w:World)(h:jh w r S k0 0)(hk:k0<=S.length)(hS:S.length<=140737488351232)(_hm:most<=9223372036854775807):
  Calls prog 42 #[.pointer (some ⟨r,0,none⟩),.int .i64 most] w (Zq w r S k0 most):=by
 have H:=hd0 h;have c0:w.cell? ⟨r,0,none⟩=some (.string ⟨S.toArray⟩):=aa h 0;have c1:w.cell? ⟨r,1,none⟩=some (.int .i64 (k0:Int)):=aa h 1;have c2:w.cell? ⟨r,2,none⟩=some (.int .i64 0):=aa h 2;have f1:w.frozen? ⟨r,1,none⟩=false:=ae h _ rfl;have f2:w.frozen? ⟨r,2,none⟩=false:=ae h _ rfl;have hSi:(S.length:Int)<=140737488351232:=by omega
 have BX:(k0:Int)<=140737488351232:=by omega
 clear h;go_enter func42,ntmps42;go_wp2_with fail
 go_loopw [6,7,8] (fun a t i wr=>∃(k dw Tm:Nat),k<=9/\k0+k<=S.length/\i=.int .i64 (k:Int)/\a=.int .i64 (dw:Int)/\t=.int .i64 (Tm:Int)/\af w wr/\Hid (Tm=128 ^ min k 8/\dw<128 ^ k/\jF 0 0 (S.drop k0)=jF k dw (S.drop (k0+k)))) (fun _ _ i _=>(10-intOf i).toNat)
 case atStart=>exact⟨0,0,1,by omega,by omega,rfl,rfl,rfl,ah.refl _ _,hd0 ⟨rfl,by omega,rfl⟩⟩
 case round=>
  clear c0 c1 c2 f1 f2;obtain⟨k,dw,Tm,hk9,zk,rfl,rfl,rfl,hK,HH⟩:=hrel;have HK:=hd0 hK;have H':=hd0 (ab hK H.out id);have c0:wr.cell? ⟨r,0,none⟩=some (.string ⟨S.toArray⟩):=aa H'.out 0;have c1:wr.cell? ⟨r,1,none⟩=some (.int .i64 (k0:Int)):=aa H'.out 1;have c2:wr.cell? ⟨r,2,none⟩=some (.int .i64 0):=aa H'.out 2;have f1:wr.frozen? ⟨r,1,none⟩=false:=ae H'.out _ rfl;have f2:wr.frozen? ⟨r,2,none⟩=false:=ae H'.out _ rfl;have aaK:(k:Int)<10:=by omega
  have hwk:IntKind.i64.wrap ((k0:Int)+k)=(k0:Int)+k:=awt _ (by omega);clear hK;by_cases gQ:k0+k=S.length
  ·have hv:jF 0 0 (S.drop k0)=.error 32:=by rw[HH.out.2.2,List.drop_of_length_le (by omega)];rfl
   have Hv:=hd0 hv;have hge:(S.length:Int)<=(k0:Int)+k:=by omega
   clear hv;go_wp2_with fail;refine aJ (by kernel_rfl) (by kernel_rfl) ?_
   repeat (quiet_step (fail))
   refine avT ?_;intro _ bf;obtain⟨nq,rfl⟩:=bf;go_wp2_with fail;refine(ie S k0 0 32 r _ (cf H'.out nq)).mono ?_;rintro e w2 ⟨rfl,h2,df⟩;have H2:=hd0 h2;have ft:Hid (ah (·=r) w w2):=hd0 (((HK.out.drewN nq).mono (fun _ _ h=>h.elim)).trans df (fun _ _ h=>h));clear h2 df;go_wp2;go_ret2;refine⟨ft.out,?_⟩;rw[Hv.out];exact⟨rfl,H2.out⟩
  ·obtain⟨c,hc⟩:∃ c,S[k0+k]?=some c:=⟨_,au1 (by omega)⟩
   have hd:S.drop (k0+k)=c::S.drop (k0+k+1):=by
    rw[List.drop_eq_getElem_cons (by omega)]
    congr 1
    exact av6 ((au1 (by omega)).symm.trans hc)
   have aL:(k0:Int)+k<S.length:=by omega
   have akN:∀ W,(Instr.index 9 (.string ⟨S.toArray⟩) (.int .i64 ((k0:Int)+k))).run prog W=.ok (.int .u8 (c.toNat:Int)) W:=fun W=>
    aQ underlying9 S .i64 ((k0:Int)+k) c (by omega) (by rw[show((k0:Int)+k).toNat=k0+k by omega];exact hc) W
   have Xx:=c.toNat_lt;have Ft:jF 0 0 (S.drop k0)=if k=9\/(0<k/\c.toNat=0)then .error 30 else if c.toNat<128 then .ok (dw+c.toNat%128*128 ^ k,k+1)else jF (k+1) (dw+c.toNat%128*128 ^ k) (S.drop (k0+k+1)):=by
    rw[HH.out.2.2,hd];rfl
   have yl:=HH.out.2.1;have Fa:=HH.out.1;obtain⟨ci,RP⟩:∃ ci,c.toNat=ci:=⟨_,rfl⟩
   rw[RP]at akN Xx Ft;have Td:=hd0 Ft;clear hc hd Ft RP gQ HH;by_cases hf:k=9\/(0<k/\ci=0)
   ·have Hv:Hid (jF 0 0 (S.drop k0)=.error 30):=hd0 (by rw[Td.out,au8 hf]);have hvn:k=9\/(¬ k=9/\0<k/\ci=0):=by omega
    clear Td yl Fa hf;rcases hvn with hv9|⟨hv9,FW,hvc⟩
    ·have h9:((k:Int)==9)=true:=avF.2 (by omega);clear hv9;go_wp2_with fail;refine aJ (by kernel_rfl) (by kernel_rfl) ?_
     repeat (quiet_step (fail))
     refine avT ?_;intro _ bf;obtain⟨nq,rfl⟩:=bf;go_wp2_with fail;refine bT (by kernel_rfl) (by kernel_rfl) ?_
     repeat (quiet_step (fail))
     refine avT ?_;intro _ bf;obtain⟨Fb,rfl⟩:=bf;go_wp2_with fail;refine(ie S k0 0 30 r _ (cf H'.out Fb)).mono ?_;rintro e w2 ⟨rfl,h2,df⟩;have H2:=hd0 h2;have ft:Hid (ah (·=r) w w2):=hd0 (((HK.out.drewN Fb).mono (fun _ _ h=>h.elim)).trans df (fun _ _ h=>h));clear h2 df;go_wp2;go_ret2;refine⟨ft.out,?_⟩;rw[Hv.out];exact⟨rfl,H2.out⟩
    ·have h9:((k:Int)==9)=false:=awh (by omega);subst hvc;have dt:0<(k:Int):=by omega
     go_wp2_with fail;refine aJ (by kernel_rfl) (by kernel_rfl) ?_
     repeat (quiet_step (fail))
     refine avT ?_;intro _ bf;obtain⟨nq,rfl⟩:=bf;go_wp2_with fail;refine bT (by kernel_rfl) (by kernel_rfl) ?_
     repeat (quiet_step (fail))
     refine avT ?_;intro _ bf;obtain⟨Fb,rfl⟩:=bf;go_wp2_with fail;refine(ie S k0 0 30 r _ (cf H'.out Fb)).mono ?_;rintro e w2 ⟨rfl,h2,df⟩;have H2:=hd0 h2;have ft:Hid (ah (·=r) w w2):=hd0 (((HK.out.drewN Fb).mono (fun _ _ h=>h.elim)).trans df (fun _ _ h=>h));clear h2 df;go_wp2;go_ret2;refine⟨ft.out,?_⟩;rw[Hv.out];exact⟨rfl,H2.out⟩
   ·have kB:k<=8:=by omega
    have Fx:min k 8=k:=by omega
    rw[Fx]at Fa;have hTb:Tm<=72057594037927936:=by
     rw[Fa];exact auX (avw (by omega) kB) (by decide)
    obtain⟨P,hP⟩:∃ P,ci%128*Tm=P:=⟨_,rfl⟩
    have hPb:P<=127*Tm:=by rw[<-hP];exact Nat.mul_le_mul_right _ (by omega)
    have ZZ:IntKind.i64.wrap ((ci:Int)%128*(Tm:Int))=(P:Int):=by
     have e:(ci:Int)%128*(Tm:Int)=(P:Int):=by rw[<-hP];push_cast;rfl
     rw[e];exact awt _ (by omega)
    have am0:dw<Tm:=by rw[Fa];exact yl
    have aqi:IntKind.i64.wrap ((dw:Int)+P)=(dw:Int)+P:=by rw[awt _ (by omega)]
    have htm:(ci:Int).tmod 128=(ci:Int)%128:=Int.tmod_eq_emod_of_nonneg (by omega);rw[<-Fa,hP]at Td;have h9:((k:Int)==9)=false:=awh (by omega);have jW:=hd0 Fa;have hz:(¬ 0<(k:Int))\/(0<(k:Int)/\((ci:Int)==0)=false):=by
     by_cases h0:k=0
     ·exact .inl (by omega)
     ·refine .inr ⟨by omega,awh fun e=>hf (.inr ⟨by omega,by omega⟩)⟩
    have Hf:=hd0 hf;have HB:Hid (World.blk (wr.setCell ⟨r,1,none⟩ (.int .i64 ((k0:Int)+((k:Int)+1)))) r #[.string ⟨S.toArray⟩,.int .i64 ((k0+(k+1):Nat):Int),.int .i64 0] 75):=hd0 (by
     have h:=ag H'.out 1 (.int .i64 ((k0:Int)+((k:Int)+1)));have e:((k0+(k+1):Nat):Int)=(k0:Int)+((k:Int)+1):=by omega
     rw[e];exact h)
    have HMs:Hid (ah (·=r) w (wr.setCell ⟨r,1,none⟩ (.int .i64 ((k0:Int)+((k:Int)+1))))):=hd0 (ah.setCell (S:=fun x=>x=r) (p:=⟨r,1,none⟩) (HK.out.mono (fun _ _ h=>h.elim)) (.inl rfl) _);have aqV:=hd0 yl;have Cq:IntKind.i64.wrap ((k:Int)+1)=(k:Int)+1:=awt _ (by omega);have TE:IntKind.i64.wrap ((k0:Int)+((k:Int)+1))=(k0:Int)+((k:Int)+1):=awt _ (by omega);have VY:k<8->IntKind.i64.wrap ((Tm:Int)*128)=(Tm:Int)*128:=fun h8=>awt _ (by
     have h7:Tm<=562949953421312:=by
      rw[Fa];exact auX (avw (by omega) (show k<=7 by omega)) (by decide)
     omega)
    have afM:=hd0 VY;clear hf Fa Fx yl VY;rcases hz with hz|⟨hz,oA⟩
    ·by_cases hc:ci<128
     ·have RP:(ci:Int)<128:=by omega
      have Hv:Hid (jF 0 0 (S.drop k0)=.ok (dw+P,k+1)):=hd0 (by rw[Td.out,ava Hf.out,au8 hc]);clear Td hc;by_cases ht:dw+P<=4611686018427387903/\((dw+P:Nat):Int)<=most
      ·have Ht:=hd0 ht;have Wf:¬(4611686018427387903:Int)<(dw:Int)+P:=by omega
       have FK:¬ most<(dw:Int)+P:=by omega
       clear ht;go_wp2_with fail;refine aJ (by kernel_rfl) (by kernel_rfl) ?_
       repeat (quiet_step (fail))
       refine avT ?_;intro _ bf;obtain⟨nq,rfl⟩:=bf;go_wp2_with fail;refine bT (by kernel_rfl) (by kernel_rfl) ?_
       repeat (quiet_step (fail))
       refine avT ?_;intro _ bf;obtain⟨Fb,rfl⟩:=bf;go_wp2;go_ret2;refine⟨HMs.out.drewN _,?_⟩;rw[Hv.out];simp only;rw[au8 Ht.out];exact⟨by rw[show((dw+P:Nat):Int)=(dw:Int)+P by omega];rfl,cf HB.out _⟩
      ·have Ht:=hd0 ht;have Wf:(4611686018427387903:Int)<(dw:Int)+P\/(¬(4611686018427387903:Int)<(dw:Int)+P/\most<(dw:Int)+P):=by omega
       clear ht;rcases Wf with Wf|⟨Wf,FK⟩
       all_goals
        go_wp2_with fail;refine aJ (by kernel_rfl) (by kernel_rfl) ?_
        repeat (quiet_step (fail))
        refine avT ?_;intro _ bf;obtain⟨nq,rfl⟩:=bf;go_wp2_with fail;refine bT (by kernel_rfl) (by kernel_rfl) ?_
        repeat (quiet_step (fail))
        refine avT ?_;intro _ bf;obtain⟨Fb,rfl⟩:=bf;go_wp2_with fail;refine(ie S (k0+(k+1)) 0 31 r _ (cf HB.out Fb)).mono ?_;rintro e w2 ⟨rfl,h2,df⟩;have H2:=hd0 h2;have ft:Hid (ah (·=r) w w2):=hd0 ((HMs.out.drewN Fb).trans df (fun _ _ h=>h));clear h2 df;go_wp2;go_ret2;refine⟨ft.out,?_⟩;rw[Hv.out];simp only;rw[ava Ht.out];exact⟨rfl,H2.out⟩
     ·have RP:¬(ci:Int)<128:=by omega
      have Hv:Hid (jF 0 0 (S.drop k0)=jF (k+1) (dw+P) (S.drop (k0+k+1))):=hd0 (by rw[Td.out,ava Hf.out,ava hc]);clear Td hc;have yn:Hid (dw+P<128 ^ (k+1)):=hd0 (by
       rw[avu,<-jW.out];omega)
      by_cases aaR:k<8
      ·have aej:(k:Int)<8:=by omega
       have VY:=afM.out aaR;go_wp2_with fail;refine aJ (by kernel_rfl) (by kernel_rfl) ?_
       repeat (quiet_step (fail))
       refine avT ?_;intro _ bf;obtain⟨nq,rfl⟩:=bf;go_wp2_with fail;refine bT (by kernel_rfl) (by kernel_rfl) ?_
       repeat (quiet_step (fail))
       refine avT ?_;intro _ bf;obtain⟨Fb,rfl⟩:=bf;go_wp2_with fail;exact⟨⟨k+1,dw+P,Tm*128,by omega,by omega,by go_num,by rw[show((dw+P:Nat):Int)=(dw:Int)+P by omega],by rw[show((Tm*128:Nat):Int)=(Tm:Int)*128 by omega],HK.out.drewN _,hd0 ⟨by rw[show min (k+1) 8=k+1 by omega,avu,<-jW.out],yn.out,Hv.out⟩⟩,by simp[intOf];omega⟩
      ·exfalso;omega
    ·by_cases hc:ci<128
     ·have RP:(ci:Int)<128:=by omega
      have Hv:Hid (jF 0 0 (S.drop k0)=.ok (dw+P,k+1)):=hd0 (by rw[Td.out,ava Hf.out,au8 hc]);clear Td hc;by_cases ht:dw+P<=4611686018427387903/\((dw+P:Nat):Int)<=most
      ·have Ht:=hd0 ht;have Wf:¬(4611686018427387903:Int)<(dw:Int)+P:=by omega
       have FK:¬ most<(dw:Int)+P:=by omega
       clear ht;go_wp2_with fail;refine aJ (by kernel_rfl) (by kernel_rfl) ?_
       repeat (quiet_step (fail))
       refine avT ?_;intro _ bf;obtain⟨nq,rfl⟩:=bf;go_wp2_with fail;refine bT (by kernel_rfl) (by kernel_rfl) ?_
       repeat (quiet_step (fail))
       refine avT ?_;intro _ bf;obtain⟨Fb,rfl⟩:=bf;go_wp2;go_ret2;refine⟨HMs.out.drewN _,?_⟩;rw[Hv.out];simp only;rw[au8 Ht.out];exact⟨by rw[show((dw+P:Nat):Int)=(dw:Int)+P by omega];rfl,cf HB.out _⟩
      ·have Ht:=hd0 ht;have Wf:(4611686018427387903:Int)<(dw:Int)+P\/(¬(4611686018427387903:Int)<(dw:Int)+P/\most<(dw:Int)+P):=by omega
       clear ht;rcases Wf with Wf|⟨Wf,FK⟩
       all_goals
        go_wp2_with fail;refine aJ (by kernel_rfl) (by kernel_rfl) ?_
        repeat (quiet_step (fail))
        refine avT ?_;intro _ bf;obtain⟨nq,rfl⟩:=bf;go_wp2_with fail;refine bT (by kernel_rfl) (by kernel_rfl) ?_
        repeat (quiet_step (fail))
        refine avT ?_;intro _ bf;obtain⟨Fb,rfl⟩:=bf;go_wp2_with fail;refine(ie S (k0+(k+1)) 0 31 r _ (cf HB.out Fb)).mono ?_;rintro e w2 ⟨rfl,h2,df⟩;have H2:=hd0 h2;have ft:Hid (ah (·=r) w w2):=hd0 ((HMs.out.drewN Fb).trans df (fun _ _ h=>h));clear h2 df;go_wp2;go_ret2;refine⟨ft.out,?_⟩;rw[Hv.out];simp only;rw[ava Ht.out];exact⟨rfl,H2.out⟩
     ·have RP:¬(ci:Int)<128:=by omega
      have Hv:Hid (jF 0 0 (S.drop k0)=jF (k+1) (dw+P) (S.drop (k0+k+1))):=hd0 (by rw[Td.out,ava Hf.out,ava hc]);clear Td hc;have yn:Hid (dw+P<128 ^ (k+1)):=hd0 (by
       rw[avu,<-jW.out];omega)
      by_cases aaR:k<8
      ·have aej:(k:Int)<8:=by omega
       have VY:=afM.out aaR;go_wp2_with fail;refine aJ (by kernel_rfl) (by kernel_rfl) ?_
       repeat (quiet_step (fail))
       refine avT ?_;intro _ bf;obtain⟨nq,rfl⟩:=bf;go_wp2_with fail;refine bT (by kernel_rfl) (by kernel_rfl) ?_
       repeat (quiet_step (fail))
       refine avT ?_;intro _ bf;obtain⟨Fb,rfl⟩:=bf;go_wp2_with fail;exact⟨⟨k+1,dw+P,Tm*128,by omega,by omega,by go_num,by rw[show((dw+P:Nat):Int)=(dw:Int)+P by omega],by rw[show((Tm*128:Nat):Int)=(Tm:Int)*128 by omega],HK.out.drewN _,hd0 ⟨by rw[show min (k+1) 8=k+1 by omega,avu,<-jW.out],yn.out,Hv.out⟩⟩,by simp[intOf];omega⟩
      ·have aej:¬(k:Int)<8:=by omega
       go_wp2_with fail;refine aJ (by kernel_rfl) (by kernel_rfl) ?_
       repeat (quiet_step (fail))
       refine avT ?_;intro _ bf;obtain⟨nq,rfl⟩:=bf;go_wp2_with fail;refine bT (by kernel_rfl) (by kernel_rfl) ?_
       repeat (quiet_step (fail))
       refine avT ?_;intro _ bf;obtain⟨Fb,rfl⟩:=bf;go_wp2_with fail;exact⟨⟨k+1,dw+P,Tm,by omega,by omega,by go_num,by rw[show((dw+P:Nat):Int)=(dw:Int)+P by omega],rfl,HK.out.drewN _,hd0 ⟨by rw[show min (k+1) 8=k by omega];exact jW.out,yn.out,Hv.out⟩⟩,by simp[intOf];omega⟩
end
section
open Go.RowKit
theorem Rs:∀(s:List UInt8) (i n:Nat) (x:Int),jF i n s=.error x->(x==0)=false:=by
 intro s
 induction s with
 |nil=>intro i n x h;cases h;rfl
 |cons c r ih=>
  intro i n x h;rw[jF]at h;split at h
  ·cases h;rfl
  ·split at h
   ·cases h
   ·exact ih _ _ _ h
theorem EV (S:List UInt8)(i j:Nat)(x y:Int)(hx:x=i)(hy:y=j)(hij:i<=j)(hj:j<=S.length)(W:World):(Instr.slice 9 (.string ⟨S.toArray⟩) (some (.int .i64 x)) (some (.int .i64 y)) none).run prog W=.ok (.string ⟨((S.drop i).take (j-i)).toArray⟩) W:=by
 subst hx hy;rw[run_slice_string_if W 9 _ .i64 .i64 _ _ underlying9];have hs:(⟨S.toArray⟩:ByteArray).size=S.length:=by simp[ByteArray.size]
 rw[au8 (by rw[hs];omega),au8 (by omega),avD,avD]
 congr 2
 apply ByteArray.ext;simp[List.extract_eq_take_drop]
def IT (w:World)(r:Nat)(S:List UInt8)(k0:Nat)(most:Int)(e:Ending)(w':World):Prop:=
 ah (·=r) w w'/\match jF 0 0 (S.drop k0)with
  | .error x=>e=.returned (.tuple #[.string ⟨#[]⟩,.int .i64 x])/\jh w' r S k0 x
  | .ok (n,k)=>if(n:Int)<=most then(if k0+k+n<=S.length then e=.returned (.tuple #[.string ⟨((S.drop (k0+k)).take n).toArray⟩,.int .i64 0])/\jh w' r S (k0+k+n) 0 else e=.returned (.tuple #[.string ⟨#[]⟩,.int .i64 32])/\jh w' r S (k0+k) 32)else e=.returned (.tuple #[.string ⟨#[]⟩,.int .i64 31])/\jh w' r S (k0+k) 31
theorem xT (S:List UInt8)(k0:Nat)(most:Int)(r:Nat)(w:World)(h:jh w r S k0 0)(hk:k0<=S.length)(hS:S.length<=140737488351232)(hm:most<=65536):
  Calls prog 43 #[.pointer (some ⟨r,0,none⟩),.int .i64 most] w (IT w r S k0 most):=by
 have H:=hd0 h;have Fx:min most 65536=most:=by omega
 have hSi:(S.length:Int)<=140737488351232:=by omega
 clear h;go_enter func43,ntmps43;go_wp2_with fail;refine(tC S k0 most r w H.out hk hS (by omega)).mono ?_;rintro e w1 ⟨ik,hp⟩;have rk:=hd0 ik;clear ik
 cases hg:jF 0 0 (S.drop k0)with
 |error x=>
  rw[hg]at hp;obtain⟨rfl,h1⟩:=hp;have H1:=hd0 h1;have Hg:=hd0 hg;have hx:(x==0)=false:=Rs _ _ _ _ hg;clear h1 hg;go_wp2;go_ret2;refine⟨rk.out,?_⟩;rw[Hg.out];exact⟨rfl,H1.out⟩
 |ok nk=>
  obtain⟨n,k⟩:=nk;rw[hg]at hp;simp only at hp;have Hg:=hd0 hg;obtain⟨hb1,eV,uJ⟩:=rg _ _ _ _ _ (by omega) (by omega) hg;rw[List.length_drop]at uJ;clear hg;by_cases hc:n<=4611686018427387903/\(n:Int)<=most
  ·rw[au8 hc]at hp;obtain⟨rfl,h1⟩:=hp;have H1:=hd0 h1;have hn:n<=65536:=by omega
   have mn:(n:Int)<=most:=hc.2;have c0:w1.cell? ⟨r,0,none⟩=some (.string ⟨S.toArray⟩):=aa h1 0;have c1:w1.cell? ⟨r,1,none⟩=some (.int .i64 ((k0+k:Nat):Int)):=aa h1 1;have f1:w1.frozen? ⟨r,1,none⟩=false:=ae h1 _ rfl;obtain⟨K,hK⟩:∃ K,k0+k=K:=⟨_,rfl⟩
   rw[hK]at H1 c1;have hKl:K<=S.length:=by omega
   clear h1 hc;have Cq:IntKind.i64.wrap ((S.length:Int)-K)=(S.length:Int)-K:=awt _ (by omega);have TE:IntKind.i64.wrap ((K:Int)+n)=(K:Int)+n:=awt _ (by omega);have hw3:IntKind.i64.wrap ((K:Int)+n-n)=(K:Int):=by rw[awt _ (by omega)];omega
   have hwK:IntKind.i64.wrap (K:Int)=(K:Int):=awt _ (by omega);by_cases hl:K+n<=S.length
   ·have Cx:¬(S.length:Int)-K<(n:Int):=by omega
    go_wp2_with fail;refine aJ (by kernel_rfl) (by kernel_rfl) ?_
    repeat (quiet_step (fail))
    refine avT ?_;intro _ bf;obtain⟨nq,rfl⟩:=bf;go_wp2_with fail;have HB:Hid (jh (w1.setCell ⟨r,1,none⟩ (.int .i64 ((K:Int)+n))) r S (K+n) 0):=hd0 (by
     have h:=ag H1.out 1 (.int .i64 ((K:Int)+n));unfold jh;rw[show((K+n:Nat):Int)=(K:Int)+n by omega];exact h)
    have ft:Hid (ah (·=r) w (w1.setCell ⟨r,1,none⟩ (.int .i64 ((K:Int)+n)))):=hd0 (ah.setCell (S:=fun x=>x=r) (p:=⟨r,1,none⟩) rk.out (.inl rfl) _);have d0:(w1.setCell ⟨r,1,none⟩ (.int .i64 ((K:Int)+n))).cell? ⟨r,0,none⟩=some (.string ⟨S.toArray⟩):=aa HB.out 0;have d1:(w1.setCell ⟨r,1,none⟩ (.int .i64 ((K:Int)+n))).cell? ⟨r,1,none⟩=some (.int .i64 ((K:Int)+n)):=by
     have h:=aa HB.out 1;rw[h];show some (Value.int .i64 ((K+n:Nat):Int))=_;rw[show((K+n:Nat):Int)=(K:Int)+n by omega]
    generalize w1.setCell ⟨r,1,none⟩ (.int .i64 ((K:Int)+n))=w3 at*;have hcut:=EV S K (K+n) (K:Int) ((K:Int)+n) rfl (by omega) (by omega) hl;rw[show K+n-K=n by omega]at hcut;clear c0 c1 f1;refine bT (by kernel_rfl) (by kernel_rfl) ?_
    repeat (quiet_step (fail))
    refine avT ?_;intro _ bf;obtain⟨Fb,rfl⟩:=bf;go_wp2;go_ret2;refine⟨ft.out.drewN _,?_⟩;rw[Hg.out];simp only;rw[au8 mn,hK,au8 hl];refine⟨?_,cf HB.out _⟩;rfl
   ·have Cx:(S.length:Int)-K<(n:Int):=by omega
    go_wp2_with fail;refine aJ (by kernel_rfl) (by kernel_rfl) ?_
    repeat (quiet_step (fail))
    refine avT ?_;intro _ bf;obtain⟨nq,rfl⟩:=bf;go_wp2_with fail;refine(ie S K 0 32 r _ (cf H1.out nq)).mono ?_;rintro e w2 ⟨rfl,h2,df⟩;have H2:=hd0 h2;have ft:Hid (ah (·=r) w w2):=hd0 ((rk.out.drewN nq).trans df (fun _ _ h=>h));clear h2 df;go_wp2;go_ret2;refine⟨ft.out,?_⟩;rw[Hg.out];simp only;rw[au8 mn,hK,ava hl];exact⟨rfl,H2.out⟩
  ·rw[ava hc]at hp;obtain⟨rfl,h1⟩:=hp;have H1:=hd0 h1;have Hn:Hid (¬(n:Int)<=most):=hd0 (by omega);clear h1 hc;go_wp2;go_ret2;refine⟨rk.out,?_⟩;rw[Hg.out];simp only;rw[ava (by have:=Hn.out;omega)];exact⟨rfl,H1.out⟩
end
section
open Go.RowKit
theorem Rt (S rest:List UInt8)(n k0:Nat)(most:Int)(r:Nat)(w:World)(h:jh w r S k0 0)(hd:S.drop k0=aG n++rest)(hS:S.length<=140737488351232)(hm:most<=9223372036854775807)(hn:n<=4611686018427387903)(mn:(n:Int)<=most):
  Calls prog 42 #[.pointer (some ⟨r,0,none⟩),.int .i64 most] w fun e w'=>e=.returned (.tuple #[.int .i64 (n:Int),.int .i64 0])/\jh w' r S (k0+(aG n).length) 0/\ah (·=r) w w':=by
 have hk:k0<=S.length:=by
  rcases Nat.lt_or_ge S.length k0 with h1|h1
  ·rw[List.drop_of_length_le (by omega)]at hd;have h2:=awe List.length hd;have:=EP n;rw[avi]at h2;simp at h2;omega
  ·exact h1
 have hg:jF 0 0 (S.drop k0)=.ok (n,(aG n).length):=by
  rw[hd,EU n 0 0 rest (fun h=>by omega) (by simp only[Nat.reduceSub,Nat.reducePow];omega) (by omega)];simp
 refine(tC S k0 most r w h hk hS hm).mono ?_;rintro e w' ⟨ik,hp⟩;rw[hg]at hp;simp only at hp;rw[au8 ⟨hn,mn⟩]at hp;exact⟨hp.1,hp.2,ik⟩
theorem Nh (S s rest:List UInt8)(k0:Nat)(most:Int)(r:Nat)(w:World)(h:jh w r S k0 0)(hd:S.drop k0=aG s.length++(s++rest))(hS:S.length<=140737488351232)(hm:most<=65536)(mn:(s.length:Int)<=most):
  Calls prog 43 #[.pointer (some ⟨r,0,none⟩),.int .i64 most] w fun e w'=>e=.returned (.tuple #[.string ⟨s.toArray⟩,.int .i64 0])/\jh w' r S (k0+(aG s.length).length+s.length) 0/\ah (·=r) w w':=by
 have bA:S.length-k0=(aG s.length).length+(s.length+rest.length):=by
  have h2:=awe List.length hd;rw[List.length_drop,avi,avi]at h2;exact h2
 have:=EP s.length;have hk:k0<=S.length:=by omega
 have hg:jF 0 0 (S.drop k0)=.ok (s.length,(aG s.length).length):=by
  rw[hd,EU s.length 0 0 _ (fun h=>by omega) (by simp only[Nat.reduceSub,Nat.reducePow];omega) (by omega)];simp
 have hcut:(S.drop (k0+(aG s.length).length)).take s.length=s:=by
  rw[<-List.drop_drop,hd,List.drop_left' rfl,List.take_left' rfl]
 refine(xT S k0 most r w h hk hS hm).mono ?_;rintro e w' ⟨ik,hp⟩;rw[hg]at hp;simp only at hp;rw[au8 mn,au8 (by omega),hcut]at hp;exact⟨hp.1,hp.2,ik⟩
theorem Ru (S:List UInt8)(r:Nat)(w:World)(h:jh w r S S.length 0)(_hS:S.length<=140737488351232):Calls prog 44 #[.pointer (some ⟨r,0,none⟩)] w fun e w'=>e=.returned (.int .i64 0)/\af w w':=by
 have c0:w.cell? ⟨r,0,none⟩=some (.string ⟨S.toArray⟩):=aa h 0;have c1:w.cell? ⟨r,1,none⟩=some (.int .i64 (S.length:Int)):=aa h 1;have c2:w.cell? ⟨r,2,none⟩=some (.int .i64 0):=aa h 2;have hi:¬(S.length:Int)<S.length:=by omega
 clear h;go_enter func44,ntmps44;go_wp2_with fail;refine aJ (by kernel_rfl) (by kernel_rfl) ?_
 repeat (quiet_step (fail))
 refine avT ?_;intro _ bf;obtain⟨nq,rfl⟩:=bf;go_wp2;go_ret;exact⟨rfl,(ah.refl _ w).drewN _⟩
theorem Av (S:List UInt8)(k:Nat)(x most:Int)(r:Nat)(w:World)(h:jh w r S k x)(hx:x≠0):
  Calls prog 42 #[.pointer (some ⟨r,0,none⟩),.int .i64 most] w fun e w'=>e=.returned (.tuple #[.int .i64 0,.int .i64 x])/\af w w':=by
 have c2:w.cell? ⟨r,2,none⟩=some (.int .i64 x):=aa h 2;have rq:(x==0)=false:=awh hx;have Cj:(x != 0)=true:=bne_iff_ne.2 hx;clear h hx;go_enter func42,ntmps42;go_wp2_with fail;refine aJ (by kernel_rfl) (by kernel_rfl) ?_
 repeat (go_big_quiet_step (fail))
 refine avT ?_;intro _ bf;obtain⟨nq,rfl⟩:=bf;go_wp2;go_ret2;exact⟨rfl,(ah.refl _ w).drewN _⟩
theorem IU (S:List UInt8)(k:Nat)(x most:Int)(r:Nat)(w:World)(h:jh w r S k x)(hk:k<=S.length)(hS:S.length<=140737488351232)(hm:most<=9223372036854775807):
  Calls prog 42 #[.pointer (some ⟨r,0,none⟩),.int .i64 most] w fun e w'=>∃(n y:Int) (k':Nat),e=.returned (.tuple #[.int .i64 n,.int .i64 y])/\jh w' r S k' y/\ah (·=r) w w'/\k'<=S.length/\0<=n/\n<=4611686018427387904:=by
 by_cases hx:x=0
 ·subst hx;refine(tC S k most r w h hk hS hm).mono ?_;rintro e w' ⟨ik,hc⟩
  cases hg:jF 0 0 (S.drop k)with
  |error y=>
   rw[hg]at hc;obtain⟨rfl,hr⟩:=hc;exact⟨0,y,k,rfl,hr,ik,hk,by omega,by omega⟩
  |ok nk=>
   obtain⟨n,j⟩:=nk;rw[hg]at hc;have hb:=rg (S.drop k) 0 0 n j (by omega) (by simp) hg;rw[List.length_drop]at hb;have hj:k+j<=S.length:=by omega
   simp only at hc;by_cases hn:n<=4611686018427387903/\(n:Int)<=most
   ·rw[au8 hn]at hc;obtain⟨rfl,hr⟩:=hc;exact⟨n,0,k+j,rfl,hr,ik,hj,by omega,by omega⟩
   ·rw[ava hn]at hc;obtain⟨rfl,hr⟩:=hc;exact⟨0,31,k+j,rfl,hr,ik,hj,by omega,by omega⟩
 ·refine(Av S k x most r w h hx).mono ?_;rintro e w' ⟨rfl,hk1⟩;exact⟨0,x,k,rfl,ab hk1 h id,hk1.mono (fun _ _ h=>h.elim),hk,by omega,by omega⟩
theorem IV (S:List UInt8)(k:Nat)(x most:Int)(r:Nat)(w:World)(h:jh w r S k x)(hx:x≠0):
  Calls prog 43 #[.pointer (some ⟨r,0,none⟩),.int .i64 most] w fun e w'=>e=.returned (.tuple #[.string ⟨#[]⟩,.int .i64 x])/\af w w':=by
 have HC:=hd0 (fun m=>Av S k x m r w h hx);have rq:(x==0)=false:=awh hx;have Cj:(x != 0)=true:=bne_iff_ne.2 hx;clear h hx;go_enter func43,ntmps43;go_wp2_with fail;refine(HC.out _).mono ?_;rintro e w1 ⟨rfl,hk⟩;have HK:=hd0 hk;clear hk;go_wp2;go_ret2;exact⟨rfl,HK.out⟩
theorem xU (S:List UInt8)(k:Nat)(x:Int)(r:Nat)(w:World)(h:jh w r S k x)(_hS:S.length<=140737488351232)(hk:k<=S.length):Calls prog 44 #[.pointer (some ⟨r,0,none⟩)] w fun e w'=>∃ y,e=.returned (.int .i64 y)/\af w w':=by
 have c0:w.cell? ⟨r,0,none⟩=some (.string ⟨S.toArray⟩):=aa h 0;have c1:w.cell? ⟨r,1,none⟩=some (.int .i64 (k:Int)):=aa h 1;have c2:w.cell? ⟨r,2,none⟩=some (.int .i64 x):=aa h 2;clear h;by_cases hx:x=0
 ·subst hx;by_cases hi:(k:Int)<S.length
  ·go_enter func44,ntmps44;go_wp2_with fail;refine aJ (by kernel_rfl) (by kernel_rfl) ?_
   repeat (quiet_step (fail))
   refine avT ?_;intro _ bf;obtain⟨nq,rfl⟩:=bf;go_wp2;go_ret;exact⟨_,rfl,(ah.refl _ w).drewN _⟩
  ·go_enter func44,ntmps44;go_wp2_with fail;refine aJ (by kernel_rfl) (by kernel_rfl) ?_
   repeat (quiet_step (fail))
   refine avT ?_;intro _ bf;obtain⟨nq,rfl⟩:=bf;go_wp2;go_ret;exact⟨_,rfl,(ah.refl _ w).drewN _⟩
 ·have rq:(x==0)=false:=awh hx;have Cj:(x != 0)=true:=bne_iff_ne.2 hx;clear hx;go_enter func44,ntmps44;go_wp2;go_ret;exact⟨_,rfl,ah.refl _ _⟩
end
end
end Go.Proofs.YtkghpdcloaiflaaGreatDoor
