import Derived.Test.YtkghpdcloaiflaaGreatDoorH17
set_option maxHeartbeats 8000000
set_option maxRecDepth 100000
namespace Go.Proofs.YtkghpdcloaiflaaGreatDoor
open _root_.Go.Proofs.Tryz
variable {base g n:Nat}{v:Value}{w w':World}{xs:List Value}
section
open Go.RowKit Go.Shelf
attribute [local go_sem] av0
def Vy (s:ay):ay:=s++List.replicate (64-s.length) 0
def uH (d:Dk)(at':Nat)(R:ay):Nat->Dk
 |0=>d
 |k+1=>(uH d at' R k).put (at'+k) (Vy ((R.drop (64*k)).take 64))
def Ma (d:Dk)(gen:Nat)(old pP:ay):Dk:=
 let bytes:=old++eE pP.length 2++pP
 let R:=bytes.drop (old.length/64*64)
 eh ((uH d (1+gen%2*bH d+old.length/64) R ((R.length+63)/64)).sync) gen bytes.length
theorem kg (d:Dk)(a:Nat)(R:ay):∀ k,(uH d a R k).size=d.size
 |0=>rfl
 |k+1=>by rw[uH,ft,kg d a R k]
theorem D8 (S:ay)(i:Nat)(hi:i<=S.length)(W:World):(Instr.slice 9 (.string ⟨S.toArray⟩) (some (.int .i64 (i:Int))) none none).run prog W=.ok (az (S.drop i)) W:=by
 have hs:(⟨S.toArray⟩:ByteArray).size=S.length:=by simp[ByteArray.size]
 rw[run_slice_string_l (P:=prog) (w:=W) (t:=9) (s:=⟨S.toArray⟩) underlying9 .i64 (i:Int) J (by rw[hs];omega),awH]
 congr 2
 apply ByteArray.ext;simp only[List.extract_eq_take_drop,hs,List.extract_toArray,ByteArray.data_extract];rw[awQ sp7]
theorem Qo (S:ay)(j:Nat)(hj:j<=S.length)(W:World):(Instr.slice 9 (.string ⟨S.toArray⟩) none (some (.int .i64 (j:Int))) none).run prog W=.ok (az (S.take j)) W:=by
 have hs:(⟨S.toArray⟩:ByteArray).size=S.length:=by simp[ByteArray.size]
 rw[run_slice_string_h (P:=prog) (w:=W) (t:=9) (s:=⟨S.toArray⟩) underlying9 .i64 (j:Int) J (by rw[hs];omega),awH]
 congr 2
 apply ByteArray.ext;simp[List.extract_eq_take_drop]
theorem D9 (l:List ay)(j:Nat)(hj:j<l.length):(yO l)[j]?=some (az l[j]):=by simp[hj]
theorem Bk (lv:Value)(l:List ay)(base:Nat)(w:World)(h:w.ownsRow base 9 1 lv l.length (yO l))(hl:l.length<=1000000):
  Calls prog 156 #[lv] w λe w'=>∃ v,e=.returned v/\w'.ownsRow w.heap.size 9 1 v l.length (yO l)/\af w w':=by
 have hr:=bh h;obtain⟨a,cap,rfl,hc⟩:=hr;rw[awz]at*
 cases a with
 |none=>
  have h0:l=[]:=by
   cases l with
   |nil=>rfl
   |cons x r=>
    obtain⟨_,_,e,_⟩:=hc 0 _ rfl
    cases e
  subst h0;refine(Tryz.slices_Clone_string_nil 0 cap w).mono ?_;rintro e w' ⟨rfl,rfl⟩;exact⟨_,rfl,⟨rfl,.inl ⟨rfl,rfl⟩⟩,ai.refl _ _⟩
 |some ad=>
  by_cases h0:l=[]
  ·subst h0;refine(Tryz.slices_Clone_string_zero ad cap w).mono ?_;rintro e w' ⟨v,rfl,h1,_,h2⟩;exact⟨v,rfl,h1,ai.ofBelow h2⟩
  ·have bt:0<l.length:=List.length_pos_iff.2 h0;obtain⟨b,o,e,_⟩:=hc 0 (az l[0]) (D9 l 0 bt);injection e with e;subst e;have hC:=Tryz.slices_Clone_string b o l.length cap (l.map λs=>⟨s.toArray⟩) w sp7 J (λj hj=>by
    rw[awz]at hj;obtain⟨b2,o2,e2,c2⟩:=hc j (az l[j]) (D9 l j hj);injection e2 with e2;injection e2 with e3 e4;subst e3 e4;rw[c2];simp[List.getD,hj])
   refine hC.mono ?_;rintro e w' ⟨v,rfl,h1,_,h2⟩;have e1:((l.map λs:ay=>(⟨s.toArray⟩:ByteArray)).take l.length).map Value.string=yO l:=by
    rw[awQ sp7,awv];rfl
   rw[e1]at h1;exact⟨v,rfl,h1,ai.ofBelow h2⟩
theorem Ea {l gen:Nat}{d:Dk}{recs:List ay}{F:Nat->Prop}(h:kK w l d gen recs F)(pP:ay)(hr:pP.length<=1300)(lI:(kY recs).length+pP.length+2<=bH d*64)(ph:recs.length<=500000):
  Calls prog 69 #[au l,az pP] w λe w'=>e=.returned (.int .i64 0)/\∃ F',kK w' l (Ma d gen (kY recs) pP) gen (recs++[pP]) F'/\dO F F' w w':=by
 have RM:=zT h;obtain⟨pd,lv,Fd,h⟩:=h;have hh:bH d<=8192:=by have:=h.many;unfold bH;omega
 have cJ:1+2*bH d<=d.size:=by have:=h.many;unfold bH;omega
 obtain⟨t,ht⟩:∃ t,kY recs=t:=⟨_,rfl⟩
 obtain⟨q,hq⟩:∃ q,bH d=q:=⟨_,rfl⟩
 rw[ht,hq]at RM;rw[ht,hq]at lI;rw[hq]at hh cJ;rw[ht]at h ⊢;have hri:¬(1300:Int)<(pP.length:Int):=J
 have er:((q*64-t.length:Nat):Int)=(q:Int)*64-(t.length:Int):=J
 rw[er]at RM;have e1:IntKind.i64.wrap (2+(pP.length:Int))=2+(pP.length:Int):=eZ J;have YH:¬(q:Int)*64-(t.length:Int)<2+(pP.length:Int):=J
 obtain⟨H,HRM,HT,HQ,W9⟩:=K5 h RM ht hq (And.intro cJ (And.intro lI ph));have c4:w.cell? ⟨l,4,none⟩=some (.bool false):=aa h.own 4;clear h RM ht hq er cJ;go_enter func69,ntmps69;go_wp2_with fail;refine HRM.mono ?_;rintro e w1 ⟨rfl,hk1⟩;obtain⟨H1,cC⟩:=K2 (H.same (hk1.on (λ_ _=>id)) hk1.size) hk1;have c2:w1.cell? ⟨l,2,none⟩=some (az t):=aa H1.own 2;have c2x:∀ x,(w1.ext x).cell? ⟨l,2,none⟩=some (az t):=λx=>((aC w1 x).cell (p:=⟨l,2,none⟩) (ak H1.own) id).trans c2;have PU:Hid (∀ X,Calls prog 150 #[.int .i64 (pP.length:Int),.int .i64 2] X λe w'=>e=.returned (az (eE pP.length 2))/\af X w'):=Z (λX=>wY pP.length 2 J J X);have kX:=gW pP.length 2;have ed:((t.length:Int)).tdiv 64=((t.length/64:Nat):Int):=by rw[axf J];rfl
 have sJ:(t.length:Int)<=524288:=J
 have oc:¬ 9223372036854775807<t.length+2:=J
 have j5:¬ 9223372036854775807<t.length+2+pP.length:=J
 have Cx:¬ 9223372036854775807<t.length+(2+pP.length):=J
 clear hk1 HRM lI;go_wp2_with fail;clear YH;refine cl kr7 kr7 ?_
 repeat (quiet_step (with_reducible exact ar (PU.o _)))
 refine awX ?_;intro _ bD;obtain⟨xq,rfl⟩:=bD;have nG:=aC w1 xq;obtain⟨H2,bJ⟩:=K2 (H1.same (nG.on (λ_ _=>id)) nG.size) (cC.keep nG);clear nG c2 c2x c4 e1 oc j5 Cx;obtain⟨B,hB⟩:∃ B,t++(eE pP.length 2++pP)=B:=⟨_,rfl⟩
 obtain⟨f,hf⟩:∃ f,t.length/64=f:=⟨_,rfl⟩
 have Yi:B.length=t.length+2+pP.length:=by rw[<-hB];simp[kX];omega
 obtain⟨R,hR⟩:∃ R,B.drop (f*64)=R:=⟨_,rfl⟩
 have OW:∀ W,(Instr.slice 9 (.string ⟨B.toArray⟩) (some (.int .i64 ((f:Int)*64))) none none).run prog W=.ok (az R) W:=λW=>by
  have:=D8 B (f*64) J W;rw[hR]at this;simpa using this
 have ew:IntKind.i64.wrap ((f:Int)*64)=(f:Int)*64:=eZ J;have edd:(t.length:Int)/64=(f:Int):=J
 rw[edd,hB];clear ed;have HB:=Z (And.intro hB (And.intro hR hf));have HL:Hid (R.length=t.length+2+pP.length-f*64):=Z (by rw[<-hR];simp[Yi]);have Ur:=Z Yi;clear hB hR hf Yi;go_wp2_with fail;have HK:=bJ.o;generalize hW:w1.ext xq=W0 at*;clear OW ew edd hri kX sJ PU HK hW;obtain⟨a,ha⟩:∃ a,1+gen%2*q+f=a:=⟨_,rfl⟩
 obtain⟨K,hK⟩:∃ K,(R.length+63)/64=K:=⟨_,rfl⟩
 have HA:Hid (1+gen%2*q+f=a/\a+K<=d.size/\f+K<=8192):=Z (by
  have h1:=W9.o;have h2:=HL.o;have h3:=HB.2.2;have h4:f+K<=q:=J
  have h5:gen%2*q<=q:=by
   have:gen%2=0\/gen%2=1:=J
   rcases this with e|e<;>rw[e]<;>omega
  omega)
 have HKK:=Z hK;clear ha hK
 go_loopw [7,8] (λr i wr=>∃(k:Nat) (uC:Nat->Prop),k<=K/\r=az (R.drop (64*k))/\i=.int .i64 ((f:Int)+(k:Int))/\World.blk wr l (gI pd gen t lv) 196/\bE wr pd (uH d a R k) uC/\ai (λb=>b=l\/Fd b) w wr/\Hid (∀ b,uC b->Fd b\/w.heap.size<=b)) (λ_ i _=>f+K-(intOf i).toNat)
 case atStart=>exact⟨0,Fd,J,by simp,by simp,H2.own,H2.disk,bJ.mono (λ_ _ h=>h.elim),Z (λb hb=>.inl hb)⟩
 case round=>
  clear H2 bJ;obtain⟨k,uC,hk,rfl,rfl,ho,hd,hm,HF⟩:=hrel;obtain⟨Ho,Hd,Hm⟩:=K3 ho hd hm;have Nd:Hid (¬ uC l):=Z (λhv=>(HF.o l hv).elim H.nd (λhge=>by have:=H.lt l H.fl;omega));clear ho hd hm;by_cases aP:k<K
  ·obtain⟨rest,KX⟩:∃ rest,R.drop (64*k)=rest:=⟨_,rfl⟩
   have hrl:rest.length=R.length-64*k:=by rw[<-KX];simp
   have Ju:0<rest.length:=by have:=HKK.o;omega
   obtain⟨n,hn⟩:∃ n,min rest.length 64=n:=⟨_,rfl⟩
   have hni:min (rest.length:Int) 64=(n:Int):=J
   have atP:n<=64:=J
   have hnr:n<=rest.length:=J
   have hem:rest.isEmpty=false:=by cases rest with|nil=>simp at Ju|cons x r=>rfl
   have yo:=λW=>Qo rest n hnr W;have hwn:IntKind.i64.wrap (64-(n:Int))=64-(n:Int):=eZ J;have ZR:Hid (∀ X,Calls prog 95 #[.string ⟨#[0]⟩,.int .i64 (64-(n:Int))] X λe w'=>e=.returned (az (List.replicate (64-n) 0))/\af X w'):=Z (λX=>by
    have:=zS (64-n) J X
    rwa [show((64-n:Nat):Int)=64-(n:Int) by omega]at this)
   have hzl:(List.replicate (64-n) (0:UInt8)).length=64-n:=by simp
   have afb:Hid (rest.take n++List.replicate (64-n) 0=Vy (rest.take 64)):=Z (by
    have e1:rest.take n=rest.take 64:=by rw[<-hn,List.take_eq_take_iff];omega
    have e2:(rest.take 64).length=n:=by rw[awc];omega
    unfold Vy;rw[e1,e2])
   have sJ:(rest.take n).length=n:=by rw[awc];omega
   have acd:¬ 9223372036854775807<n+(64-n):=J
   have Hrl:=Z (And.intro hrl (And.intro KX hn));generalize List.replicate (64-n) (0:UInt8)=z at*;generalize rest.take n=tk at*;rw[KX];clear KX hrl hn Ju;go_wp2_with fail;refine cl kr7 kr7 ?_
   repeat (quiet_step (with_reducible exact ar (ZR.o _)))
   refine awX ?_;intro _ bD;obtain⟨xq,rfl⟩:=bD;have nG:=aC wr xq;obtain⟨SV,Sd⟩:=K2 (ab nG Ho.o id) (Hd.mod nG (λ_ _=>id));have Hm2:Hid (ai (λb=>b=l\/Fd b) w (wr.ext xq)):=Z (Hm.trans (nG.mono (T:=λb=>b=l\/Fd b) (λ_ _ h=>h.elim)) (λ_ _ h=>h));clear nG yo hwn hzl acd sJ hem;generalize wr.ext xq=W2 at*;have hl:l<W2.heap.size:=ak SV.o;have c0:W2.cell? ⟨l,0,none⟩=some (au pd):=aa SV.o 0;have c1:W2.cell? ⟨l,1,none⟩=some (.int .i64 (gen:Int)):=aa SV.o 1;have cJ:(uH d a R k).size=d.size:=kg d a R k;have hhf:bH (uH d a R k)=q:=by unfold bH;rw[cJ];exact HQ.o
   have FI:Hid (∀ x,Calls prog 153 #[au l,.int .i64 (gen:Int)] (W2.ext x) λe w'=>e=.returned (.int .i64 ((a:Int)-(f:Int)))/\af (W2.ext x) w'):=Z (λx=>by
    have h1:=Ik (g:=gen) (ab (aC W2 x) SV.o id) (Sd.mod (aC W2 x) (λ_ _=>id)) (by rw[cJ];exact H.many.1) H.gen;rw[hhf]at h1;refine h1.mono ?_;rintro e w' ⟨rfl,rfl⟩;exact⟨by rw[show((1+gen%2*q:Nat):Int)=(a:Int)-(f:Int) by have:=HA.1;omega],ai.refl _ _⟩)
   have hak:a+k<d.size:=by have:=HA.o;omega
   have ea:(a:Int)-(f:Int)+((f:Int)+(k:Int))=((a+k:Nat):Int):=J
   have ew:IntKind.i64.wrap ((a:Int)-(f:Int)+((f:Int)+(k:Int)))=((a:Int)+(k:Int)):=by have:=H.many.2;rw[eZ J];omega
   have ewk:IntKind.i64.wrap ((f:Int)+(k:Int)+1)=(f:Int)+((k+1:Nat):Int):=by have:=HA.o;rw[eZ J];omega
   clear cJ hhf ea;go_wp2_with fail;refine im 1 14 kr7 kr7 (λ_ o _ _ _ h=>by cases o<;>exact h) ?_;simp only[awS,awT,awU,awV];refine fq (λL hL=>?_)
   go_simp
   first|refine hL _ ?_|refine⟨_,λ_=>rfl,hL _ ?_⟩
   clear hL L;refine ko ?_
   repeat (quiet_step (with_reducible exact ar (FI.o _)))
   refine awX ?_;intro _ bD;obtain⟨xq,rfl⟩:=bD;have nG:=aC W2 xq;have Tq:=Z (ab nG SV.o id);have Hm3:Hid (ai (λb=>b=l\/Fd b) w (W2.ext xq)):=Z (Hm2.trans (nG.mono (T:=λb=>b=l\/Fd b) (λ_ _ h=>h.elim)) (λ_ _ h=>h));have WR:Hid (Calls prog 152 #[au pd,.int .i64 ((a:Int)+(k:Int)),.string ⟨(tk++z).toArray⟩] (W2.ext xq) λe w'=>e=.returned (.int .i64 0)/\∃ F',bE w' pd (uH d a R (k+1)) F'/\dO uC F' (W2.ext xq) w'):=Z (by
    have h1:=kw (Sd.mod nG (λ_ _=>id)) (a+k) (by rw[kg];exact hak) (tk++z) (by rw[afb.o];simp[Vy];omega);have e1:uH d a R (k+1)=(uH d a R k).put (a+k) (tk++z):=by rw[afb.o,<-Hrl.2.1];rfl
    rw[e1];simpa using h1)
   clear nG c0 c1 ew hak;go_wp2_with fail;refine WR.mono ?_;rintro e w3 ⟨rfl,NQ,O5,dr⟩;have hsW:=Hm3.size;have Gh:=ab dr.mod Tq.o Nd.o;have n3:¬ NQ l:=λhv=>(dr.foot l hv).elim Nd.o (λhge=>by have:=ak Tq.o;omega);have pU:Hid (ai (λb=>b=l\/Fd b) w w3):=Z (Hm3.trans dr.mod (λi hi h=>(HF.o i h).elim .inr (λhge=>J)));have Gc:Hid (∀ b,NQ b->Fd b\/w.heap.size<=b):=Z (λb hb=>(dr.foot b hb).elim (HF.o b) (λh=>.inr J));obtain⟨Xr,Ho4,N3⟩:=K3 O5 Gh n3;clear O5 dr Gh n3 WR;go_wp2_with fail;refine(pF Ho4.o).mono ?_;rintro e w4 ⟨rfl,Us,AG⟩;have Hd4:=Z (Xr.mod AG (λb hb e=>N3.o (e▸hb)));have sG:Hid (ai (λb=>b=l\/Fd b) w w4):=Z (pU.trans (AG.mono (T:=λb=>b=l\/Fd b) (λ_ _ h=>.inl h)) (λ_ _ h=>h));have UE:=Z Us;have OW:=λW=>D8 rest n hnr W;have SG:Hid (rest.drop n=R.drop (64*(k+1))):=Z (by
    have h1:=Hrl.o;rw[<-h1.2.1,List.drop_drop];by_cases h64:n=64
    ·rw[show 64*k+n=64*(k+1) by omega]
    ·have h2:=h1.1;have h3:=h1.2.2;rw[axu J,axu J])
   clear Us AG;go_wp2_with fail;exact⟨⟨k+1,NQ,J,by rw[SG.o],by first|rfl|(congr 1;omega),UE.o,Hd4.o,sG.o,Gc⟩,by simp[intOf];omega⟩
  ·obtain rfl:k=K:=J
   have e0:R.drop (64*k)=[]:=axu (by have:=HKK.o;omega);rw[e0];have c0:wr.cell? ⟨l,0,none⟩=some (au pd):=aa Ho.o 0;have SY:=Z (pz Hd.o);go_wp2_with fail;refine SY.mono ?_;rintro e w3 ⟨rfl,NQ,O5,dr⟩;have hsW:=Hm.size;have Gh:=ab dr.mod Ho.o Nd.o;have n3:¬ NQ l:=λhv=>(dr.foot l hv).elim Nd.o (λhge=>by have:=ak Ho.o;omega);have pU:Hid (ai (λb=>b=l\/Fd b) w w3):=Z (Hm.trans dr.mod (λi hi h=>(HF.o i h).elim .inr (λhge=>J)));have Gc:Hid (∀ b,NQ b->Fd b\/w.heap.size<=b):=Z (λb hb=>(dr.foot b hb).elim (HF.o b) (λh=>.inr J));obtain⟨Xr,Ho4,N3⟩:=K3 O5 Gh n3;clear O5 dr Gh n3 SY c0;go_wp2_with fail;refine(pF Ho4.o).mono ?_;rintro e w4 ⟨rfl,Us,AG⟩;have Hd4:=Z (Xr.mod AG (λb hb e=>N3.o (e▸hb)));have sG:Hid (ai (λb=>b=l\/Fd b) w w4):=Z (pU.trans (AG.mono (T:=λb=>b=l\/Fd b) (λ_ _ h=>.inl h)) (λ_ _ h=>h));have UE:=Z Us;have c1:w4.cell? ⟨l,1,none⟩=some (.int .i64 (gen:Int)):=aa Us 1;have ad5:(uH d a R k).sync.size=d.size:=by rw[dx,kg]
   have HE:=Z (qO UE.o Hd4.o (by rw[ad5];exact H.many.1) N3.o gen B.length H.gen (by have:=Ur.o;have:=W9.o;omega));clear Us AG ad5;go_wp2_with fail;refine HE.mono ?_;rintro e w5 ⟨rfl,WS,N9,hd5,CC,hf5⟩;have hs4:=sG.size;have Gk:Hid (ai (λb=>b=l\/Fd b) w w5):=Z (sG.trans CC (λi hi h=>h.elim .inl (λh=>(Gc.o i h).elim .inr (λhge=>J))));have FY:Hid (∀ b,WS b->Fd b\/w.heap.size<=b):=Z (λb hb=>(hf5 b hb).elim (Gc.o b) (λh=>.inr J));have c2:w5.cell? ⟨l,2,none⟩=some (az t):=aa N9 2;have f2:=ae N9 ⟨l,2,none⟩ rfl;have Gm:World.blk (w5.setCell ⟨l,2,none⟩ (az B)) l (gI pd gen B lv) 196:=ah N9 2 _;have m6:ai (λb=>b=l) w5 (w5.setCell ⟨l,2,none⟩ (az B)):=(ai.refl (λb=>b=l) w5).setCell (p:=⟨l,2,none⟩) (.inl rfl) _;have n5:¬ WS l:=λhv=>(FY.o l hv).elim H.nd (λhge=>by have:=H.lt l H.fl;omega);have Hd6:=Z (hd5.mod m6 (λb hb e=>n5 (e▸hb)));have Uu:Hid (ai (λb=>b=l\/Fd b) w (w5.setCell ⟨l,2,none⟩ (az B))):=Z (Gk.trans (m6.mono (T:=λb=>b=l\/Fd b) (λ_ _ h=>.inl h)) (λ_ _ h=>h));have YY:(w5.setCell ⟨l,2,none⟩ (az B)).ownsRow 0 9 1 lv recs.length (yO recs):=aA H.list (λb hb=>by
    have h1:=H.fv b hb;exact Uu.block b (H.lt b h1.1) (λh=>h.elim h1.2.2 h1.2.1))
   have c3:(w5.setCell ⟨l,2,none⟩ (az B)).cell? ⟨l,3,none⟩=some lv:=aa Gm 3;obtain⟨CL,Ho6,N5⟩:=K3 (Bk lv recs 0 _ YY J) Gm n5;clear N9 hd5 CC hf5 Gm m6 n5 YY;go_wp2_with fail;refine CL.mono ?_;rintro e w7 ⟨v,rfl,hv7,pV⟩;generalize UF:w5.setCell ⟨l,2,none⟩ (.string ⟨B.toArray⟩)=W6 at*;obtain⟨v8,w8,r8,abQ,m8,at8,g8,rg,rfl⟩:=gQ (P:=prog) underlying149 vM rfl dc7 W6.heap.size v _ _ w7 hv7 [az pP] rfl (by simp[Value.oneCell']) (by unfold maxLen;show recs.length+1<=_;omega) (by show(recs.length+1)*16<=_;omega) pV.size;have OP:=pV.size;have hl6:l<W6.heap.size:=ak Ho6.o;have Xd:=m8.size;have hmv:ai (λb=>W6.heap.size<=b) w7 w8:=m8.mono (λg _ hv=>(hv7.lt g hv).1);have h68:af W6 w8:=(pV.mono (λ_ _ h=>h.elim)).trans hmv (λi hi hg=>absurd hi (Nat.not_lt.2 hg));have Sc:=ab h68 Ho6.o id;have Hd8:=Z (Hd6.mod h68 (λ_ _=>id));have f3:=ae Sc ⟨l,3,none⟩ rfl;have c3:w8.cell? ⟨l,3,none⟩=some lv:=aa Sc 3;obtain⟨HR,BX,akF,H68⟩:=K4 r8 Sc abQ h68;have HG:Hid (W6.heap.size<=g8/\g8<w8.heap.size):=Z (abQ.lt g8 rfl);clear hv7 pV r8 abQ m8 at8 hmv h68 Sc c1 c2 f2 UF;go_wp2_with (at_builtin;refine aB HR.o rfl rfl rfl rfl ?_);go_ret;have m9:ai (λb=>b=l) w8 (w8.setCell ⟨l,3,none⟩ (.slice (some ⟨g8,0,none⟩) (recs.length+1) rg)):=(ai.refl (λb=>b=l) w8).setCell (p:=⟨l,3,none⟩) (.inl rfl) _;have o9:World.blk (w8.setCell ⟨l,3,none⟩ (.slice (some ⟨g8,0,none⟩) (recs.length+1) rg)) l (gI pd gen B (.slice (some ⟨g8,0,none⟩) (recs.length+1) rg)) 196:=ah BX.o 3 _;have alr:w8.ownsRow W6.heap.size 9 1 (.slice (some ⟨g8,0,none⟩) (recs.length+1) rg) (recs.length+1) (yO recs++[az pP]):=akF.o;generalize w8.setCell ⟨l,3,none⟩ (.slice (some ⟨g8,0,none⟩) (recs.length+1) rg)=w9 at*;have hg:=HG.o;have hs9:=m9.size;have apY:=Uu.size;have hF5:∀ b,WS b->b<W6.heap.size:=λb hb=>Hd6.lt b hb;have eB:B=kY (recs++[pP]):=by
    rw[<-HB.1,<-HT.o];unfold kY;rw[awm];simp[eE,List.range_succ]
   have eD:eh (uH d a R k).sync gen B.length=Ma d gen t pP:=by
    unfold Ma;dsimp only;rw[awN,HB.1,HB.2.2,HB.2.1,HQ.o,HA.1,HKK.o]
   have esz:(Ma d gen t pP).size=d.size:=by rw[<-eD];unfold eh;rw[dx,ft,dx,kg]
   refine⟨rfl,λb=>F b\/WS b\/b=g8,⟨pd,.slice (some ⟨g8,0,none⟩) (recs.length+1) rg,WS,?_⟩,?_⟩
   ·rw[<-eB]
    exact { own:=o9,disk:=by rw[<-eD];exact Hd8.mod m9 (λb hb e=>N5.o (e▸hb)),
            list:=by
             have h1:w9.ownsRow 0 9 1 (.slice (some ⟨g8,0,none⟩) (recs.length+1) rg) (recs.length+1) (yO recs++[az pP]):=aA (eS alr (awP _)) (λb hb=>by
              have e:g8=b:=by simpa[Value.ownBlock]using hb
              subst e;exact m9.block g8 hg.2 (λe=>J))
             have e1:yO (recs++[pP])=yO recs++[az pP]:=by simp
             rw[e1,show(recs++[pP]).length=recs.length+1 by simp];exact h1
            fl:=.inl H.fl,fd:=λb hb=>.inr (.inl hb),
            fv:=λb hb=>by
             have e:g8=b:=by simpa[Value.ownBlock]using hb
             subst e;exact⟨.inr (.inr rfl),λhf=>by have:=hF5 _ hf;omega,λe=>J⟩
            nd:=N5.o,many:=by rw[esz];exact H.many,gen:=H.gen,eqT:=eB
            room:=by
             have h1:bH (Ma d gen t pP)=q:=by unfold bH;rw[esz];exact HQ.o
             rw[h1,Ur.o];have:=W9.o;omega
            lt:=λb hb=>by
             rcases hb with hb|hb|hb
             ·have:=H.lt b hb;omega
             ·have:=hF5 b hb;omega
             ·omega }
   ·have k68:ai F W6 w8:=H68.mono (λ_ _ h=>h.elim);have k6:ai F w W6:=Uu.mono (λi _ h=>h.elim (λe=>by subst e;exact H.fl) (H.fd i));refine⟨(k6.trans k68 (λ_ _ h=>h)).trans (m9.mono (T:=F) (λi _ e=>by subst e;exact H.fl)) (λ_ _ h=>h),λb hb=>?_⟩;rcases hb with hb|hb|hb
    ·exact .inl hb
    ·exact(FY.o b hb).imp (H.fd b) id
    ·exact .inr J
end
section
open Go.RowKit
structure qg (ty:TypeId)(rv:Value)(f:FuncId)(I:World->(Nat->Prop)->Prop)(rd:Rd):Prop where
 meth:∀ W,(method 583 ty rv "Read").run prog W=.ok (f,rv) W
 call:∀(x:Value) (W:World),(callFunc f #[rv,x]).run prog W=.ok (.enter f #[rv,x]) W
 read:∀ {w:World} {F:Nat->Prop} {n:Int} {p:ay},I w F->rd n=.ok p->Calls prog f #[rv,.int .i64 n] w λe w'=>e=.returned (.tuple #[.string ⟨p.toArray⟩,.int .i64 0])/\∃ F',I w' F'/\dO F F' w w'
 same:∀ {w w':World} {F:Nat->Prop},I w F->fy F w w'->w.heap.size<=w'.heap.size->I w' F
 lt:∀ {w:World} {F:Nat->Prop},I w F->∀ b,F b->b<w.heap.size
inductive aH
 |none
 |walk
 |nums
 |row (l:Nat)
 |order
 |data
 |below
structure OB where
 nb:Nat
 rows:List Value
 ov:Value
 pv:Value
 dv:Value
 bv:Value
 n:Nat
 N:Nat->List Int
 O:List Int
 D:ay
 left:Nat
 B:Nat->Nat
 role:Nat->aH
structure ug (w:World)(b:Nat)(iv:Value)(ch:Bool)(s:OB):Prop where
 own:World.blk w b (jY iv (.bool ch) (.slice (some ⟨s.nb,0,none⟩) s.n s.n) s.ov s.pv s.dv (.int .i64 (s.left:Int)) s.bv) 302
 nums:World.blk w s.nb s.rows.toArray 46
 rlen:s.rows.length=s.n
 row:∀ l v,s.rows[l]?=some v->aO w 0 v (s.N l)
 order:aO w 0 s.ov s.O
 data:(s.pv=.pointer none/\s.dv=.slice none 0 0/\s.D=[])\/(s.pv=.pointer (some ⟨b,4,none⟩)/\s.D≠[]/\bR w 0 s.dv s.D)
 below:aO w 0 s.bv (gh ((List.range s.n).map s.B))
 rb:s.role b=.walk
 rnb:s.role s.nb=.nums
 rrow:∀ l v g,s.rows[l]?=some v->v.ownBlock=some g->s.role g=.row l
 rorder:∀ g,s.ov.ownBlock=some g->s.role g=.order
 rdata:∀ g,s.dv.ownBlock=some g->s.role g=.data
 rbelow:∀ g,s.bv.ownBlock=some g->s.role g=.below
 lt:∀ g,s.role g≠.none->g<w.heap.size
theorem aX {sz:Nat}{t:TypeId}(h:w.ownsRow base t sz v n xs)(hg:v.ownBlock=some g):g<w.heap.size:=by
 rcases h.2 with⟨e,_⟩|⟨g',cap,dW,e,_,Tk,_⟩
 ·rw[e]at hg;cases hg
 ·rw[e]at hg;have:g'=g:=by simpa[Value.ownBlock]using hg
  subst this;exact(awr.1 Tk).1
theorem ug.same {b:Nat}{iv:Value}{ch:Bool}{s:OB}(h:ug w b iv ch s)(m:fy (λg=>s.role g≠.none) w w')(hs:w.heap.size<=w'.heap.size):ug w' b iv ch s:=by
 have nn:∀ {g r},s.role g=r->r≠.none->w'.heap[g]?=w.heap[g]?:=λ{g r} e hr=>m g (show s.role g≠.none by rw[e];exact hr) (h.lt g (by rw[e];exact hr))
 exact { own:=(nn h.rb aH.noConfusion).trans h.own,nums:=(nn h.rnb aH.noConfusion).trans h.nums,rlen:=h.rlen,
         row:=λl v hv=>aA (h.row l v hv) λg hg=>nn (h.rrow l v g hv hg) aH.noConfusion,
         order:=aA h.order λg hg=>nn (h.rorder g hg) aH.noConfusion,
         data:=h.data.imp id λ⟨h1,h2,h3⟩=>⟨h1,h2,aA h3 λg hg=>nn (h.rdata g hg) aH.noConfusion⟩,
         below:=aA h.below λg hg=>nn (h.rbelow g hg) aH.noConfusion,
         rb:=h.rb,rnb:=h.rnb,rrow:=h.rrow,rorder:=h.rorder,rdata:=h.rdata,rbelow:=h.rbelow,lt:=λg hg=>awg (h.lt g hg) hs }
def mY (role:Nat->aH)(v:Value)(r:aH):Nat->aH:=λg=>match v.ownBlock with
 |some k=>if k=g then r else role g
 |none=>role g
structure iH (role jQ:Nat->aH)(n:Nat):Prop where
 keep:∀ g,role g≠.none->jQ g=role g
 new:∀ g,jQ g≠.none->role g≠.none\/n<=g
theorem iH.refl (role:Nat->aH)(n:Nat):iH role role n:=⟨λ_ _=>rfl,λ_ h=>.inl h⟩
theorem iH.trans {a b c:Nat->aH}{m:Nat}(h:iH a b n)(k:iH b c m)(hn:n<=m):iH a c n where
 keep g hg:=by rw[k.keep g (by rw[h.keep g hg];exact hg),h.keep g hg]
 new g hg:=(k.new g hg).elim (λh2=>h.new g h2) (λh2=>.inr J)
theorem xa {role:Nat->aH}{v':Value}{r:aH}(hv:∀ g,v.ownBlock=some g->role g=r)(hr:r≠.none)(lt:∀ g,role g≠.none->g<w.heap.size)(at':v'.ownBlock=v.ownBlock\/∃ k,v'.ownBlock=some k/\w.heap.size<=k):iH role (mY role v' r) w.heap.size:=by
 constructor
 ·intro g hg;unfold mY;rcases at' with e|⟨k,e,hk⟩
  ·rw[e]
   cases hq:v.ownBlock with
   |none=>rfl
   |some k=>
    simp only;split
    ·rename_i e2;subst e2;exact(hv k hq).symm
    ·rfl
  ·rw[e];simp only;rw[awf (λe2=>by have:=lt g hg;omega)]
 ·intro g hg;unfold mY at hg;rcases at' with e|⟨k,e,hk⟩
  ·rw[e]at hg
   cases hq:v.ownBlock with
   |none=>rw[hq]at hg;exact .inl hg
   |some k=>
    rw[hq]at hg;simp only at hg;split at hg
    ·rename_i e2;subst e2;exact .inl (by rw[hv k hq];exact hr)
    ·exact .inl hg
  ·rw[e]at hg;simp only at hg;split at hg
   ·rename_i e2;subst e2;exact .inr hk
   ·exact .inl hg
theorem Im {role:Nat->aH}{r:aH}(h:v.ownBlock=some g):mY role v r g=r:=by unfold mY;rw[h];simp
theorem In {role:Nat->aH}{r:aH}(lt:∀ g,role g≠.none->g<w.heap.size)(hs:w.heap.size<=w'.heap.size)(hv:∀ g,v.ownBlock=some g->g<w'.heap.size)(g:Nat)(hg:mY role v r g≠.none):g<w'.heap.size:=by
 unfold mY at hg
 cases hq:v.ownBlock with
 |none=>rw[hq]at hg;exact awg (lt g hg) hs
 |some k=>
  rw[hq]at hg;simp only at hg;split at hg
  ·rename_i e;subst e;exact hv k hq
  ·exact awg (lt g hg) hs
section
variable {w w1 w2:World}{b:Nat}{iv:Value}{ch:Bool}{s:OB}
theorem ug.ordered (h:ug w b iv ch s)(x:Int)(v':Value)(own:aO w1 0 v' (s.O++[x]))(m:ai (λg=>s.ov.ownBlock=some g) w w1)(at':v'.ownBlock=s.ov.ownBlock\/∃ k,v'.ownBlock=some k/\w.heap.size<=k):
  ug (w1.setCell ⟨b,3,none⟩ v') b iv ch { s with ov:=v',O:=s.O++[x],role:=mY s.role v' .order }/\iH s.role (mY s.role v' .order) w.heap.size/\ai (λg=>s.role g≠.none) w (w1.setCell ⟨b,3,none⟩ v'):=by
 have G:iH s.role (mY s.role v' .order) w.heap.size:=xa h.rorder aH.noConfusion h.lt at';have m1:ai (λg=>g=b) w1 (w1.setCell ⟨b,3,none⟩ v'):=(ai.refl (λg=>g=b) w1).setCell (p:=⟨b,3,none⟩) (.inl rfl) _;have m2:ai (λg=>s.role g=.walk\/s.role g=.order) w (w1.setCell ⟨b,3,none⟩ v'):=(m.mono (λg _ hg=>.inr (h.rorder g hg))).trans m1 (λg _ e=>by subst e;exact .inl h.rb);have nn:∀ {g r},s.role g=r->r≠.none->r≠.walk->r≠.order->(w1.setCell ⟨b,3,none⟩ v').heap[g]?=w.heap[g]?:=λ{g r} e h1 h2 h3=>m2.block g (h.lt g (by rw[e];exact h1)) (by rw[e];exact λhh=>hh.elim h2 h3);have kr:∀ {g r},s.role g=r->r≠.none->mY s.role v' .order g=r:=λ{g r} e hr=>(G.keep g (by rw[e];exact hr)).trans e;have ib:s.ov.ownBlock≠some b:=λe=>by have:=h.rorder b e;rw[h.rb]at this;cases this
 refine⟨{ own:=?_,nums:=?_,rlen:=h.rlen,row:=?_,order:=?_,data:=?_,below:=?_,rb:=kr h.rb aH.noConfusion,rnb:=kr h.rnb aH.noConfusion,
          rrow:=λl v g hv hg=>kr (h.rrow l v g hv hg) aH.noConfusion,rorder:=λg hg=>Im hg,rdata:=λg hg=>kr (h.rdata g hg) aH.noConfusion,rbelow:=λg hg=>kr (h.rbelow g hg) aH.noConfusion,lt:=?_ },G,m2.mono (λg _ hg hn=>by rcases hg with hg|hg<;>rw[hg]at hn<;>cases hn)⟩
 ·exact ah (ab m h.own ib) 3 v'
 ·exact(nn h.rnb aH.noConfusion aH.noConfusion aH.noConfusion).trans h.nums
 ·exact λl v hv=>aA (h.row l v hv) λg hg=>nn (h.rrow l v g hv hg) aH.noConfusion aH.noConfusion aH.noConfusion
 ·refine aA own λg hg=>m1.block g (aX own hg) ?_;rintro rfl;rcases at' with e|⟨k,e,hk⟩
  ·rw[hg]at e;exact ib e.symm
  ·rw[hg]at e;cases e;have:=ak h.own;omega
 ·exact h.data.imp id λ⟨h1,h2,h3⟩=>⟨h1,h2,aA h3 λg hg=>nn (h.rdata g hg) aH.noConfusion aH.noConfusion aH.noConfusion⟩
 ·exact aA h.below λg hg=>nn (h.rbelow g hg) aH.noConfusion aH.noConfusion aH.noConfusion
 ·exact λg hg=>In h.lt m2.size (λg hg=>awg (aX own hg) m1.size) g hg
theorem ug.rowed (h:ug w b iv ch s)(l:Nat)(v:Value)(hv:s.rows[l]?=some v)(x:Int)(v':Value)(own:aO w1 0 v' (s.N l++[x]))(m:ai (λg=>v.ownBlock=some g) w w1)(at':v'.ownBlock=v.ownBlock\/∃ k,v'.ownBlock=some k/\w.heap.size<=k):
  ug (w1.setCell ⟨s.nb,l,none⟩ v') b iv ch { s with rows:=s.rows.set l v',N:=λk=>if k=l then s.N l++[x]else s.N k,role:=mY s.role v' (.row l) }/\iH s.role (mY s.role v' (.row l)) w.heap.size/\ai (λg=>s.role g≠.none) w (w1.setCell ⟨s.nb,l,none⟩ v'):=by
 have G:iH s.role (mY s.role v' (.row l)) w.heap.size:=xa (λg hg=>h.rrow l v g hv hg) aH.noConfusion h.lt at';have m1:ai (λg=>g=s.nb) w1 (w1.setCell ⟨s.nb,l,none⟩ v'):=(ai.refl (λg=>g=s.nb) w1).setCell (p:=⟨s.nb,l,none⟩) (.inl rfl) _;have m2:ai (λg=>s.role g=.nums\/s.role g=.row l) w (w1.setCell ⟨s.nb,l,none⟩ v'):=(m.mono (λg _ hg=>.inr (h.rrow l v g hv hg))).trans m1 (λg _ e=>by subst e;exact .inl h.rnb);have nn:∀ {g r},s.role g=r->r≠.none->r≠.nums->r≠.row l->(w1.setCell ⟨s.nb,l,none⟩ v').heap[g]?=w.heap[g]?:=λ{g r} e h1 h2 h3=>m2.block g (h.lt g (by rw[e];exact h1)) (by rw[e];exact λhh=>hh.elim h2 h3);have kr:∀ {g r},s.role g=r->r≠.none->mY s.role v' (.row l) g=r:=λ{g r} e hr=>(G.keep g (by rw[e];exact hr)).trans e;have ib:v.ownBlock≠some s.nb:=λe=>by have:=h.rrow l v _ hv e;rw[h.rnb]at this;cases this
 have hl:l<s.rows.length:=(awk.1 hv).1
 refine⟨{ own:=?_,nums:=?_,rlen:=by simpa using h.rlen,row:=?_,order:=?_,data:=?_,below:=?_,rb:=kr h.rb aH.noConfusion,rnb:=kr h.rnb aH.noConfusion,
          rrow:=?_,rorder:=λg hg=>kr (h.rorder g hg) aH.noConfusion,rdata:=λg hg=>kr (h.rdata g hg) aH.noConfusion,rbelow:=λg hg=>kr (h.rbelow g hg) aH.noConfusion,lt:=?_ },G,m2.mono (λg _ hg hn=>by rcases hg with hg|hg<;>rw[hg]at hn<;>cases hn)⟩
 ·exact(nn h.rb aH.noConfusion aH.noConfusion aH.noConfusion).trans h.own
 ·have:=ah (ab m h.nums ib) l v';have e:s.rows.toArray.setIfInBounds l v'=(s.rows.set l v').toArray:=by simp
  rw[e]at this;exact this
 ·intro k u hu;simp only at hu ⊢;by_cases hk:k=l
  ·subst hk;rw[List.getElem?_set_self hl]at hu;injection hu with hu;subst hu;rw[awd rfl];refine aA own λg hg=>m1.block g (aX own hg) ?_;rintro rfl;rcases at' with e|⟨q,e,hq⟩
   ·rw[hg]at e;exact ib e.symm
   ·rw[hg]at e;cases e;have:=ak h.nums;omega
  ·rw[List.getElem?_set_ne (λe=>hk e.symm)]at hu;rw[awf hk];exact aA (h.row k u hu) λg hg=>nn (h.rrow k u g hu hg) aH.noConfusion aH.noConfusion (λe=>by injection e with e;exact hk e)
 ·exact aA h.order λg hg=>nn (h.rorder g hg) aH.noConfusion aH.noConfusion aH.noConfusion
 ·exact h.data.imp id λ⟨h1,h2,h3⟩=>⟨h1,h2,aA h3 λg hg=>nn (h.rdata g hg) aH.noConfusion aH.noConfusion aH.noConfusion⟩
 ·exact aA h.below λg hg=>nn (h.rbelow g hg) aH.noConfusion aH.noConfusion aH.noConfusion
 ·intro k u g hu hg;simp only at hu ⊢;by_cases hk:k=l
  ·subst hk;rw[List.getElem?_set_self hl]at hu;injection hu with hu;subst hu;exact Im hg
  ·rw[List.getElem?_set_ne (λe=>hk e.symm)]at hu;exact kr (h.rrow k u g hu hg) aH.noConfusion
 ·exact λg hg=>In h.lt m2.size (λg hg=>awg (aX own hg) m1.size) g hg
theorem ug.lefted (h:ug w b iv ch s)(k:Nat):ug (w.setCell ⟨b,6,none⟩ (.int .i64 (k:Int))) b iv ch { s with left:=k }/\ai (λg=>s.role g≠.none) w (w.setCell ⟨b,6,none⟩ (.int .i64 (k:Int))):=by
 have m1:ai (λg=>g=b) w (w.setCell ⟨b,6,none⟩ (.int .i64 (k:Int))):=(ai.refl (λg=>g=b) w).setCell (p:=⟨b,6,none⟩) (.inl rfl) _;have nn:∀ {g r},s.role g=r->r≠.none->r≠.walk->(w.setCell ⟨b,6,none⟩ (.int .i64 (k:Int))).heap[g]?=w.heap[g]?:=λ{g r} e h1 h2=>m1.block g (h.lt g (by rw[e];exact h1)) (by rintro rfl;rw[h.rb]at e;exact h2 e.symm)
 refine⟨{ own:=ah h.own 6 _,nums:=(nn h.rnb aH.noConfusion aH.noConfusion).trans h.nums,rlen:=h.rlen,
          row:=λl v hv=>aA (h.row l v hv) λg hg=>nn (h.rrow l v g hv hg) aH.noConfusion aH.noConfusion,
          order:=aA h.order λg hg=>nn (h.rorder g hg) aH.noConfusion aH.noConfusion,
          data:=h.data.imp id λ⟨h1,h2,h3⟩=>⟨h1,h2,aA h3 λg hg=>nn (h.rdata g hg) aH.noConfusion aH.noConfusion⟩,
          below:=aA h.below λg hg=>nn (h.rbelow g hg) aH.noConfusion aH.noConfusion,
          rb:=h.rb,rnb:=h.rnb,rrow:=h.rrow,rorder:=h.rorder,rdata:=h.rdata,rbelow:=h.rbelow,lt:=λg hg=>awg (h.lt g hg) m1.size },m1.mono (λg _ e hn=>by subst e;rw[h.rb]at hn;cases hn)⟩
theorem ug.dated (h:ug w b iv ch s)(x:ay)(hx:x≠[])(F8:Value)(hb:World.blk w1 b (jY iv (.bool ch) (.slice (some ⟨s.nb,0,none⟩) s.n s.n) s.ov (.pointer (some ⟨b,4,none⟩)) F8 (.int .i64 (s.left:Int)) s.bv) 302)(own:bR w1 0 F8 (s.D++x))(m:ai (λg=>g=b\/s.dv.ownBlock=some g) w w1)(at':F8.ownBlock=s.dv.ownBlock\/∃ k,F8.ownBlock=some k/\w.heap.size<=k):
  ug w1 b iv ch { s with pv:=.pointer (some ⟨b,4,none⟩),dv:=F8,D:=s.D++x,role:=mY s.role F8 .data }/\iH s.role (mY s.role F8 .data) w.heap.size/\ai (λg=>s.role g≠.none) w w1:=by
 have G:iH s.role (mY s.role F8 .data) w.heap.size:=xa h.rdata aH.noConfusion h.lt at';have m2:ai (λg=>s.role g=.walk\/s.role g=.data) w w1:=m.mono (λg _ hg=>hg.elim (λe=>by subst e;exact .inl h.rb) (λe=>.inr (h.rdata g e)));have nn:∀ {g r},s.role g=r->r≠.none->r≠.walk->r≠.data->w1.heap[g]?=w.heap[g]?:=λ{g r} e h1 h2 h3=>m2.block g (h.lt g (by rw[e];exact h1)) (by rw[e];exact λhh=>hh.elim h2 h3);have kr:∀ {g r},s.role g=r->r≠.none->mY s.role F8 .data g=r:=λ{g r} e hr=>(G.keep g (by rw[e];exact hr)).trans e
 refine⟨{ own:=hb,nums:=(nn h.rnb aH.noConfusion aH.noConfusion aH.noConfusion).trans h.nums,rlen:=h.rlen,
          row:=λl v hv=>aA (h.row l v hv) λg hg=>nn (h.rrow l v g hv hg) aH.noConfusion aH.noConfusion aH.noConfusion,
          order:=aA h.order λg hg=>nn (h.rorder g hg) aH.noConfusion aH.noConfusion aH.noConfusion,
          data:=.inr ⟨rfl,by simp[hx],own⟩,
          below:=aA h.below λg hg=>nn (h.rbelow g hg) aH.noConfusion aH.noConfusion aH.noConfusion,
          rb:=kr h.rb aH.noConfusion,rnb:=kr h.rnb aH.noConfusion,rrow:=λl v g hv hg=>kr (h.rrow l v g hv hg) aH.noConfusion,rorder:=λg hg=>kr (h.rorder g hg) aH.noConfusion,rdata:=λg hg=>Im hg,rbelow:=λg hg=>kr (h.rbelow g hg) aH.noConfusion,
          lt:=λg hg=>In h.lt m2.size (λg hg=>aX own hg) g hg },G,m2.mono (λg _ hg hn=>by rcases hg with hg|hg<;>rw[hg]at hn<;>cases hn)⟩
theorem Vz {t:TypeId}(h:w.ownsRow base t 1 v n xs)(hg:v.ownBlock=some g)(i:Nat)(_hi:i<xs.length)(x:Value):(w.setCell ⟨g,i,none⟩ x).ownsRow base t 1 v n (xs.set i x):=by
 obtain⟨h1,h2⟩:=h;refine⟨by simpa using h1,?_⟩;rcases h2 with⟨rfl,h3⟩|⟨g',cap,dW,rfl,hb,Tk,Xn,hm,cJ,BZ⟩
 ·cases hg
 ·have:g'=g:=by simpa[Value.ownBlock]using hg
  subst this;refine .inr ⟨g',cap,dW.setIfInBounds i x,rfl,hb,ah (b:=g') Tk i x,Xn,hm,by simpa using cJ,?_⟩;rw[<-BZ,Array.toList_setIfInBounds,List.take_set]
theorem ug.belowed (h:ug w b iv ch s)(j k g:Nat)(hj:j<s.n)(hg:s.bv.ownBlock=some g):ug (w.setCell ⟨g,j,none⟩ (.int .i64 (k:Int))) b iv ch { s with B:=λi=>if i=j then k else s.B i }/\ai (λg=>s.role g≠.none) w (w.setCell ⟨g,j,none⟩ (.int .i64 (k:Int))):=by
 have hr:=h.rbelow g hg;have m1:ai (λx=>x=g) w (w.setCell ⟨g,j,none⟩ (.int .i64 (k:Int))):=(ai.refl (λx=>x=g) w).setCell (p:=⟨g,j,none⟩) (.inl rfl) _;have nn:∀ {x r},s.role x=r->r≠.none->r≠.below->(w.setCell ⟨g,j,none⟩ (.int .i64 (k:Int))).heap[x]?=w.heap[x]?:=λ{x r} e h1 h2=>m1.block x (h.lt x (by rw[e];exact h1)) (by rintro rfl;rw[hr]at e;exact h2 e.symm);have hb:aO (w.setCell ⟨g,j,none⟩ (.int .i64 (k:Int))) 0 s.bv (gh ((List.range s.n).map λi=>if i=j then k else s.B i)):=by
  have h1:=Vz h.below hg j (by simp[bu,gh];exact hj) (.int .i64 (k:Int));have e:(bu (gh ((List.range s.n).map s.B))).set j (.int .i64 (k:Int))=bu (gh ((List.range s.n).map λi=>if i=j then k else s.B i)):=by
   apply List.ext_getElem
   ·simp[bu,gh]
   ·intro i h1 h2;simp only[List.getElem_set,bu,gh,List.getElem_map,List.getElem_range];by_cases hij:j=i
    ·subst hij;simp
    ·rw[awf hij,awf (λe=>hij e.symm)]
  rw[e]at h1;simpa[aO,gh]using h1
 refine⟨{ own:=(nn h.rb aH.noConfusion aH.noConfusion).trans h.own,nums:=(nn h.rnb aH.noConfusion aH.noConfusion).trans h.nums,rlen:=h.rlen,
          row:=λl v hv=>aA (h.row l v hv) λg hg=>nn (h.rrow l v g hv hg) aH.noConfusion aH.noConfusion,
          order:=aA h.order λg hg=>nn (h.rorder g hg) aH.noConfusion aH.noConfusion,
          data:=h.data.imp id λ⟨h1,h2,h3⟩=>⟨h1,h2,aA h3 λg hg=>nn (h.rdata g hg) aH.noConfusion aH.noConfusion⟩,
          below:=hb,rb:=h.rb,rnb:=h.rnb,rrow:=h.rrow,rorder:=h.rorder,rdata:=h.rdata,rbelow:=h.rbelow,lt:=λg hg=>awg (h.lt g hg) m1.size },m1.mono (λx _ e hn=>by subst e;rw[hr]at hn;cases hn)⟩
end
end
end Go.Proofs.YtkghpdcloaiflaaGreatDoor
