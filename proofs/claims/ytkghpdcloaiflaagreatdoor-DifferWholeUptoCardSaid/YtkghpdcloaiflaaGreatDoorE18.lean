import Derived.Test.YtkghpdcloaiflaaGreatDoorE17
set_option maxHeartbeats 8000000
set_option maxRecDepth 100000
namespace Go.Proofs.YtkghpdcloaiflaaGreatDoor
open _root_.Go.Proofs.Tryz
section
open Go.RowKit Go.Shelf
attribute [local go_sem] auv
def UI (s:az):az:=s++List.replicate (64-s.length) 0
def uJ (d:Dk)(at':Nat)(R:az):Nat->Dk
 |0=>d
 |k+1=>(uJ d at' R k).put (at'+k) (UI ((R.drop (64*k)).take 64))
def LX (d:Dk)(gen:Nat)(old qh:az):Dk:=
 let bytes:=old++eK qh.length 2++qh
 let R:=bytes.drop (old.length/64*64)
 eA ((uJ d (1+gen%2*bG d+old.length/64) R ((R.length+63)/64)).sync) gen bytes.length
theorem kB (d:Dk)(a:Nat)(R:az):∀ k,(uJ d a R k).size=d.size
 |0=>rfl
 |k+1=>by rw[uJ,fF,kB d a R k]
theorem DQ (S:az)(i:Nat)(hi:i<=S.length)(W:World):(Instr.slice 9 (.string ⟨S.toArray⟩) (some (.int .i64 (i:Int))) none none).run prog W=.ok (aC (S.drop i)) W:=by
 have hs:(⟨S.toArray⟩:ByteArray).size=S.length:=by simp[ByteArray.size]
 rw[run_slice_string_l (P:=prog) (w:=W) (t:=9) (s:=⟨S.toArray⟩) underlying9 .i64 (i:Int) (by omega) (by rw[hs];omega),avc]
 congr 2
 apply ByteArray.ext;simp only[List.extract_eq_take_drop,hs,List.extract_toArray,ByteArray.data_extract];rw[avl (by simp)]
theorem Qa (S:az)(j:Nat)(hj:j<=S.length)(W:World):(Instr.slice 9 (.string ⟨S.toArray⟩) none (some (.int .i64 (j:Int))) none).run prog W=.ok (aC (S.take j)) W:=by
 have hs:(⟨S.toArray⟩:ByteArray).size=S.length:=by simp[ByteArray.size]
 rw[run_slice_string_h (P:=prog) (w:=W) (t:=9) (s:=⟨S.toArray⟩) underlying9 .i64 (j:Int) (by omega) (by rw[hs];omega),avc]
 congr 2
 apply ByteArray.ext;simp[List.extract_eq_take_drop]
theorem DS (l:List az)(j:Nat)(hj:j<l.length):(yJ l)[j]?=some (aC l[j]):=by simp[hj]
theorem Bh (lv:Value)(l:List az)(base:Nat)(w:World)(h:w.ownsRow base 9 1 lv l.length (yJ l))(hl:l.length<=1000000):
  Calls prog 156 #[lv] w fun e w'=>∃ v,e=.returned v/\w'.ownsRow w.heap.size 9 1 v l.length (yJ l)/\af w w':=by
 have hr:=bd h;obtain⟨a,cap,rfl,hc⟩:=hr;rw[au4]at*
 cases a with
 |none=>
  have h0:l=[]:=by
   cases l with
   |nil=>rfl
   |cons x r=>
    obtain⟨_,_,e,_⟩:=hc 0 _ rfl
    cases e
  subst h0;refine(Tryz.slices_Clone_string_nil 0 cap w).mono ?_;rintro e w' ⟨rfl,rfl⟩;exact⟨_,rfl,⟨rfl,.inl ⟨rfl,rfl⟩⟩,ah.refl _ _⟩
 |some ad=>
  by_cases h0:l=[]
  ·subst h0;refine(Tryz.slices_Clone_string_zero ad cap w).mono ?_;rintro e w' ⟨v,rfl,h1,_,h2⟩;exact⟨v,rfl,h1,ah.ofBelow h2⟩
  ·have aV:0<l.length:=List.length_pos_iff.2 h0;obtain⟨b,o,e,_⟩:=hc 0 (aC l[0]) (DS l 0 aV);injection e with e;subst e;have hC:=Tryz.slices_Clone_string b o l.length cap (l.map fun s=>⟨s.toArray⟩) w (by simp) (by omega) (fun j hj=>by
    rw[au4]at hj;obtain⟨b2,o2,e2,c2⟩:=hc j (aC l[j]) (DS l j hj);injection e2 with e2;injection e2 with e3 e4;subst e3 e4;rw[c2];simp[List.getD,hj])
   refine hC.mono ?_;rintro e w' ⟨v,rfl,h1,_,h2⟩;have e1:((l.map fun s:az=>(⟨s.toArray⟩:ByteArray)).take l.length).map Value.string=yJ l:=by
    rw[avl (by simp),au0];rfl
   rw[e1]at h1;exact⟨v,rfl,h1,ah.ofBelow h2⟩
theorem DT {w:World}{l gen:Nat}{d:Dk}{recs:List az}{F:Nat->Prop}(h:le w l d gen recs F)(qh:az)(hr:qh.length<=1300)(l5:(lB recs).length+qh.length+2<=bG d*64)(pE:recs.length<=500000):
  Calls prog 69 #[aq l,aC qh] w fun e w'=>e=.returned (.int .i64 0)/\∃ F',le w' l (LX d gen (lB recs) qh) gen (recs++[qh]) F'/\d6 F F' w w':=by
 have RM:=zV h;obtain⟨pd,lv,Fd,h⟩:=h;have hh:bG d<=8192:=by have:=h.many;unfold bG;omega
 have cK:1+2*bG d<=d.size:=by have:=h.many;unfold bG;omega
 obtain⟨t,ht⟩:∃ t,lB recs=t:=⟨_,rfl⟩
 obtain⟨q,hq⟩:∃ q,bG d=q:=⟨_,rfl⟩
 rw[ht,hq]at RM;rw[ht,hq]at l5;rw[hq]at hh cK;rw[ht]at h ⊢;have hri:¬(1300:Int)<(qh.length:Int):=by omega
 have er:((q*64-t.length:Nat):Int)=(q:Int)*64-(t.length:Int):=by omega
 rw[er]at RM;have e1:IntKind.i64.wrap (2+(qh.length:Int))=2+(qh.length:Int):=fA (by omega);have Xk:¬(q:Int)*64-(t.length:Int)<2+(qh.length:Int):=by omega
 have H:=hd0 h;have HRM:=hd0 RM;have HT:=hd0 ht;have HQ:=hd0 hq;have Fh:=hd0 (And.intro cK (And.intro l5 pE));have c4:w.cell? ⟨l,4,none⟩=some (.bool false):=aa h.own 4;clear h RM ht hq er cK;go_enter func69,ntmps69;go_wp2_with fail;refine HRM.out.mono ?_;rintro e w1 ⟨rfl,hk1⟩;have H1:=hd0 (H.out.same (hk1.on (fun _ _=>id)) hk1.size);have bU:=hd0 hk1;have c2:w1.cell? ⟨l,2,none⟩=some (aC t):=aa H1.out.own 2;have c2x:∀ x,(w1.ext x).cell? ⟨l,2,none⟩=some (aC t):=fun x=>((ay w1 x).cell (p:=⟨l,2,none⟩) (ai H1.out.own) id).trans c2;have PU:Hid (∀ X,Calls prog 150 #[.int .i64 (qh.length:Int),.int .i64 2] X fun e w'=>e=.returned (aC (eK qh.length 2))/\af X w'):=hd0 (fun X=>xh qh.length 2 (by omega) (by omega) X);have lA:=ij qh.length 2;have ed:((t.length:Int)).tdiv 64=((t.length/64:Nat):Int):=by rw[avL (by omega)];rfl
 have yw:(t.length:Int)<=524288:=by omega
 have sQ:¬ 9223372036854775807<t.length+2:=by omega
 have kp:¬ 9223372036854775807<t.length+2+qh.length:=by omega
 have rG:¬ 9223372036854775807<t.length+(2+qh.length):=by omega
 clear hk1 HRM l5;go_wp2_with fail;clear Xk;refine bA (by kernel_rfl) (by kernel_rfl) ?_
 repeat (quiet_step (with_reducible exact aZ (PU.out _)))
 refine avt ?_;intro _ cf;obtain⟨xq,rfl⟩:=cf;have nY:=ay w1 xq;have H2:=hd0 (H1.out.same (nY.on (fun _ _=>id)) nY.size);have bu:=hd0 (bU.out.keep nY);clear nY c2 c2x c4 e1 sQ kp rG;obtain⟨B,hB⟩:∃ B,t++(eK qh.length 2++qh)=B:=⟨_,rfl⟩
 obtain⟨f,hf⟩:∃ f,t.length/64=f:=⟨_,rfl⟩
 have Yy:B.length=t.length+2+qh.length:=by rw[<-hB];simp[lA];omega
 obtain⟨R,hR⟩:∃ R,B.drop (f*64)=R:=⟨_,rfl⟩
 have Ou:∀ W,(Instr.slice 9 (.string ⟨B.toArray⟩) (some (.int .i64 ((f:Int)*64))) none none).run prog W=.ok (aC R) W:=fun W=>by
  have:=DQ B (f*64) (by omega) W;rw[hR]at this;simpa using this
 have ew:IntKind.i64.wrap ((f:Int)*64)=(f:Int)*64:=fA (by omega);have edd:(t.length:Int)/64=(f:Int):=by omega
 rw[edd,hB];clear ed;have HB:=hd0 (And.intro hB (And.intro hR hf));have HL:Hid (R.length=t.length+2+qh.length-f*64):=hd0 (by rw[<-hR];simp[Yy]);have Oc:=hd0 Yy;clear hB hR hf Yy;go_wp2_with fail;have HK:=bu.out;generalize hW:w1.ext xq=W0 at*;clear Ou ew edd hri lA yw PU HK hW;obtain⟨a,ha⟩:∃ a,1+gen%2*q+f=a:=⟨_,rfl⟩
 obtain⟨K,hK⟩:∃ K,(R.length+63)/64=K:=⟨_,rfl⟩
 have HA:Hid (1+gen%2*q+f=a/\a+K<=d.size/\f+K<=8192):=hd0 (by
  have h1:=Fh.out;have h2:=HL.out;have h3:=HB.out.2.2;have h4:f+K<=q:=by omega
  have h5:gen%2*q<=q:=by
   have:gen%2=0\/gen%2=1:=by omega
   rcases this with e|e<;>rw[e]<;>omega
  omega)
 have HKK:=hd0 hK;clear ha hK
 go_loopw [7,8] (fun r i wr=>∃(k:Nat) (uF:Nat->Prop),k<=K/\r=aC (R.drop (64*k))/\i=.int .i64 ((f:Int)+(k:Int))/\World.blk wr l (gQ pd gen t lv) 196/\bC wr pd (uJ d a R k) uF/\ah (fun b=>b=l\/Fd b) w wr/\Hid (∀ b,uF b->Fd b\/w.heap.size<=b)) (fun _ i _=>f+K-(intOf i).toNat)
 case atStart=>exact⟨0,Fd,by omega,by simp,by simp,H2.out.own,H2.out.disk,bu.out.mono (fun _ _ h=>h.elim),hd0 (fun b hb=>.inl hb)⟩
 case round=>
  clear H2 bu;obtain⟨k,uF,hk,rfl,rfl,ho,hd,hm,HF⟩:=hrel;have Ho:=hd0 ho;have Hd:=hd0 hd;have Hm:=hd0 hm;have Nd:Hid (¬ uF l):=hd0 (fun hv=>(HF.out l hv).elim H.out.nd (fun hge=>by have:=H.out.lt l H.out.fl;omega));clear ho hd hm;by_cases aL:k<K
  ·obtain⟨rest,Ku⟩:∃ rest,R.drop (64*k)=rest:=⟨_,rfl⟩
   have hrl:rest.length=R.length-64*k:=by rw[<-Ku];simp
   have uS:0<rest.length:=by have:=HKK.out;omega
   obtain⟨n,hn⟩:∃ n,min rest.length 64=n:=⟨_,rfl⟩
   have hni:min (rest.length:Int) 64=(n:Int):=by omega
   have ash:n<=64:=by omega
   have hnr:n<=rest.length:=by omega
   have hem:rest.isEmpty=false:=by cases rest with|nil=>simp at uS|cons x r=>rfl
   have yh:=fun W=>Qa rest n hnr W;have hwn:IntKind.i64.wrap (64-(n:Int))=64-(n:Int):=fA (by omega);have ZR:Hid (∀ X,Calls prog 95 #[.string ⟨#[0]⟩,.int .i64 (64-(n:Int))] X fun e w'=>e=.returned (aC (List.replicate (64-n) 0))/\af X w'):=hd0 (fun X=>by
    have:=zU (64-n) (by omega) X
    rwa [show((64-n:Nat):Int)=64-(n:Int) by omega]at this)
   have hzl:(List.replicate (64-n) (0:UInt8)).length=64-n:=by simp
   have adG:Hid (rest.take n++List.replicate (64-n) 0=UI (rest.take 64)):=hd0 (by
    have e1:rest.take n=rest.take 64:=by rw[<-hn,List.take_eq_take_iff];omega
    have e2:(rest.take 64).length=n:=by rw[auH];omega
    unfold UI;rw[e1,e2])
   have yw:(rest.take n).length=n:=by rw[auH];omega
   have Od:¬ 9223372036854775807<n+(64-n):=by omega
   have Hrl:=hd0 (And.intro hrl (And.intro Ku hn));generalize List.replicate (64-n) (0:UInt8)=z at*;generalize rest.take n=tk at*;rw[Ku];clear Ku hrl hn uS;go_wp2_with fail;refine bA (by kernel_rfl) (by kernel_rfl) ?_
   repeat (quiet_step (with_reducible exact aZ (ZR.out _)))
   refine avt ?_;intro _ cf;obtain⟨xq,rfl⟩:=cf;have nY:=ay wr xq;have Tl:=hd0 (ab nY Ho.out id);have ZA:=hd0 (Hd.out.mod nY (fun _ _=>id));have Hm2:Hid (ah (fun b=>b=l\/Fd b) w (wr.ext xq)):=hd0 (Hm.out.trans (nY.mono (T:=fun b=>b=l\/Fd b) (fun _ _ h=>h.elim)) (fun _ _ h=>h));clear nY yh hwn hzl Od yw hem;generalize wr.ext xq=W2 at*;have hl:l<W2.heap.size:=ai Tl.out;have c0:W2.cell? ⟨l,0,none⟩=some (aq pd):=aa Tl.out 0;have c1:W2.cell? ⟨l,1,none⟩=some (.int .i64 (gen:Int)):=aa Tl.out 1;have cK:(uJ d a R k).size=d.size:=kB d a R k;have hhf:bG (uJ d a R k)=q:=by unfold bG;rw[cK];exact HQ.out
   have FI:Hid (∀ x,Calls prog 153 #[aq l,.int .i64 (gen:Int)] (W2.ext x) fun e w'=>e=.returned (.int .i64 ((a:Int)-(f:Int)))/\af (W2.ext x) w'):=hd0 (fun x=>by
    have h1:=G6 (g:=gen) (ab (ay W2 x) Tl.out id) (ZA.out.mod (ay W2 x) (fun _ _=>id)) (by rw[cK];exact H.out.many.1) H.out.gen;rw[hhf]at h1;refine h1.mono ?_;rintro e w' ⟨rfl,rfl⟩;exact⟨by rw[show((1+gen%2*q:Nat):Int)=(a:Int)-(f:Int) by have:=HA.out.1;omega],ah.refl _ _⟩)
   have hak:a+k<d.size:=by have:=HA.out;omega
   have ea:(a:Int)-(f:Int)+((f:Int)+(k:Int))=((a+k:Nat):Int):=by omega
   have ew:IntKind.i64.wrap ((a:Int)-(f:Int)+((f:Int)+(k:Int)))=((a:Int)+(k:Int)):=by have:=H.out.many.2;rw[fA (by omega)];omega
   have ewk:IntKind.i64.wrap ((f:Int)+(k:Int)+1)=(f:Int)+((k+1:Nat):Int):=by have:=HA.out;rw[fA (by omega)];omega
   clear cK hhf ea;go_wp2_with fail;refine iy 1 14 (by kernel_rfl) (by kernel_rfl) (fun _ o _ _ _ h=>by cases o<;>exact h) ?_;simp only[avn,avo,avq,avr];refine fE (fun L hL=>?_)
   go_simp
   first|refine hL _ ?_|refine⟨_,fun _=>rfl,hL _ ?_⟩
   clear hL L;refine kH ?_
   repeat (quiet_step (with_reducible exact aZ (FI.out _)))
   refine avt ?_;intro _ cf;obtain⟨xq,rfl⟩:=cf;have nY:=ay W2 xq;have SJ:=hd0 (ab nY Tl.out id);have Hm3:Hid (ah (fun b=>b=l\/Fd b) w (W2.ext xq)):=hd0 (Hm2.out.trans (nY.mono (T:=fun b=>b=l\/Fd b) (fun _ _ h=>h.elim)) (fun _ _ h=>h));have WR:Hid (Calls prog 152 #[aq pd,.int .i64 ((a:Int)+(k:Int)),.string ⟨(tk++z).toArray⟩] (W2.ext xq) fun e w'=>e=.returned (.int .i64 0)/\∃ F',bC w' pd (uJ d a R (k+1)) F'/\d6 uF F' (W2.ext xq) w'):=hd0 (by
    have h1:=kP (ZA.out.mod nY (fun _ _=>id)) (a+k) (by rw[kB];exact hak) (tk++z) (by rw[adG.out];simp[UI];omega);have e1:uJ d a R (k+1)=(uJ d a R k).put (a+k) (tk++z):=by rw[adG.out,<-Hrl.out.2.1];rfl
    rw[e1];simpa using h1)
   clear nY c0 c1 ew hak;go_wp2_with fail;refine WR.out.mono ?_;rintro e w3 ⟨rfl,NL,I5,dw⟩;have hsW:=Hm3.out.size;have AD:=ab dw.mod SJ.out Nd.out;have n3:¬ NL l:=fun hv=>(dw.foot l hv).elim Nd.out (fun hge=>by have:=ai SJ.out;omega);have nW:Hid (ah (fun b=>b=l\/Fd b) w w3):=hd0 (Hm3.out.trans dw.mod (fun i hi h=>(HF.out i h).elim .inr (fun hge=>by omega)));have F8:Hid (∀ b,NL b->Fd b\/w.heap.size<=b):=hd0 (fun b hb=>(dw.foot b hb).elim (HF.out b) (fun h=>.inr (by omega)));have V4:=hd0 I5;have Z8:=hd0 AD;have N3:=hd0 n3;clear I5 dw AD n3 WR;go_wp2_with fail;refine(pU Z8.out).mono ?_;rintro e w4 ⟨rfl,TL,AG⟩;have Hd4:=hd0 (V4.out.mod AG (fun b hb e=>N3.out (e▸hb)));have rH:Hid (ah (fun b=>b=l\/Fd b) w w4):=hd0 (nW.out.trans (AG.mono (T:=fun b=>b=l\/Fd b) (fun _ _ h=>.inl h)) (fun _ _ h=>h));have TU:=hd0 TL;have Ou:=fun W=>DQ rest n hnr W;have Sl:Hid (rest.drop n=R.drop (64*(k+1))):=hd0 (by
    have h1:=Hrl.out;rw[<-h1.2.1,List.drop_drop];by_cases h64:n=64
    ·rw[show 64*k+n=64*(k+1) by omega]
    ·have h2:=h1.1;have h3:=h1.2.2;rw[av1 (by omega),av1 (by omega)])
   clear TL AG;go_wp2_with fail;exact⟨⟨k+1,NL,by omega,by rw[Sl.out],by first|rfl|(congr 1;omega),TU.out,Hd4.out,rH.out,F8⟩,by simp[intOf];omega⟩
  ·obtain rfl:k=K:=by omega
   have e0:R.drop (64*k)=[]:=av1 (by have:=HKK.out;omega);rw[e0];have c0:wr.cell? ⟨l,0,none⟩=some (aq pd):=aa Ho.out 0;have SY:=hd0 (pO Hd.out);go_wp2_with fail;refine SY.out.mono ?_;rintro e w3 ⟨rfl,NL,I5,dw⟩;have hsW:=Hm.out.size;have AD:=ab dw.mod Ho.out Nd.out;have n3:¬ NL l:=fun hv=>(dw.foot l hv).elim Nd.out (fun hge=>by have:=ai Ho.out;omega);have nW:Hid (ah (fun b=>b=l\/Fd b) w w3):=hd0 (Hm.out.trans dw.mod (fun i hi h=>(HF.out i h).elim .inr (fun hge=>by omega)));have F8:Hid (∀ b,NL b->Fd b\/w.heap.size<=b):=hd0 (fun b hb=>(dw.foot b hb).elim (HF.out b) (fun h=>.inr (by omega)));have V4:=hd0 I5;have Z8:=hd0 AD;have N3:=hd0 n3;clear I5 dw AD n3 SY c0;go_wp2_with fail;refine(pU Z8.out).mono ?_;rintro e w4 ⟨rfl,TL,AG⟩;have Hd4:=hd0 (V4.out.mod AG (fun b hb e=>N3.out (e▸hb)));have rH:Hid (ah (fun b=>b=l\/Fd b) w w4):=hd0 (nW.out.trans (AG.mono (T:=fun b=>b=l\/Fd b) (fun _ _ h=>.inl h)) (fun _ _ h=>h));have TU:=hd0 TL;have c1:w4.cell? ⟨l,1,none⟩=some (.int .i64 (gen:Int)):=aa TL 1;have adH:(uJ d a R k).sync.size=d.size:=by rw[dF,kB]
   have HE:=hd0 (qV TU.out Hd4.out (by rw[adH];exact H.out.many.1) N3.out gen B.length H.out.gen (by have:=Oc.out;have:=Fh.out;omega));clear TL AG adH;go_wp2_with fail;refine HE.out.mono ?_;rintro e w5 ⟨rfl,Wh,NJ,hd5,zc,hf5⟩;have hs4:=rH.out.size;have Cr:Hid (ah (fun b=>b=l\/Fd b) w w5):=hd0 (rH.out.trans zc (fun i hi h=>h.elim .inl (fun h=>(F8.out i h).elim .inr (fun hge=>by omega))));have FL:Hid (∀ b,Wh b->Fd b\/w.heap.size<=b):=hd0 (fun b hb=>(hf5 b hb).elim (F8.out b) (fun h=>.inr (by omega)));have c2:w5.cell? ⟨l,2,none⟩=some (aC t):=aa NJ 2;have f2:=ae NJ ⟨l,2,none⟩ rfl;have FH:World.blk (w5.setCell ⟨l,2,none⟩ (aC B)) l (gQ pd gen B lv) 196:=ag NJ 2 _;have m6:ah (fun b=>b=l) w5 (w5.setCell ⟨l,2,none⟩ (aC B)):=(ah.refl (fun b=>b=l) w5).setCell (p:=⟨l,2,none⟩) (.inl rfl) _;have n5:¬ Wh l:=fun hv=>(FL.out l hv).elim H.out.nd (fun hge=>by have:=H.out.lt l H.out.fl;omega);have ZK:=hd0 (hd5.mod m6 (fun b hb e=>n5 (e▸hb)));have OE:Hid (ah (fun b=>b=l\/Fd b) w (w5.setCell ⟨l,2,none⟩ (aC B))):=hd0 (Cr.out.trans (m6.mono (T:=fun b=>b=l\/Fd b) (fun _ _ h=>.inl h)) (fun _ _ h=>h));have Xe:(w5.setCell ⟨l,2,none⟩ (aC B)).ownsRow 0 9 1 lv recs.length (yJ recs):=aA H.out.list (fun b hb=>by
    have h1:=H.out.fv b hb;exact OE.out.block b (H.out.lt b h1.1) (fun h=>h.elim h1.2.2 h1.2.1))
   have c3:(w5.setCell ⟨l,2,none⟩ (aC B)).cell? ⟨l,3,none⟩=some lv:=aa FH 3;have CL:=hd0 (Bh lv recs 0 _ Xe (by omega));have Ho6:=hd0 FH;have N5:=hd0 n5;clear NJ hd5 zc hf5 FH m6 n5 Xe;go_wp2_with fail;refine CL.out.mono ?_;rintro e w7 ⟨v,rfl,hv7,rC⟩;generalize TP:w5.setCell ⟨l,2,none⟩ (.string ⟨B.toArray⟩)=W6 at*;obtain⟨v8,w8,r8,aaU,m8,at8,g8,rq,rfl⟩:=hZ (P:=prog) underlying149 vU rfl (by decide) W6.heap.size v _ _ w7 hv7 [aC qh] rfl (by simp[Value.oneCell']) (by unfold maxLen;show recs.length+1<=_;omega) (by show(recs.length+1)*16<=_;omega) rC.size;have Jn:=rC.size;have hl6:l<W6.heap.size:=ai Ho6.out;have V2:=m8.size;have hmv:ah (fun b=>W6.heap.size<=b) w7 w8:=m8.mono (fun g _ hv=>(hv7.lt g hv).1);have h68:af W6 w8:=(rC.mono (fun _ _ h=>h.elim)).trans hmv (fun i hi hg=>absurd hi (Nat.not_lt.2 hg));have Wg:=ab h68 Ho6.out id;have Hd8:=hd0 (ZK.out.mod h68 (fun _ _=>id));have f3:=ae Wg ⟨l,3,none⟩ rfl;have c3:w8.cell? ⟨l,3,none⟩=some lv:=aa Wg 3;have HR:=hd0 r8;have BH:=hd0 Wg;have ajK:=hd0 aaU;have H68:=hd0 h68;have HG:Hid (W6.heap.size<=g8/\g8<w8.heap.size):=hd0 (aaU.lt g8 rfl);clear hv7 rC r8 aaU m8 at8 hmv h68 Wg c1 c2 f2 TP;go_wp2_with (at_builtin;refine aB HR.out rfl rfl rfl rfl ?_);go_ret;have m9:ah (fun b=>b=l) w8 (w8.setCell ⟨l,3,none⟩ (.slice (some ⟨g8,0,none⟩) (recs.length+1) rq)):=(ah.refl (fun b=>b=l) w8).setCell (p:=⟨l,3,none⟩) (.inl rfl) _;have o9:World.blk (w8.setCell ⟨l,3,none⟩ (.slice (some ⟨g8,0,none⟩) (recs.length+1) rq)) l (gQ pd gen B (.slice (some ⟨g8,0,none⟩) (recs.length+1) rq)) 196:=ag BH.out 3 _;have akL:w8.ownsRow W6.heap.size 9 1 (.slice (some ⟨g8,0,none⟩) (recs.length+1) rq) (recs.length+1) (yJ recs++[aC qh]):=ajK.out;generalize w8.setCell ⟨l,3,none⟩ (.slice (some ⟨g8,0,none⟩) (recs.length+1) rq)=w9 at*;have hg:=HG.out;have hs9:=m9.size;have aqF:=OE.out.size;have hF5:∀ b,Wh b->b<W6.heap.size:=fun b hb=>ZK.out.lt b hb;have eB:B=lB (recs++[qh]):=by
    rw[<-HB.out.1,<-HT.out];unfold lB;rw[auR];simp[eK,List.range_succ]
   have eD:eA (uJ d a R k).sync gen B.length=LX d gen t qh:=by
    unfold LX;dsimp only;rw[avi,HB.out.1,HB.out.2.2,HB.out.2.1,HQ.out,HA.out.1,HKK.out]
   have esz:(LX d gen t qh).size=d.size:=by rw[<-eD];unfold eA;rw[dF,fF,dF,kB]
   refine⟨rfl,fun b=>F b\/Wh b\/b=g8,⟨pd,.slice (some ⟨g8,0,none⟩) (recs.length+1) rq,Wh,?_⟩,?_⟩
   ·rw[<-eB]
    exact { own:=o9,disk:=by rw[<-eD];exact Hd8.out.mod m9 (fun b hb e=>N5.out (e▸hb)),
            list:=by
             have h1:w9.ownsRow 0 9 1 (.slice (some ⟨g8,0,none⟩) (recs.length+1) rq) (recs.length+1) (yJ recs++[aC qh]):=aA (eX akL (avk _)) (fun b hb=>by
              have e:g8=b:=by simpa[Value.ownBlock]using hb
              subst e;exact m9.block g8 hg.2 (fun e=>by omega))
             have e1:yJ (recs++[qh])=yJ recs++[aC qh]:=by simp
             rw[e1,show(recs++[qh]).length=recs.length+1 by simp];exact h1
            fl:=.inl H.out.fl,fd:=fun b hb=>.inr (.inl hb),
            fv:=fun b hb=>by
             have e:g8=b:=by simpa[Value.ownBlock]using hb
             subst e;exact⟨.inr (.inr rfl),fun hf=>by have:=hF5 _ hf;omega,fun e=>by omega⟩
            nd:=N5.out,many:=by rw[esz];exact H.out.many,gen:=H.out.gen,eqT:=eB
            room:=by
             have h1:bG (LX d gen t qh)=q:=by unfold bG;rw[esz];exact HQ.out
             rw[h1,Oc.out];have:=Fh.out;omega
            lt:=fun b hb=>by
             rcases hb with hb|hb|hb
             ·have:=H.out.lt b hb;omega
             ·have:=hF5 b hb;omega
             ·omega }
   ·have k68:ah F W6 w8:=H68.out.mono (fun _ _ h=>h.elim);have k6:ah F w W6:=OE.out.mono (fun i _ h=>h.elim (fun e=>by subst e;exact H.out.fl) (H.out.fd i));refine⟨(k6.trans k68 (fun _ _ h=>h)).trans (m9.mono (T:=F) (fun i _ e=>by subst e;exact H.out.fl)) (fun _ _ h=>h),fun b hb=>?_⟩;rcases hb with hb|hb|hb
    ·exact .inl hb
    ·exact(FL.out b hb).imp (H.out.fd b) id
    ·exact .inr (by omega)
end
section
open Go.RowKit
structure qr (ty:TypeId)(rv:Value)(f:FuncId)(I:World->(Nat->Prop)->Prop)(rd:Rd):Prop where
 meth:∀ W,(method 583 ty rv "Read").run prog W=.ok (f,rv) W
 call:∀(x:Value) (W:World),(callFunc f #[rv,x]).run prog W=.ok (.enter f #[rv,x]) W
 read:∀ {w:World} {F:Nat->Prop} {n:Int} {p:az},I w F->rd n=.ok p->Calls prog f #[rv,.int .i64 n] w fun e w'=>e=.returned (.tuple #[.string ⟨p.toArray⟩,.int .i64 0])/\∃ F',I w' F'/\d6 F F' w w'
 same:∀ {w w':World} {F:Nat->Prop},I w F->fG F w w'->w.heap.size<=w'.heap.size->I w' F
 lt:∀ {w:World} {F:Nat->Prop},I w F->∀ b,F b->b<w.heap.size
inductive aE
 |none
 |walk
 |nums
 |row (l:Nat)
 |order
 |data
 |below
structure On where
 nb:Nat
 rows:List Value
 ov:Value
 pv:Value
 dv:Value
 bv:Value
 n:Nat
 N:Nat->List Int
 O:List Int
 D:az
 left:Nat
 B:Nat->Nat
 role:Nat->aE
structure un (w:World)(b:Nat)(iv:Value)(ch:Bool)(s:On):Prop where
 own:World.blk w b (ke iv (.bool ch) (.slice (some ⟨s.nb,0,none⟩) s.n s.n) s.ov s.pv s.dv (.int .i64 (s.left:Int)) s.bv) 302
 nums:World.blk w s.nb s.rows.toArray 46
 rlen:s.rows.length=s.n
 row:∀ l v,s.rows[l]?=some v->aN w 0 v (s.N l)
 order:aN w 0 s.ov s.O
 data:(s.pv=.pointer none/\s.dv=.slice none 0 0/\s.D=[])\/(s.pv=.pointer (some ⟨b,4,none⟩)/\s.D≠[]/\bR w 0 s.dv s.D)
 below:aN w 0 s.bv (gy ((List.range s.n).map s.B))
 rb:s.role b=.walk
 rnb:s.role s.nb=.nums
 rrow:∀ l v g,s.rows[l]?=some v->v.ownBlock=some g->s.role g=.row l
 rorder:∀ g,s.ov.ownBlock=some g->s.role g=.order
 rdata:∀ g,s.dv.ownBlock=some g->s.role g=.data
 rbelow:∀ g,s.bv.ownBlock=some g->s.role g=.below
 lt:∀ g,s.role g≠.none->g<w.heap.size
theorem aT {w:World}{base n sz:Nat}{t:TypeId}{v:Value}{xs:List Value}(h:w.ownsRow base t sz v n xs){g:Nat}(hg:v.ownBlock=some g):g<w.heap.size:=by
 rcases h.2 with⟨e,_⟩|⟨g',cap,dz,e,_,R6,_⟩
 ·rw[e]at hg;cases hg
 ·rw[e]at hg;have:g'=g:=by simpa[Value.ownBlock]using hg
  subst this;exact(auW.1 R6).1
theorem un.same {w w':World}{b:Nat}{iv:Value}{ch:Bool}{s:On}(h:un w b iv ch s)(m:fG (fun g=>s.role g≠.none) w w')(hs:w.heap.size<=w'.heap.size):un w' b iv ch s:=by
 have nn:∀ {g r},s.role g=r->r≠.none->w'.heap[g]?=w.heap[g]?:=fun {g r} e hr=>m g (show s.role g≠.none by rw[e];exact hr) (h.lt g (by rw[e];exact hr))
 exact { own:=(nn h.rb aE.noConfusion).trans h.own,nums:=(nn h.rnb aE.noConfusion).trans h.nums,rlen:=h.rlen,
         row:=fun l v hv=>aA (h.row l v hv) fun g hg=>nn (h.rrow l v g hv hg) aE.noConfusion,
         order:=aA h.order fun g hg=>nn (h.rorder g hg) aE.noConfusion,
         data:=h.data.imp id fun⟨h1,h2,h3⟩=>⟨h1,h2,aA h3 fun g hg=>nn (h.rdata g hg) aE.noConfusion⟩,
         below:=aA h.below fun g hg=>nn (h.rbelow g hg) aE.noConfusion,
         rb:=h.rb,rnb:=h.rnb,rrow:=h.rrow,rorder:=h.rorder,rdata:=h.rdata,rbelow:=h.rbelow,lt:=fun g hg=>auL (h.lt g hg) hs }
def nG (role:Nat->aE)(v:Value)(r:aE):Nat->aE:=fun g=>match v.ownBlock with
 |some k=>if k=g then r else role g
 |none=>role g
structure iQ (role j4:Nat->aE)(n:Nat):Prop where
 keep:∀ g,role g≠.none->j4 g=role g
 new:∀ g,j4 g≠.none->role g≠.none\/n<=g
theorem iQ.refl (role:Nat->aE)(n:Nat):iQ role role n:=⟨fun _ _=>rfl,fun _ h=>.inl h⟩
theorem iQ.trans {a b c:Nat->aE}{n m:Nat}(h:iQ a b n)(k:iQ b c m)(hn:n<=m):iQ a c n where
 keep g hg:=by rw[k.keep g (by rw[h.keep g hg];exact hg),h.keep g hg]
 new g hg:=(k.new g hg).elim (fun h2=>h.new g h2) (fun h2=>.inr (by omega))
theorem xi {w:World}{role:Nat->aE}{v v':Value}{r:aE}(hv:∀ g,v.ownBlock=some g->role g=r)(hr:r≠.none)(lt:∀ g,role g≠.none->g<w.heap.size)(at':v'.ownBlock=v.ownBlock\/∃ k,v'.ownBlock=some k/\w.heap.size<=k):iQ role (nG role v' r) w.heap.size:=by
 constructor
 ·intro g hg;unfold nG;rcases at' with e|⟨k,e,hk⟩
  ·rw[e]
   cases hq:v.ownBlock with
   |none=>rfl
   |some k=>
    simp only;split
    ·rename_i e2;subst e2;exact(hv k hq).symm
    ·rfl
  ·rw[e];simp only;rw[auK (fun e2=>by have:=lt g hg;omega)]
 ·intro g hg;unfold nG at hg;rcases at' with e|⟨k,e,hk⟩
  ·rw[e]at hg
   cases hq:v.ownBlock with
   |none=>rw[hq]at hg;exact .inl hg
   |some k=>
    rw[hq]at hg;simp only at hg;split at hg
    ·rename_i e2;subst e2;exact .inl (by rw[hv k hq];exact hr)
    ·exact .inl hg
  ·rw[e]at hg;simp only at hg;split at hg
   ·rename_i e2;subst e2;exact .inr hk
   ·exact .inl hg
theorem G9 {role:Nat->aE}{v:Value}{r:aE}{g:Nat}(h:v.ownBlock=some g):nG role v r g=r:=by unfold nG;rw[h];simp
theorem Hw {w w':World}{role:Nat->aE}{v:Value}{r:aE}(lt:∀ g,role g≠.none->g<w.heap.size)(hs:w.heap.size<=w'.heap.size)(hv:∀ g,v.ownBlock=some g->g<w'.heap.size)(g:Nat)(hg:nG role v r g≠.none):g<w'.heap.size:=by
 unfold nG at hg
 cases hq:v.ownBlock with
 |none=>rw[hq]at hg;exact auL (lt g hg) hs
 |some k=>
  rw[hq]at hg;simp only at hg;split at hg
  ·rename_i e;subst e;exact hv k hq
  ·exact auL (lt g hg) hs
section
variable {w w1 w2:World}{b:Nat}{iv:Value}{ch:Bool}{s:On}
theorem un.ordered (h:un w b iv ch s)(x:Int)(v':Value)(own:aN w1 0 v' (s.O++[x]))(m:ah (fun g=>s.ov.ownBlock=some g) w w1)(at':v'.ownBlock=s.ov.ownBlock\/∃ k,v'.ownBlock=some k/\w.heap.size<=k):
  un (w1.setCell ⟨b,3,none⟩ v') b iv ch { s with ov:=v',O:=s.O++[x],role:=nG s.role v' .order }/\iQ s.role (nG s.role v' .order) w.heap.size/\ah (fun g=>s.role g≠.none) w (w1.setCell ⟨b,3,none⟩ v'):=by
 have G:iQ s.role (nG s.role v' .order) w.heap.size:=xi h.rorder aE.noConfusion h.lt at';have m1:ah (fun g=>g=b) w1 (w1.setCell ⟨b,3,none⟩ v'):=(ah.refl (fun g=>g=b) w1).setCell (p:=⟨b,3,none⟩) (.inl rfl) _;have m2:ah (fun g=>s.role g=.walk\/s.role g=.order) w (w1.setCell ⟨b,3,none⟩ v'):=(m.mono (fun g _ hg=>.inr (h.rorder g hg))).trans m1 (fun g _ e=>by subst e;exact .inl h.rb);have nn:∀ {g r},s.role g=r->r≠.none->r≠.walk->r≠.order->(w1.setCell ⟨b,3,none⟩ v').heap[g]?=w.heap[g]?:=fun {g r} e h1 h2 h3=>m2.block g (h.lt g (by rw[e];exact h1)) (by rw[e];exact fun hh=>hh.elim h2 h3);have kr:∀ {g r},s.role g=r->r≠.none->nG s.role v' .order g=r:=fun {g r} e hr=>(G.keep g (by rw[e];exact hr)).trans e;have ip:s.ov.ownBlock≠some b:=fun e=>by have:=h.rorder b e;rw[h.rb]at this;cases this
 refine⟨{ own:=?_,nums:=?_,rlen:=h.rlen,row:=?_,order:=?_,data:=?_,below:=?_,rb:=kr h.rb aE.noConfusion,rnb:=kr h.rnb aE.noConfusion,
          rrow:=fun l v g hv hg=>kr (h.rrow l v g hv hg) aE.noConfusion,rorder:=fun g hg=>G9 hg,rdata:=fun g hg=>kr (h.rdata g hg) aE.noConfusion,rbelow:=fun g hg=>kr (h.rbelow g hg) aE.noConfusion,lt:=?_ },G,m2.mono (fun g _ hg hn=>by rcases hg with hg|hg<;>rw[hg]at hn<;>cases hn)⟩
 ·exact ag (ab m h.own ip) 3 v'
 ·exact(nn h.rnb aE.noConfusion aE.noConfusion aE.noConfusion).trans h.nums
 ·exact fun l v hv=>aA (h.row l v hv) fun g hg=>nn (h.rrow l v g hv hg) aE.noConfusion aE.noConfusion aE.noConfusion
 ·refine aA own fun g hg=>m1.block g (aT own hg) ?_;rintro rfl;rcases at' with e|⟨k,e,hk⟩
  ·rw[hg]at e;exact ip e.symm
  ·rw[hg]at e;cases e;have:=ai h.own;omega
 ·exact h.data.imp id fun⟨h1,h2,h3⟩=>⟨h1,h2,aA h3 fun g hg=>nn (h.rdata g hg) aE.noConfusion aE.noConfusion aE.noConfusion⟩
 ·exact aA h.below fun g hg=>nn (h.rbelow g hg) aE.noConfusion aE.noConfusion aE.noConfusion
 ·exact fun g hg=>Hw h.lt m2.size (fun g hg=>auL (aT own hg) m1.size) g hg
theorem un.rowed (h:un w b iv ch s)(l:Nat)(v:Value)(hv:s.rows[l]?=some v)(x:Int)(v':Value)(own:aN w1 0 v' (s.N l++[x]))(m:ah (fun g=>v.ownBlock=some g) w w1)(at':v'.ownBlock=v.ownBlock\/∃ k,v'.ownBlock=some k/\w.heap.size<=k):
  un (w1.setCell ⟨s.nb,l,none⟩ v') b iv ch { s with rows:=s.rows.set l v',N:=fun k=>if k=l then s.N l++[x]else s.N k,role:=nG s.role v' (.row l) }/\iQ s.role (nG s.role v' (.row l)) w.heap.size/\ah (fun g=>s.role g≠.none) w (w1.setCell ⟨s.nb,l,none⟩ v'):=by
 have G:iQ s.role (nG s.role v' (.row l)) w.heap.size:=xi (fun g hg=>h.rrow l v g hv hg) aE.noConfusion h.lt at';have m1:ah (fun g=>g=s.nb) w1 (w1.setCell ⟨s.nb,l,none⟩ v'):=(ah.refl (fun g=>g=s.nb) w1).setCell (p:=⟨s.nb,l,none⟩) (.inl rfl) _;have m2:ah (fun g=>s.role g=.nums\/s.role g=.row l) w (w1.setCell ⟨s.nb,l,none⟩ v'):=(m.mono (fun g _ hg=>.inr (h.rrow l v g hv hg))).trans m1 (fun g _ e=>by subst e;exact .inl h.rnb);have nn:∀ {g r},s.role g=r->r≠.none->r≠.nums->r≠.row l->(w1.setCell ⟨s.nb,l,none⟩ v').heap[g]?=w.heap[g]?:=fun {g r} e h1 h2 h3=>m2.block g (h.lt g (by rw[e];exact h1)) (by rw[e];exact fun hh=>hh.elim h2 h3);have kr:∀ {g r},s.role g=r->r≠.none->nG s.role v' (.row l) g=r:=fun {g r} e hr=>(G.keep g (by rw[e];exact hr)).trans e;have ip:v.ownBlock≠some s.nb:=fun e=>by have:=h.rrow l v _ hv e;rw[h.rnb]at this;cases this
 have hl:l<s.rows.length:=(auP.1 hv).1
 refine⟨{ own:=?_,nums:=?_,rlen:=by simpa using h.rlen,row:=?_,order:=?_,data:=?_,below:=?_,rb:=kr h.rb aE.noConfusion,rnb:=kr h.rnb aE.noConfusion,
          rrow:=?_,rorder:=fun g hg=>kr (h.rorder g hg) aE.noConfusion,rdata:=fun g hg=>kr (h.rdata g hg) aE.noConfusion,rbelow:=fun g hg=>kr (h.rbelow g hg) aE.noConfusion,lt:=?_ },G,m2.mono (fun g _ hg hn=>by rcases hg with hg|hg<;>rw[hg]at hn<;>cases hn)⟩
 ·exact(nn h.rb aE.noConfusion aE.noConfusion aE.noConfusion).trans h.own
 ·have:=ag (ab m h.nums ip) l v';have e:s.rows.toArray.setIfInBounds l v'=(s.rows.set l v').toArray:=by simp
  rw[e]at this;exact this
 ·intro k u hu;simp only at hu ⊢;by_cases hk:k=l
  ·subst hk;rw[List.getElem?_set_self hl]at hu;injection hu with hu;subst hu;rw[auI rfl];refine aA own fun g hg=>m1.block g (aT own hg) ?_;rintro rfl;rcases at' with e|⟨q,e,hq⟩
   ·rw[hg]at e;exact ip e.symm
   ·rw[hg]at e;cases e;have:=ai h.nums;omega
  ·rw[List.getElem?_set_ne (fun e=>hk e.symm)]at hu;rw[auK hk];exact aA (h.row k u hu) fun g hg=>nn (h.rrow k u g hu hg) aE.noConfusion aE.noConfusion (fun e=>by injection e with e;exact hk e)
 ·exact aA h.order fun g hg=>nn (h.rorder g hg) aE.noConfusion aE.noConfusion aE.noConfusion
 ·exact h.data.imp id fun⟨h1,h2,h3⟩=>⟨h1,h2,aA h3 fun g hg=>nn (h.rdata g hg) aE.noConfusion aE.noConfusion aE.noConfusion⟩
 ·exact aA h.below fun g hg=>nn (h.rbelow g hg) aE.noConfusion aE.noConfusion aE.noConfusion
 ·intro k u g hu hg;simp only at hu ⊢;by_cases hk:k=l
  ·subst hk;rw[List.getElem?_set_self hl]at hu;injection hu with hu;subst hu;exact G9 hg
  ·rw[List.getElem?_set_ne (fun e=>hk e.symm)]at hu;exact kr (h.rrow k u g hu hg) aE.noConfusion
 ·exact fun g hg=>Hw h.lt m2.size (fun g hg=>auL (aT own hg) m1.size) g hg
theorem un.lefted (h:un w b iv ch s)(k:Nat):un (w.setCell ⟨b,6,none⟩ (.int .i64 (k:Int))) b iv ch { s with left:=k }/\ah (fun g=>s.role g≠.none) w (w.setCell ⟨b,6,none⟩ (.int .i64 (k:Int))):=by
 have m1:ah (fun g=>g=b) w (w.setCell ⟨b,6,none⟩ (.int .i64 (k:Int))):=(ah.refl (fun g=>g=b) w).setCell (p:=⟨b,6,none⟩) (.inl rfl) _;have nn:∀ {g r},s.role g=r->r≠.none->r≠.walk->(w.setCell ⟨b,6,none⟩ (.int .i64 (k:Int))).heap[g]?=w.heap[g]?:=fun {g r} e h1 h2=>m1.block g (h.lt g (by rw[e];exact h1)) (by rintro rfl;rw[h.rb]at e;exact h2 e.symm)
 refine⟨{ own:=ag h.own 6 _,nums:=(nn h.rnb aE.noConfusion aE.noConfusion).trans h.nums,rlen:=h.rlen,
          row:=fun l v hv=>aA (h.row l v hv) fun g hg=>nn (h.rrow l v g hv hg) aE.noConfusion aE.noConfusion,
          order:=aA h.order fun g hg=>nn (h.rorder g hg) aE.noConfusion aE.noConfusion,
          data:=h.data.imp id fun⟨h1,h2,h3⟩=>⟨h1,h2,aA h3 fun g hg=>nn (h.rdata g hg) aE.noConfusion aE.noConfusion⟩,
          below:=aA h.below fun g hg=>nn (h.rbelow g hg) aE.noConfusion aE.noConfusion,
          rb:=h.rb,rnb:=h.rnb,rrow:=h.rrow,rorder:=h.rorder,rdata:=h.rdata,rbelow:=h.rbelow,lt:=fun g hg=>auL (h.lt g hg) m1.size },m1.mono (fun g _ e hn=>by subst e;rw[h.rb]at hn;cases hn)⟩
theorem un.dated (h:un w b iv ch s)(x:az)(hx:x≠[])(FV:Value)(hb:World.blk w1 b (ke iv (.bool ch) (.slice (some ⟨s.nb,0,none⟩) s.n s.n) s.ov (.pointer (some ⟨b,4,none⟩)) FV (.int .i64 (s.left:Int)) s.bv) 302)(own:bR w1 0 FV (s.D++x))(m:ah (fun g=>g=b\/s.dv.ownBlock=some g) w w1)(at':FV.ownBlock=s.dv.ownBlock\/∃ k,FV.ownBlock=some k/\w.heap.size<=k):
  un w1 b iv ch { s with pv:=.pointer (some ⟨b,4,none⟩),dv:=FV,D:=s.D++x,role:=nG s.role FV .data }/\iQ s.role (nG s.role FV .data) w.heap.size/\ah (fun g=>s.role g≠.none) w w1:=by
 have G:iQ s.role (nG s.role FV .data) w.heap.size:=xi h.rdata aE.noConfusion h.lt at';have m2:ah (fun g=>s.role g=.walk\/s.role g=.data) w w1:=m.mono (fun g _ hg=>hg.elim (fun e=>by subst e;exact .inl h.rb) (fun e=>.inr (h.rdata g e)));have nn:∀ {g r},s.role g=r->r≠.none->r≠.walk->r≠.data->w1.heap[g]?=w.heap[g]?:=fun {g r} e h1 h2 h3=>m2.block g (h.lt g (by rw[e];exact h1)) (by rw[e];exact fun hh=>hh.elim h2 h3);have kr:∀ {g r},s.role g=r->r≠.none->nG s.role FV .data g=r:=fun {g r} e hr=>(G.keep g (by rw[e];exact hr)).trans e
 refine⟨{ own:=hb,nums:=(nn h.rnb aE.noConfusion aE.noConfusion aE.noConfusion).trans h.nums,rlen:=h.rlen,
          row:=fun l v hv=>aA (h.row l v hv) fun g hg=>nn (h.rrow l v g hv hg) aE.noConfusion aE.noConfusion aE.noConfusion,
          order:=aA h.order fun g hg=>nn (h.rorder g hg) aE.noConfusion aE.noConfusion aE.noConfusion,
          data:=.inr ⟨rfl,by simp[hx],own⟩,
          below:=aA h.below fun g hg=>nn (h.rbelow g hg) aE.noConfusion aE.noConfusion aE.noConfusion,
          rb:=kr h.rb aE.noConfusion,rnb:=kr h.rnb aE.noConfusion,rrow:=fun l v g hv hg=>kr (h.rrow l v g hv hg) aE.noConfusion,rorder:=fun g hg=>kr (h.rorder g hg) aE.noConfusion,rdata:=fun g hg=>G9 hg,rbelow:=fun g hg=>kr (h.rbelow g hg) aE.noConfusion,
          lt:=fun g hg=>Hw h.lt m2.size (fun g hg=>aT own hg) g hg },G,m2.mono (fun g _ hg hn=>by rcases hg with hg|hg<;>rw[hg]at hn<;>cases hn)⟩
theorem UJ {w:World}{base n:Nat}{t:TypeId}{v:Value}{xs:List Value}(h:w.ownsRow base t 1 v n xs){g:Nat}(hg:v.ownBlock=some g)(i:Nat)(_hi:i<xs.length)(x:Value):(w.setCell ⟨g,i,none⟩ x).ownsRow base t 1 v n (xs.set i x):=by
 obtain⟨h1,h2⟩:=h;refine⟨by simpa using h1,?_⟩;rcases h2 with⟨rfl,h3⟩|⟨g',cap,dz,rfl,hb,R6,Kk,hm,cK,vt⟩
 ·cases hg
 ·have:g'=g:=by simpa[Value.ownBlock]using hg
  subst this;refine .inr ⟨g',cap,dz.setIfInBounds i x,rfl,hb,ag (b:=g') R6 i x,Kk,hm,by simpa using cK,?_⟩;rw[<-vt,Array.toList_setIfInBounds,List.take_set]
theorem un.belowed (h:un w b iv ch s)(j k g:Nat)(hj:j<s.n)(hg:s.bv.ownBlock=some g):un (w.setCell ⟨g,j,none⟩ (.int .i64 (k:Int))) b iv ch { s with B:=fun i=>if i=j then k else s.B i }/\ah (fun g=>s.role g≠.none) w (w.setCell ⟨g,j,none⟩ (.int .i64 (k:Int))):=by
 have hr:=h.rbelow g hg;have m1:ah (fun x=>x=g) w (w.setCell ⟨g,j,none⟩ (.int .i64 (k:Int))):=(ah.refl (fun x=>x=g) w).setCell (p:=⟨g,j,none⟩) (.inl rfl) _;have nn:∀ {x r},s.role x=r->r≠.none->r≠.below->(w.setCell ⟨g,j,none⟩ (.int .i64 (k:Int))).heap[x]?=w.heap[x]?:=fun {x r} e h1 h2=>m1.block x (h.lt x (by rw[e];exact h1)) (by rintro rfl;rw[hr]at e;exact h2 e.symm);have hb:aN (w.setCell ⟨g,j,none⟩ (.int .i64 (k:Int))) 0 s.bv (gy ((List.range s.n).map fun i=>if i=j then k else s.B i)):=by
  have h1:=UJ h.below hg j (by simp[bo,gy];exact hj) (.int .i64 (k:Int));have e:(bo (gy ((List.range s.n).map s.B))).set j (.int .i64 (k:Int))=bo (gy ((List.range s.n).map fun i=>if i=j then k else s.B i)):=by
   apply List.ext_getElem
   ·simp[bo,gy]
   ·intro i h1 h2;simp only[List.getElem_set,bo,gy,List.getElem_map,List.getElem_range];by_cases hij:j=i
    ·subst hij;simp
    ·rw[auK hij,auK (fun e=>hij e.symm)]
  rw[e]at h1;simpa[aN,gy]using h1
 refine⟨{ own:=(nn h.rb aE.noConfusion aE.noConfusion).trans h.own,nums:=(nn h.rnb aE.noConfusion aE.noConfusion).trans h.nums,rlen:=h.rlen,
          row:=fun l v hv=>aA (h.row l v hv) fun g hg=>nn (h.rrow l v g hv hg) aE.noConfusion aE.noConfusion,
          order:=aA h.order fun g hg=>nn (h.rorder g hg) aE.noConfusion aE.noConfusion,
          data:=h.data.imp id fun⟨h1,h2,h3⟩=>⟨h1,h2,aA h3 fun g hg=>nn (h.rdata g hg) aE.noConfusion aE.noConfusion⟩,
          below:=hb,rb:=h.rb,rnb:=h.rnb,rrow:=h.rrow,rorder:=h.rorder,rdata:=h.rdata,rbelow:=h.rbelow,lt:=fun g hg=>auL (h.lt g hg) m1.size },m1.mono (fun x _ e hn=>by subst e;rw[hr]at hn;cases hn)⟩
end
end
end Go.Proofs.YtkghpdcloaiflaaGreatDoor
