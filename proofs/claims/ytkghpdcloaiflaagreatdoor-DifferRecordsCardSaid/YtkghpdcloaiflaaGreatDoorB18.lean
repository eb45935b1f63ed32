import Derived.Test.YtkghpdcloaiflaaGreatDoorB17
set_option maxHeartbeats 8000000
set_option maxRecDepth 100000
namespace Go.Proofs.YtkghpdcloaiflaaGreatDoor
open _root_.Go.Proofs.Tryz
section
open Go.RowKit Go.Shelf
attribute [local go_sem] auV
def UM (s:ay):ay:=s++List.replicate (64-s.length) 0
def uA (d:Dk)(at':Nat)(R:ay):Nat->Dk
 |0=>d
 |k+1=>(uA d at' R k).put (at'+k) (UM ((R.drop (64*k)).take 64))
def LP (d:Dk)(gen:Nat)(old qa:ay):Dk:=
 let bytes:=old++eG qa.length 2++qa
 let R:=bytes.drop (old.length/64*64)
 em ((uA d (1+gen%2*bG d+old.length/64) R ((R.length+63)/64)).sync) gen bytes.length
theorem kw (d:Dk)(a:Nat)(R:ay):∀ k,(uA d a R k).size=d.size
 |0=>rfl
 |k+1=>by rw[uA,fA,kw d a R k]
theorem DH (S:ay)(i:Nat)(hi:i<=S.length)(W:World):(Instr.slice 9 (.string ⟨S.toArray⟩) (some (.int .i64 (i:Int))) none none).run prog W=.ok (ax (S.drop i)) W:=by
 have hs:(⟨S.toArray⟩:ByteArray).size=S.length:=by simp[ByteArray.size]
 rw[run_slice_string_l (P:=prog) (w:=W) (t:=9) (s:=⟨S.toArray⟩) underlying9 .i64 (i:Int) (by omega) (by rw[hs];omega),avD]
 congr 2
 apply ByteArray.ext;simp only[List.extract_eq_take_drop,hs,List.extract_toArray,ByteArray.data_extract];rw[avM (by simp)]
theorem P7 (S:ay)(j:Nat)(hj:j<=S.length)(W:World):(Instr.slice 9 (.string ⟨S.toArray⟩) none (some (.int .i64 (j:Int))) none).run prog W=.ok (ax (S.take j)) W:=by
 have hs:(⟨S.toArray⟩:ByteArray).size=S.length:=by simp[ByteArray.size]
 rw[run_slice_string_h (P:=prog) (w:=W) (t:=9) (s:=⟨S.toArray⟩) underlying9 .i64 (j:Int) (by omega) (by rw[hs];omega),avD]
 congr 2
 apply ByteArray.ext;simp[List.extract_eq_take_drop]
theorem DJ (l:List ay)(j:Nat)(hj:j<l.length):(yK l)[j]?=some (ax l[j]):=by simp[hj]
theorem Bf (lv:Value)(l:List ay)(base:Nat)(w:World)(h:w.ownsRow base 9 1 lv l.length (yK l))(hl:l.length<=1000000):
  Calls prog 156 #[lv] w fun e w'=>∃ v,e=.returned v/\w'.ownsRow w.heap.size 9 1 v l.length (yK l)/\af w w':=by
 have hr:=ba h;obtain⟨a,cap,rfl,hc⟩:=hr;rw[avv]at*
 cases a with
 |none=>
  have h0:l=[]:=by
   cases l with
   |nil=>rfl
   |cons x r=>
    obtain⟨_,_,e,_⟩:=hc 0 _ rfl
    cases e
  subst h0;refine(Tryz.slices_Clone_string_nil 0 cap w).mono ?_;rintro e w' ⟨rfl,rfl⟩;exact⟨_,rfl,⟨rfl,.inl ⟨rfl,rfl⟩⟩,ah.refl _ _⟩
 |some ad=>
  by_cases h0:l=[]
  ·subst h0;refine(Tryz.slices_Clone_string_zero ad cap w).mono ?_;rintro e w' ⟨v,rfl,h1,_,h2⟩;exact⟨v,rfl,h1,ah.ofBelow h2⟩
  ·have bA:0<l.length:=List.length_pos_iff.2 h0;obtain⟨b,o,e,_⟩:=hc 0 (ax l[0]) (DJ l 0 bA);injection e with e;subst e;have hC:=Tryz.slices_Clone_string b o l.length cap (l.map fun s=>⟨s.toArray⟩) w (by simp) (by omega) (fun j hj=>by
    rw[avv]at hj;obtain⟨b2,o2,e2,c2⟩:=hc j (ax l[j]) (DJ l j hj);injection e2 with e2;injection e2 with e3 e4;subst e3 e4;rw[c2];simp[List.getD,hj])
   refine hC.mono ?_;rintro e w' ⟨v,rfl,h1,_,h2⟩;have e1:((l.map fun s:ay=>(⟨s.toArray⟩:ByteArray)).take l.length).map Value.string=yK l:=by
    rw[avM (by simp),avr];rfl
   rw[e1]at h1;exact⟨v,rfl,h1,ah.ofBelow h2⟩
theorem DK {w:World}{l gen:Nat}{d:Dk}{recs:List ay}{F:Nat->Prop}(h:kZ w l d gen recs F)(qa:ay)(hr:qa.length<=1300)(lX:(ly recs).length+qa.length+2<=bG d*64)(pz:recs.length<=500000):
  Calls prog 69 #[aq l,ax qa] w fun e w'=>e=.returned (.int .i64 0)/\∃ F',kZ w' l (LP d gen (ly recs) qa) gen (recs++[qa]) F'/\dX F F' w w':=by
 have RM:=zV h;obtain⟨pd,lv,Fd,h⟩:=h;have hh:bG d<=8192:=by have:=h.many;unfold bG;omega
 have cV:1+2*bG d<=d.size:=by have:=h.many;unfold bG;omega
 obtain⟨t,ht⟩:∃ t,ly recs=t:=⟨_,rfl⟩
 obtain⟨q,hq⟩:∃ q,bG d=q:=⟨_,rfl⟩
 rw[ht,hq]at RM;rw[ht,hq]at lX;rw[hq]at hh cV;rw[ht]at h ⊢;have hri:¬(1300:Int)<(qa.length:Int):=by omega
 have er:((q*64-t.length:Nat):Int)=(q:Int)*64-(t.length:Int):=by omega
 rw[er]at RM;have e1:IntKind.i64.wrap (2+(qa.length:Int))=2+(qa.length:Int):=fi (by omega);have YJ:¬(q:Int)*64-(t.length:Int)<2+(qa.length:Int):=by omega
 have H:=hd0 h;have HRM:=hd0 RM;have HT:=hd0 ht;have HQ:=hd0 hq;have WC:=hd0 (And.intro cV (And.intro lX pz));have c4:w.cell? ⟨l,4,none⟩=some (.bool false):=aa h.own 4;clear h RM ht hq er cV;go_enter func69,ntmps69;go_wp2_with fail;refine HRM.out.mono ?_;rintro e w1 ⟨rfl,hk1⟩;have H1:=hd0 (H.out.same (hk1.on (fun _ _=>id)) hk1.size);have bZ:=hd0 hk1;have c2:w1.cell? ⟨l,2,none⟩=some (ax t):=aa H1.out.own 2;have c2x:∀ x,(w1.ext x).cell? ⟨l,2,none⟩=some (ax t):=fun x=>((aC w1 x).cell (p:=⟨l,2,none⟩) (ak H1.out.own) id).trans c2;have PU:Hid (∀ X,Calls prog 150 #[.int .i64 (qa.length:Int),.int .i64 2] X fun e w'=>e=.returned (ax (eG qa.length 2))/\af X w'):=hd0 (fun X=>wT qa.length 2 (by omega) (by omega) X);have ls:=gZ qa.length 2;have ed:((t.length:Int)).tdiv 64=((t.length/64:Nat):Int):=by rw[awb (by omega)];rfl
 have uw:(t.length:Int)<=524288:=by omega
 have sM:¬ 9223372036854775807<t.length+2:=by omega
 have jH:¬ 9223372036854775807<t.length+2+qa.length:=by omega
 have qu:¬ 9223372036854775807<t.length+(2+qa.length):=by omega
 clear hk1 HRM lX;go_wp2_with fail;clear YJ;refine cO (by kernel_rfl) (by kernel_rfl) ?_
 repeat (quiet_step (with_reducible exact bB (PU.out _)))
 refine avT ?_;intro _ bf;obtain⟨xq,rfl⟩:=bf;have nS:=aC w1 xq;have H2:=hd0 (H1.out.same (nS.on (fun _ _=>id)) nS.size);have bw:=hd0 (bZ.out.keep nS);clear nS c2 c2x c4 e1 sM jH qu;obtain⟨B,hB⟩:∃ B,t++(eG qa.length 2++qa)=B:=⟨_,rfl⟩
 obtain⟨f,hf⟩:∃ f,t.length/64=f:=⟨_,rfl⟩
 have Yv:B.length=t.length+2+qa.length:=by rw[<-hB];simp[ls];omega
 obtain⟨R,hR⟩:∃ R,B.drop (f*64)=R:=⟨_,rfl⟩
 have Ol:∀ W,(Instr.slice 9 (.string ⟨B.toArray⟩) (some (.int .i64 ((f:Int)*64))) none none).run prog W=.ok (ax R) W:=fun W=>by
  have:=DH B (f*64) (by omega) W;rw[hR]at this;simpa using this
 have ew:IntKind.i64.wrap ((f:Int)*64)=(f:Int)*64:=fi (by omega);have edd:(t.length:Int)/64=(f:Int):=by omega
 rw[edd,hB];clear ed;have HB:=hd0 (And.intro hB (And.intro hR hf));have HL:Hid (R.length=t.length+2+qa.length-f*64):=hd0 (by rw[<-hR];simp[Yv]);have TL:=hd0 Yv;clear hB hR hf Yv;go_wp2_with fail;have HK:=bw.out;generalize hW:w1.ext xq=W0 at*;clear Ol ew edd hri ls uw PU HK hW;obtain⟨a,ha⟩:∃ a,1+gen%2*q+f=a:=⟨_,rfl⟩
 obtain⟨K,hK⟩:∃ K,(R.length+63)/64=K:=⟨_,rfl⟩
 have HA:Hid (1+gen%2*q+f=a/\a+K<=d.size/\f+K<=8192):=hd0 (by
  have h1:=WC.out;have h2:=HL.out;have h3:=HB.out.2.2;have h4:f+K<=q:=by omega
  have h5:gen%2*q<=q:=by
   have:gen%2=0\/gen%2=1:=by omega
   rcases this with e|e<;>rw[e]<;>omega
  omega)
 have HKK:=hd0 hK;clear ha hK
 go_loopw [7,8] (fun r i wr=>∃(k:Nat) (uv:Nat->Prop),k<=K/\r=ax (R.drop (64*k))/\i=.int .i64 ((f:Int)+(k:Int))/\World.blk wr l (gJ pd gen t lv) 196/\bC wr pd (uA d a R k) uv/\ah (fun b=>b=l\/Fd b) w wr/\Hid (∀ b,uv b->Fd b\/w.heap.size<=b)) (fun _ i _=>f+K-(intOf i).toNat)
 case atStart=>exact⟨0,Fd,by omega,by simp,by simp,H2.out.own,H2.out.disk,bw.out.mono (fun _ _ h=>h.elim),hd0 (fun b hb=>.inl hb)⟩
 case round=>
  clear H2 bw;obtain⟨k,uv,hk,rfl,rfl,ho,hd,hm,HF⟩:=hrel;have Ho:=hd0 ho;have Hd:=hd0 hd;have Hm:=hd0 hm;have Nd:Hid (¬ uv l):=hd0 (fun hv=>(HF.out l hv).elim H.out.nd (fun hge=>by have:=H.out.lt l H.out.fl;omega));clear ho hd hm;by_cases aL:k<K
  ·obtain⟨rest,Ky⟩:∃ rest,R.drop (64*k)=rest:=⟨_,rfl⟩
   have hrl:rest.length=R.length-64*k:=by rw[<-Ky];simp
   have yg:0<rest.length:=by have:=HKK.out;omega
   obtain⟨n,hn⟩:∃ n,min rest.length 64=n:=⟨_,rfl⟩
   have hni:min (rest.length:Int) 64=(n:Int):=by omega
   have ast:n<=64:=by omega
   have hnr:n<=rest.length:=by omega
   have hem:rest.isEmpty=false:=by cases rest with|nil=>simp at yg|cons x r=>rfl
   have yk:=fun W=>P7 rest n hnr W;have hwn:IntKind.i64.wrap (64-(n:Int))=64-(n:Int):=fi (by omega);have ZR:Hid (∀ X,Calls prog 95 #[.string ⟨#[0]⟩,.int .i64 (64-(n:Int))] X fun e w'=>e=.returned (ax (List.replicate (64-n) 0))/\af X w'):=hd0 (fun X=>by
    have:=zU (64-n) (by omega) X
    rwa [show((64-n:Nat):Int)=64-(n:Int) by omega]at this)
   have hzl:(List.replicate (64-n) (0:UInt8)).length=64-n:=by simp
   have ads:Hid (rest.take n++List.replicate (64-n) 0=UM (rest.take 64)):=hd0 (by
    have e1:rest.take n=rest.take 64:=by rw[<-hn,List.take_eq_take_iff];omega
    have e2:(rest.take 64).length=n:=by rw[au7];omega
    unfold UM;rw[e1,e2])
   have uw:(rest.take n).length=n:=by rw[au7];omega
   have Oc:¬ 9223372036854775807<n+(64-n):=by omega
   have Hrl:=hd0 (And.intro hrl (And.intro Ky hn));generalize List.replicate (64-n) (0:UInt8)=z at*;generalize rest.take n=tk at*;rw[Ky];clear Ky hrl hn yg;go_wp2_with fail;refine cO (by kernel_rfl) (by kernel_rfl) ?_
   repeat (quiet_step (with_reducible exact bB (ZR.out _)))
   refine avT ?_;intro _ bf;obtain⟨xq,rfl⟩:=bf;have nS:=aC wr xq;have Ts:=hd0 (ab nS Ho.out id);have Hd2:=hd0 (Hd.out.mod nS (fun _ _=>id));have Hm2:Hid (ah (fun b=>b=l\/Fd b) w (wr.ext xq)):=hd0 (Hm.out.trans (nS.mono (T:=fun b=>b=l\/Fd b) (fun _ _ h=>h.elim)) (fun _ _ h=>h));clear nS yk hwn hzl Oc uw hem;generalize wr.ext xq=W2 at*;have hl:l<W2.heap.size:=ak Ts.out;have c0:W2.cell? ⟨l,0,none⟩=some (aq pd):=aa Ts.out 0;have c1:W2.cell? ⟨l,1,none⟩=some (.int .i64 (gen:Int)):=aa Ts.out 1;have cV:(uA d a R k).size=d.size:=kw d a R k;have hhf:bG (uA d a R k)=q:=by unfold bG;rw[cV];exact HQ.out
   have FI:Hid (∀ x,Calls prog 153 #[aq l,.int .i64 (gen:Int)] (W2.ext x) fun e w'=>e=.returned (.int .i64 ((a:Int)-(f:Int)))/\af (W2.ext x) w'):=hd0 (fun x=>by
    have h1:=G7 (g:=gen) (ab (aC W2 x) Ts.out id) (Hd2.out.mod (aC W2 x) (fun _ _=>id)) (by rw[cV];exact H.out.many.1) H.out.gen;rw[hhf]at h1;refine h1.mono ?_;rintro e w' ⟨rfl,rfl⟩;exact⟨by rw[show((1+gen%2*q:Nat):Int)=(a:Int)-(f:Int) by have:=HA.out.1;omega],ah.refl _ _⟩)
   have hak:a+k<d.size:=by have:=HA.out;omega
   have ea:(a:Int)-(f:Int)+((f:Int)+(k:Int))=((a+k:Nat):Int):=by omega
   have ew:IntKind.i64.wrap ((a:Int)-(f:Int)+((f:Int)+(k:Int)))=((a:Int)+(k:Int)):=by have:=H.out.many.2;rw[fi (by omega)];omega
   have ewk:IntKind.i64.wrap ((f:Int)+(k:Int)+1)=(f:Int)+((k+1:Nat):Int):=by have:=HA.out;rw[fi (by omega)];omega
   clear cV hhf ea;go_wp2_with fail;refine ir 1 14 (by kernel_rfl) (by kernel_rfl) (fun _ o _ _ _ h=>by cases o<;>exact h) ?_;simp only[avO,avP,avQ,avR];refine fy (fun L hL=>?_)
   go_simp
   first|refine hL _ ?_|refine⟨_,fun _=>rfl,hL _ ?_⟩
   clear hL L;refine kD ?_
   repeat (quiet_step (with_reducible exact bB (FI.out _)))
   refine avT ?_;intro _ bf;obtain⟨xq,rfl⟩:=bf;have nS:=aC W2 xq;have R9:=hd0 (ab nS Ts.out id);have Hm3:Hid (ah (fun b=>b=l\/Fd b) w (W2.ext xq)):=hd0 (Hm2.out.trans (nS.mono (T:=fun b=>b=l\/Fd b) (fun _ _ h=>h.elim)) (fun _ _ h=>h));have WR:Hid (Calls prog 152 #[aq pd,.int .i64 ((a:Int)+(k:Int)),.string ⟨(tk++z).toArray⟩] (W2.ext xq) fun e w'=>e=.returned (.int .i64 0)/\∃ F',bC w' pd (uA d a R (k+1)) F'/\dX uv F' (W2.ext xq) w'):=hd0 (by
    have h1:=kL (Hd2.out.mod nS (fun _ _=>id)) (a+k) (by rw[kw];exact hak) (tk++z) (by rw[ads.out];simp[UM];omega);have e1:uA d a R (k+1)=(uA d a R k).put (a+k) (tk++z):=by rw[ads.out,<-Hrl.out.2.1];rfl
    rw[e1];simpa using h1)
   clear nS c0 c1 ew hak;go_wp2_with fail;refine WR.out.mono ?_;rintro e w3 ⟨rfl,Nv,Jh,dg⟩;have hsW:=Hm3.out.size;have AC:=ab dg.mod R9.out Nd.out;have n3:¬ Nv l:=fun hv=>(dg.foot l hv).elim Nd.out (fun hge=>by have:=ak R9.out;omega);have lq:Hid (ah (fun b=>b=l\/Fd b) w w3):=hd0 (Hm3.out.trans dg.mod (fun i hi h=>(HF.out i h).elim .inr (fun hge=>by omega)));have FQ:Hid (∀ b,Nv b->Fd b\/w.heap.size<=b):=hd0 (fun b hb=>(dg.foot b hb).elim (HF.out b) (fun h=>.inr (by omega)));have We:=hd0 Jh;have Ho4:=hd0 AC;have N3:=hd0 n3;clear Jh dg AC n3 WR;go_wp2_with fail;refine(pQ Ho4.out).mono ?_;rintro e w4 ⟨rfl,TJ,AG⟩;have Hd4:=hd0 (We.out.mod AG (fun b hb e=>N3.out (e▸hb)));have ne:Hid (ah (fun b=>b=l\/Fd b) w w4):=hd0 (lq.out.trans (AG.mono (T:=fun b=>b=l\/Fd b) (fun _ _ h=>.inl h)) (fun _ _ h=>h));have TM:=hd0 TJ;have Ol:=fun W=>DH rest n hnr W;have Sv:Hid (rest.drop n=R.drop (64*(k+1))):=hd0 (by
    have h1:=Hrl.out;rw[<-h1.2.1,List.drop_drop];by_cases h64:n=64
    ·rw[show 64*k+n=64*(k+1) by omega]
    ·have h2:=h1.1;have h3:=h1.2.2;rw[awq (by omega),awq (by omega)])
   clear TJ AG;go_wp2_with fail;exact⟨⟨k+1,Nv,by omega,by rw[Sv.out],by first|rfl|(congr 1;omega),TM.out,Hd4.out,ne.out,FQ⟩,by simp[intOf];omega⟩
  ·obtain rfl:k=K:=by omega
   have e0:R.drop (64*k)=[]:=awq (by have:=HKK.out;omega);rw[e0];have c0:wr.cell? ⟨l,0,none⟩=some (aq pd):=aa Ho.out 0;have SY:=hd0 (pK Hd.out);go_wp2_with fail;refine SY.out.mono ?_;rintro e w3 ⟨rfl,Nv,Jh,dg⟩;have hsW:=Hm.out.size;have AC:=ab dg.mod Ho.out Nd.out;have n3:¬ Nv l:=fun hv=>(dg.foot l hv).elim Nd.out (fun hge=>by have:=ak Ho.out;omega);have lq:Hid (ah (fun b=>b=l\/Fd b) w w3):=hd0 (Hm.out.trans dg.mod (fun i hi h=>(HF.out i h).elim .inr (fun hge=>by omega)));have FQ:Hid (∀ b,Nv b->Fd b\/w.heap.size<=b):=hd0 (fun b hb=>(dg.foot b hb).elim (HF.out b) (fun h=>.inr (by omega)));have We:=hd0 Jh;have Ho4:=hd0 AC;have N3:=hd0 n3;clear Jh dg AC n3 SY c0;go_wp2_with fail;refine(pQ Ho4.out).mono ?_;rintro e w4 ⟨rfl,TJ,AG⟩;have Hd4:=hd0 (We.out.mod AG (fun b hb e=>N3.out (e▸hb)));have ne:Hid (ah (fun b=>b=l\/Fd b) w w4):=hd0 (lq.out.trans (AG.mono (T:=fun b=>b=l\/Fd b) (fun _ _ h=>.inl h)) (fun _ _ h=>h));have TM:=hd0 TJ;have c1:w4.cell? ⟨l,1,none⟩=some (.int .i64 (gen:Int)):=aa TJ 1;have adh:(uA d a R k).sync.size=d.size:=by rw[dC,kw]
   have HE:=hd0 (qS TM.out Hd4.out (by rw[adh];exact H.out.many.1) N3.out gen B.length H.out.gen (by have:=TL.out;have:=WC.out;omega));clear TJ AG adh;go_wp2_with fail;refine HE.out.mono ?_;rintro e w5 ⟨rfl,VH,Nu,hd5,yS,hf5⟩;have hs4:=ne.out.size;have sE:Hid (ah (fun b=>b=l\/Fd b) w w5):=hd0 (ne.out.trans yS (fun i hi h=>h.elim .inl (fun h=>(FQ.out i h).elim .inr (fun hge=>by omega))));have FL:Hid (∀ b,VH b->Fd b\/w.heap.size<=b):=hd0 (fun b hb=>(hf5 b hb).elim (FQ.out b) (fun h=>.inr (by omega)));have c2:w5.cell? ⟨l,2,none⟩=some (ax t):=aa Nu 2;have f2:=ae Nu ⟨l,2,none⟩ rfl;have F8:World.blk (w5.setCell ⟨l,2,none⟩ (ax B)) l (gJ pd gen B lv) 196:=ag Nu 2 _;have m6:ah (fun b=>b=l) w5 (w5.setCell ⟨l,2,none⟩ (ax B)):=(ah.refl (fun b=>b=l) w5).setCell (p:=⟨l,2,none⟩) (.inl rfl) _;have n5:¬ VH l:=fun hv=>(FL.out l hv).elim H.out.nd (fun hge=>by have:=H.out.lt l H.out.fl;omega);have Hd6:=hd0 (hd5.mod m6 (fun b hb e=>n5 (e▸hb)));have Ov:Hid (ah (fun b=>b=l\/Fd b) w (w5.setCell ⟨l,2,none⟩ (ax B))):=hd0 (sE.out.trans (m6.mono (T:=fun b=>b=l\/Fd b) (fun _ _ h=>.inl h)) (fun _ _ h=>h));have Xf:(w5.setCell ⟨l,2,none⟩ (ax B)).ownsRow 0 9 1 lv recs.length (yK recs):=az H.out.list (fun b hb=>by
    have h1:=H.out.fv b hb;exact Ov.out.block b (H.out.lt b h1.1) (fun h=>h.elim h1.2.2 h1.2.1))
   have c3:(w5.setCell ⟨l,2,none⟩ (ax B)).cell? ⟨l,3,none⟩=some lv:=aa F8 3;have CL:=hd0 (Bf lv recs 0 _ Xf (by omega));have Ho6:=hd0 F8;have N5:=hd0 n5;clear Nu hd5 yS hf5 F8 m6 n5 Xf;go_wp2_with fail;refine CL.out.mono ?_;rintro e w7 ⟨v,rfl,hv7,rx⟩;generalize TQ:w5.setCell ⟨l,2,none⟩ (.string ⟨B.toArray⟩)=W6 at*;obtain⟨v8,w8,r8,abh,m8,at8,g8,rp,rfl⟩:=gU (P:=prog) underlying149 vJ rfl (by decide) W6.heap.size v _ _ w7 hv7 [ax qa] rfl (by simp[Value.oneCell']) (by unfold maxLen;show recs.length+1<=_;omega) (by show(recs.length+1)*16<=_;omega) rx.size;have Ji:=rx.size;have hl6:l<W6.heap.size:=ak Ho6.out;have VE:=m8.size;have hmv:ah (fun b=>W6.heap.size<=b) w7 w8:=m8.mono (fun g _ hv=>(hv7.lt g hv).1);have h68:af W6 w8:=(rx.mono (fun _ _ h=>h.elim)).trans hmv (fun i hi hg=>absurd hi (Nat.not_lt.2 hg));have Wc:=ab h68 Ho6.out id;have Hd8:=hd0 (Hd6.out.mod h68 (fun _ _=>id));have f3:=ae Wc ⟨l,3,none⟩ rfl;have c3:w8.cell? ⟨l,3,none⟩=some lv:=aa Wc 3;have HR:=hd0 r8;have BN:=hd0 Wc;have akt:=hd0 abh;have H68:=hd0 h68;have HG:Hid (W6.heap.size<=g8/\g8<w8.heap.size):=hd0 (abh.lt g8 rfl);clear hv7 rx r8 abh m8 at8 hmv h68 Wc c1 c2 f2 TQ;go_wp2_with (at_builtin;refine aA HR.out rfl rfl rfl rfl ?_);go_ret;have m9:ah (fun b=>b=l) w8 (w8.setCell ⟨l,3,none⟩ (.slice (some ⟨g8,0,none⟩) (recs.length+1) rp)):=(ah.refl (fun b=>b=l) w8).setCell (p:=⟨l,3,none⟩) (.inl rfl) _;have o9:World.blk (w8.setCell ⟨l,3,none⟩ (.slice (some ⟨g8,0,none⟩) (recs.length+1) rp)) l (gJ pd gen B (.slice (some ⟨g8,0,none⟩) (recs.length+1) rp)) 196:=ag BN.out 3 _;have ai5:w8.ownsRow W6.heap.size 9 1 (.slice (some ⟨g8,0,none⟩) (recs.length+1) rp) (recs.length+1) (yK recs++[ax qa]):=akt.out;generalize w8.setCell ⟨l,3,none⟩ (.slice (some ⟨g8,0,none⟩) (recs.length+1) rp)=w9 at*;have hg:=HG.out;have hs9:=m9.size;have aqm:=Ov.out.size;have hF5:∀ b,VH b->b<W6.heap.size:=fun b hb=>Hd6.out.lt b hb;have eB:B=ly (recs++[qa]):=by
    rw[<-HB.out.1,<-HT.out];unfold ly;rw[avh];simp[eG,List.range_succ]
   have eD:em (uA d a R k).sync gen B.length=LP d gen t qa:=by
    unfold LP;dsimp only;rw[avJ,HB.out.1,HB.out.2.2,HB.out.2.1,HQ.out,HA.out.1,HKK.out]
   have esz:(LP d gen t qa).size=d.size:=by rw[<-eD];unfold em;rw[dC,fA,dC,kw]
   refine⟨rfl,fun b=>F b\/VH b\/b=g8,⟨pd,.slice (some ⟨g8,0,none⟩) (recs.length+1) rp,VH,?_⟩,?_⟩
   ·rw[<-eB]
    exact { own:=o9,disk:=by rw[<-eD];exact Hd8.out.mod m9 (fun b hb e=>N5.out (e▸hb)),
            list:=by
             have h1:w9.ownsRow 0 9 1 (.slice (some ⟨g8,0,none⟩) (recs.length+1) rp) (recs.length+1) (yK recs++[ax qa]):=az (eQ ai5 (avL _)) (fun b hb=>by
              have e:g8=b:=by simpa[Value.ownBlock]using hb
              subst e;exact m9.block g8 hg.2 (fun e=>by omega))
             have e1:yK (recs++[qa])=yK recs++[ax qa]:=by simp
             rw[e1,show(recs++[qa]).length=recs.length+1 by simp];exact h1
            fl:=.inl H.out.fl,fd:=fun b hb=>.inr (.inl hb),
            fv:=fun b hb=>by
             have e:g8=b:=by simpa[Value.ownBlock]using hb
             subst e;exact⟨.inr (.inr rfl),fun hf=>by have:=hF5 _ hf;omega,fun e=>by omega⟩
            nd:=N5.out,many:=by rw[esz];exact H.out.many,gen:=H.out.gen,eqT:=eB
            room:=by
             have h1:bG (LP d gen t qa)=q:=by unfold bG;rw[esz];exact HQ.out
             rw[h1,TL.out];have:=WC.out;omega
            lt:=fun b hb=>by
             rcases hb with hb|hb|hb
             ·have:=H.out.lt b hb;omega
             ·have:=hF5 b hb;omega
             ·omega }
   ·have k68:ah F W6 w8:=H68.out.mono (fun _ _ h=>h.elim);have k6:ah F w W6:=Ov.out.mono (fun i _ h=>h.elim (fun e=>by subst e;exact H.out.fl) (H.out.fd i));refine⟨(k6.trans k68 (fun _ _ h=>h)).trans (m9.mono (T:=F) (fun i _ e=>by subst e;exact H.out.fl)) (fun _ _ h=>h),fun b hb=>?_⟩;rcases hb with hb|hb|hb
    ·exact .inl hb
    ·exact(FL.out b hb).imp (H.out.fd b) id
    ·exact .inr (by omega)
end
section
open Go.RowKit
structure qk (ty:TypeId)(rv:Value)(f:FuncId)(I:World->(Nat->Prop)->Prop)(rd:Rd):Prop where
 meth:∀ W,(method 583 ty rv "Read").run prog W=.ok (f,rv) W
 call:∀(x:Value) (W:World),(callFunc f #[rv,x]).run prog W=.ok (.enter f #[rv,x]) W
 read:∀ {w:World} {F:Nat->Prop} {n:Int} {p:ay},I w F->rd n=.ok p->Calls prog f #[rv,.int .i64 n] w fun e w'=>e=.returned (.tuple #[.string ⟨p.toArray⟩,.int .i64 0])/\∃ F',I w' F'/\dX F F' w w'
 same:∀ {w w':World} {F:Nat->Prop},I w F->fC F w w'->w.heap.size<=w'.heap.size->I w' F
 lt:∀ {w:World} {F:Nat->Prop},I w F->∀ b,F b->b<w.heap.size
inductive aD
 |none
 |walk
 |nums
 |row (l:Nat)
 |order
 |data
 |below
structure Oj where
 nb:Nat
 rows:List Value
 ov:Value
 pv:Value
 dv:Value
 bv:Value
 n:Nat
 N:Nat->List Int
 O:List Int
 D:ay
 left:Nat
 B:Nat->Nat
 role:Nat->aD
structure ua (w:World)(b:Nat)(iv:Value)(ch:Bool)(s:Oj):Prop where
 own:World.blk w b (j9 iv (.bool ch) (.slice (some ⟨s.nb,0,none⟩) s.n s.n) s.ov s.pv s.dv (.int .i64 (s.left:Int)) s.bv) 302
 nums:World.blk w s.nb s.rows.toArray 46
 rlen:s.rows.length=s.n
 row:∀ l v,s.rows[l]?=some v->aN w 0 v (s.N l)
 order:aN w 0 s.ov s.O
 data:(s.pv=.pointer none/\s.dv=.slice none 0 0/\s.D=[])\/(s.pv=.pointer (some ⟨b,4,none⟩)/\s.D≠[]/\bR w 0 s.dv s.D)
 below:aN w 0 s.bv (gm ((List.range s.n).map s.B))
 rb:s.role b=.walk
 rnb:s.role s.nb=.nums
 rrow:∀ l v g,s.rows[l]?=some v->v.ownBlock=some g->s.role g=.row l
 rorder:∀ g,s.ov.ownBlock=some g->s.role g=.order
 rdata:∀ g,s.dv.ownBlock=some g->s.role g=.data
 rbelow:∀ g,s.bv.ownBlock=some g->s.role g=.below
 lt:∀ g,s.role g≠.none->g<w.heap.size
theorem aT {w:World}{base n sz:Nat}{t:TypeId}{v:Value}{xs:List Value}(h:w.ownsRow base t sz v n xs){g:Nat}(hg:v.ownBlock=some g):g<w.heap.size:=by
 rcases h.2 with⟨e,_⟩|⟨g',cap,d7,e,_,RO,_⟩
 ·rw[e]at hg;cases hg
 ·rw[e]at hg;have:g'=g:=by simpa[Value.ownBlock]using hg
  subst this;exact(avm.1 RO).1
theorem ua.same {w w':World}{b:Nat}{iv:Value}{ch:Bool}{s:Oj}(h:ua w b iv ch s)(m:fC (fun g=>s.role g≠.none) w w')(hs:w.heap.size<=w'.heap.size):ua w' b iv ch s:=by
 have nn:∀ {g r},s.role g=r->r≠.none->w'.heap[g]?=w.heap[g]?:=fun {g r} e hr=>m g (show s.role g≠.none by rw[e];exact hr) (h.lt g (by rw[e];exact hr))
 exact { own:=(nn h.rb aD.noConfusion).trans h.own,nums:=(nn h.rnb aD.noConfusion).trans h.nums,rlen:=h.rlen,
         row:=fun l v hv=>az (h.row l v hv) fun g hg=>nn (h.rrow l v g hv hg) aD.noConfusion,
         order:=az h.order fun g hg=>nn (h.rorder g hg) aD.noConfusion,
         data:=h.data.imp id fun⟨h1,h2,h3⟩=>⟨h1,h2,az h3 fun g hg=>nn (h.rdata g hg) aD.noConfusion⟩,
         below:=az h.below fun g hg=>nn (h.rbelow g hg) aD.noConfusion,
         rb:=h.rb,rnb:=h.rnb,rrow:=h.rrow,rorder:=h.rorder,rdata:=h.rdata,rbelow:=h.rbelow,lt:=fun g hg=>avb (h.lt g hg) hs }
def nD (role:Nat->aD)(v:Value)(r:aD):Nat->aD:=fun g=>match v.ownBlock with
 |some k=>if k=g then r else role g
 |none=>role g
structure iM (role j0:Nat->aD)(n:Nat):Prop where
 keep:∀ g,role g≠.none->j0 g=role g
 new:∀ g,j0 g≠.none->role g≠.none\/n<=g
theorem iM.refl (role:Nat->aD)(n:Nat):iM role role n:=⟨fun _ _=>rfl,fun _ h=>.inl h⟩
theorem iM.trans {a b c:Nat->aD}{n m:Nat}(h:iM a b n)(k:iM b c m)(hn:n<=m):iM a c n where
 keep g hg:=by rw[k.keep g (by rw[h.keep g hg];exact hg),h.keep g hg]
 new g hg:=(k.new g hg).elim (fun h2=>h.new g h2) (fun h2=>.inr (by omega))
theorem wV {w:World}{role:Nat->aD}{v v':Value}{r:aD}(hv:∀ g,v.ownBlock=some g->role g=r)(hr:r≠.none)(lt:∀ g,role g≠.none->g<w.heap.size)(at':v'.ownBlock=v.ownBlock\/∃ k,v'.ownBlock=some k/\w.heap.size<=k):iM role (nD role v' r) w.heap.size:=by
 constructor
 ·intro g hg;unfold nD;rcases at' with e|⟨k,e,hk⟩
  ·rw[e]
   cases hq:v.ownBlock with
   |none=>rfl
   |some k=>
    simp only;split
    ·rename_i e2;subst e2;exact(hv k hq).symm
    ·rfl
  ·rw[e];simp only;rw[ava (fun e2=>by have:=lt g hg;omega)]
 ·intro g hg;unfold nD at hg;rcases at' with e|⟨k,e,hk⟩
  ·rw[e]at hg
   cases hq:v.ownBlock with
   |none=>rw[hq]at hg;exact .inl hg
   |some k=>
    rw[hq]at hg;simp only at hg;split at hg
    ·rename_i e2;subst e2;exact .inl (by rw[hv k hq];exact hr)
    ·exact .inl hg
  ·rw[e]at hg;simp only at hg;split at hg
   ·rename_i e2;subst e2;exact .inr hk
   ·exact .inl hg
theorem Hw {role:Nat->aD}{v:Value}{r:aD}{g:Nat}(h:v.ownBlock=some g):nD role v r g=r:=by unfold nD;rw[h];simp
theorem H5 {w w':World}{role:Nat->aD}{v:Value}{r:aD}(lt:∀ g,role g≠.none->g<w.heap.size)(hs:w.heap.size<=w'.heap.size)(hv:∀ g,v.ownBlock=some g->g<w'.heap.size)(g:Nat)(hg:nD role v r g≠.none):g<w'.heap.size:=by
 unfold nD at hg
 cases hq:v.ownBlock with
 |none=>rw[hq]at hg;exact avb (lt g hg) hs
 |some k=>
  rw[hq]at hg;simp only at hg;split at hg
  ·rename_i e;subst e;exact hv k hq
  ·exact avb (lt g hg) hs
section
variable {w w1 w2:World}{b:Nat}{iv:Value}{ch:Bool}{s:Oj}
theorem ua.ordered (h:ua w b iv ch s)(x:Int)(v':Value)(own:aN w1 0 v' (s.O++[x]))(m:ah (fun g=>s.ov.ownBlock=some g) w w1)(at':v'.ownBlock=s.ov.ownBlock\/∃ k,v'.ownBlock=some k/\w.heap.size<=k):
  ua (w1.setCell ⟨b,3,none⟩ v') b iv ch { s with ov:=v',O:=s.O++[x],role:=nD s.role v' .order }/\iM s.role (nD s.role v' .order) w.heap.size/\ah (fun g=>s.role g≠.none) w (w1.setCell ⟨b,3,none⟩ v'):=by
 have G:iM s.role (nD s.role v' .order) w.heap.size:=wV h.rorder aD.noConfusion h.lt at';have m1:ah (fun g=>g=b) w1 (w1.setCell ⟨b,3,none⟩ v'):=(ah.refl (fun g=>g=b) w1).setCell (p:=⟨b,3,none⟩) (.inl rfl) _;have m2:ah (fun g=>s.role g=.walk\/s.role g=.order) w (w1.setCell ⟨b,3,none⟩ v'):=(m.mono (fun g _ hg=>.inr (h.rorder g hg))).trans m1 (fun g _ e=>by subst e;exact .inl h.rb);have nn:∀ {g r},s.role g=r->r≠.none->r≠.walk->r≠.order->(w1.setCell ⟨b,3,none⟩ v').heap[g]?=w.heap[g]?:=fun {g r} e h1 h2 h3=>m2.block g (h.lt g (by rw[e];exact h1)) (by rw[e];exact fun hh=>hh.elim h2 h3);have kr:∀ {g r},s.role g=r->r≠.none->nD s.role v' .order g=r:=fun {g r} e hr=>(G.keep g (by rw[e];exact hr)).trans e;have ij:s.ov.ownBlock≠some b:=fun e=>by have:=h.rorder b e;rw[h.rb]at this;cases this
 refine⟨{ own:=?_,nums:=?_,rlen:=h.rlen,row:=?_,order:=?_,data:=?_,below:=?_,rb:=kr h.rb aD.noConfusion,rnb:=kr h.rnb aD.noConfusion,
          rrow:=fun l v g hv hg=>kr (h.rrow l v g hv hg) aD.noConfusion,rorder:=fun g hg=>Hw hg,rdata:=fun g hg=>kr (h.rdata g hg) aD.noConfusion,rbelow:=fun g hg=>kr (h.rbelow g hg) aD.noConfusion,lt:=?_ },G,m2.mono (fun g _ hg hn=>by rcases hg with hg|hg<;>rw[hg]at hn<;>cases hn)⟩
 ·exact ag (ab m h.own ij) 3 v'
 ·exact(nn h.rnb aD.noConfusion aD.noConfusion aD.noConfusion).trans h.nums
 ·exact fun l v hv=>az (h.row l v hv) fun g hg=>nn (h.rrow l v g hv hg) aD.noConfusion aD.noConfusion aD.noConfusion
 ·refine az own fun g hg=>m1.block g (aT own hg) ?_;rintro rfl;rcases at' with e|⟨k,e,hk⟩
  ·rw[hg]at e;exact ij e.symm
  ·rw[hg]at e;cases e;have:=ak h.own;omega
 ·exact h.data.imp id fun⟨h1,h2,h3⟩=>⟨h1,h2,az h3 fun g hg=>nn (h.rdata g hg) aD.noConfusion aD.noConfusion aD.noConfusion⟩
 ·exact az h.below fun g hg=>nn (h.rbelow g hg) aD.noConfusion aD.noConfusion aD.noConfusion
 ·exact fun g hg=>H5 h.lt m2.size (fun g hg=>avb (aT own hg) m1.size) g hg
theorem ua.rowed (h:ua w b iv ch s)(l:Nat)(v:Value)(hv:s.rows[l]?=some v)(x:Int)(v':Value)(own:aN w1 0 v' (s.N l++[x]))(m:ah (fun g=>v.ownBlock=some g) w w1)(at':v'.ownBlock=v.ownBlock\/∃ k,v'.ownBlock=some k/\w.heap.size<=k):
  ua (w1.setCell ⟨s.nb,l,none⟩ v') b iv ch { s with rows:=s.rows.set l v',N:=fun k=>if k=l then s.N l++[x]else s.N k,role:=nD s.role v' (.row l) }/\iM s.role (nD s.role v' (.row l)) w.heap.size/\ah (fun g=>s.role g≠.none) w (w1.setCell ⟨s.nb,l,none⟩ v'):=by
 have G:iM s.role (nD s.role v' (.row l)) w.heap.size:=wV (fun g hg=>h.rrow l v g hv hg) aD.noConfusion h.lt at';have m1:ah (fun g=>g=s.nb) w1 (w1.setCell ⟨s.nb,l,none⟩ v'):=(ah.refl (fun g=>g=s.nb) w1).setCell (p:=⟨s.nb,l,none⟩) (.inl rfl) _;have m2:ah (fun g=>s.role g=.nums\/s.role g=.row l) w (w1.setCell ⟨s.nb,l,none⟩ v'):=(m.mono (fun g _ hg=>.inr (h.rrow l v g hv hg))).trans m1 (fun g _ e=>by subst e;exact .inl h.rnb);have nn:∀ {g r},s.role g=r->r≠.none->r≠.nums->r≠.row l->(w1.setCell ⟨s.nb,l,none⟩ v').heap[g]?=w.heap[g]?:=fun {g r} e h1 h2 h3=>m2.block g (h.lt g (by rw[e];exact h1)) (by rw[e];exact fun hh=>hh.elim h2 h3);have kr:∀ {g r},s.role g=r->r≠.none->nD s.role v' (.row l) g=r:=fun {g r} e hr=>(G.keep g (by rw[e];exact hr)).trans e;have ij:v.ownBlock≠some s.nb:=fun e=>by have:=h.rrow l v _ hv e;rw[h.rnb]at this;cases this
 have hl:l<s.rows.length:=(avf.1 hv).1
 refine⟨{ own:=?_,nums:=?_,rlen:=by simpa using h.rlen,row:=?_,order:=?_,data:=?_,below:=?_,rb:=kr h.rb aD.noConfusion,rnb:=kr h.rnb aD.noConfusion,
          rrow:=?_,rorder:=fun g hg=>kr (h.rorder g hg) aD.noConfusion,rdata:=fun g hg=>kr (h.rdata g hg) aD.noConfusion,rbelow:=fun g hg=>kr (h.rbelow g hg) aD.noConfusion,lt:=?_ },G,m2.mono (fun g _ hg hn=>by rcases hg with hg|hg<;>rw[hg]at hn<;>cases hn)⟩
 ·exact(nn h.rb aD.noConfusion aD.noConfusion aD.noConfusion).trans h.own
 ·have:=ag (ab m h.nums ij) l v';have e:s.rows.toArray.setIfInBounds l v'=(s.rows.set l v').toArray:=by simp
  rw[e]at this;exact this
 ·intro k u hu;simp only at hu ⊢;by_cases hk:k=l
  ·subst hk;rw[List.getElem?_set_self hl]at hu;injection hu with hu;subst hu;rw[au8 rfl];refine az own fun g hg=>m1.block g (aT own hg) ?_;rintro rfl;rcases at' with e|⟨q,e,hq⟩
   ·rw[hg]at e;exact ij e.symm
   ·rw[hg]at e;cases e;have:=ak h.nums;omega
  ·rw[List.getElem?_set_ne (fun e=>hk e.symm)]at hu;rw[ava hk];exact az (h.row k u hu) fun g hg=>nn (h.rrow k u g hu hg) aD.noConfusion aD.noConfusion (fun e=>by injection e with e;exact hk e)
 ·exact az h.order fun g hg=>nn (h.rorder g hg) aD.noConfusion aD.noConfusion aD.noConfusion
 ·exact h.data.imp id fun⟨h1,h2,h3⟩=>⟨h1,h2,az h3 fun g hg=>nn (h.rdata g hg) aD.noConfusion aD.noConfusion aD.noConfusion⟩
 ·exact az h.below fun g hg=>nn (h.rbelow g hg) aD.noConfusion aD.noConfusion aD.noConfusion
 ·intro k u g hu hg;simp only at hu ⊢;by_cases hk:k=l
  ·subst hk;rw[List.getElem?_set_self hl]at hu;injection hu with hu;subst hu;exact Hw hg
  ·rw[List.getElem?_set_ne (fun e=>hk e.symm)]at hu;exact kr (h.rrow k u g hu hg) aD.noConfusion
 ·exact fun g hg=>H5 h.lt m2.size (fun g hg=>avb (aT own hg) m1.size) g hg
theorem ua.lefted (h:ua w b iv ch s)(k:Nat):ua (w.setCell ⟨b,6,none⟩ (.int .i64 (k:Int))) b iv ch { s with left:=k }/\ah (fun g=>s.role g≠.none) w (w.setCell ⟨b,6,none⟩ (.int .i64 (k:Int))):=by
 have m1:ah (fun g=>g=b) w (w.setCell ⟨b,6,none⟩ (.int .i64 (k:Int))):=(ah.refl (fun g=>g=b) w).setCell (p:=⟨b,6,none⟩) (.inl rfl) _;have nn:∀ {g r},s.role g=r->r≠.none->r≠.walk->(w.setCell ⟨b,6,none⟩ (.int .i64 (k:Int))).heap[g]?=w.heap[g]?:=fun {g r} e h1 h2=>m1.block g (h.lt g (by rw[e];exact h1)) (by rintro rfl;rw[h.rb]at e;exact h2 e.symm)
 refine⟨{ own:=ag h.own 6 _,nums:=(nn h.rnb aD.noConfusion aD.noConfusion).trans h.nums,rlen:=h.rlen,
          row:=fun l v hv=>az (h.row l v hv) fun g hg=>nn (h.rrow l v g hv hg) aD.noConfusion aD.noConfusion,
          order:=az h.order fun g hg=>nn (h.rorder g hg) aD.noConfusion aD.noConfusion,
          data:=h.data.imp id fun⟨h1,h2,h3⟩=>⟨h1,h2,az h3 fun g hg=>nn (h.rdata g hg) aD.noConfusion aD.noConfusion⟩,
          below:=az h.below fun g hg=>nn (h.rbelow g hg) aD.noConfusion aD.noConfusion,
          rb:=h.rb,rnb:=h.rnb,rrow:=h.rrow,rorder:=h.rorder,rdata:=h.rdata,rbelow:=h.rbelow,lt:=fun g hg=>avb (h.lt g hg) m1.size },m1.mono (fun g _ e hn=>by subst e;rw[h.rb]at hn;cases hn)⟩
theorem ua.dated (h:ua w b iv ch s)(x:ay)(hx:x≠[])(FU:Value)(hb:World.blk w1 b (j9 iv (.bool ch) (.slice (some ⟨s.nb,0,none⟩) s.n s.n) s.ov (.pointer (some ⟨b,4,none⟩)) FU (.int .i64 (s.left:Int)) s.bv) 302)(own:bR w1 0 FU (s.D++x))(m:ah (fun g=>g=b\/s.dv.ownBlock=some g) w w1)(at':FU.ownBlock=s.dv.ownBlock\/∃ k,FU.ownBlock=some k/\w.heap.size<=k):
  ua w1 b iv ch { s with pv:=.pointer (some ⟨b,4,none⟩),dv:=FU,D:=s.D++x,role:=nD s.role FU .data }/\iM s.role (nD s.role FU .data) w.heap.size/\ah (fun g=>s.role g≠.none) w w1:=by
 have G:iM s.role (nD s.role FU .data) w.heap.size:=wV h.rdata aD.noConfusion h.lt at';have m2:ah (fun g=>s.role g=.walk\/s.role g=.data) w w1:=m.mono (fun g _ hg=>hg.elim (fun e=>by subst e;exact .inl h.rb) (fun e=>.inr (h.rdata g e)));have nn:∀ {g r},s.role g=r->r≠.none->r≠.walk->r≠.data->w1.heap[g]?=w.heap[g]?:=fun {g r} e h1 h2 h3=>m2.block g (h.lt g (by rw[e];exact h1)) (by rw[e];exact fun hh=>hh.elim h2 h3);have kr:∀ {g r},s.role g=r->r≠.none->nD s.role FU .data g=r:=fun {g r} e hr=>(G.keep g (by rw[e];exact hr)).trans e
 refine⟨{ own:=hb,nums:=(nn h.rnb aD.noConfusion aD.noConfusion aD.noConfusion).trans h.nums,rlen:=h.rlen,
          row:=fun l v hv=>az (h.row l v hv) fun g hg=>nn (h.rrow l v g hv hg) aD.noConfusion aD.noConfusion aD.noConfusion,
          order:=az h.order fun g hg=>nn (h.rorder g hg) aD.noConfusion aD.noConfusion aD.noConfusion,
          data:=.inr ⟨rfl,by simp[hx],own⟩,
          below:=az h.below fun g hg=>nn (h.rbelow g hg) aD.noConfusion aD.noConfusion aD.noConfusion,
          rb:=kr h.rb aD.noConfusion,rnb:=kr h.rnb aD.noConfusion,rrow:=fun l v g hv hg=>kr (h.rrow l v g hv hg) aD.noConfusion,rorder:=fun g hg=>kr (h.rorder g hg) aD.noConfusion,rdata:=fun g hg=>Hw hg,rbelow:=fun g hg=>kr (h.rbelow g hg) aD.noConfusion,
          lt:=fun g hg=>H5 h.lt m2.size (fun g hg=>aT own hg) g hg },G,m2.mono (fun g _ hg hn=>by rcases hg with hg|hg<;>rw[hg]at hn<;>cases hn)⟩
theorem UN {w:World}{base n:Nat}{t:TypeId}{v:Value}{xs:List Value}(h:w.ownsRow base t 1 v n xs){g:Nat}(hg:v.ownBlock=some g)(i:Nat)(_hi:i<xs.length)(x:Value):(w.setCell ⟨g,i,none⟩ x).ownsRow base t 1 v n (xs.set i x):=by
 obtain⟨h1,h2⟩:=h;refine⟨by simpa using h1,?_⟩;rcases h2 with⟨rfl,h3⟩|⟨g',cap,d7,rfl,hb,RO,NA,hm,cV,Ci⟩
 ·cases hg
 ·have:g'=g:=by simpa[Value.ownBlock]using hg
  subst this;refine .inr ⟨g',cap,d7.setIfInBounds i x,rfl,hb,ag (b:=g') RO i x,NA,hm,by simpa using cV,?_⟩;rw[<-Ci,Array.toList_setIfInBounds,List.take_set]
theorem ua.belowed (h:ua w b iv ch s)(j k g:Nat)(hj:j<s.n)(hg:s.bv.ownBlock=some g):ua (w.setCell ⟨g,j,none⟩ (.int .i64 (k:Int))) b iv ch { s with B:=fun i=>if i=j then k else s.B i }/\ah (fun g=>s.role g≠.none) w (w.setCell ⟨g,j,none⟩ (.int .i64 (k:Int))):=by
 have hr:=h.rbelow g hg;have m1:ah (fun x=>x=g) w (w.setCell ⟨g,j,none⟩ (.int .i64 (k:Int))):=(ah.refl (fun x=>x=g) w).setCell (p:=⟨g,j,none⟩) (.inl rfl) _;have nn:∀ {x r},s.role x=r->r≠.none->r≠.below->(w.setCell ⟨g,j,none⟩ (.int .i64 (k:Int))).heap[x]?=w.heap[x]?:=fun {x r} e h1 h2=>m1.block x (h.lt x (by rw[e];exact h1)) (by rintro rfl;rw[hr]at e;exact h2 e.symm);have hb:aN (w.setCell ⟨g,j,none⟩ (.int .i64 (k:Int))) 0 s.bv (gm ((List.range s.n).map fun i=>if i=j then k else s.B i)):=by
  have h1:=UN h.below hg j (by simp[bi,gm];exact hj) (.int .i64 (k:Int));have e:(bi (gm ((List.range s.n).map s.B))).set j (.int .i64 (k:Int))=bi (gm ((List.range s.n).map fun i=>if i=j then k else s.B i)):=by
   apply List.ext_getElem
   ·simp[bi,gm]
   ·intro i h1 h2;simp only[List.getElem_set,bi,gm,List.getElem_map,List.getElem_range];by_cases hij:j=i
    ·subst hij;simp
    ·rw[ava hij,ava (fun e=>hij e.symm)]
  rw[e]at h1;simpa[aN,gm]using h1
 refine⟨{ own:=(nn h.rb aD.noConfusion aD.noConfusion).trans h.own,nums:=(nn h.rnb aD.noConfusion aD.noConfusion).trans h.nums,rlen:=h.rlen,
          row:=fun l v hv=>az (h.row l v hv) fun g hg=>nn (h.rrow l v g hv hg) aD.noConfusion aD.noConfusion,
          order:=az h.order fun g hg=>nn (h.rorder g hg) aD.noConfusion aD.noConfusion,
          data:=h.data.imp id fun⟨h1,h2,h3⟩=>⟨h1,h2,az h3 fun g hg=>nn (h.rdata g hg) aD.noConfusion aD.noConfusion⟩,
          below:=hb,rb:=h.rb,rnb:=h.rnb,rrow:=h.rrow,rorder:=h.rorder,rdata:=h.rdata,rbelow:=h.rbelow,lt:=fun g hg=>avb (h.lt g hg) m1.size },m1.mono (fun x _ e hn=>by subst e;rw[hr]at hn;cases hn)⟩
end
end
end Go.Proofs.YtkghpdcloaiflaaGreatDoor
