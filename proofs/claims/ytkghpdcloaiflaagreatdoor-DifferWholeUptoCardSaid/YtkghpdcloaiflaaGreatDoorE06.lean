import Derived.Test.YtkghpdcloaiflaaGreatDoorE05
import Derived.Laws.CopyRow
set_option maxHeartbeats 4000000
set_option maxRecDepth 100000
namespace Go.Proofs.YtkghpdcloaiflaaGreatDoor
open _root_.Go.Proofs.Tryz
section
open Go.RowKit Go.Maps
theorem Gr (l:List (List UInt8))(i:Nat)(s:List UInt8):(aF l).setIfInBounds i (.string ⟨s.toArray⟩)=aF (l.set i s):=by
 apply Array.ext';simp[aF,List.map_set]
theorem AV {d:Dk}{dz:List (List UInt8)}(hl:dz.length=d.stays.length)(h:∀ m,m<d.stays.length->dz.getD m []=d.get m):dz=d.sync.stays:=by
 apply List.ext_getElem
 ·simp[Dk.sync,hl]
 ·intro i h1 h2;have:=h i (by omega);simp only[List.getD,auB h1,avb]at this;simp[Dk.sync,this]
theorem pO {w:World}{p:Nat}{d:Dk}{F:Nat->Prop}(h:bC w p d F):
  Calls prog 154 #[.pointer (some ⟨p,0,none⟩)] w fun e w'=>e=.returned (.int .i64 0)/\∃ F',bC w' p d.sync F'/\d6 F F' w w':=by
 have S:=hd0 (vY h);obtain⟨sb,mb,xb,ov,st,keep,lo,h⟩:=h;have H:=hd0 h;have c7:w.cell? ⟨p,7,none⟩=some (.bool false):=aa h.own 7;clear h;go_enter func154,ntmps154;go_wp2_with fail;refine S.out.mono ?_;rintro e w1 ⟨rfl,AH,dg,FP⟩;have X1:=H.out.stepped AH dg;rw[<-FP]at X1;have M1:Hid (ah (fun b=>b=p) w w1):=hd0 (by rw[FP];exact(ah.refl (fun b=>b=p) w).setCell (p:=⟨p,4,none⟩) (.inl rfl) _);have HX:=hd0 X1;have d1:w1.cell? ⟨p,1,none⟩=some (.map (some mb)):=aa X1.own 1;have BX:=hd0 dg;clear X1 dg FP c7;go_wp2_with (at_range;refine wpList_range_own _ rfl _ 152 rfl 3 9 (int_keyed underlying3) underlying152 _ mb lo.length (Cp (Lit.int .i64) CY lo) rfl HX.out.loose ?_;intro w2 Fp XK SR)
 go_frame
 have hsb:=HX.out.lt sb HX.out.fs;have ze:=HX.out.lt mb HX.out.fm;have BW:=hd0 Fp;have dO:=hd0 (qI XK);clear Fp XK SR d1;have Xq:∀ m,m<d.stays.length->has (Cp (Lit.int .i64) CY lo) (.int .i64 (m:Int))=false->d.stays.getD m []=d.get m:=fun m hm hl=>by
  rw[pM cN,HX.out.get m]at hl;unfold Dk.get
  cases hq:el d.lo m with
  |none=>rfl
  |some s=>rw[hq]at hl;cases hl
 have Xj:=hd0 Xq;clear Xq
 go_loopw [] (fun wr=>∃(left:Lit->Bool) (j8:Nat) (dz:List (List UInt8)),World.ranges wr prog 3 (plainElem prog 9) mb w1.heap.size lo.length (Cp (Lit.int .i64) CY lo) left j8/\ah (fun b=>b=sb) w1 wr/\World.blk wr sb (aF dz) 9/\Hid (dz.length=d.stays.length/\∀ m,m<d.stays.length->left (.int .i64 (m:Int))=false->dz.getD m []=d.get m)) (fun wr=>wr.rangeLeft mb w1.heap.size)
 case atStart=>exact⟨_,_,d.stays,BW.out,dO.out.mono (fun _ _ h=>h.elim),ab dO.out HX.out.stays id,hd0 ⟨rfl,Xj.out⟩⟩
 case round=>
  clear BW dO Xj;obtain⟨left,j8,dz,TH,hM,hB,Hq⟩:=hrel;have IV:=hd0 TH;have HM:=hd0 hM;have HB:=hd0 hB;clear TH hM hB;go_wp2_with (at_next;refine La vX underlying3 rfl _ rfl w1.heap.size left j8 rfl IV.out ?_ ?_)
  ·intro _ tY;have ahV:Hid (dz=d.sync.stays):=hd0 (AV Hq.out.1 fun m hm=>Hq.out.2 m hm (tY _));have e1:wr.cell? ⟨p,1,none⟩=some (.map (some mb)):=aa (ab HM.out HX.out.own HX.out.apart.1) 1;obtain⟨w3,sH,cw,dh,cK⟩:=(HX.out.loose.mod HM.out (fun e=>HX.out.apart.2.2.2.1 e.symm)).clear (tm:=152) underlying152 0;have WB:=ab dh (ab HM.out HX.out.own HX.out.apart.1) HX.out.apart.2.1;have f2:=ae WB ⟨p,2,none⟩ rfl;have e2:w3.cell? ⟨p,2,none⟩=some ov:=aa WB 2;have yV:=hd0 cw;have BK:=hd0 dh;have aew:=hd0 WB;clear tY cw dh WB
   go_wp2
   go_ret;have hsy:d.sync.size=d.size:=dF d;refine⟨rfl,F,⟨sb,mb,xb,.slice none 0 0,AH,keep,[],?_⟩,?_,fun _ hb=>.inl hb⟩
   ·have m4:ah (fun b=>b=p) w3 (w3.setCell ⟨p,2,none⟩ (.slice none 0 0)):=(ah.refl (fun b=>b=p) w3).setCell (p:=⟨p,2,none⟩) (.inl rfl) _;have mA:ah (fun b=>b=sb\/b=mb) w1 w3:=(HM.out.mono (fun _ _ h=>.inl h)).trans BK.out (fun _ _ h=>.inr h)
    exact { own:=by
             have:=ag aew.out 2 (.slice none 0 0);have e:oQ sb mb xb (.slice none 0 0) AH keep d.sync=oQ sb mb xb (.slice none 0 0) AH keep d:=by unfold oQ;rw[hsy]
             rw[e];exact this,
            stays:=by rw[<-ahV.out];exact ab m4 (ab BK.out HB.out HX.out.apart.2.2.2.1) (fun e=>HX.out.apart.1 e.symm),
            loose:=yV.out.mod m4 (fun e=>HX.out.apart.2.1 e.symm),
            bad:=(HX.out.bad.mod mA (fun e=>e.elim (fun e=>HX.out.apart.2.2.2.2.1 e.symm) (fun e=>HX.out.apart.2.2.2.2.2 e.symm))).mod m4 (fun e=>HX.out.apart.2.2.1 e.symm),
            order:=⟨rfl,.inl ⟨rfl,rfl⟩⟩,ok:=T6 HX.out.ok,get:=fun _=>rfl,keys:=by simp,many:=auE _,steps:=BX.out,fp:=HX.out.fp,fs:=HX.out.fs,fm:=HX.out.fm,fx:=HX.out.fx,fo:=by simp[Value.ownBlock],
            apart:=HX.out.apart,aparto:=by simp[Value.ownBlock],lt:=fun b hb=>auL (HX.out.lt b hb) (aux mA.size m4.size) }
   ·exact(((M1.out.mono (T:=F) (fun i _ e=>by subst e;exact H.out.fp)).trans (HM.out.mono (T:=F) (fun i _ e=>by subst e;exact H.out.fs)) (fun _ _ h=>h)).trans (BK.out.mono (T:=F) (fun i _ e=>by subst e;exact H.out.fm)) (fun _ _ h=>h)).setCell (p:=⟨p,2,none⟩) (.inl H.out.fp) _
  ·intro x c w' sU Cj vz AI hg Fb aL mT sQ hen;have TE:=hg;obtain⟨m,Yk,Kw⟩:=HX.out.keys (x,c) (by
    unfold bF at hg;rw[avM]at hg;obtain⟨y,hy,rfl⟩:=hg;have h1:=avx hy;have h2:=avy hy;have h3:y.1=x:=by simpa using h1
    rw[<-h3];exact h2)
   subst Yk;have Kx:m<d.stays.length:=by
    cases hq:el d.lo m with
    |none=>rw[hq]at Kw;cases Kw
    |some s=>
     unfold el at hq;rw[avM]at hq;obtain⟨y,hy,rfl⟩:=hq;have h1:=avx hy;have h3:y.1=m:=by simpa using h1
     have:=(HX.out.ok.lo y (avy hy)).1;omega
   have hdg:d.get m=c:=by
    have:=HX.out.get m;rw[TE]at this;unfold Dk.get;rw[<-this]
   have oF:Hid (ah (fun b=>b=sb) w1 w'):=hd0 (HM.out.trans mT (fun i hi e=>by subst e;omega));have hB2:=ab mT HB.out (by omega);have e0:w'.cell? ⟨p,0,none⟩=some (.slice (some ⟨sb,0,none⟩) d.size d.size):=aa (ab oF.out HX.out.own HX.out.apart.1) 0;have fs:=ae hB2 ⟨sb,m,none⟩ rfl;have es:w'.cell? ⟨sb,m,none⟩=some (.string ⟨(dz.getD m []).toArray⟩):=by
    rw[aa hB2 m];have:m<dz.length:=by rw[Hq.out.1];exact Kx
    simp[aF,List.getD,this]
   have WD:(m:Int)<(d.size:Int):=by show(m:Int)<(d.stays.length:Int);omega
   have lJ:d.size<=16384:=HX.out.ok.many;have jI:=hd0 hB2;have uO:=hd0 Fb;have Hlt:=hd0 (show sU<j8 from aL);have sS:=hd0 (IV.out.left_eq);have Hdg:=hd0 hdg;have Hq2:Hid ((dz.set m c).length=d.stays.length/\∀ k,k<d.stays.length->(left (.int .i64 (k:Int))&&!(Lit.int .i64 (k:Int)).sameKey (.int .i64 (m:Int)))=false->(dz.set m c).getD k []=d.get k):=hd0 ⟨by simpa using Hq.out.1,fun k hk hl=>by
    by_cases vu:k=m
    ·subst vu;have:k<dz.length:=by rw[Hq.out.1];exact hk
     simp[List.getD,this,hdg]
    ·have h1:(Lit.int .i64 (k:Int)).sameKey (.int .i64 (m:Int))=false:=by rw[cN];simp;omega
     rw[h1]at hl;have h2:=Hq.out.2 k hk (by simpa using hl);simp only[List.getD,List.getElem?_set]at h2 ⊢;rw[auK (fun e=>vu e.symm)];exact h2⟩
   clear AI hg TE Fb aL mT hB2 hdg Kw Kx;go_wp2_with fail;have m5:ah (fun b=>b=sb) w' (w'.setCell ⟨sb,m,none⟩ (.string ⟨c.toArray⟩)):=(ah.refl (fun b=>b=sb) w').setCell (p:=⟨sb,m,none⟩) (.inl rfl) _;have Sh:=hd0 (uO.out.kept (tl m5) (by have:=HX.out.apart.2.2.2.1;simp;omega) (by simp;omega));refine⟨⟨_,sU,dz.set m c,Sh.out,oF.out.setCell (p:=⟨sb,m,none⟩) (.inl rfl) _,by rw[<-Gr];exact ag jI.out m _,Hq2⟩,?_⟩;rw[Sh.out.left_eq,sS.out];exact Hlt.out
end
section
open Go.RowKit Go.Shelf
attribute [local go_sem] auv
def my (x:List UInt8)(n k:Nat):List (List UInt8):=List.replicate k x++List.replicate (n-k) []
theorem AW {P:Program}{ts te:TypeId}(hs:P.underlying ts=some (.slice te))(hi:(P.info? te).map (fun i=>(i.zero,i.size,i.bytes))=some (some (.string ⟨#[]⟩),1,16))(r:Nat)(hr:r<=1000000)(W:World):
  (Instr.makeSlice ts (.int .i64 r) (.int .i64 r)).run P W=.ok (.slice (some ⟨W.heap.size,0,none⟩) r r) (W.alloc (.cells (aF (List.replicate r [])) te)):=by
 obtain⟨i0,hi,nX,mZ,oH⟩:=auO hi;have h:=run_make (P:=P) W ts te i0 (.string ⟨#[]⟩) hs hi nX .i64 .i64 (r:Int) (r:Int) (by omega) (Int.le_refl _) (by rw[oH];omega) (by omega);rw[avc,mZ,Nat.mul_one,rK _ rfl]at h;have e:Array.replicate r (Value.string ⟨#[]⟩)=aF (List.replicate r []):=by
  apply Array.ext';simp[aF]
 rwa [e]at h
theorem rR (w:World)(c c':Array Value)(t:TypeId):(w.alloc (.cells c t)).setRow w.heap.size c'=w.alloc (.cells c' t):=by
 unfold World.setRow World.alloc
 congr 1
 apply Array.ext
 ·simp
 ·intro i h1 h2;simp only[Array.size_modify,Array.size_push]at h1;rw[Array.getElem_modify];by_cases h:i=w.heap.size
  ·subst h;simp
  ·have:i<w.heap.size:=by omega
   simp[Array.getElem_push,this,Ne.symm h]
theorem O9 (w:World)(x:List UInt8)(n k:Nat)(h1:1<=k)(hk:k<n)(ty:TypeId)(m c1 c2:Nat):
  (Builtin.copy_ #[149,149] ty #[.slice (some ⟨w.heap.size,k,none⟩) (n-k) c1,.slice (some ⟨w.heap.size,0,none⟩) k c2]).run prog ((w.alloc (.cells (aF (my x n k)) 9)).drewN m)=.ok (.int .i64 ((min k (n-k):Nat):Int)) ((w.alloc (.cells (aF (my x n (k+min k (n-k)))) 9)).drewN m):=by
 have cK:((w.alloc (.cells (aF (my x n k)) 9)).drewN m).heap[w.heap.size]?=some (.cells (aF (my x n k)) 9 (0,0)):=fQ (aw w _ _) m;have cJ:=run_copy_row (P:=prog) ((w.alloc (.cells (aF (my x n k)) 9)).drewN m) 149 149 ty 9 w.heap.size k (n-k) c1 ⟨w.heap.size,0,none⟩ k c2 (aF (my x n k)) 9 (List.replicate (min k (n-k)) (.string ⟨x.toArray⟩))
  underlying149 (by kernel_rfl) cK (by simp) (fun j v hj=>by
   obtain⟨TC,rfl⟩:j<min k (n-k)/\v=.string ⟨x.toArray⟩:=by
    rw[List.getElem?_replicate]at hj;split at hj
    ·rename_i h;exact⟨h,by injection hj with e;exact e.symm⟩
    ·cases hj
   rw[gA,avm];simp only[World.cell?,cK];have:j<k:=by omega
   simp[aF,my,List.getElem?_append,this]) (by simp[aF,my];omega) (by intro u hu;rw[List.mem_replicate]at hu;rw[hu.2];rfl)
 rw[cJ];have e1:goInt (List.replicate (min k (n-k)) (Value.string ⟨x.toArray⟩)).length=.int .i64 ((min k (n-k):Nat):Int):=by simp[goInt]
 have e2:(((aF (my x n k)).toList.take k)++List.replicate (min k (n-k)) (Value.string ⟨x.toArray⟩)++(aF (my x n k)).toList.drop (k+(List.replicate (min k (n-k)) (Value.string ⟨x.toArray⟩)).length)).toArray=aF (my x n (k+min k (n-k))):=by
  apply Array.ext';simp only[aF,my,List.map_append,List.map_replicate,List.length_replicate];rw[List.take_left' (by simp),List.drop_append,av1 (by simp),au9];simp only[List.length_replicate,List.drop_replicate];rw[List.replicate_append_replicate]
  congr 2
  omega
 rw[e1,e2]
 congr 1
 exact avO (fun W=>World.drewN W m) (rR w _ _ _)
theorem Lh (w:World)(b:Nat)(x:List UInt8)(n:Nat)(h1:1<=n)(hb:World.blk w b #[.string ⟨x.toArray⟩] 9)(ty:TypeId)(c1 c2:Nat):
  (Builtin.copy_ #[149,149] ty #[.slice (some ⟨w.heap.size,0,none⟩) n c1,.slice (some ⟨b,0,none⟩) 1 c2]).run prog (w.alloc (.cells (aF (List.replicate n [])) 9))=.ok (.int .i64 1) (w.alloc (.cells (aF (my x n 1)) 9)):=by
 have cK:(w.alloc (.cells (aF (List.replicate n [])) 9)).heap[w.heap.size]?=some (.cells (aF (List.replicate n [])) 9 (0,0)):=aw w _ _;have fi:=aH hb (.cells (aF (List.replicate n [])) 9);have cJ:=run_copy_row (P:=prog) (w.alloc (.cells (aF (List.replicate n [])) 9)) 149 149 ty 9 w.heap.size 0 n c1 ⟨b,0,none⟩ 1 c2 (aF (List.replicate n [])) 9 [.string ⟨x.toArray⟩]
  underlying149 (by kernel_rfl) cK (by show 1=Nat.min 1 n;exact(Nat.min_eq_left h1).symm) (fun j v hj=>by
   rw[gA,avm,aa fi j];simpa using hj) (by simp[aF];omega) (by intro u hu;simp at hu;rw[hu];rfl)
 rw[cJ];have e2:(((aF (List.replicate n [])).toList.take 0)++[Value.string ⟨x.toArray⟩]++(aF (List.replicate n ([]:List UInt8))).toList.drop (0+[Value.string ⟨x.toArray⟩].length)).toArray=aF (my x n 1):=by
  apply Array.ext';simp[aF,my]
 rw[e2]
 congr 1
 exact rR w _ _ _
theorem Li (w:World)(b:Nat)(x:List UInt8)(n:Nat)(hn:1<=n/\n<=16384)(hb:World.blk w b #[.string ⟨x.toArray⟩] 9):
  Calls prog 94 #[.slice (some ⟨b,0,none⟩) 1 1,.int .i64 (n:Int)] w fun e w'=>e=.returned (.slice (some ⟨w.heap.size,0,none⟩) n n)/\World.blk w' w.heap.size (aF (List.replicate n x)) 9/\af w w'/\w'.heap.size=w.heap.size+1:=by
 have hmu:=hd0 (Tryz.bits_Mul 1 n (by omega) (by omega) w);have e0:(1*n/18446744073709551616:Nat)=0:=by omega
 have e1:(1*n%18446744073709551616:Nat)=n:=by omega
 have oz:=fun W=>AW (P:=prog) underlying149 vU n (by omega) W;go_enter func94,ntmps94;go_wp2_with fail;refine hmu.out.mono ?_;rintro e w' ⟨rfl,rfl⟩;rw[e0,e1];have hbig:¬((n:Int)>9223372036854775807):=by omega
 have AB:=Lh w' b x n hn.1 hb 3 n 1;go_wp2_with fail;clear AB
 go_loopw [8] (fun v wr=>∃ k m:Nat,1<=k/\k<=n/\v=.int .i64 (k:Int)/\wr=(w'.alloc (.cells (aF (my x n k)) 9)).drewN m) (fun v _=>n-(intOf v).toNat)
 case atStart=>exact⟨1,0,by omega,by omega,rfl,rfl⟩
 case round=>
  obtain⟨k,m,hk1,rl,rfl,rfl⟩:=hrel;by_cases aL:k<n
  ·have dN:(k:Int)<(n:Int):=by omega
   have BM:(Builtin.copy_ #[149,149] 3 #[.slice (some ⟨w'.heap.size,k,none⟩) (n-k) (n-k),.slice (some ⟨w'.heap.size,0,none⟩) k n]).run prog ((w'.alloc (.cells (aF (my x n k)) 9)).drewN (m+1))=.ok (.int .i64 ((min k (n-k):Nat):Int)) ((w'.alloc (.cells (aF (my x n (k+min k (n-k)))) 9)).drewN (m+1)):=O9 w' x n k hk1 aL 3 (m+1) (n-k) n;have dW:¬ n=k:=by omega
   have hc3:((n-k:Nat):Int)=(n:Int)-(k:Int):=by omega
   go_wp2_with fail
   go_region
   go_wp2_with fail
   go_roundw
   case rel=>exact⟨k+min k (n-k),m+1,by omega,by omega,by go_num,rfl⟩
   case measure=>simp[intOf];omega
  ·obtain rfl:k=n:=by omega
   go_wp2;go_ret;have e:my x k k=List.replicate k x:=by simp[my]
   rw[e];exact⟨rfl,fQ (aw w' _ _) m,((ah.refl _ w').alloc _).drewN m,by simp[go_sem]⟩
end
section
open Go.RowKit Go.Shelf
attribute [local go_sem] auv
def ib (n:Nat):Dk:=⟨List.replicate n (List.replicate 64 0),[]⟩
theorem Pa {n:Nat}(hn:n<=16384):yD (ib n):=⟨by simp[ib],by simp[ib],by simp[ib],by simpa[ib]using hn⟩
theorem iY (n:Nat):(ib n).size=n:=by simp[ib,Dk.size]
theorem WQ:Lib.repeatL [(0:UInt8)] 64=List.replicate 64 0:=by decide
theorem C7 (w:World)(n:Nat)(hn:1<=n/\n<=16384):
  Calls prog 48 #[.int .i64 (n:Int)] w fun e w'=>∃ p,e=.returned (.tuple #[.pointer (some ⟨p,0,none⟩),.int .i64 0])/\af w w'/\∃ F,bC w' p (ib n) F/\∀ b,F b->w.heap.size<=b:=by
 have R:=hd0 (Tryz.strings_Repeat ⟨[(0:UInt8)].toArray⟩ 64 w (by omega) (by decide));have h1:¬(n:Int)<1:=by omega
 have h2:¬(16384:Int)<(n:Int):=by omega
 have Ju:=@run_makeMap prog;go_enter func48,ntmps48;go_wp2_with fail;refine R.out.mono ?_;rintro e w1 ⟨rfl,hb1⟩;have bU:=hd0 (ah.ofBelow hb1);clear hb1;have er:Lib.repeatL (ByteArray.mk [(0:UInt8)].toArray).data.toList 64=List.replicate 64 0:=WQ;rw[er];generalize hz:List.replicate 64 (0:UInt8)=z0;go_wp2_with fail;refine(Li (w1.alloc (.cells #[.string ⟨z0.toArray⟩] 9)) w1.heap.size z0 n hn (aw w1 _ _)).mono ?_;rintro e w2 ⟨rfl,fi,de,kp⟩;have cK:(w1.alloc (.cells #[.string ⟨z0.toArray⟩] 9)).heap.size=w1.heap.size+1:=by simp
 rw[cK]at fi kp ⊢;obtain⟨nb,Cd⟩:∃ nb,w1.heap.size+1=nb:=⟨_,rfl⟩
 rw[Cd]at fi kp ⊢;have bu:Hid (af w w2):=hd0 ((bU.out.alloc _).trans de (fun _ _ h=>h));have jI:=hd0 fi;have HN:Hid (w.heap.size<=nb/\w2.heap.size=nb+1):=hd0 ⟨by have:=bU.out.size;omega,kp⟩;clear fi de kp cK Cd;go_wp2;go_ret2;obtain⟨Cl,AK⟩:=HN.out;obtain⟨W,hW⟩:∃ W,W=((w2.alloc (.map #[] 0)).alloc (.map #[] 0)).alloc (.cells (oQ nb (nb+1) (nb+2) (.slice none 0 0) 0 [] (ib n)) 155):=⟨_,rfl⟩
 have eW:∀ W',W'=W->∃ p,Ending.returned (.tuple #[.pointer (some ⟨nb+3,0,none⟩),.int .i64 0])=Ending.returned (.tuple #[.pointer (some ⟨p,0,none⟩),.int .i64 0])/\af w W'/\∃ F,bC W' p (ib n) F/\∀ b,F b->w.heap.size<=b:=by
  rintro W' rfl;have m2:af w2 W':=by rw[hW];exact(((ah.refl _ w2).alloc _).alloc _).alloc _
  have s3:W'.heap.size=nb+4:=by rw[hW];simp;omega
  refine⟨nb+3,rfl,bu.out.trans m2 (fun _ _ h=>h),fun b=>b=nb\/b=nb+1\/b=nb+2\/b=nb+3,⟨nb,nb+1,nb+2,.slice none 0 0,0,[],[],?_⟩,fun b hb=>by omega⟩
  exact { own:=by rw[hW];exact ba (by simp;omega) _ _,
          stays:=by
           have e:(ib n).stays=List.replicate n z0:=by rw[<-hz];rfl
           rw[e];exact ab m2 jI.out id,
          loose:=by
           have h1:JH (w2.alloc (.map #[] 0)) w2.heap.size []:=fy.made w2;rw[AK]at h1;rw[hW];exact fy.mod h1 (((ah.refl _ _).alloc _).alloc _:af _ _) id,
          bad:=by
           have h1:JI ((w2.alloc (.map #[] 0)).alloc (.map #[] 0)) (w2.alloc (.map #[] 0)).heap.size []:=fy.made _;have e:(w2.alloc (.map #[] 0)).heap.size=nb+2:=by simp;omega
           rw[e]at h1;rw[hW];exact fy.mod h1 ((ah.refl _ _).alloc _:af _ _) id,
          order:=⟨rfl,.inl ⟨rfl,rfl⟩⟩,ok:=Pa hn.2,get:=fun _=>rfl,keys:=by simp,many:=auE _,steps:=by omega,fp:=by omega,fs:=by omega,fm:=by omega,fx:=by omega,fo:=by simp[Value.ownBlock],
          apart:=by omega,aparto:=by simp[Value.ownBlock],lt:=fun b hb=>by rw[s3];omega }
 simp only[AK];exact eW _ (by rw[hW];unfold oQ;rw[iY])
end
section
open Go.RowKit
abbrev aq (b:Nat):Value:=.pointer (some ⟨b,0,none⟩)
theorem Ua (w:World)(c:Value)(b a1 a2:Nat)(u1 u2:Value)(h2:w.cell? ⟨b,2,none⟩=some (aq a1))(h3:w.cell? ⟨b,3,none⟩=some (aq a2))
  (k1:w.cell? ⟨a1,3,none⟩=some u1) (f1:w.frozen? ⟨a1,3,none⟩=false) (k2:w.cell? ⟨a2,2,none⟩=some u2) (f2:w.frozen? ⟨a2,2,none⟩=false):
  Calls prog 184 #[c,aq b] w fun e w'=>e=.returned (.tuple #[])/\∃ m,w'=((w.setCell ⟨a1,3,none⟩ (aq a2)).setCell ⟨a2,2,none⟩ (aq a1)).drewN m:=by
 go_enter func184,ntmps184;go_wp2_with fail;refine dD 18 (by kernel_rfl) (by kernel_rfl) ?_;simp only[avn,avo,avq,avr]
 repeat (quiet_step (fail))
 refine avt ?_;intro _ cf;obtain⟨nq,rfl⟩:=cf
 go_wp2
 go_end0;exact⟨rfl,nq,rfl⟩
theorem zy (w:World)(c b r n:Nat)(u1 u2 u3:Value)(hc:w.cell? ⟨c,2,none⟩=some (aq r))(hr:w.cell? ⟨r,3,none⟩=some (aq n))(fr:w.frozen? ⟨r,3,none⟩=false)
  (b2:w.cell? ⟨b,2,none⟩=some u1) (fb2:w.frozen? ⟨b,2,none⟩=false) (b3:w.cell? ⟨b,3,none⟩=some u2) (fb3:w.frozen? ⟨b,3,none⟩=false) (n2:w.cell? ⟨n,2,none⟩=some u3) (fn2:w.frozen? ⟨n,2,none⟩=false):
  Calls prog 185 #[aq c,aq b] w fun e w'=>e=.returned (.tuple #[])/\∃ m,w'=((((w.setCell ⟨b,2,none⟩ (aq r)).setCell ⟨b,3,none⟩ (aq n)).setCell ⟨r,3,none⟩ (aq b)).setCell ⟨n,2,none⟩ (aq b)).drewN m:=by
 obtain⟨w1,FP⟩:∃ w1,w1=(w.setCell ⟨b,2,none⟩ (aq r)).setCell ⟨b,3,none⟩ (aq n):=⟨_,rfl⟩
 have e3:w1.cell? ⟨b,3,none⟩=some (aq n):=by
  obtain⟨v,hv⟩:=cell?_setCell_some (p:=⟨b,2,none⟩) (x:=aq r) b3;rw[FP];exact World.cell?_setCell_same' _ _ _ (by rw[hv];rfl)
 have e2:w1.cell? ⟨b,2,none⟩=some (aq r):=by
  rw[FP,World.cell?_setCell_other _ _ _ _ (by simp)];exact World.cell?_setCell_same' _ _ _ (by rw[b2];rfl)
 obtain⟨u4,er⟩:∃ u,w1.cell? ⟨r,3,none⟩=some u:=by
  obtain⟨v,hv⟩:=cell?_setCell_some (p:=⟨b,2,none⟩) (x:=aq r) hr;rw[FP];exact cell?_setCell_some hv
 obtain⟨u5,en⟩:∃ u,w1.cell? ⟨n,2,none⟩=some u:=by
  obtain⟨v,hv⟩:=cell?_setCell_some (p:=⟨b,2,none⟩) (x:=aq r) n2;rw[FP];exact cell?_setCell_some hv
 obtain⟨u6,en2⟩:∃ u,(w1.setCell ⟨r,3,none⟩ (aq b)).cell? ⟨n,2,none⟩=some u:=cell?_setCell_some en;have gr:w1.frozen? ⟨r,3,none⟩=false:=by rw[FP,World.frozen?_setCell,World.frozen?_setCell];exact fr
 have gn:w1.frozen? ⟨n,2,none⟩=false:=by rw[FP,World.frozen?_setCell,World.frozen?_setCell];exact fn2
 obtain⟨u7,eb3⟩:∃ u,(w.setCell ⟨b,2,none⟩ (aq r)).cell? ⟨b,3,none⟩=some u:=cell?_setCell_some b3;have Hw1:=hd0 FP;clear FP;go_enter func185,ntmps185;go_wp2_with fail
 go_region
 go_wp2_with fail
 go_simp
 rw[<-Hw1.out]
 go_region
 go_wp2
 go_end0;exact⟨rfl,2,by rw[Hw1.out];rfl⟩
end
section
open Go.RowKit
def upd {α:Type}(f:Nat->α)(a:Nat)(x:α):Nat->α:=fun b=>if b=a then x else f b
theorem kQ {α:Type}(f:Nat->α)(a:Nat)(x:α):upd f a x a=x:=by simp[upd]
theorem iZ {α:Type}(f:Nat->α){a b:Nat}(x:α)(h:b≠a):upd f a x b=f b:=by simp[upd,h]
def qJ (k:Int)(v:List UInt8)(p n:Value):Array Value:=#[.int .i64 k,.string ⟨v.toArray⟩,p,n]
def jO (w:World)(S:Nat->Prop)(K:Nat->Int)(V:Nat->List UInt8):Prop:=
 ∃ pv nx:Nat->Nat,∀ b,S b->World.blk w b (qJ (K b) (V b) (aq (pv b)) (aq (nx b))) 265/\S (pv b)/\S (nx b)/\0<=K b/\K b<4096
theorem jO.next {w:World}{S:Nat->Prop}{K:Nat->Int}{V:Nat->List UInt8}(h:jO w S K V){a x:Nat}(hx:S x):jO (w.setCell ⟨a,3,none⟩ (aq x)) S K V:=by
 obtain⟨pv,nx,h⟩:=h;refine⟨pv,upd nx a x,fun b hb=>?_⟩;obtain⟨h1,h2,h3,h4⟩:=h b hb;by_cases e:b=a
 ·subst e;rw[kQ];exact⟨ag h1 3 _,h2,hx,h4⟩
 ·rw[iZ _ _ e];exact⟨bE h1 ⟨a,3,none⟩ e _,h2,h3,h4⟩
theorem jO.prev {w:World}{S:Nat->Prop}{K:Nat->Int}{V:Nat->List UInt8}(h:jO w S K V){a x:Nat}(hx:S x):jO (w.setCell ⟨a,2,none⟩ (aq x)) S K V:=by
 obtain⟨pv,nx,h⟩:=h;refine⟨upd pv a x,nx,fun b hb=>?_⟩;obtain⟨h1,h2,h3,h4⟩:=h b hb;by_cases e:b=a
 ·subst e;rw[kQ];exact⟨ag h1 2 _,hx,h3,h4⟩
 ·rw[iZ _ _ e];exact⟨bE h1 ⟨a,2,none⟩ e _,h2,h3,h4⟩
theorem jO.thing {w:World}{S:Nat->Prop}{K:Nat->Int}{V:Nat->List UInt8}(h:jO w S K V)(a:Nat)(s:List UInt8):jO (w.setCell ⟨a,1,none⟩ (.string ⟨s.toArray⟩)) S K (upd V a s):=by
 obtain⟨pv,nx,h⟩:=h;refine⟨pv,nx,fun b hb=>?_⟩;obtain⟨h1,h2,h3,h4⟩:=h b hb;by_cases e:b=a
 ·subst e;rw[kQ];exact⟨ag h1 1 _,h2,h3,h4⟩
 ·rw[iZ _ _ e];exact⟨bE h1 ⟨a,1,none⟩ e _,h2,h3,h4⟩
theorem jO.same {w w':World}{S:Nat->Prop}{K:Nat->Int}{V:Nat->List UInt8}(h:jO w S K V)(m:∀ b,S b->w'.heap[b]?=w.heap[b]?):jO w' S K V:=by
 obtain⟨pv,nx,h⟩:=h;exact⟨pv,nx,fun b hb=>⟨(m b hb).trans (h b hb).1,(h b hb).2⟩⟩
theorem jO.out {w:World}{S:Nat->Prop}{K:Nat->Int}{V:Nat->List UInt8}(h:jO w S K V)(c:Value){b:Nat}(hb:S b):
  Calls prog 184 #[c,aq b] w fun e w'=>e=.returned (.tuple #[])/\jO w' S K V/\ah S w w'/\w'.heap.size=w.heap.size:=by
 have h0:=h;obtain⟨pv,nx,h⟩:=h;obtain⟨h1,h2,h3,_⟩:=h b hb;obtain⟨p1,_⟩:=h (pv b) h2;obtain⟨n1,_⟩:=h (nx b) h3;refine(Ua w c b (pv b) (nx b) _ _ (aa h1 2) (aa h1 3) (aa p1 3) (ae p1 _ rfl) (aa n1 2) (ae n1 _ rfl)).mono ?_;rintro e w' ⟨rfl,m,rfl⟩;refine⟨rfl,?_,(((ah.refl S w).setCell (p:=⟨pv b,3,none⟩) (.inl h2) _).setCell (p:=⟨nx b,2,none⟩) (.inl h3) _).drewN m,by simp[go_sem]⟩;exact((h0.next h3).prev h2).same fun b hb=>rfl
theorem jO.first {w:World}{S:Nat->Prop}{K:Nat->Int}{V:Nat->List UInt8}(h:jO w S K V){c r b:Nat}(hc:w.cell? ⟨c,2,none⟩=some (aq r))(hr:S r)(hb:S b):
  Calls prog 185 #[aq c,aq b] w fun e w'=>e=.returned (.tuple #[])/\jO w' S K V/\ah S w w'/\w'.heap.size=w.heap.size:=by
 have h0:=h;obtain⟨pv,nx,h⟩:=h;obtain⟨r1,r2,r3,_⟩:=h r hr;obtain⟨b1,_⟩:=h b hb;obtain⟨n1,_⟩:=h (nx r) r3;refine(zy w c b r (nx r) _ _ _ hc (aa r1 3) (ae r1 _ rfl) (aa b1 2) (ae b1 _ rfl) (aa b1 3) (ae b1 _ rfl) (aa n1 2) (ae n1 _ rfl)).mono ?_;rintro e w' ⟨rfl,m,rfl⟩;refine⟨rfl,?_,(((((ah.refl S w).setCell (p:=⟨b,2,none⟩) (.inl hb) _).setCell (p:=⟨b,3,none⟩) (.inl hb) _).setCell (p:=⟨r,3,none⟩) (.inl hr) _).setCell (p:=⟨nx r,2,none⟩) (.inl r3) _).drewN m,by simp[go_sem]⟩;exact((((h0.prev hr).next r3).next hb).prev hb).same fun b hb=>rfl
structure i6 (w:World)(c r mb:Nat)(S:Nat->Prop)(K:Nat->Int)(V:Nat->List UInt8)(l:List (Int×Nat))(F:Nat->Prop):Prop where
 own:World.blk w c #[.int .i64 32,.map (some mb),aq r] 262
 of:dG prog 3 w mb l
 ring:jO w S K V
 root:S r
 keys:∀ x∈l,S x.2/\K x.2=x.1
 one:(l.map (·.1)).Nodup
 fc:F c
 fm:F mb
 fs:∀ b,S b->F b
 apart:c≠mb/\¬ S c/\¬ S mb
 lt:∀ b,F b->b<w.heap.size
def gL (w:World)(c:Nat)(M:Int->Option (List UInt8))(F:Nat->Prop):Prop:=∃ r mb S K V l,i6 w c r mb S K V l F/\∀ k,M k=(bF k l).map V
theorem i6.same {w w':World}{c r mb:Nat}{S:Nat->Prop}{K:Nat->Int}{V:Nat->List UInt8}{l:List (Int×Nat)}{F:Nat->Prop}(h:i6 w c r mb S K V l F)(m:fG F w w')(hs:w.heap.size<=w'.heap.size):i6 w' c r mb S K V l F where
 own:=(m c h.fc (h.lt c h.fc)).trans h.own
 of:=by
  obtain⟨es,clock,hb,X,hs,hD⟩:=h.of;exact⟨es,clock,(m mb h.fm (h.lt mb h.fm)).trans hb,X,hs,hD⟩
 ring:=h.ring.same fun b hb=>m b (h.fs b hb) (h.lt b (h.fs b hb))
 root:=h.root
 keys:=h.keys
 one:=h.one
 fc:=h.fc
 fm:=h.fm
 fs:=h.fs
 apart:=h.apart
 lt b hb:=auL (h.lt b hb) hs
theorem gL.same {w w':World}{c:Nat}{M:Int->Option (List UInt8)}{F:Nat->Prop}(h:gL w c M F)(m:fG F w w')(hs:w.heap.size<=w'.heap.size):gL w' c M F:=by
 obtain⟨r,mb,S,K,V,l,h,hM⟩:=h;exact⟨r,mb,S,K,V,l,h.same m hs,hM⟩
theorem i6.turn {w w':World}{c r mb:Nat}{S:Nat->Prop}{K:Nat->Int}{V V':Nat->List UInt8}{l:List (Int×Nat)}{F:Nat->Prop}(h:i6 w c r mb S K V l F)(m:ah S w w')(hR:jO w' S K V'):i6 w' c r mb S K V' l F where
 own:=ab m h.own h.apart.2.1
 of:=dG.mod h.of m h.apart.2.2
 ring:=hR
 root:=h.root
 keys:=h.keys
 one:=h.one
 fc:=h.fc
 fm:=h.fm
 fs:=h.fs
 apart:=h.apart
 lt b hb:=auL (h.lt b hb) m.size
theorem oR {β:Type}{k:Int}{x:β}{l:List (Int×β)}(h:bF k l=some x):(k,x)∈l:=by
 unfold bF at h;rw[avM]at h;obtain⟨y,hy,rfl⟩:=h;have h1:=avx hy;have h3:y.1=k:=by simpa using h1
 rw[<-h3];exact avy hy
theorem qK (W:World):(zeroValue 258).run prog W=.ok (.pointer none) W:=by kernel_rfl
theorem Pd {w:World}{c:Nat}{M:Int->Option (List UInt8)}{F:Nat->Prop}(h:gL w c M F)(k:Int)(hk:0<=k/\k<4096):
  Calls prog 107 #[aq c,.int .i64 k] w fun e w'=>e=.returned (.tuple #[.string ⟨((M k).getD []).toArray⟩,.bool (M k).isSome])/\gL w' c M F/\d6 F F w w':=by
 obtain⟨r,mb,S,K,V,l,h,hM⟩:=h;have H:=hd0 h;have HM:=hd0 hM;have c1:w.cell? ⟨c,1,none⟩=some (.map (some mb)):=aa h.own 1;have lk:=dG.look (tm:=260) h.of underlying260 underlying3 (qK w) k ⟨by omega,by omega⟩;obtain⟨q,hq⟩:∃ q,bF k l=q:=⟨_,rfl⟩
 have Hq:=hd0 hq;rw[hq]at lk
 cases q with
 |none=>
  have Hr:Hid (M k=none):=hd0 (by rw[hM,hq];rfl);clear h hM hq;go_enter func107,ntmps107
  go_wp2
  go_ret2;exact⟨by rw[Hr.out];rfl,⟨r,mb,S,K,V,l,H.out,HM.out⟩,d6.refl _ _⟩
 |some b=>
  have hb:=h.keys _ (oR hq);have Hb:=hd0 hb.1;have Hr:Hid (M k=some (V b)):=hd0 (by rw[hM,hq];rfl);have O:=hd0 (h.ring.out (aq c) hb.1);clear h hM hq hb;go_enter func107,ntmps107;go_wp2_with fail;refine O.out.mono ?_;rintro e w1 ⟨rfl,Yj,mT,_⟩;have H1:=hd0 (H.out.turn mT Yj);have yB:=hd0 mT;clear Yj mT;go_wp2_with fail;refine(H1.out.ring.first (aa H1.out.own 2) H.out.root Hb.out).mono ?_;rintro e w2 ⟨rfl,RI,gV,_⟩;have H2:=hd0 (H1.out.turn gV RI);have oF:=hd0 (yB.out.trans gV fun _ _ h=>h);have e1:w2.cell? ⟨b,1,none⟩=some (.string ⟨(V b).toArray⟩):=by
   obtain⟨pv,nx,hr⟩:=RI;exact aa (hr b Hb.out).1 1
  clear RI gV
  go_wp2
  go_ret2;exact⟨by rw[Hr.out];rfl,⟨r,mb,S,K,V,l,H2.out,HM.out⟩,oF.out.mono (fun i _ h=>H.out.fs i h),fun _ h=>.inl h⟩
end
section
open Go.RowKit
theorem Lj {β:Type}(k m:Int)(l:List (Int×β)):bF m (gm k l)=if m=k then none else bF m l:=by
 unfold bF gm;rw[List.find?_filter];split
 ·rename_i h
  subst h;rw[Option.map_eq_none_iff,avA];intro x _;simp
 ·rename_i hm
  congr 1
  congr 1
  funext x
  by_cases hx:x.1=m
  ·simp[hx,hm]
  ·simp[hx]
theorem C8 {β:Type}{k:Int}{l:List (Int×β)}(h:(l.map (·.1)).Nodup):((gm k l).map (·.1)).Nodup:=List.Nodup.sublist (List.Sublist.map _ List.filter_sublist) h
theorem C9 {β:Type}(x:Int×β)(l:List (Int×β)):(jN j6 x l).Perm (x::l):=by
 induction l with
 |nil=>exact List.Perm.refl _
 |cons y r ih=>
  unfold jN;split
  ·exact List.Perm.refl _
  ·exact(List.Perm.cons y ih).trans (List.Perm.swap x y r)
theorem Pe {β:Type}{k:Int}{s:β}{l:List (Int×β)}(h:(l.map (·.1)).Nodup):((em j6 k s l).map (·.1)).Nodup:=by
 have hp:=(C9 (k,s) (gm k l)).map (·.1);refine hp.nodup_iff.2 ?_;rw[auy,List.nodup_cons];refine⟨fun hm=>?_,C8 h⟩;obtain⟨x,hx,e⟩:=au6.1 hm;have:=(auw.1 hx).2;simp at this;exact this e
theorem Ub {β:Type}{k:Int}{s:β}{l:List (Int×β)}{x:Int×β}(h:x∈em j6 k s l):x=(k,s)\/(x∈l/\x.1≠k):=by
 rcases auX.1 ((C9 (k,s) (gm k l)).mem_iff.1 h)with h|h
 ·exact .inl h
 ·exact .inr ⟨(auw.1 h).1,by simpa using(auw.1 h).2⟩
theorem Lk {l:List (Int×Nat)}(h:(l.map (·.1)).Nodup)(hk:∀ x∈l,0<=x.1/\x.1<4096):l.length<=4096:=by
 have hn:(l.map fun x=>x.1.toNat).Nodup:=by
  have:=List.Pairwise.map (S:=fun(a b:Nat)=>a≠b) Int.toNat (R:=fun(a b:Int)=>0<=a/\0<=b/\a≠b) (fun a b Og e=>Og.2.2 (by omega)) (l:=l.map (·.1)) (by
   refine List.Pairwise.imp_of_mem (R:=fun a b=>a≠b) (fun {a b} ha hb Og=>?_) h;obtain⟨x,hx,rfl⟩:=au6.1 ha;obtain⟨y,hy,rfl⟩:=au6.1 hb;exact⟨(hk x hx).1,(hk y hy).1,Og⟩)
  show List.Pairwise (fun a b=>a≠b) _;simpa[au0,Function.comp_def]using this
 have:=pL hn (b:=List.range 4096) (fun x hx=>by
  obtain⟨y,hy,rfl⟩:=au6.1 hx;have:=hk y hy;rw[avw];omega)
 simpa using this
theorem i6.range {w:World}{c r mb:Nat}{S:Nat->Prop}{K:Nat->Int}{V:Nat->List UInt8}{l:List (Int×Nat)}{F:Nat->Prop}(h:i6 w c r mb S K V l F):∀ x∈l,0<=x.1/\x.1<4096:=by
 intro x hx;obtain⟨h1,h2⟩:=h.keys x hx;obtain⟨pv,nx,hr⟩:=h.ring;have:=(hr _ h1).2.2.2;rw[<-h2];exact this
theorem YF {w:World}{c r mb:Nat}{S:Nat->Prop}{K:Nat->Int}{V:Nat->List UInt8}{l:List (Int×Nat)}{F:Nat->Prop}(h:i6 w c r mb S K V l F)(k:Int)(hk:0<=k/\k<4096):
  Calls prog 189 #[aq c,.int .i64 k] w fun e w'=>(∃ v,e=.returned v)/\(∃ l',i6 w' c r mb S K V l' F/\∀ j,bF j l'=if j=k then none else bF j l)/\ah F w w'/\w'.heap.size=w.heap.size:=by
 have H:=hd0 h;have c1:w.cell? ⟨c,1,none⟩=some (.map (some mb)):=aa h.own 1;have lk:=dG.look (tm:=260) h.of underlying260 underlying3 (qK w) k ⟨by omega,by omega⟩;obtain⟨q,hq⟩:∃ q,bF k l=q:=⟨_,rfl⟩
 have Hq:=hd0 hq;rw[hq]at lk
 cases q with
 |none=>
  clear h hq;go_enter func189,ntmps189
  go_wp2
  go_ret;exact⟨⟨_,rfl⟩,⟨l,H.out,fun j=>by split;rename_i e;rw[e];exact Hq.out;rfl⟩,ah.refl _ _,rfl⟩
 |some b=>
  have hb:=h.keys _ (oR hq);have Hb:=hd0 hb.1;have O:=hd0 (h.ring.out (aq c) hb.1);clear h hq hb;go_enter func189,ntmps189;go_wp2_with fail;refine O.out.mono ?_;rintro e w1 ⟨rfl,Yj,mT,mZ⟩;have X1:=H.out.turn mT Yj;have H1:=hd0 X1;have yB:=hd0 mT;have Hz1:=hd0 mZ;have d1:w1.cell? ⟨c,1,none⟩=some (.map (some mb)):=aa X1.own 1;obtain⟨w2,hr,KM,dh⟩:=dG.drop (tm:=260) X1.of underlying260 underlying3 k ⟨by omega,by omega⟩ 0;have oH:w2.heap.size=w1.heap.size:=by
   obtain⟨w3,KT,_,_,hz⟩:=fy.drop (P:=prog) (tk:=3) (R:=jr) (ef:=yF) X1.of (tm:=260) underlying260 underlying3 k ⟨by omega,by omega⟩ 0;rw[hr]at KT;injection KT with _ e3;rw[e3];exact hz
  have Hof:=hd0 KM;have BK:=hd0 dh;have Hz2:=hd0 oH;clear Yj mT mZ X1 KM dh oH
  go_wp2
  go_ret;refine⟨⟨_,rfl⟩,⟨gm k l,?_,fun j=>Lj k j l⟩,((yB.out.mono (fun i _ h=>H.out.fs i h)).trans (BK.out.mono (T:=F) (fun i _ e=>by subst e;exact H.out.fm)) (fun _ _ h=>h)),by rw[Hz2.out,Hz1.out]⟩
  exact { own:=ab BK.out H1.out.own H1.out.apart.1,of:=Hof.out,ring:=H1.out.ring.same fun b hb=>BK.out.block b (H1.out.lt b (H1.out.fs b hb)) (fun e=>H1.out.apart.2.2 (e▸hb)),root:=H1.out.root,
          keys:=fun x hx=>H1.out.keys x (auw.1 hx).1,one:=C8 H1.out.one,fc:=H1.out.fc,fm:=H1.out.fm,fs:=H1.out.fs,apart:=H1.out.apart,lt:=fun b hb=>by rw[Hz2.out];exact H1.out.lt b hb }
end
end Go.Proofs.YtkghpdcloaiflaaGreatDoor
