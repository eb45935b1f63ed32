import Derived.Test.YtkghpdcloaiflaaGreatDoorB05
import Derived.Laws.CopyRow
set_option maxHeartbeats 4000000
set_option maxRecDepth 100000
namespace Go.Proofs.YtkghpdcloaiflaaGreatDoor
open _root_.Go.Proofs.Tryz
section
open Go.RowKit Go.Maps
theorem Gs (l:List (List UInt8))(i:Nat)(s:List UInt8):(aE l).setIfInBounds i (.string ⟨s.toArray⟩)=aE (l.set i s):=by
 apply Array.ext';simp[aE,List.map_set]
theorem AS {d:Dk}{d7:List (List UInt8)}(hl:d7.length=d.stays.length)(h:∀ m,m<d.stays.length->d7.getD m []=d.get m):d7=d.sync.stays:=by
 apply List.ext_getElem
 ·simp[Dk.sync,hl]
 ·intro i h1 h2;have:=h i (by omega);simp only[List.getD,au1 h1,avC]at this;simp[Dk.sync,this]
theorem pK {w:World}{p:Nat}{d:Dk}{F:Nat->Prop}(h:bC w p d F):
  Calls prog 154 #[.pointer (some ⟨p,0,none⟩)] w fun e w'=>e=.returned (.int .i64 0)/\∃ F',bC w' p d.sync F'/\dX F F' w w':=by
 have S:=hd0 (vN h);obtain⟨sb,mb,xb,ov,st,keep,lo,h⟩:=h;have H:=hd0 h;have c7:w.cell? ⟨p,7,none⟩=some (.bool false):=aa h.own 7;clear h;go_enter func154,ntmps154;go_wp2_with fail;refine S.out.mono ?_;rintro e w1 ⟨rfl,AH,dr,Cq⟩;have X1:=H.out.stepped AH dr;rw[<-Cq]at X1;have M1:Hid (ah (fun b=>b=p) w w1):=hd0 (by rw[Cq];exact(ah.refl (fun b=>b=p) w).setCell (p:=⟨p,4,none⟩) (.inl rfl) _);have HX:=hd0 X1;have d1:w1.cell? ⟨p,1,none⟩=some (.map (some mb)):=aa X1.own 1;have Ce:=hd0 dr;clear X1 dr Cq c7;go_wp2_with (at_range;refine wpList_range_own _ rfl _ 152 rfl 3 9 (int_keyed underlying3) underlying152 _ mb lo.length (Cm (Lit.int .i64) CR lo) rfl HX.out.loose ?_;intro w2 Fo Ys WE)
 go_frame
 have hsb:=HX.out.lt sb HX.out.fs;have yR:=HX.out.lt mb HX.out.fm;have Cl:=hd0 Fo;have dT:=hd0 (qF Ys);clear Fo Ys WE d1;have XJ:∀ m,m<d.stays.length->has (Cm (Lit.int .i64) CR lo) (.int .i64 (m:Int))=false->d.stays.getD m []=d.get m:=fun m hm hl=>by
  rw[pI cN,HX.out.get m]at hl;unfold Dk.get
  cases hq:eh d.lo m with
  |none=>rfl
  |some s=>rw[hq]at hl;cases hl
 have Xn:=hd0 XJ;clear XJ
 go_loopw [] (fun wr=>∃(left:Lit->Bool) (j6:Nat) (d7:List (List UInt8)),World.ranges wr prog 3 (plainElem prog 9) mb w1.heap.size lo.length (Cm (Lit.int .i64) CR lo) left j6/\ah (fun b=>b=sb) w1 wr/\World.blk wr sb (aE d7) 9/\Hid (d7.length=d.stays.length/\∀ m,m<d.stays.length->left (.int .i64 (m:Int))=false->d7.getD m []=d.get m)) (fun wr=>wr.rangeLeft mb w1.heap.size)
 case atStart=>exact⟨_,_,d.stays,Cl.out,dT.out.mono (fun _ _ h=>h.elim),ab dT.out HX.out.stays id,hd0 ⟨rfl,Xn.out⟩⟩
 case round=>
  clear Cl dT Xn;obtain⟨left,j6,d7,TZ,hM,hB,Hq⟩:=hrel;have Jg:=hd0 TZ;have HM:=hd0 hM;have HB:=hd0 hB;clear TZ hM hB;go_wp2_with (at_next;refine KW vM underlying3 rfl _ rfl w1.heap.size left j6 rfl Jg.out ?_ ?_)
  ·intro _ yz;have ajd:Hid (d7=d.sync.stays):=hd0 (AS Hq.out.1 fun m hm=>Hq.out.2 m hm (yz _));have e1:wr.cell? ⟨p,1,none⟩=some (.map (some mb)):=aa (ab HM.out HX.out.own HX.out.apart.1) 1;obtain⟨w3,uZ,cr,dF,cV⟩:=(HX.out.loose.mod HM.out (fun e=>HX.out.apart.2.2.2.1 e.symm)).clear (tm:=152) underlying152 0;have WM:=ab dF (ab HM.out HX.out.own HX.out.apart.1) HX.out.apart.2.1;have f2:=ae WM ⟨p,2,none⟩ rfl;have e2:w3.cell? ⟨p,2,none⟩=some ov:=aa WM 2;have ze:=hd0 cr;have BO:=hd0 dF;have afT:=hd0 WM;clear yz cr dF WM
   go_wp2
   go_ret;have hsy:d.sync.size=d.size:=dC d;refine⟨rfl,F,⟨sb,mb,xb,.slice none 0 0,AH,keep,[],?_⟩,?_,fun _ hb=>.inl hb⟩
   ·have m4:ah (fun b=>b=p) w3 (w3.setCell ⟨p,2,none⟩ (.slice none 0 0)):=(ah.refl (fun b=>b=p) w3).setCell (p:=⟨p,2,none⟩) (.inl rfl) _;have mA:ah (fun b=>b=sb\/b=mb) w1 w3:=(HM.out.mono (fun _ _ h=>.inl h)).trans BO.out (fun _ _ h=>.inr h)
    exact { own:=by
             have:=ag afT.out 2 (.slice none 0 0);have e:oJ sb mb xb (.slice none 0 0) AH keep d.sync=oJ sb mb xb (.slice none 0 0) AH keep d:=by unfold oJ;rw[hsy]
             rw[e];exact this,
            stays:=by rw[<-ajd.out];exact ab m4 (ab BO.out HB.out HX.out.apart.2.2.2.1) (fun e=>HX.out.apart.1 e.symm),
            loose:=ze.out.mod m4 (fun e=>HX.out.apart.2.1 e.symm),
            bad:=(HX.out.bad.mod mA (fun e=>e.elim (fun e=>HX.out.apart.2.2.2.2.1 e.symm) (fun e=>HX.out.apart.2.2.2.2.2 e.symm))).mod m4 (fun e=>HX.out.apart.2.2.1 e.symm),
            order:=⟨rfl,.inl ⟨rfl,rfl⟩⟩,ok:=Ua HX.out.ok,get:=fun _=>rfl,keys:=by simp,many:=au4 _,steps:=Ce.out,fp:=HX.out.fp,fs:=HX.out.fs,fm:=HX.out.fm,fx:=HX.out.fx,fo:=by simp[Value.ownBlock],
            apart:=HX.out.apart,aparto:=by simp[Value.ownBlock],lt:=fun b hb=>avb (HX.out.lt b hb) (auX mA.size m4.size) }
   ·exact(((M1.out.mono (T:=F) (fun i _ e=>by subst e;exact H.out.fp)).trans (HM.out.mono (T:=F) (fun i _ e=>by subst e;exact H.out.fs)) (fun _ _ h=>h)).trans (BO.out.mono (T:=F) (fun i _ e=>by subst e;exact H.out.fm)) (fun _ _ h=>h)).setCell (p:=⟨p,2,none⟩) (.inl H.out.fp) _
  ·intro x c w' sG Cj vd AE hg Fs aL ik sM hen;have Yu:=hg;obtain⟨m,XP,Sg⟩:=HX.out.keys (x,c) (by
    unfold bF at hg;rw[awc]at hg;obtain⟨y,hy,rfl⟩:=hg;have h1:=avX hy;have h2:=avY hy;have h3:y.1=x:=by simpa using h1
    rw[<-h3];exact h2)
   subst XP;have KD:m<d.stays.length:=by
    cases hq:eh d.lo m with
    |none=>rw[hq]at Sg;cases Sg
    |some s=>
     unfold eh at hq;rw[awc]at hq;obtain⟨y,hy,rfl⟩:=hq;have h1:=avX hy;have h3:y.1=m:=by simpa using h1
     have:=(HX.out.ok.lo y (avY hy)).1;omega
   have hdg:d.get m=c:=by
    have:=HX.out.get m;rw[Yu]at this;unfold Dk.get;rw[<-this]
   have ft:Hid (ah (fun b=>b=sb) w1 w'):=hd0 (HM.out.trans ik (fun i hi e=>by subst e;omega));have hB2:=ab ik HB.out (by omega);have e0:w'.cell? ⟨p,0,none⟩=some (.slice (some ⟨sb,0,none⟩) d.size d.size):=aa (ab ft.out HX.out.own HX.out.apart.1) 0;have fs:=ae hB2 ⟨sb,m,none⟩ rfl;have es:w'.cell? ⟨sb,m,none⟩=some (.string ⟨(d7.getD m []).toArray⟩):=by
    rw[aa hB2 m];have:m<d7.length:=by rw[Hq.out.1];exact KD
    simp[aE,List.getD,this]
   have R4:(m:Int)<(d.size:Int):=by show(m:Int)<(d.stays.length:Int);omega
   have lB:d.size<=16384:=HX.out.ok.many;have lW:=hd0 hB2;have uH:=hd0 Fs;have Hlt:=hd0 (show sG<j6 from aL);have sC:=hd0 (Jg.out.left_eq);have Hdg:=hd0 hdg;have Hq2:Hid ((d7.set m c).length=d.stays.length/\∀ k,k<d.stays.length->(left (.int .i64 (k:Int))&&!(Lit.int .i64 (k:Int)).sameKey (.int .i64 (m:Int)))=false->(d7.set m c).getD k []=d.get k):=hd0 ⟨by simpa using Hq.out.1,fun k hk hl=>by
    by_cases ve:k=m
    ·subst ve;have:k<d7.length:=by rw[Hq.out.1];exact hk
     simp[List.getD,this,hdg]
    ·have h1:(Lit.int .i64 (k:Int)).sameKey (.int .i64 (m:Int))=false:=by rw[cN];simp;omega
     rw[h1]at hl;have h2:=Hq.out.2 k hk (by simpa using hl);simp only[List.getD,List.getElem?_set]at h2 ⊢;rw[ava (fun e=>ve e.symm)];exact h2⟩
   clear AE hg Yu Fs aL ik hB2 hdg Sg KD;go_wp2_with fail;have m5:ah (fun b=>b=sb) w' (w'.setCell ⟨sb,m,none⟩ (.string ⟨c.toArray⟩)):=(ah.refl (fun b=>b=sb) w').setCell (p:=⟨sb,m,none⟩) (.inl rfl) _;have RS:=hd0 (uH.out.kept (sS m5) (by have:=HX.out.apart.2.2.2.1;simp;omega) (by simp;omega));refine⟨⟨_,sG,d7.set m c,RS.out,ft.out.setCell (p:=⟨sb,m,none⟩) (.inl rfl) _,by rw[<-Gs];exact ag lW.out m _,Hq2⟩,?_⟩;rw[RS.out.left_eq,sC.out];exact Hlt.out
end
section
open Go.RowKit Go.Shelf
attribute [local go_sem] auV
def mr (x:List UInt8)(n k:Nat):List (List UInt8):=List.replicate k x++List.replicate (n-k) []
theorem AT {P:Program}{ts te:TypeId}(hs:P.underlying ts=some (.slice te))(hi:(P.info? te).map (fun i=>(i.zero,i.size,i.bytes))=some (some (.string ⟨#[]⟩),1,16))(r:Nat)(hr:r<=1000000)(W:World):
  (Instr.makeSlice ts (.int .i64 r) (.int .i64 r)).run P W=.ok (.slice (some ⟨W.heap.size,0,none⟩) r r) (W.alloc (.cells (aE (List.replicate r [])) te)):=by
 obtain⟨i0,hi,ow,nO,oA⟩:=ave hi;have h:=run_make (P:=P) W ts te i0 (.string ⟨#[]⟩) hs hi ow .i64 .i64 (r:Int) (r:Int) (by omega) (Int.le_refl _) (by rw[oA];omega) (by omega);rw[avD,nO,Nat.mul_one,rB _ rfl]at h;have e:Array.replicate r (Value.string ⟨#[]⟩)=aE (List.replicate r []):=by
  apply Array.ext';simp[aE]
 rwa [e]at h
theorem rJ (w:World)(c c':Array Value)(t:TypeId):(w.alloc (.cells c t)).setRow w.heap.size c'=w.alloc (.cells c' t):=by
 unfold World.setRow World.alloc
 congr 1
 apply Array.ext
 ·simp
 ·intro i h1 h2;simp only[Array.size_modify,Array.size_push]at h1;rw[Array.getElem_modify];by_cases h:i=w.heap.size
  ·subst h;simp
  ·have:i<w.heap.size:=by omega
   simp[Array.getElem_push,this,Ne.symm h]
theorem O7 (w:World)(x:List UInt8)(n k:Nat)(h1:1<=k)(hk:k<n)(ty:TypeId)(m c1 c2:Nat):
  (Builtin.copy_ #[149,149] ty #[.slice (some ⟨w.heap.size,k,none⟩) (n-k) c1,.slice (some ⟨w.heap.size,0,none⟩) k c2]).run prog ((w.alloc (.cells (aE (mr x n k)) 9)).drewN m)=.ok (.int .i64 ((min k (n-k):Nat):Int)) ((w.alloc (.cells (aE (mr x n (k+min k (n-k)))) 9)).drewN m):=by
 have cV:((w.alloc (.cells (aE (mr x n k)) 9)).drewN m).heap[w.heap.size]?=some (.cells (aE (mr x n k)) 9 (0,0)):=cf (av w _ _) m;have cI:=run_copy_row (P:=prog) ((w.alloc (.cells (aE (mr x n k)) 9)).drewN m) 149 149 ty 9 w.heap.size k (n-k) c1 ⟨w.heap.size,0,none⟩ k c2 (aE (mr x n k)) 9 (List.replicate (min k (n-k)) (.string ⟨x.toArray⟩))
  underlying149 (by kernel_rfl) cV (by simp) (fun j v hj=>by
   obtain⟨TY,rfl⟩:j<min k (n-k)/\v=.string ⟨x.toArray⟩:=by
    rw[List.getElem?_replicate]at hj;split at hj
    ·rename_i h;exact⟨h,by injection hj with e;exact e.symm⟩
    ·cases hj
   rw[io,avN];simp only[World.cell?,cV];have:j<k:=by omega
   simp[aE,mr,List.getElem?_append,this]) (by simp[aE,mr];omega) (by intro u hu;rw[List.mem_replicate]at hu;rw[hu.2];rfl)
 rw[cI];have e1:goInt (List.replicate (min k (n-k)) (Value.string ⟨x.toArray⟩)).length=.int .i64 ((min k (n-k):Nat):Int):=by simp[goInt]
 have e2:(((aE (mr x n k)).toList.take k)++List.replicate (min k (n-k)) (Value.string ⟨x.toArray⟩)++(aE (mr x n k)).toList.drop (k+(List.replicate (min k (n-k)) (Value.string ⟨x.toArray⟩)).length)).toArray=aE (mr x n (k+min k (n-k))):=by
  apply Array.ext';simp only[aE,mr,List.map_append,List.map_replicate,List.length_replicate];rw[List.take_left' (by simp),List.drop_append,awq (by simp),avA];simp only[List.length_replicate,List.drop_replicate];rw[List.replicate_append_replicate]
  congr 2
  omega
 rw[e1,e2]
 congr 1
 exact awe (fun W=>World.drewN W m) (rJ w _ _ _)
theorem Lc (w:World)(b:Nat)(x:List UInt8)(n:Nat)(h1:1<=n)(hb:World.blk w b #[.string ⟨x.toArray⟩] 9)(ty:TypeId)(c1 c2:Nat):
  (Builtin.copy_ #[149,149] ty #[.slice (some ⟨w.heap.size,0,none⟩) n c1,.slice (some ⟨b,0,none⟩) 1 c2]).run prog (w.alloc (.cells (aE (List.replicate n [])) 9))=.ok (.int .i64 1) (w.alloc (.cells (aE (mr x n 1)) 9)):=by
 have cV:(w.alloc (.cells (aE (List.replicate n [])) 9)).heap[w.heap.size]?=some (.cells (aE (List.replicate n [])) 9 (0,0)):=av w _ _;have eV:=aF hb (.cells (aE (List.replicate n [])) 9);have cI:=run_copy_row (P:=prog) (w.alloc (.cells (aE (List.replicate n [])) 9)) 149 149 ty 9 w.heap.size 0 n c1 ⟨b,0,none⟩ 1 c2 (aE (List.replicate n [])) 9 [.string ⟨x.toArray⟩]
  underlying149 (by kernel_rfl) cV (by show 1=Nat.min 1 n;exact(Nat.min_eq_left h1).symm) (fun j v hj=>by
   rw[io,avN,aa eV j];simpa using hj) (by simp[aE];omega) (by intro u hu;simp at hu;rw[hu];rfl)
 rw[cI];have e2:(((aE (List.replicate n [])).toList.take 0)++[Value.string ⟨x.toArray⟩]++(aE (List.replicate n ([]:List UInt8))).toList.drop (0+[Value.string ⟨x.toArray⟩].length)).toArray=aE (mr x n 1):=by
  apply Array.ext';simp[aE,mr]
 rw[e2]
 congr 1
 exact rJ w _ _ _
theorem Ld (w:World)(b:Nat)(x:List UInt8)(n:Nat)(hn:1<=n/\n<=16384)(hb:World.blk w b #[.string ⟨x.toArray⟩] 9):
  Calls prog 94 #[.slice (some ⟨b,0,none⟩) 1 1,.int .i64 (n:Int)] w fun e w'=>e=.returned (.slice (some ⟨w.heap.size,0,none⟩) n n)/\World.blk w' w.heap.size (aE (List.replicate n x)) 9/\af w w'/\w'.heap.size=w.heap.size+1:=by
 have hmu:=hd0 (Tryz.bits_Mul 1 n (by omega) (by omega) w);have e0:(1*n/18446744073709551616:Nat)=0:=by omega
 have e1:(1*n%18446744073709551616:Nat)=n:=by omega
 have oe:=fun W=>AT (P:=prog) underlying149 vJ n (by omega) W;go_enter func94,ntmps94;go_wp2_with fail;refine hmu.out.mono ?_;rintro e w' ⟨rfl,rfl⟩;rw[e0,e1];have hbig:¬((n:Int)>9223372036854775807):=by omega
 have AF:=Lc w' b x n hn.1 hb 3 n 1;go_wp2_with fail;clear AF
 go_loopw [8] (fun v wr=>∃ k m:Nat,1<=k/\k<=n/\v=.int .i64 (k:Int)/\wr=(w'.alloc (.cells (aE (mr x n k)) 9)).drewN m) (fun v _=>n-(intOf v).toNat)
 case atStart=>exact⟨1,0,by omega,by omega,rfl,rfl⟩
 case round=>
  obtain⟨k,m,hk1,rt,rfl,rfl⟩:=hrel;by_cases aL:k<n
  ·have dU:(k:Int)<(n:Int):=by omega
   have BJ:(Builtin.copy_ #[149,149] 3 #[.slice (some ⟨w'.heap.size,k,none⟩) (n-k) (n-k),.slice (some ⟨w'.heap.size,0,none⟩) k n]).run prog ((w'.alloc (.cells (aE (mr x n k)) 9)).drewN (m+1))=.ok (.int .i64 ((min k (n-k):Nat):Int)) ((w'.alloc (.cells (aE (mr x n (k+min k (n-k)))) 9)).drewN (m+1)):=O7 w' x n k hk1 aL 3 (m+1) (n-k) n;have dV:¬ n=k:=by omega
   have hc3:((n-k:Nat):Int)=(n:Int)-(k:Int):=by omega
   go_wp2_with fail
   go_region
   go_wp2_with fail
   go_roundw
   case rel=>exact⟨k+min k (n-k),m+1,by omega,by omega,by go_num,rfl⟩
   case measure=>simp[intOf];omega
  ·obtain rfl:k=n:=by omega
   go_wp2;go_ret;have e:mr x k k=List.replicate k x:=by simp[mr]
   rw[e];exact⟨rfl,cf (av w' _ _) m,((ah.refl _ w').alloc _).drewN m,by simp[go_sem]⟩
end
section
open Go.RowKit Go.Shelf
attribute [local go_sem] auV
def gV (n:Nat):Dk:=⟨List.replicate n (List.replicate 64 0),[]⟩
theorem O8 {n:Nat}(hn:n<=16384):yE (gV n):=⟨by simp[gV],by simp[gV],by simp[gV],by simpa[gV]using hn⟩
theorem iT (n:Nat):(gV n).size=n:=by simp[gV,Dk.size]
theorem WX:Lib.repeatL [(0:UInt8)] 64=List.replicate 64 0:=by decide
theorem CZ (w:World)(n:Nat)(hn:1<=n/\n<=16384):
  Calls prog 48 #[.int .i64 (n:Int)] w fun e w'=>∃ p,e=.returned (.tuple #[.pointer (some ⟨p,0,none⟩),.int .i64 0])/\af w w'/\∃ F,bC w' p (gV n) F/\∀ b,F b->w.heap.size<=b:=by
 have R:=hd0 (Tryz.strings_Repeat ⟨[(0:UInt8)].toArray⟩ 64 w (by omega) (by decide));have h1:¬(n:Int)<1:=by omega
 have h2:¬(16384:Int)<(n:Int):=by omega
 have To:=@run_makeMap prog;go_enter func48,ntmps48;go_wp2_with fail;refine R.out.mono ?_;rintro e w1 ⟨rfl,hb1⟩;have bZ:=hd0 (ah.ofBelow hb1);clear hb1;have er:Lib.repeatL (ByteArray.mk [(0:UInt8)].toArray).data.toList 64=List.replicate 64 0:=WX;rw[er];generalize hz:List.replicate 64 (0:UInt8)=z0;go_wp2_with fail;refine(Ld (w1.alloc (.cells #[.string ⟨z0.toArray⟩] 9)) w1.heap.size z0 n hn (av w1 _ _)).mono ?_;rintro e w2 ⟨rfl,eV,dd,jH⟩;have cV:(w1.alloc (.cells #[.string ⟨z0.toArray⟩] 9)).heap.size=w1.heap.size+1:=by simp
 rw[cV]at eV jH ⊢;obtain⟨nb,BP⟩:∃ nb,w1.heap.size+1=nb:=⟨_,rfl⟩
 rw[BP]at eV jH ⊢;have bw:Hid (af w w2):=hd0 ((bZ.out.alloc _).trans dd (fun _ _ h=>h));have lW:=hd0 eV;have HN:Hid (w.heap.size<=nb/\w2.heap.size=nb+1):=hd0 ⟨by have:=bZ.out.size;omega,jH⟩;clear eV dd jH cV BP;go_wp2;go_ret2;obtain⟨BW,AD⟩:=HN.out;obtain⟨W,hW⟩:∃ W,W=((w2.alloc (.map #[] 0)).alloc (.map #[] 0)).alloc (.cells (oJ nb (nb+1) (nb+2) (.slice none 0 0) 0 [] (gV n)) 155):=⟨_,rfl⟩
 have eW:∀ W',W'=W->∃ p,Ending.returned (.tuple #[.pointer (some ⟨nb+3,0,none⟩),.int .i64 0])=Ending.returned (.tuple #[.pointer (some ⟨p,0,none⟩),.int .i64 0])/\af w W'/\∃ F,bC W' p (gV n) F/\∀ b,F b->w.heap.size<=b:=by
  rintro W' rfl;have m2:af w2 W':=by rw[hW];exact(((ah.refl _ w2).alloc _).alloc _).alloc _
  have s3:W'.heap.size=nb+4:=by rw[hW];simp;omega
  refine⟨nb+3,rfl,bw.out.trans m2 (fun _ _ h=>h),fun b=>b=nb\/b=nb+1\/b=nb+2\/b=nb+3,⟨nb,nb+1,nb+2,.slice none 0 0,0,[],[],?_⟩,fun b hb=>by omega⟩
  exact { own:=by rw[hW];exact aZ (by simp;omega) _ _,
          stays:=by
           have e:(gV n).stays=List.replicate n z0:=by rw[<-hz];rfl
           rw[e];exact ab m2 lW.out id,
          loose:=by
           have h1:JJ (w2.alloc (.map #[] 0)) w2.heap.size []:=fh.made w2;rw[AD]at h1;rw[hW];exact fh.mod h1 (((ah.refl _ _).alloc _).alloc _:af _ _) id,
          bad:=by
           have h1:JK ((w2.alloc (.map #[] 0)).alloc (.map #[] 0)) (w2.alloc (.map #[] 0)).heap.size []:=fh.made _;have e:(w2.alloc (.map #[] 0)).heap.size=nb+2:=by simp;omega
           rw[e]at h1;rw[hW];exact fh.mod h1 ((ah.refl _ _).alloc _:af _ _) id,
          order:=⟨rfl,.inl ⟨rfl,rfl⟩⟩,ok:=O8 hn.2,get:=fun _=>rfl,keys:=by simp,many:=au4 _,steps:=by omega,fp:=by omega,fs:=by omega,fm:=by omega,fx:=by omega,fo:=by simp[Value.ownBlock],
          apart:=by omega,aparto:=by simp[Value.ownBlock],lt:=fun b hb=>by rw[s3];omega }
 simp only[AD];exact eW _ (by rw[hW];unfold oJ;rw[iT])
end
section
open Go.RowKit
abbrev aq (b:Nat):Value:=.pointer (some ⟨b,0,none⟩)
theorem Ue (w:World)(c:Value)(b a1 a2:Nat)(u1 u2:Value)(h2:w.cell? ⟨b,2,none⟩=some (aq a1))(h3:w.cell? ⟨b,3,none⟩=some (aq a2))
  (k1:w.cell? ⟨a1,3,none⟩=some u1) (f1:w.frozen? ⟨a1,3,none⟩=false) (k2:w.cell? ⟨a2,2,none⟩=some u2) (f2:w.frozen? ⟨a2,2,none⟩=false):
  Calls prog 184 #[c,aq b] w fun e w'=>e=.returned (.tuple #[])/\∃ m,w'=((w.setCell ⟨a1,3,none⟩ (aq a2)).setCell ⟨a2,2,none⟩ (aq a1)).drewN m:=by
 go_enter func184,ntmps184;go_wp2_with fail;refine dB 18 (by kernel_rfl) (by kernel_rfl) ?_;simp only[avO,avP,avQ,avR]
 repeat (quiet_step (fail))
 refine avT ?_;intro _ bf;obtain⟨nq,rfl⟩:=bf
 go_wp2
 go_end0;exact⟨rfl,nq,rfl⟩
theorem zw (w:World)(c b r n:Nat)(u1 u2 u3:Value)(hc:w.cell? ⟨c,2,none⟩=some (aq r))(hr:w.cell? ⟨r,3,none⟩=some (aq n))(fr:w.frozen? ⟨r,3,none⟩=false)
  (b2:w.cell? ⟨b,2,none⟩=some u1) (fb2:w.frozen? ⟨b,2,none⟩=false) (b3:w.cell? ⟨b,3,none⟩=some u2) (fb3:w.frozen? ⟨b,3,none⟩=false) (n2:w.cell? ⟨n,2,none⟩=some u3) (fn2:w.frozen? ⟨n,2,none⟩=false):
  Calls prog 185 #[aq c,aq b] w fun e w'=>e=.returned (.tuple #[])/\∃ m,w'=((((w.setCell ⟨b,2,none⟩ (aq r)).setCell ⟨b,3,none⟩ (aq n)).setCell ⟨r,3,none⟩ (aq b)).setCell ⟨n,2,none⟩ (aq b)).drewN m:=by
 obtain⟨w1,Cq⟩:∃ w1,w1=(w.setCell ⟨b,2,none⟩ (aq r)).setCell ⟨b,3,none⟩ (aq n):=⟨_,rfl⟩
 have e3:w1.cell? ⟨b,3,none⟩=some (aq n):=by
  obtain⟨v,hv⟩:=cell?_setCell_some (p:=⟨b,2,none⟩) (x:=aq r) b3;rw[Cq];exact World.cell?_setCell_same' _ _ _ (by rw[hv];rfl)
 have e2:w1.cell? ⟨b,2,none⟩=some (aq r):=by
  rw[Cq,World.cell?_setCell_other _ _ _ _ (by simp)];exact World.cell?_setCell_same' _ _ _ (by rw[b2];rfl)
 obtain⟨u4,er⟩:∃ u,w1.cell? ⟨r,3,none⟩=some u:=by
  obtain⟨v,hv⟩:=cell?_setCell_some (p:=⟨b,2,none⟩) (x:=aq r) hr;rw[Cq];exact cell?_setCell_some hv
 obtain⟨u5,en⟩:∃ u,w1.cell? ⟨n,2,none⟩=some u:=by
  obtain⟨v,hv⟩:=cell?_setCell_some (p:=⟨b,2,none⟩) (x:=aq r) n2;rw[Cq];exact cell?_setCell_some hv
 obtain⟨u6,en2⟩:∃ u,(w1.setCell ⟨r,3,none⟩ (aq b)).cell? ⟨n,2,none⟩=some u:=cell?_setCell_some en;have gr:w1.frozen? ⟨r,3,none⟩=false:=by rw[Cq,World.frozen?_setCell,World.frozen?_setCell];exact fr
 have gn:w1.frozen? ⟨n,2,none⟩=false:=by rw[Cq,World.frozen?_setCell,World.frozen?_setCell];exact fn2
 obtain⟨u7,eb3⟩:∃ u,(w.setCell ⟨b,2,none⟩ (aq r)).cell? ⟨b,3,none⟩=some u:=cell?_setCell_some b3;have Hw1:=hd0 Cq;clear Cq;go_enter func185,ntmps185;go_wp2_with fail
 go_region
 go_wp2_with fail
 go_simp
 rw[<-Hw1.out]
 go_region
 go_wp2
 go_end0;exact⟨rfl,2,by rw[Hw1.out];rfl⟩
end
section
open Go.RowKit
def upd {α:Type}(f:Nat->α)(a:Nat)(x:α):Nat->α:=fun b=>if b=a then x else f b
theorem kM {α:Type}(f:Nat->α)(a:Nat)(x:α):upd f a x a=x:=by simp[upd]
theorem iU {α:Type}(f:Nat->α){a b:Nat}(x:α)(h:b≠a):upd f a x b=f b:=by simp[upd,h]
def qG (k:Int)(v:List UInt8)(p n:Value):Array Value:=#[.int .i64 k,.string ⟨v.toArray⟩,p,n]
def jM (w:World)(S:Nat->Prop)(K:Nat->Int)(V:Nat->List UInt8):Prop:=
 ∃ pv nx:Nat->Nat,∀ b,S b->World.blk w b (qG (K b) (V b) (aq (pv b)) (aq (nx b))) 265/\S (pv b)/\S (nx b)/\0<=K b/\K b<4096
theorem jM.next {w:World}{S:Nat->Prop}{K:Nat->Int}{V:Nat->List UInt8}(h:jM w S K V){a x:Nat}(hx:S x):jM (w.setCell ⟨a,3,none⟩ (aq x)) S K V:=by
 obtain⟨pv,nx,h⟩:=h;refine⟨pv,upd nx a x,fun b hb=>?_⟩;obtain⟨h1,h2,h3,h4⟩:=h b hb;by_cases e:b=a
 ·subst e;rw[kM];exact⟨ag h1 3 _,h2,hx,h4⟩
 ·rw[iU _ _ e];exact⟨bE h1 ⟨a,3,none⟩ e _,h2,h3,h4⟩
theorem jM.prev {w:World}{S:Nat->Prop}{K:Nat->Int}{V:Nat->List UInt8}(h:jM w S K V){a x:Nat}(hx:S x):jM (w.setCell ⟨a,2,none⟩ (aq x)) S K V:=by
 obtain⟨pv,nx,h⟩:=h;refine⟨upd pv a x,nx,fun b hb=>?_⟩;obtain⟨h1,h2,h3,h4⟩:=h b hb;by_cases e:b=a
 ·subst e;rw[kM];exact⟨ag h1 2 _,hx,h3,h4⟩
 ·rw[iU _ _ e];exact⟨bE h1 ⟨a,2,none⟩ e _,h2,h3,h4⟩
theorem jM.thing {w:World}{S:Nat->Prop}{K:Nat->Int}{V:Nat->List UInt8}(h:jM w S K V)(a:Nat)(s:List UInt8):jM (w.setCell ⟨a,1,none⟩ (.string ⟨s.toArray⟩)) S K (upd V a s):=by
 obtain⟨pv,nx,h⟩:=h;refine⟨pv,nx,fun b hb=>?_⟩;obtain⟨h1,h2,h3,h4⟩:=h b hb;by_cases e:b=a
 ·subst e;rw[kM];exact⟨ag h1 1 _,h2,h3,h4⟩
 ·rw[iU _ _ e];exact⟨bE h1 ⟨a,1,none⟩ e _,h2,h3,h4⟩
theorem jM.same {w w':World}{S:Nat->Prop}{K:Nat->Int}{V:Nat->List UInt8}(h:jM w S K V)(m:∀ b,S b->w'.heap[b]?=w.heap[b]?):jM w' S K V:=by
 obtain⟨pv,nx,h⟩:=h;exact⟨pv,nx,fun b hb=>⟨(m b hb).trans (h b hb).1,(h b hb).2⟩⟩
theorem jM.out {w:World}{S:Nat->Prop}{K:Nat->Int}{V:Nat->List UInt8}(h:jM w S K V)(c:Value){b:Nat}(hb:S b):
  Calls prog 184 #[c,aq b] w fun e w'=>e=.returned (.tuple #[])/\jM w' S K V/\ah S w w'/\w'.heap.size=w.heap.size:=by
 have h0:=h;obtain⟨pv,nx,h⟩:=h;obtain⟨h1,h2,h3,_⟩:=h b hb;obtain⟨p1,_⟩:=h (pv b) h2;obtain⟨n1,_⟩:=h (nx b) h3;refine(Ue w c b (pv b) (nx b) _ _ (aa h1 2) (aa h1 3) (aa p1 3) (ae p1 _ rfl) (aa n1 2) (ae n1 _ rfl)).mono ?_;rintro e w' ⟨rfl,m,rfl⟩;refine⟨rfl,?_,(((ah.refl S w).setCell (p:=⟨pv b,3,none⟩) (.inl h2) _).setCell (p:=⟨nx b,2,none⟩) (.inl h3) _).drewN m,by simp[go_sem]⟩;exact((h0.next h3).prev h2).same fun b hb=>rfl
theorem jM.first {w:World}{S:Nat->Prop}{K:Nat->Int}{V:Nat->List UInt8}(h:jM w S K V){c r b:Nat}(hc:w.cell? ⟨c,2,none⟩=some (aq r))(hr:S r)(hb:S b):
  Calls prog 185 #[aq c,aq b] w fun e w'=>e=.returned (.tuple #[])/\jM w' S K V/\ah S w w'/\w'.heap.size=w.heap.size:=by
 have h0:=h;obtain⟨pv,nx,h⟩:=h;obtain⟨r1,r2,r3,_⟩:=h r hr;obtain⟨b1,_⟩:=h b hb;obtain⟨n1,_⟩:=h (nx r) r3;refine(zw w c b r (nx r) _ _ _ hc (aa r1 3) (ae r1 _ rfl) (aa b1 2) (ae b1 _ rfl) (aa b1 3) (ae b1 _ rfl) (aa n1 2) (ae n1 _ rfl)).mono ?_;rintro e w' ⟨rfl,m,rfl⟩;refine⟨rfl,?_,(((((ah.refl S w).setCell (p:=⟨b,2,none⟩) (.inl hb) _).setCell (p:=⟨b,3,none⟩) (.inl hb) _).setCell (p:=⟨r,3,none⟩) (.inl hr) _).setCell (p:=⟨nx r,2,none⟩) (.inl r3) _).drewN m,by simp[go_sem]⟩;exact((((h0.prev hr).next r3).next hb).prev hb).same fun b hb=>rfl
structure iV (w:World)(c r mb:Nat)(S:Nat->Prop)(K:Nat->Int)(V:Nat->List UInt8)(l:List (Int×Nat))(F:Nat->Prop):Prop where
 own:World.blk w c #[.int .i64 32,.map (some mb),aq r] 262
 of:dD prog 3 w mb l
 ring:jM w S K V
 root:S r
 keys:∀ x∈l,S x.2/\K x.2=x.1
 one:(l.map (·.1)).Nodup
 fc:F c
 fm:F mb
 fs:∀ b,S b->F b
 apart:c≠mb/\¬ S c/\¬ S mb
 lt:∀ b,F b->b<w.heap.size
def gD (w:World)(c:Nat)(M:Int->Option (List UInt8))(F:Nat->Prop):Prop:=∃ r mb S K V l,iV w c r mb S K V l F/\∀ k,M k=(bF k l).map V
theorem iV.same {w w':World}{c r mb:Nat}{S:Nat->Prop}{K:Nat->Int}{V:Nat->List UInt8}{l:List (Int×Nat)}{F:Nat->Prop}(h:iV w c r mb S K V l F)(m:fC F w w')(hs:w.heap.size<=w'.heap.size):iV w' c r mb S K V l F where
 own:=(m c h.fc (h.lt c h.fc)).trans h.own
 of:=by
  obtain⟨es,clock,hb,X,hs,hD⟩:=h.of;exact⟨es,clock,(m mb h.fm (h.lt mb h.fm)).trans hb,X,hs,hD⟩
 ring:=h.ring.same fun b hb=>m b (h.fs b hb) (h.lt b (h.fs b hb))
 root:=h.root
 keys:=h.keys
 one:=h.one
 fc:=h.fc
 fm:=h.fm
 fs:=h.fs
 apart:=h.apart
 lt b hb:=avb (h.lt b hb) hs
theorem gD.same {w w':World}{c:Nat}{M:Int->Option (List UInt8)}{F:Nat->Prop}(h:gD w c M F)(m:fC F w w')(hs:w.heap.size<=w'.heap.size):gD w' c M F:=by
 obtain⟨r,mb,S,K,V,l,h,hM⟩:=h;exact⟨r,mb,S,K,V,l,h.same m hs,hM⟩
theorem iV.turn {w w':World}{c r mb:Nat}{S:Nat->Prop}{K:Nat->Int}{V V':Nat->List UInt8}{l:List (Int×Nat)}{F:Nat->Prop}(h:iV w c r mb S K V l F)(m:ah S w w')(hR:jM w' S K V'):iV w' c r mb S K V' l F where
 own:=ab m h.own h.apart.2.1
 of:=dD.mod h.of m h.apart.2.2
 ring:=hR
 root:=h.root
 keys:=h.keys
 one:=h.one
 fc:=h.fc
 fm:=h.fm
 fs:=h.fs
 apart:=h.apart
 lt b hb:=avb (h.lt b hb) m.size
theorem oK {β:Type}{k:Int}{x:β}{l:List (Int×β)}(h:bF k l=some x):(k,x)∈l:=by
 unfold bF at h;rw[awc]at h;obtain⟨y,hy,rfl⟩:=h;have h1:=avX hy;have h3:y.1=k:=by simpa using h1
 rw[<-h3];exact avY hy
theorem qH (W:World):(zeroValue 258).run prog W=.ok (.pointer none) W:=by kernel_rfl
theorem O9 {w:World}{c:Nat}{M:Int->Option (List UInt8)}{F:Nat->Prop}(h:gD w c M F)(k:Int)(hk:0<=k/\k<4096):
  Calls prog 107 #[aq c,.int .i64 k] w fun e w'=>e=.returned (.tuple #[.string ⟨((M k).getD []).toArray⟩,.bool (M k).isSome])/\gD w' c M F/\dX F F w w':=by
 obtain⟨r,mb,S,K,V,l,h,hM⟩:=h;have H:=hd0 h;have HM:=hd0 hM;have c1:w.cell? ⟨c,1,none⟩=some (.map (some mb)):=aa h.own 1;have lk:=dD.look (tm:=260) h.of underlying260 underlying3 (qH w) k ⟨by omega,by omega⟩;obtain⟨q,hq⟩:∃ q,bF k l=q:=⟨_,rfl⟩
 have Hq:=hd0 hq;rw[hq]at lk
 cases q with
 |none=>
  have Hr:Hid (M k=none):=hd0 (by rw[hM,hq];rfl);clear h hM hq;go_enter func107,ntmps107
  go_wp2
  go_ret2;exact⟨by rw[Hr.out];rfl,⟨r,mb,S,K,V,l,H.out,HM.out⟩,dX.refl _ _⟩
 |some b=>
  have hb:=h.keys _ (oK hq);have Hb:=hd0 hb.1;have Hr:Hid (M k=some (V b)):=hd0 (by rw[hM,hq];rfl);have O:=hd0 (h.ring.out (aq c) hb.1);clear h hM hq hb;go_enter func107,ntmps107;go_wp2_with fail;refine O.out.mono ?_;rintro e w1 ⟨rfl,XR,ik,_⟩;have H1:=hd0 (H.out.turn ik XR);have rk:=hd0 ik;clear XR ik;go_wp2_with fail;refine(H1.out.ring.first (aa H1.out.own 2) H.out.root Hb.out).mono ?_;rintro e w2 ⟨rfl,RQ,df,_⟩;have H2:=hd0 (H1.out.turn df RQ);have ft:=hd0 (rk.out.trans df fun _ _ h=>h);have e1:w2.cell? ⟨b,1,none⟩=some (.string ⟨(V b).toArray⟩):=by
   obtain⟨pv,nx,hr⟩:=RQ;exact aa (hr b Hb.out).1 1
  clear RQ df
  go_wp2
  go_ret2;exact⟨by rw[Hr.out];rfl,⟨r,mb,S,K,V,l,H2.out,HM.out⟩,ft.out.mono (fun i _ h=>H.out.fs i h),fun _ h=>.inl h⟩
end
section
open Go.RowKit
theorem Le {β:Type}(k m:Int)(l:List (Int×β)):bF m (gc k l)=if m=k then none else bF m l:=by
 unfold bF gc;rw[List.find?_filter];split
 ·rename_i h
  subst h;rw[Option.map_eq_none_iff,av0];intro x _;simp
 ·rename_i hm
  congr 1
  congr 1
  funext x
  by_cases hx:x.1=m
  ·simp[hx,hm]
  ·simp[hx]
theorem C0 {β:Type}{k:Int}{l:List (Int×β)}(h:(l.map (·.1)).Nodup):((gc k l).map (·.1)).Nodup:=List.Nodup.sublist (List.Sublist.map _ List.filter_sublist) h
theorem C3 {β:Type}(x:Int×β)(l:List (Int×β)):(jL j4 x l).Perm (x::l):=by
 induction l with
 |nil=>exact List.Perm.refl _
 |cons y r ih=>
  unfold jL;split
  ·exact List.Perm.refl _
  ·exact(List.Perm.cons y ih).trans (List.Perm.swap x y r)
theorem Pa {β:Type}{k:Int}{s:β}{l:List (Int×β)}(h:(l.map (·.1)).Nodup):((ei j4 k s l).map (·.1)).Nodup:=by
 have hp:=(C3 (k,s) (gc k l)).map (·.1);refine hp.nodup_iff.2 ?_;rw[auY,List.nodup_cons];refine⟨fun hm=>?_,C0 h⟩;obtain⟨x,hx,e⟩:=avx.1 hm;have:=(auW.1 hx).2;simp at this;exact this e
theorem Uf {β:Type}{k:Int}{s:β}{l:List (Int×β)}{x:Int×β}(h:x∈ei j4 k s l):x=(k,s)\/(x∈l/\x.1≠k):=by
 rcases avn.1 ((C3 (k,s) (gc k l)).mem_iff.1 h)with h|h
 ·exact .inl h
 ·exact .inr ⟨(auW.1 h).1,by simpa using(auW.1 h).2⟩
theorem Lf {l:List (Int×Nat)}(h:(l.map (·.1)).Nodup)(hk:∀ x∈l,0<=x.1/\x.1<4096):l.length<=4096:=by
 have hn:(l.map fun x=>x.1.toNat).Nodup:=by
  have:=List.Pairwise.map (S:=fun(a b:Nat)=>a≠b) Int.toNat (R:=fun(a b:Int)=>0<=a/\0<=b/\a≠b) (fun a b N0 e=>N0.2.2 (by omega)) (l:=l.map (·.1)) (by
   refine List.Pairwise.imp_of_mem (R:=fun a b=>a≠b) (fun {a b} ha hb N0=>?_) h;obtain⟨x,hx,rfl⟩:=avx.1 ha;obtain⟨y,hy,rfl⟩:=avx.1 hb;exact⟨(hk x hx).1,(hk y hy).1,N0⟩)
  show List.Pairwise (fun a b=>a≠b) _;simpa[avr,Function.comp_def]using this
 have:=pH hn (b:=List.range 4096) (fun x hx=>by
  obtain⟨y,hy,rfl⟩:=avx.1 hx;have:=hk y hy;rw[avW];omega)
 simpa using this
theorem iV.range {w:World}{c r mb:Nat}{S:Nat->Prop}{K:Nat->Int}{V:Nat->List UInt8}{l:List (Int×Nat)}{F:Nat->Prop}(h:iV w c r mb S K V l F):∀ x∈l,0<=x.1/\x.1<4096:=by
 intro x hx;obtain⟨h1,h2⟩:=h.keys x hx;obtain⟨pv,nx,hr⟩:=h.ring;have:=(hr _ h1).2.2.2;rw[<-h2];exact this
theorem YR {w:World}{c r mb:Nat}{S:Nat->Prop}{K:Nat->Int}{V:Nat->List UInt8}{l:List (Int×Nat)}{F:Nat->Prop}(h:iV w c r mb S K V l F)(k:Int)(hk:0<=k/\k<4096):
  Calls prog 189 #[aq c,.int .i64 k] w fun e w'=>(∃ v,e=.returned v)/\(∃ l',iV w' c r mb S K V l' F/\∀ j,bF j l'=if j=k then none else bF j l)/\ah F w w'/\w'.heap.size=w.heap.size:=by
 have H:=hd0 h;have c1:w.cell? ⟨c,1,none⟩=some (.map (some mb)):=aa h.own 1;have lk:=dD.look (tm:=260) h.of underlying260 underlying3 (qH w) k ⟨by omega,by omega⟩;obtain⟨q,hq⟩:∃ q,bF k l=q:=⟨_,rfl⟩
 have Hq:=hd0 hq;rw[hq]at lk
 cases q with
 |none=>
  clear h hq;go_enter func189,ntmps189
  go_wp2
  go_ret;exact⟨⟨_,rfl⟩,⟨l,H.out,fun j=>by split;rename_i e;rw[e];exact Hq.out;rfl⟩,ah.refl _ _,rfl⟩
 |some b=>
  have hb:=h.keys _ (oK hq);have Hb:=hd0 hb.1;have O:=hd0 (h.ring.out (aq c) hb.1);clear h hq hb;go_enter func189,ntmps189;go_wp2_with fail;refine O.out.mono ?_;rintro e w1 ⟨rfl,XR,ik,nO⟩;have X1:=H.out.turn ik XR;have H1:=hd0 X1;have rk:=hd0 ik;have Hz1:=hd0 nO;have d1:w1.cell? ⟨c,1,none⟩=some (.map (some mb)):=aa X1.own 1;obtain⟨w2,hr,KA,dF⟩:=dD.drop (tm:=260) X1.of underlying260 underlying3 k ⟨by omega,by omega⟩ 0;have oA:w2.heap.size=w1.heap.size:=by
   obtain⟨w3,vh,_,_,hz⟩:=fh.drop (P:=prog) (tk:=3) (R:=jm) (ef:=yG) X1.of (tm:=260) underlying260 underlying3 k ⟨by omega,by omega⟩ 0;rw[hr]at vh;injection vh with _ e3;rw[e3];exact hz
  have Hof:=hd0 KA;have BO:=hd0 dF;have Hz2:=hd0 oA;clear XR ik nO X1 KA dF oA
  go_wp2
  go_ret;refine⟨⟨_,rfl⟩,⟨gc k l,?_,fun j=>Le k j l⟩,((rk.out.mono (fun i _ h=>H.out.fs i h)).trans (BO.out.mono (T:=F) (fun i _ e=>by subst e;exact H.out.fm)) (fun _ _ h=>h)),by rw[Hz2.out,Hz1.out]⟩
  exact { own:=ab BO.out H1.out.own H1.out.apart.1,of:=Hof.out,ring:=H1.out.ring.same fun b hb=>BO.out.block b (H1.out.lt b (H1.out.fs b hb)) (fun e=>H1.out.apart.2.2 (e▸hb)),root:=H1.out.root,
          keys:=fun x hx=>H1.out.keys x (auW.1 hx).1,one:=C0 H1.out.one,fc:=H1.out.fc,fm:=H1.out.fm,fs:=H1.out.fs,apart:=H1.out.apart,lt:=fun b hb=>by rw[Hz2.out];exact H1.out.lt b hb }
end
end Go.Proofs.YtkghpdcloaiflaaGreatDoor
