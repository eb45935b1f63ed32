import Derived.Test.YtkghpdcloaiflaaGreatDoorC05
import Derived.Laws.CopyRow
set_option maxHeartbeats 4000000
set_option maxRecDepth 100000
namespace Go.Proofs.YtkghpdcloaiflaaGreatDoor
open _root_.Go.Proofs.Tryz
section
open Go.RowKit Go.Maps
theorem FU (l:List (List UInt8))(i:Nat)(s:List UInt8):(aF l).setIfInBounds i (.string ⟨s.toArray⟩)=aF (l.set i s):=by
 apply Array.ext';simp[aF,List.map_set]
theorem Az {d:Dk}{du:List (List UInt8)}(hl:du.length=d.stays.length)(h:∀ m,m<d.stays.length->du.getD m []=d.get m):du=d.sync.stays:=by
 apply List.ext_getElem
 ·simp[Dk.sync,hl]
 ·intro i h1 h2;have:=h i (by omega);simp only[List.getD,atI h1,aun]at this;simp[Dk.sync,this]
theorem pA {w:World}{p:Nat}{d:Dk}{F:Nat->Prop}(h:bA w p d F):
  Calls prog 154 #[.pointer (some ⟨p,0,none⟩)] w fun e w'=>e=.returned (.int .i64 0)/\∃ F',bA w' p d.sync F'/\dV F F' w w':=by
 have S:=hd0 (vD h);obtain⟨sb,mb,xb,ov,st,keep,lo,h⟩:=h;have H:=hd0 h;have c7:w.cell? ⟨p,7,none⟩=some (.bool false):=aa h.own 7;clear h;go_enter func154,ntmps154;go_wp2_with fail;refine S.out.mono ?_;rintro e w1 ⟨rfl,Aj,dr,Fs⟩;have X1:=H.out.stepped Aj dr;rw[<-Fs]at X1;have M1:Hid (ah (fun b=>b=p) w w1):=hd0 (by rw[Fs];exact(ah.refl (fun b=>b=p) w).setCell (p:=⟨p,4,none⟩) (.inl rfl) _);have HX:=hd0 X1;have d1:w1.cell? ⟨p,1,none⟩=some (.map (some mb)):=aa X1.own 1;have BE:=hd0 dr;clear X1 dr Fs c7;go_wp2_with (at_range;refine wpList_range_own _ rfl _ 152 rfl 3 9 (int_keyed underlying3) underlying152 _ mb lo.length (BP (Lit.int .i64) Cr lo) rfl HX.out.loose ?_;intro w2 EY Xl RG)
 go_frame
 have hsb:=HX.out.lt sb HX.out.fs;have yU:=HX.out.lt mb HX.out.fm;have BC:=hd0 EY;have dN:=hd0 (qt Xl);clear EY Xl RG d1;have WZ:∀ m,m<d.stays.length->has (BP (Lit.int .i64) Cr lo) (.int .i64 (m:Int))=false->d.stays.getD m []=d.get m:=fun m hm hl=>by
  rw[py cM,HX.out.get m]at hl;unfold Dk.get
  cases hq:ec d.lo m with
  |none=>rfl
  |some s=>rw[hq]at hl;cases hl
 have XJ:=hd0 WZ;clear WZ
 go_loopw [] (fun wr=>∃(left:Lit->Bool) (jS:Nat) (du:List (List UInt8)),World.ranges wr prog 3 (plainElem prog 9) mb w1.heap.size lo.length (BP (Lit.int .i64) Cr lo) left jS/\ah (fun b=>b=sb) w1 wr/\World.blk wr sb (aF du) 9/\Hid (du.length=d.stays.length/\∀ m,m<d.stays.length->left (.int .i64 (m:Int))=false->du.getD m []=d.get m)) (fun wr=>wr.rangeLeft mb w1.heap.size)
 case atStart=>exact⟨_,_,d.stays,BC.out,dN.out.mono (fun _ _ h=>h.elim),ab dN.out HX.out.stays id,hd0 ⟨rfl,XJ.out⟩⟩
 case round=>
  clear BC dN XJ;obtain⟨left,jS,du,SR,hM,hB,Hq⟩:=hrel;have IW:=hd0 SR;have HM:=hd0 hM;have HB:=hd0 hB;clear SR hM hB;go_wp2_with (at_next;refine KB vC underlying3 rfl _ rfl w1.heap.size left jS rfl IW.out ?_ ?_)
  ·intro _ uz;have aiv:Hid (du=d.sync.stays):=hd0 (Az Hq.out.1 fun m hm=>Hq.out.2 m hm (uz _));have e1:wr.cell? ⟨p,1,none⟩=some (.map (some mb)):=aa (ab HM.out HX.out.own HX.out.apart.1) 1;obtain⟨w3,sr,cm,de,cA⟩:=(HX.out.loose.mod HM.out (fun e=>HX.out.apart.2.2.2.1 e.symm)).clear (tm:=152) underlying152 0;have U0:=ab de (ab HM.out HX.out.own HX.out.apart.1) HX.out.apart.2.1;have f2:=ae U0 ⟨p,2,none⟩ rfl;have e2:w3.cell? ⟨p,2,none⟩=some ov:=aa U0 2;have yD:=hd0 cm;have BM:=hd0 de;have aes:=hd0 U0;clear uz cm de U0
   go_wp2
   go_ret;have hsy:d.sync.size=d.size:=dB d;refine⟨rfl,F,⟨sb,mb,xb,.slice none 0 0,Aj,keep,[],?_⟩,?_,fun _ hb=>.inl hb⟩
   ·have m4:ah (fun b=>b=p) w3 (w3.setCell ⟨p,2,none⟩ (.slice none 0 0)):=(ah.refl (fun b=>b=p) w3).setCell (p:=⟨p,2,none⟩) (.inl rfl) _;have mA:ah (fun b=>b=sb\/b=mb) w1 w3:=(HM.out.mono (fun _ _ h=>.inl h)).trans BM.out (fun _ _ h=>.inr h)
    exact { own:=by
             have:=ag aes.out 2 (.slice none 0 0);have e:oB sb mb xb (.slice none 0 0) Aj keep d.sync=oB sb mb xb (.slice none 0 0) Aj keep d:=by unfold oB;rw[hsy]
             rw[e];exact this,
            stays:=by rw[<-aiv.out];exact ab m4 (ab BM.out HB.out HX.out.apart.2.2.2.1) (fun e=>HX.out.apart.1 e.symm),
            loose:=yD.out.mod m4 (fun e=>HX.out.apart.2.1 e.symm),
            bad:=(HX.out.bad.mod mA (fun e=>e.elim (fun e=>HX.out.apart.2.2.2.2.1 e.symm) (fun e=>HX.out.apart.2.2.2.2.2 e.symm))).mod m4 (fun e=>HX.out.apart.2.2.1 e.symm),
            order:=⟨rfl,.inl ⟨rfl,rfl⟩⟩,ok:=Ts HX.out.ok,get:=fun _=>rfl,keys:=by simp,many:=atL _,steps:=BE.out,fp:=HX.out.fp,fs:=HX.out.fs,fm:=HX.out.fm,fx:=HX.out.fx,fo:=by simp[Value.ownBlock],
            apart:=HX.out.apart,aparto:=by simp[Value.ownBlock],lt:=fun b hb=>atS (HX.out.lt b hb) (atE mA.size m4.size) }
   ·exact(((M1.out.mono (T:=F) (fun i _ e=>by subst e;exact H.out.fp)).trans (HM.out.mono (T:=F) (fun i _ e=>by subst e;exact H.out.fs)) (fun _ _ h=>h)).trans (BM.out.mono (T:=F) (fun i _ e=>by subst e;exact H.out.fm)) (fun _ _ h=>h)).setCell (p:=⟨p,2,none⟩) (.inl H.out.fp) _
  ·intro x c w' rW BD uW Al hg ES aM mM uC hen;have SZ:=hg;obtain⟨m,Xa,Se⟩:=HX.out.keys (x,c) (by
    unfold bD at hg;rw[auX]at hg;obtain⟨y,hy,rfl⟩:=hg;have h1:=auI hy;have h2:=auJ hy;have h3:y.1=x:=by simpa using h1
    rw[<-h3];exact h2)
   subst Xa;have Ff:m<d.stays.length:=by
    cases hq:ec d.lo m with
    |none=>rw[hq]at Se;cases Se
    |some s=>
     unfold ec at hq;rw[auX]at hq;obtain⟨y,hy,rfl⟩:=hq;have h1:=auI hy;have h3:y.1=m:=by simpa using h1
     have:=(HX.out.ok.lo y (auJ hy)).1;omega
   have hdg:d.get m=c:=by
    have:=HX.out.get m;rw[SZ]at this;unfold Dk.get;rw[<-this]
   have oh:Hid (ah (fun b=>b=sb) w1 w'):=hd0 (HM.out.trans mM (fun i hi e=>by subst e;omega));have hB2:=ab mM HB.out (by omega);have e0:w'.cell? ⟨p,0,none⟩=some (.slice (some ⟨sb,0,none⟩) d.size d.size):=aa (ab oh.out HX.out.own HX.out.apart.1) 0;have fs:=ae hB2 ⟨sb,m,none⟩ rfl;have es:w'.cell? ⟨sb,m,none⟩=some (.string ⟨(du.getD m []).toArray⟩):=by
    rw[aa hB2 m];have:m<du.length:=by rw[Hq.out.1];exact Ff
    simp[aF,List.getD,this]
   have Vz:(m:Int)<(d.size:Int):=by show(m:Int)<(d.stays.length:Int);omega
   have lD:d.size<=16384:=HX.out.ok.many;have lU:=hd0 hB2;have uv:=hd0 ES;have Hlt:=hd0 (show rW<jS from aM);have rX:=hd0 (IW.out.left_eq);have Hdg:=hd0 hdg;have Hq2:Hid ((du.set m c).length=d.stays.length/\∀ k,k<d.stays.length->(left (.int .i64 (k:Int))&&!(Lit.int .i64 (k:Int)).sameKey (.int .i64 (m:Int)))=false->(du.set m c).getD k []=d.get k):=hd0 ⟨by simpa using Hq.out.1,fun k hk hl=>by
    by_cases uU:k=m
    ·subst uU;have:k<du.length:=by rw[Hq.out.1];exact hk
     simp[List.getD,this,hdg]
    ·have h1:(Lit.int .i64 (k:Int)).sameKey (.int .i64 (m:Int))=false:=by rw[cM];simp;omega
     rw[h1]at hl;have h2:=Hq.out.2 k hk (by simpa using hl);simp only[List.getD,List.getElem?_set]at h2 ⊢;rw[atR (fun e=>uU e.symm)];exact h2⟩
   clear Al hg SZ ES aM mM hB2 hdg Se Ff;go_wp2_with fail;have m5:ah (fun b=>b=sb) w' (w'.setCell ⟨sb,m,none⟩ (.string ⟨c.toArray⟩)):=(ah.refl (fun b=>b=sb) w').setCell (p:=⟨sb,m,none⟩) (.inl rfl) _;have Sp:=hd0 (uv.out.kept (sJ m5) (by have:=HX.out.apart.2.2.2.1;simp;omega) (by simp;omega));refine⟨⟨_,rW,du.set m c,Sp.out,oh.out.setCell (p:=⟨sb,m,none⟩) (.inl rfl) _,by rw[<-FU];exact ag lU.out m _,Hq2⟩,?_⟩;rw[Sp.out.left_eq,rX.out];exact Hlt.out
end
section
open Go.RowKit Go.Shelf
attribute [local go_sem] atC
def mn (x:List UInt8)(n k:Nat):List (List UInt8):=List.replicate k x++List.replicate (n-k) []
theorem AA {P:Program}{ts te:TypeId}(hs:P.underlying ts=some (.slice te))(hi:(P.info? te).map (fun i=>(i.zero,i.size,i.bytes))=some (some (.string ⟨#[]⟩),1,16))(r:Nat)(hr:r<=1000000)(W:World):
  (Instr.makeSlice ts (.int .i64 r) (.int .i64 r)).run P W=.ok (.slice (some ⟨W.heap.size,0,none⟩) r r) (W.alloc (.cells (aF (List.replicate r [])) te)):=by
 obtain⟨i0,hi,nD,mK,ol⟩:=atW hi;have h:=run_make (P:=P) W ts te i0 (.string ⟨#[]⟩) hs hi nD .i64 .i64 (r:Int) (r:Int) (by omega) (Int.le_refl _) (by rw[ol];omega) (by omega);rw[auo,mK,Nat.mul_one,rm _ rfl]at h;have e:Array.replicate r (Value.string ⟨#[]⟩)=aF (List.replicate r []):=by
  apply Array.ext';simp[aF]
 rwa [e]at h
theorem ry (w:World)(c c':Array Value)(t:TypeId):(w.alloc (.cells c t)).setRow w.heap.size c'=w.alloc (.cells c' t):=by
 unfold World.setRow World.alloc
 congr 1
 apply Array.ext
 ·simp
 ·intro i h1 h2;simp only[Array.size_modify,Array.size_push]at h1;rw[Array.getElem_modify];by_cases h:i=w.heap.size
  ·subst h;simp
  ·have:i<w.heap.size:=by omega
   simp[Array.getElem_push,this,Ne.symm h]
theorem OL (w:World)(x:List UInt8)(n k:Nat)(h1:1<=k)(hk:k<n)(ty:TypeId)(m c1 c2:Nat):
  (Builtin.copy_ #[149,149] ty #[.slice (some ⟨w.heap.size,k,none⟩) (n-k) c1,.slice (some ⟨w.heap.size,0,none⟩) k c2]).run prog ((w.alloc (.cells (aF (mn x n k)) 9)).drewN m)=.ok (.int .i64 ((min k (n-k):Nat):Int)) ((w.alloc (.cells (aF (mn x n (k+min k (n-k)))) 9)).drewN m):=by
 have cA:((w.alloc (.cells (aF (mn x n k)) 9)).drewN m).heap[w.heap.size]?=some (.cells (aF (mn x n k)) 9 (0,0)):=fJ (aw w _ _) m;have cH:=run_copy_row (P:=prog) ((w.alloc (.cells (aF (mn x n k)) 9)).drewN m) 149 149 ty 9 w.heap.size k (n-k) c1 ⟨w.heap.size,0,none⟩ k c2 (aF (mn x n k)) 9 (List.replicate (min k (n-k)) (.string ⟨x.toArray⟩))
  underlying149 (by kernel_rfl) cA (by simp) (fun j v hj=>by
   obtain⟨SP,rfl⟩:j<min k (n-k)/\v=.string ⟨x.toArray⟩:=by
    rw[List.getElem?_replicate]at hj;split at hj
    ·rename_i h;exact⟨h,by injection hj with e;exact e.symm⟩
    ·cases hj
   rw[gl,auy];simp only[World.cell?,cA];have:j<k:=by omega
   simp[aF,mn,List.getElem?_append,this]) (by simp[aF,mn];omega) (by intro u hu;rw[List.mem_replicate]at hu;rw[hu.2];rfl)
 rw[cH];have e1:goInt (List.replicate (min k (n-k)) (Value.string ⟨x.toArray⟩)).length=.int .i64 ((min k (n-k):Nat):Int):=by simp[goInt]
 have e2:(((aF (mn x n k)).toList.take k)++List.replicate (min k (n-k)) (Value.string ⟨x.toArray⟩)++(aF (mn x n k)).toList.drop (k+(List.replicate (min k (n-k)) (Value.string ⟨x.toArray⟩)).length)).toArray=aF (mn x n (k+min k (n-k))):=by
  apply Array.ext';simp only[aF,mn,List.map_append,List.map_replicate,List.length_replicate];rw[List.take_left' (by simp),List.drop_append,avb (by simp),aul];simp only[List.length_replicate,List.drop_replicate];rw[List.replicate_append_replicate]
  congr 2
  omega
 rw[e1,e2]
 congr 1
 exact auZ (fun W=>World.drewN W m) (ry w _ _ _)
theorem KJ (w:World)(b:Nat)(x:List UInt8)(n:Nat)(h1:1<=n)(hb:World.blk w b #[.string ⟨x.toArray⟩] 9)(ty:TypeId)(c1 c2:Nat):
  (Builtin.copy_ #[149,149] ty #[.slice (some ⟨w.heap.size,0,none⟩) n c1,.slice (some ⟨b,0,none⟩) 1 c2]).run prog (w.alloc (.cells (aF (List.replicate n [])) 9))=.ok (.int .i64 1) (w.alloc (.cells (aF (mn x n 1)) 9)):=by
 have cA:(w.alloc (.cells (aF (List.replicate n [])) 9)).heap[w.heap.size]?=some (.cells (aF (List.replicate n [])) 9 (0,0)):=aw w _ _;have eS:=aG hb (.cells (aF (List.replicate n [])) 9);have cH:=run_copy_row (P:=prog) (w.alloc (.cells (aF (List.replicate n [])) 9)) 149 149 ty 9 w.heap.size 0 n c1 ⟨b,0,none⟩ 1 c2 (aF (List.replicate n [])) 9 [.string ⟨x.toArray⟩]
  underlying149 (by kernel_rfl) cA (by show 1=Nat.min 1 n;exact(Nat.min_eq_left h1).symm) (fun j v hj=>by
   rw[gl,auy,aa eS j];simpa using hj) (by simp[aF];omega) (by intro u hu;simp at hu;rw[hu];rfl)
 rw[cH];have e2:(((aF (List.replicate n [])).toList.take 0)++[Value.string ⟨x.toArray⟩]++(aF (List.replicate n ([]:List UInt8))).toList.drop (0+[Value.string ⟨x.toArray⟩].length)).toArray=aF (mn x n 1):=by
  apply Array.ext';simp[aF,mn]
 rw[e2]
 congr 1
 exact ry w _ _ _
theorem KK (w:World)(b:Nat)(x:List UInt8)(n:Nat)(hn:1<=n/\n<=16384)(hb:World.blk w b #[.string ⟨x.toArray⟩] 9):
  Calls prog 94 #[.slice (some ⟨b,0,none⟩) 1 1,.int .i64 (n:Int)] w fun e w'=>e=.returned (.slice (some ⟨w.heap.size,0,none⟩) n n)/\World.blk w' w.heap.size (aF (List.replicate n x)) 9/\af w w'/\w'.heap.size=w.heap.size+1:=by
 have hmu:=hd0 (Tryz.bits_Mul 1 n (by omega) (by omega) w);have e0:(1*n/18446744073709551616:Nat)=0:=by omega
 have e1:(1*n%18446744073709551616:Nat)=n:=by omega
 have nV:=fun W=>AA (P:=prog) underlying149 vz n (by omega) W;go_enter func94,ntmps94;go_wp2_with fail;refine hmu.out.mono ?_;rintro e w' ⟨rfl,rfl⟩;rw[e0,e1];have hbig:¬((n:Int)>9223372036854775807):=by omega
 have Ak:=KJ w' b x n hn.1 hb 3 n 1;go_wp2_with fail;clear Ak
 go_loopw [8] (fun v wr=>∃ k m:Nat,1<=k/\k<=n/\v=.int .i64 (k:Int)/\wr=(w'.alloc (.cells (aF (mn x n k)) 9)).drewN m) (fun v _=>n-(intOf v).toNat)
 case atStart=>exact⟨1,0,by omega,by omega,rfl,rfl⟩
 case round=>
  obtain⟨k,m,hk1,qX,rfl,rfl⟩:=hrel;by_cases aM:k<n
  ·have dS:(k:Int)<(n:Int):=by omega
   have BO:(Builtin.copy_ #[149,149] 3 #[.slice (some ⟨w'.heap.size,k,none⟩) (n-k) (n-k),.slice (some ⟨w'.heap.size,0,none⟩) k n]).run prog ((w'.alloc (.cells (aF (mn x n k)) 9)).drewN (m+1))=.ok (.int .i64 ((min k (n-k):Nat):Int)) ((w'.alloc (.cells (aF (mn x n (k+min k (n-k)))) 9)).drewN (m+1)):=OL w' x n k hk1 aM 3 (m+1) (n-k) n;have dZ:¬ n=k:=by omega
   have hc3:((n-k:Nat):Int)=(n:Int)-(k:Int):=by omega
   go_wp2_with fail
   go_region
   go_wp2_with fail
   go_roundw
   case rel=>exact⟨k+min k (n-k),m+1,by omega,by omega,by go_num,rfl⟩
   case measure=>simp[intOf];omega
  ·obtain rfl:k=n:=by omega
   go_wp2;go_ret;have e:mn x k k=List.replicate k x:=by simp[mn]
   rw[e];exact⟨rfl,fJ (aw w' _ _) m,((ah.refl _ w').alloc _).drewN m,by simp[go_sem]⟩
end
section
open Go.RowKit Go.Shelf
attribute [local go_sem] atC
def gT (n:Nat):Dk:=⟨List.replicate n (List.replicate 64 0),[]⟩
theorem OM {n:Nat}(hn:n<=16384):yn (gT n):=⟨by simp[gT],by simp[gT],by simp[gT],by simpa[gT]using hn⟩
theorem iO (n:Nat):(gT n).size=n:=by simp[gT,Dk.size]
theorem Wf:Lib.repeatL [(0:UInt8)] 64=List.replicate 64 0:=by decide
theorem CA (w:World)(n:Nat)(hn:1<=n/\n<=16384):
  Calls prog 48 #[.int .i64 (n:Int)] w fun e w'=>∃ p,e=.returned (.tuple #[.pointer (some ⟨p,0,none⟩),.int .i64 0])/\af w w'/\∃ F,bA w' p (gT n) F/\∀ b,F b->w.heap.size<=b:=by
 have R:=hd0 (Tryz.strings_Repeat ⟨[(0:UInt8)].toArray⟩ 64 w (by omega) (by decide));have h1:¬(n:Int)<1:=by omega
 have h2:¬(16384:Int)<(n:Int):=by omega
 have It:=@run_makeMap prog;go_enter func48,ntmps48;go_wp2_with fail;refine R.out.mono ?_;rintro e w1 ⟨rfl,hb1⟩;have bU:=hd0 (ah.ofBelow hb1);clear hb1;have er:Lib.repeatL (ByteArray.mk [(0:UInt8)].toArray).data.toList 64=List.replicate 64 0:=Wf;rw[er];generalize hz:List.replicate 64 (0:UInt8)=z0;go_wp2_with fail;refine(KK (w1.alloc (.cells #[.string ⟨z0.toArray⟩] 9)) w1.heap.size z0 n hn (aw w1 _ _)).mono ?_;rintro e w2 ⟨rfl,eS,dc,lh⟩;have cA:(w1.alloc (.cells #[.string ⟨z0.toArray⟩] 9)).heap.size=w1.heap.size+1:=by simp
 rw[cA]at eS lh ⊢;obtain⟨nb,Bk⟩:∃ nb,w1.heap.size+1=nb:=⟨_,rfl⟩
 rw[Bk]at eS lh ⊢;have bu:Hid (af w w2):=hd0 ((bU.out.alloc _).trans dc (fun _ _ h=>h));have lU:=hd0 eS;have HN:Hid (w.heap.size<=nb/\w2.heap.size=nb+1):=hd0 ⟨by have:=bU.out.size;omega,lh⟩;clear eS dc lh cA Bk;go_wp2;go_ret2;obtain⟨By,Aq⟩:=HN.out;obtain⟨W,hW⟩:∃ W,W=((w2.alloc (.map #[] 0)).alloc (.map #[] 0)).alloc (.cells (oB nb (nb+1) (nb+2) (.slice none 0 0) 0 [] (gT n)) 155):=⟨_,rfl⟩
 have eW:∀ W',W'=W->∃ p,Ending.returned (.tuple #[.pointer (some ⟨nb+3,0,none⟩),.int .i64 0])=Ending.returned (.tuple #[.pointer (some ⟨p,0,none⟩),.int .i64 0])/\af w W'/\∃ F,bA W' p (gT n) F/\∀ b,F b->w.heap.size<=b:=by
  rintro W' rfl;have m2:af w2 W':=by rw[hW];exact(((ah.refl _ w2).alloc _).alloc _).alloc _
  have s3:W'.heap.size=nb+4:=by rw[hW];simp;omega
  refine⟨nb+3,rfl,bu.out.trans m2 (fun _ _ h=>h),fun b=>b=nb\/b=nb+1\/b=nb+2\/b=nb+3,⟨nb,nb+1,nb+2,.slice none 0 0,0,[],[],?_⟩,fun b hb=>by omega⟩
  exact { own:=by rw[hW];exact aY (by simp;omega) _ _,
          stays:=by
           have e:(gT n).stays=List.replicate n z0:=by rw[<-hz];rfl
           rw[e];exact ab m2 lU.out id,
          loose:=by
           have h1:Jj (w2.alloc (.map #[] 0)) w2.heap.size []:=fg.made w2;rw[Aq]at h1;rw[hW];exact fg.mod h1 (((ah.refl _ _).alloc _).alloc _:af _ _) id,
          bad:=by
           have h1:Jk ((w2.alloc (.map #[] 0)).alloc (.map #[] 0)) (w2.alloc (.map #[] 0)).heap.size []:=fg.made _;have e:(w2.alloc (.map #[] 0)).heap.size=nb+2:=by simp;omega
           rw[e]at h1;rw[hW];exact fg.mod h1 ((ah.refl _ _).alloc _:af _ _) id,
          order:=⟨rfl,.inl ⟨rfl,rfl⟩⟩,ok:=OM hn.2,get:=fun _=>rfl,keys:=by simp,many:=atL _,steps:=by omega,fp:=by omega,fs:=by omega,fm:=by omega,fx:=by omega,fo:=by simp[Value.ownBlock],
          apart:=by omega,aparto:=by simp[Value.ownBlock],lt:=fun b hb=>by rw[s3];omega }
 simp only[Aq];exact eW _ (by rw[hW];unfold oB;rw[iO])
end
section
open Go.RowKit
abbrev aq (b:Nat):Value:=.pointer (some ⟨b,0,none⟩)
theorem Tw (w:World)(c:Value)(b a1 a2:Nat)(u1 u2:Value)(h2:w.cell? ⟨b,2,none⟩=some (aq a1))(h3:w.cell? ⟨b,3,none⟩=some (aq a2))
  (k1:w.cell? ⟨a1,3,none⟩=some u1) (f1:w.frozen? ⟨a1,3,none⟩=false) (k2:w.cell? ⟨a2,2,none⟩=some u2) (f2:w.frozen? ⟨a2,2,none⟩=false):
  Calls prog 184 #[c,aq b] w fun e w'=>e=.returned (.tuple #[])/\∃ m,w'=((w.setCell ⟨a1,3,none⟩ (aq a2)).setCell ⟨a2,2,none⟩ (aq a1)).drewN m:=by
 go_enter func184,ntmps184;go_wp2_with fail;refine dz 18 (by kernel_rfl) (by kernel_rfl) ?_;simp only[auz,auA,auB,auC]
 repeat (quiet_step (fail))
 refine auE ?_;intro _ cJ;obtain⟨nq,rfl⟩:=cJ
 go_wp2
 go_end0;exact⟨rfl,nq,rfl⟩
theorem ze (w:World)(c b r n:Nat)(u1 u2 u3:Value)(hc:w.cell? ⟨c,2,none⟩=some (aq r))(hr:w.cell? ⟨r,3,none⟩=some (aq n))(fr:w.frozen? ⟨r,3,none⟩=false)
  (b2:w.cell? ⟨b,2,none⟩=some u1) (fb2:w.frozen? ⟨b,2,none⟩=false) (b3:w.cell? ⟨b,3,none⟩=some u2) (fb3:w.frozen? ⟨b,3,none⟩=false) (n2:w.cell? ⟨n,2,none⟩=some u3) (fn2:w.frozen? ⟨n,2,none⟩=false):
  Calls prog 185 #[aq c,aq b] w fun e w'=>e=.returned (.tuple #[])/\∃ m,w'=((((w.setCell ⟨b,2,none⟩ (aq r)).setCell ⟨b,3,none⟩ (aq n)).setCell ⟨r,3,none⟩ (aq b)).setCell ⟨n,2,none⟩ (aq b)).drewN m:=by
 obtain⟨w1,Fs⟩:∃ w1,w1=(w.setCell ⟨b,2,none⟩ (aq r)).setCell ⟨b,3,none⟩ (aq n):=⟨_,rfl⟩
 have e3:w1.cell? ⟨b,3,none⟩=some (aq n):=by
  obtain⟨v,hv⟩:=cell?_setCell_some (p:=⟨b,2,none⟩) (x:=aq r) b3;rw[Fs];exact World.cell?_setCell_same' _ _ _ (by rw[hv];rfl)
 have e2:w1.cell? ⟨b,2,none⟩=some (aq r):=by
  rw[Fs,World.cell?_setCell_other _ _ _ _ (by simp)];exact World.cell?_setCell_same' _ _ _ (by rw[b2];rfl)
 obtain⟨u4,er⟩:∃ u,w1.cell? ⟨r,3,none⟩=some u:=by
  obtain⟨v,hv⟩:=cell?_setCell_some (p:=⟨b,2,none⟩) (x:=aq r) hr;rw[Fs];exact cell?_setCell_some hv
 obtain⟨u5,en⟩:∃ u,w1.cell? ⟨n,2,none⟩=some u:=by
  obtain⟨v,hv⟩:=cell?_setCell_some (p:=⟨b,2,none⟩) (x:=aq r) n2;rw[Fs];exact cell?_setCell_some hv
 obtain⟨u6,en2⟩:∃ u,(w1.setCell ⟨r,3,none⟩ (aq b)).cell? ⟨n,2,none⟩=some u:=cell?_setCell_some en;have gr:w1.frozen? ⟨r,3,none⟩=false:=by rw[Fs,World.frozen?_setCell,World.frozen?_setCell];exact fr
 have gn:w1.frozen? ⟨n,2,none⟩=false:=by rw[Fs,World.frozen?_setCell,World.frozen?_setCell];exact fn2
 obtain⟨u7,eb3⟩:∃ u,(w.setCell ⟨b,2,none⟩ (aq r)).cell? ⟨b,3,none⟩=some u:=cell?_setCell_some b3;have Hw1:=hd0 Fs;clear Fs;go_enter func185,ntmps185;go_wp2_with fail
 go_region
 go_wp2_with fail
 go_simp
 rw[<-Hw1.out]
 go_region
 go_wp2
 go_end0;exact⟨rfl,2,by rw[Hw1.out];rfl⟩
end
section
open Go.RowKit
def upd {α:Type}(f:Nat->α)(a:Nat)(x:α):Nat->α:=fun b=>if b=a then x else f b
theorem kF {α:Type}(f:Nat->α)(a:Nat)(x:α):upd f a x a=x:=by simp[upd]
theorem iP {α:Type}(f:Nat->α){a b:Nat}(x:α)(h:b≠a):upd f a x b=f b:=by simp[upd,h]
def qu (k:Int)(v:List UInt8)(p n:Value):Array Value:=#[.int .i64 k,.string ⟨v.toArray⟩,p,n]
def jC (w:World)(S:Nat->Prop)(K:Nat->Int)(V:Nat->List UInt8):Prop:=
 ∃ pv nx:Nat->Nat,∀ b,S b->World.blk w b (qu (K b) (V b) (aq (pv b)) (aq (nx b))) 265/\S (pv b)/\S (nx b)/\0<=K b/\K b<4096
theorem jC.next {w:World}{S:Nat->Prop}{K:Nat->Int}{V:Nat->List UInt8}(h:jC w S K V){a x:Nat}(hx:S x):jC (w.setCell ⟨a,3,none⟩ (aq x)) S K V:=by
 obtain⟨pv,nx,h⟩:=h;refine⟨pv,upd nx a x,fun b hb=>?_⟩;obtain⟨h1,h2,h3,h4⟩:=h b hb;by_cases e:b=a
 ·subst e;rw[kF];exact⟨ag h1 3 _,h2,hx,h4⟩
 ·rw[iP _ _ e];exact⟨bC h1 ⟨a,3,none⟩ e _,h2,h3,h4⟩
theorem jC.prev {w:World}{S:Nat->Prop}{K:Nat->Int}{V:Nat->List UInt8}(h:jC w S K V){a x:Nat}(hx:S x):jC (w.setCell ⟨a,2,none⟩ (aq x)) S K V:=by
 obtain⟨pv,nx,h⟩:=h;refine⟨upd pv a x,nx,fun b hb=>?_⟩;obtain⟨h1,h2,h3,h4⟩:=h b hb;by_cases e:b=a
 ·subst e;rw[kF];exact⟨ag h1 2 _,hx,h3,h4⟩
 ·rw[iP _ _ e];exact⟨bC h1 ⟨a,2,none⟩ e _,h2,h3,h4⟩
theorem jC.thing {w:World}{S:Nat->Prop}{K:Nat->Int}{V:Nat->List UInt8}(h:jC w S K V)(a:Nat)(s:List UInt8):jC (w.setCell ⟨a,1,none⟩ (.string ⟨s.toArray⟩)) S K (upd V a s):=by
 obtain⟨pv,nx,h⟩:=h;refine⟨pv,nx,fun b hb=>?_⟩;obtain⟨h1,h2,h3,h4⟩:=h b hb;by_cases e:b=a
 ·subst e;rw[kF];exact⟨ag h1 1 _,h2,h3,h4⟩
 ·rw[iP _ _ e];exact⟨bC h1 ⟨a,1,none⟩ e _,h2,h3,h4⟩
theorem jC.same {w w':World}{S:Nat->Prop}{K:Nat->Int}{V:Nat->List UInt8}(h:jC w S K V)(m:∀ b,S b->w'.heap[b]?=w.heap[b]?):jC w' S K V:=by
 obtain⟨pv,nx,h⟩:=h;exact⟨pv,nx,fun b hb=>⟨(m b hb).trans (h b hb).1,(h b hb).2⟩⟩
theorem jC.out {w:World}{S:Nat->Prop}{K:Nat->Int}{V:Nat->List UInt8}(h:jC w S K V)(c:Value){b:Nat}(hb:S b):
  Calls prog 184 #[c,aq b] w fun e w'=>e=.returned (.tuple #[])/\jC w' S K V/\ah S w w'/\w'.heap.size=w.heap.size:=by
 have h0:=h;obtain⟨pv,nx,h⟩:=h;obtain⟨h1,h2,h3,_⟩:=h b hb;obtain⟨p1,_⟩:=h (pv b) h2;obtain⟨n1,_⟩:=h (nx b) h3;refine(Tw w c b (pv b) (nx b) _ _ (aa h1 2) (aa h1 3) (aa p1 3) (ae p1 _ rfl) (aa n1 2) (ae n1 _ rfl)).mono ?_;rintro e w' ⟨rfl,m,rfl⟩;refine⟨rfl,?_,(((ah.refl S w).setCell (p:=⟨pv b,3,none⟩) (.inl h2) _).setCell (p:=⟨nx b,2,none⟩) (.inl h3) _).drewN m,by simp[go_sem]⟩;exact((h0.next h3).prev h2).same fun b hb=>rfl
theorem jC.first {w:World}{S:Nat->Prop}{K:Nat->Int}{V:Nat->List UInt8}(h:jC w S K V){c r b:Nat}(hc:w.cell? ⟨c,2,none⟩=some (aq r))(hr:S r)(hb:S b):
  Calls prog 185 #[aq c,aq b] w fun e w'=>e=.returned (.tuple #[])/\jC w' S K V/\ah S w w'/\w'.heap.size=w.heap.size:=by
 have h0:=h;obtain⟨pv,nx,h⟩:=h;obtain⟨r1,r2,r3,_⟩:=h r hr;obtain⟨b1,_⟩:=h b hb;obtain⟨n1,_⟩:=h (nx r) r3;refine(ze w c b r (nx r) _ _ _ hc (aa r1 3) (ae r1 _ rfl) (aa b1 2) (ae b1 _ rfl) (aa b1 3) (ae b1 _ rfl) (aa n1 2) (ae n1 _ rfl)).mono ?_;rintro e w' ⟨rfl,m,rfl⟩;refine⟨rfl,?_,(((((ah.refl S w).setCell (p:=⟨b,2,none⟩) (.inl hb) _).setCell (p:=⟨b,3,none⟩) (.inl hb) _).setCell (p:=⟨r,3,none⟩) (.inl hr) _).setCell (p:=⟨nx r,2,none⟩) (.inl r3) _).drewN m,by simp[go_sem]⟩;exact((((h0.prev hr).next r3).next hb).prev hb).same fun b hb=>rfl
structure iQ (w:World)(c r mb:Nat)(S:Nat->Prop)(K:Nat->Int)(V:Nat->List UInt8)(l:List (Int×Nat))(F:Nat->Prop):Prop where
 own:World.blk w c #[.int .i64 32,.map (some mb),aq r] 262
 of:dC prog 3 w mb l
 ring:jC w S K V
 root:S r
 keys:∀ x∈l,S x.2/\K x.2=x.1
 one:(l.map (·.1)).Nodup
 fc:F c
 fm:F mb
 fs:∀ b,S b->F b
 apart:c≠mb/\¬ S c/\¬ S mb
 lt:∀ b,F b->b<w.heap.size
def gB (w:World)(c:Nat)(M:Int->Option (List UInt8))(F:Nat->Prop):Prop:=∃ r mb S K V l,iQ w c r mb S K V l F/\∀ k,M k=(bD k l).map V
theorem iQ.same {w w':World}{c r mb:Nat}{S:Nat->Prop}{K:Nat->Int}{V:Nat->List UInt8}{l:List (Int×Nat)}{F:Nat->Prop}(h:iQ w c r mb S K V l F)(m:fy F w w')(hs:w.heap.size<=w'.heap.size):iQ w' c r mb S K V l F where
 own:=(m c h.fc (h.lt c h.fc)).trans h.own
 of:=by
  obtain⟨es,clock,hb,X,hs,hD⟩:=h.of;exact⟨es,clock,(m mb h.fm (h.lt mb h.fm)).trans hb,X,hs,hD⟩
 ring:=h.ring.same fun b hb=>m b (h.fs b hb) (h.lt b (h.fs b hb))
 root:=h.root
 keys:=h.keys
 one:=h.one
 fc:=h.fc
 fm:=h.fm
 fs:=h.fs
 apart:=h.apart
 lt b hb:=atS (h.lt b hb) hs
theorem gB.same {w w':World}{c:Nat}{M:Int->Option (List UInt8)}{F:Nat->Prop}(h:gB w c M F)(m:fy F w w')(hs:w.heap.size<=w'.heap.size):gB w' c M F:=by
 obtain⟨r,mb,S,K,V,l,h,hM⟩:=h;exact⟨r,mb,S,K,V,l,h.same m hs,hM⟩
theorem iQ.turn {w w':World}{c r mb:Nat}{S:Nat->Prop}{K:Nat->Int}{V V':Nat->List UInt8}{l:List (Int×Nat)}{F:Nat->Prop}(h:iQ w c r mb S K V l F)(m:ah S w w')(hR:jC w' S K V'):iQ w' c r mb S K V' l F where
 own:=ab m h.own h.apart.2.1
 of:=dC.mod h.of m h.apart.2.2
 ring:=hR
 root:=h.root
 keys:=h.keys
 one:=h.one
 fc:=h.fc
 fm:=h.fm
 fs:=h.fs
 apart:=h.apart
 lt b hb:=atS (h.lt b hb) m.size
theorem oC {β:Type}{k:Int}{x:β}{l:List (Int×β)}(h:bD k l=some x):(k,x)∈l:=by
 unfold bD at h;rw[auX]at h;obtain⟨y,hy,rfl⟩:=h;have h1:=auI hy;have h3:y.1=k:=by simpa using h1
 rw[<-h3];exact auJ hy
theorem qv (W:World):(zeroValue 258).run prog W=.ok (.pointer none) W:=by kernel_rfl
theorem ON {w:World}{c:Nat}{M:Int->Option (List UInt8)}{F:Nat->Prop}(h:gB w c M F)(k:Int)(hk:0<=k/\k<4096):
  Calls prog 107 #[aq c,.int .i64 k] w fun e w'=>e=.returned (.tuple #[.string ⟨((M k).getD []).toArray⟩,.bool (M k).isSome])/\gB w' c M F/\dV F F w w':=by
 obtain⟨r,mb,S,K,V,l,h,hM⟩:=h;have H:=hd0 h;have HM:=hd0 hM;have c1:w.cell? ⟨c,1,none⟩=some (.map (some mb)):=aa h.own 1;have lk:=dC.look (tm:=260) h.of underlying260 underlying3 (qv w) k ⟨by omega,by omega⟩;obtain⟨q,hq⟩:∃ q,bD k l=q:=⟨_,rfl⟩
 have Hq:=hd0 hq;rw[hq]at lk
 cases q with
 |none=>
  have Hr:Hid (M k=none):=hd0 (by rw[hM,hq];rfl);clear h hM hq;go_enter func107,ntmps107
  go_wp2
  go_ret2;exact⟨by rw[Hr.out];rfl,⟨r,mb,S,K,V,l,H.out,HM.out⟩,dV.refl _ _⟩
 |some b=>
  have hb:=h.keys _ (oC hq);have Hb:=hd0 hb.1;have Hr:Hid (M k=some (V b)):=hd0 (by rw[hM,hq];rfl);have O:=hd0 (h.ring.out (aq c) hb.1);clear h hM hq hb;go_enter func107,ntmps107;go_wp2_with fail;refine O.out.mono ?_;rintro e w1 ⟨rfl,Xq,mM,_⟩;have H1:=hd0 (H.out.turn mM Xq);have yl:=hd0 mM;clear Xq mM;go_wp2_with fail;refine(H1.out.ring.first (aa H1.out.own 2) H.out.root Hb.out).mono ?_;rintro e w2 ⟨rfl,SA,gO,_⟩;have H2:=hd0 (H1.out.turn gO SA);have oh:=hd0 (yl.out.trans gO fun _ _ h=>h);have e1:w2.cell? ⟨b,1,none⟩=some (.string ⟨(V b).toArray⟩):=by
   obtain⟨pv,nx,hr⟩:=SA;exact aa (hr b Hb.out).1 1
  clear SA gO
  go_wp2
  go_ret2;exact⟨by rw[Hr.out];rfl,⟨r,mb,S,K,V,l,H2.out,HM.out⟩,oh.out.mono (fun i _ h=>H.out.fs i h),fun _ h=>.inl h⟩
end
section
open Go.RowKit
theorem KL {β:Type}(k m:Int)(l:List (Int×β)):bD m (fZ k l)=if m=k then none else bD m l:=by
 unfold bD fZ;rw[List.find?_filter];split
 ·rename_i h
  subst h;rw[Option.map_eq_none_iff,auL];intro x _;simp
 ·rename_i hm
  congr 1
  congr 1
  funext x
  by_cases hx:x.1=m
  ·simp[hx,hm]
  ·simp[hx]
theorem CB {β:Type}{k:Int}{l:List (Int×β)}(h:(l.map (·.1)).Nodup):((fZ k l).map (·.1)).Nodup:=List.Nodup.sublist (List.Sublist.map _ List.filter_sublist) h
theorem CC {β:Type}(x:Int×β)(l:List (Int×β)):(jB jQ x l).Perm (x::l):=by
 induction l with
 |nil=>exact List.Perm.refl _
 |cons y r ih=>
  unfold jB;split
  ·exact List.Perm.refl _
  ·exact(List.Perm.cons y ih).trans (List.Perm.swap x y r)
theorem OO {β:Type}{k:Int}{s:β}{l:List (Int×β)}(h:(l.map (·.1)).Nodup):((ee jQ k s l).map (·.1)).Nodup:=by
 have hp:=(CC (k,s) (fZ k l)).map (·.1);refine hp.nodup_iff.2 ?_;rw[atF,List.nodup_cons];refine⟨fun hm=>?_,CB h⟩;obtain⟨x,hx,e⟩:=aui.1 hm;have:=(atD.1 hx).2;simp at this;exact this e
theorem Tx {β:Type}{k:Int}{s:β}{l:List (Int×β)}{x:Int×β}(h:x∈ee jQ k s l):x=(k,s)\/(x∈l/\x.1≠k):=by
 rcases at9.1 ((CC (k,s) (fZ k l)).mem_iff.1 h)with h|h
 ·exact .inl h
 ·exact .inr ⟨(atD.1 h).1,by simpa using(atD.1 h).2⟩
theorem KM {l:List (Int×Nat)}(h:(l.map (·.1)).Nodup)(hk:∀ x∈l,0<=x.1/\x.1<4096):l.length<=4096:=by
 have hn:(l.map fun x=>x.1.toNat).Nodup:=by
  have:=List.Pairwise.map (S:=fun(a b:Nat)=>a≠b) Int.toNat (R:=fun(a b:Int)=>0<=a/\0<=b/\a≠b) (fun a b Na e=>Na.2.2 (by omega)) (l:=l.map (·.1)) (by
   refine List.Pairwise.imp_of_mem (R:=fun a b=>a≠b) (fun {a b} ha hb Na=>?_) h;obtain⟨x,hx,rfl⟩:=aui.1 ha;obtain⟨y,hy,rfl⟩:=aui.1 hb;exact⟨(hk x hx).1,(hk y hy).1,Na⟩)
  show List.Pairwise (fun a b=>a≠b) _;simpa[auc,Function.comp_def]using this
 have:=px hn (b:=List.range 4096) (fun x hx=>by
  obtain⟨y,hy,rfl⟩:=aui.1 hx;have:=hk y hy;rw[auH];omega)
 simpa using this
theorem iQ.range {w:World}{c r mb:Nat}{S:Nat->Prop}{K:Nat->Int}{V:Nat->List UInt8}{l:List (Int×Nat)}{F:Nat->Prop}(h:iQ w c r mb S K V l F):∀ x∈l,0<=x.1/\x.1<4096:=by
 intro x hx;obtain⟨h1,h2⟩:=h.keys x hx;obtain⟨pv,nx,hr⟩:=h.ring;have:=(hr _ h1).2.2.2;rw[<-h2];exact this
theorem X0 {w:World}{c r mb:Nat}{S:Nat->Prop}{K:Nat->Int}{V:Nat->List UInt8}{l:List (Int×Nat)}{F:Nat->Prop}(h:iQ w c r mb S K V l F)(k:Int)(hk:0<=k/\k<4096):
  Calls prog 189 #[aq c,.int .i64 k] w fun e w'=>(∃ v,e=.returned v)/\(∃ l',iQ w' c r mb S K V l' F/\∀ j,bD j l'=if j=k then none else bD j l)/\ah F w w'/\w'.heap.size=w.heap.size:=by
 have H:=hd0 h;have c1:w.cell? ⟨c,1,none⟩=some (.map (some mb)):=aa h.own 1;have lk:=dC.look (tm:=260) h.of underlying260 underlying3 (qv w) k ⟨by omega,by omega⟩;obtain⟨q,hq⟩:∃ q,bD k l=q:=⟨_,rfl⟩
 have Hq:=hd0 hq;rw[hq]at lk
 cases q with
 |none=>
  clear h hq;go_enter func189,ntmps189
  go_wp2
  go_ret;exact⟨⟨_,rfl⟩,⟨l,H.out,fun j=>by split;rename_i e;rw[e];exact Hq.out;rfl⟩,ah.refl _ _,rfl⟩
 |some b=>
  have hb:=h.keys _ (oC hq);have Hb:=hd0 hb.1;have O:=hd0 (h.ring.out (aq c) hb.1);clear h hq hb;go_enter func189,ntmps189;go_wp2_with fail;refine O.out.mono ?_;rintro e w1 ⟨rfl,Xq,mM,mK⟩;have X1:=H.out.turn mM Xq;have H1:=hd0 X1;have yl:=hd0 mM;have Hz1:=hd0 mK;have d1:w1.cell? ⟨c,1,none⟩=some (.map (some mb)):=aa X1.own 1;obtain⟨w2,hr,JU,de⟩:=dC.drop (tm:=260) X1.of underlying260 underlying3 k ⟨by omega,by omega⟩ 0;have ol:w2.heap.size=w1.heap.size:=by
   obtain⟨w3,Ks,_,_,hz⟩:=fg.drop (P:=prog) (tk:=3) (R:=jg) (ef:=yq) X1.of (tm:=260) underlying260 underlying3 k ⟨by omega,by omega⟩ 0;rw[hr]at Ks;injection Ks with _ e3;rw[e3];exact hz
  have Hof:=hd0 JU;have BM:=hd0 de;have Hz2:=hd0 ol;clear Xq mM mK X1 JU de ol
  go_wp2
  go_ret;refine⟨⟨_,rfl⟩,⟨fZ k l,?_,fun j=>KL k j l⟩,((yl.out.mono (fun i _ h=>H.out.fs i h)).trans (BM.out.mono (T:=F) (fun i _ e=>by subst e;exact H.out.fm)) (fun _ _ h=>h)),by rw[Hz2.out,Hz1.out]⟩
  exact { own:=ab BM.out H1.out.own H1.out.apart.1,of:=Hof.out,ring:=H1.out.ring.same fun b hb=>BM.out.block b (H1.out.lt b (H1.out.fs b hb)) (fun e=>H1.out.apart.2.2 (e▸hb)),root:=H1.out.root,
          keys:=fun x hx=>H1.out.keys x (atD.1 hx).1,one:=CB H1.out.one,fc:=H1.out.fc,fm:=H1.out.fm,fs:=H1.out.fs,apart:=H1.out.apart,lt:=fun b hb=>by rw[Hz2.out];exact H1.out.lt b hb }
end
end Go.Proofs.YtkghpdcloaiflaaGreatDoor
