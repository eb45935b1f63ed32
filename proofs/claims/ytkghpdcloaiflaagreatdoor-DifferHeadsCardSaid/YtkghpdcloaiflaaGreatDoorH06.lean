import Derived.Test.YtkghpdcloaiflaaGreatDoorH05
import Derived.Laws.CopyRow
set_option maxHeartbeats 4000000
set_option maxRecDepth 100000
namespace Go.Proofs.YtkghpdcloaiflaaGreatDoor
open _root_.Go.Proofs.Tryz
variable {F S:Nat->Prop}{K:Nat->Int}{M:Int->Option (List UInt8)}{V:Nat->List UInt8}{a b c mb r x:Nat}{k:Int}{l:List (Int×Nat)}{w w':World}
section
open Go.RowKit Go.Maps
theorem GE (l:List (List UInt8))(i:Nat)(s:List UInt8):(aI l).setIfInBounds i (.string ⟨s.toArray⟩)=aI (l.set i s):=by
 apply Array.ext';simp[aI,List.map_set]
theorem AU {d:Dk}{dW:List (List UInt8)}(hl:dW.length=d.stays.length)(h:∀ m,m<d.stays.length->dW.getD m []=d.get m):dW=d.sync.stays:=by
 apply List.ext_getElem
 ·simp[Dk.sync,hl]
 ·intro i h1 h2;have:=h i J;simp only[List.getD,av6 h1,awG]at this;simp[Dk.sync,this]
theorem pz {p:Nat}{d:Dk}(h:bE w p d F):
  Calls prog 154 #[.pointer (some ⟨p,0,none⟩)] w λe w'=>e=.returned (.int .i64 0)/\∃ F',bE w' p d.sync F'/\dO F F' w w':=by
 have S:=Z (vQ h);obtain⟨sb,mb,xb,ov,st,keep,lo,h⟩:=h;have H:=Z h;have c7:w.cell? ⟨p,7,none⟩=some (.bool false):=aa h.own 7;clear h;go_enter func154,ntmps154;go_wp2_with fail;refine S.mono ?_;rintro e w1 ⟨rfl,AC,dh,Cy⟩;have X1:=H.stepped AC dh;rw[<-Cy]at X1;have M1:Hid (ai (λb=>b=p) w w1):=Z (by rw[Cy];exact(ai.refl (λb=>b=p) w).setCell (p:=⟨p,4,none⟩) (.inl rfl) _);have HX:=Z X1;have d1:w1.cell? ⟨p,1,none⟩=some (.map (some mb)):=aa X1.own 1;have Cc:=Z dh;clear X1 dh Cy c7;go_wp2_with (at_range;refine wpList_range_own _ rfl _ 152 rfl 3 9 (int_keyed underlying3) underlying152 _ mb lo.length (Cw (Lit.int .i64) C4 lo) rfl HX.loose ?_;intro w2 TJ hg0 WB)
 go_frame
 have hsb:=HX.lt sb HX.fs;have zn:=HX.lt mb HX.fm;obtain⟨Od,eR⟩:=K2 TJ (vG hg0);clear TJ hg0 WB d1;have Za:∀ m,m<d.stays.length->has (Cw (Lit.int .i64) C4 lo) (.int .i64 (m:Int))=false->d.stays.getD m []=d.get m:=λm hm hl=>by
  rw[rE cN,HX.get m]at hl;unfold Dk.get
  cases hq:ec d.lo m with
  |none=>rfl
  |some s=>rw[hq]at hl;cases hl
 have Y4:=Z Za;clear Za
 go_loopw [] (λwr=>∃(left:Lit->Bool) (lZ:Nat) (dW:List (List UInt8)),World.ranges wr prog 3 (plainElem prog 9) mb w1.heap.size lo.length (Cw (Lit.int .i64) C4 lo) left lZ/\ai (λb=>b=sb) w1 wr/\World.blk wr sb (aI dW) 9/\Hid (dW.length=d.stays.length/\∀ m,m<d.stays.length->left (.int .i64 (m:Int))=false->dW.getD m []=d.get m)) (λwr=>wr.rangeLeft mb w1.heap.size)
 case atStart=>exact⟨_,_,d.stays,Od.o,eR.mono (λ_ _ h=>h.elim),ab eR.o HX.stays id,Z ⟨rfl,Y4.o⟩⟩
 case round=>
  clear Od eR Y4;obtain⟨left,lZ,dW,hrg,hM,hB,Hq⟩:=hrel;obtain⟨ON,HM,HB⟩:=K3 hrg hM hB;clear hrg hM hB;go_wp2_with (at_next;refine Lh vP underlying3 rfl _ rfl w1.heap.size left lZ rfl ON.o ?_ ?_)
  ·intro _ Jg;have akR:Hid (dW=d.sync.stays):=Z (AU Hq.1 λm hm=>Hq.2 m hm (Jg _));have e1:wr.cell? ⟨p,1,none⟩=some (.map (some mb)):=aa (ab HM.o HX.own HX.apart.1) 1;obtain⟨w3,vh,eA,dV,cJ⟩:=(HX.loose.mod HM.o (λe=>HX.apart.2.2.2.1 e.symm)).clear (tm:=152) underlying152 0;have Xg:=ab dV (ab HM.o HX.own HX.apart.1) HX.apart.2.1;have f2:=ae Xg ⟨p,2,none⟩ rfl;have e2:w3.cell? ⟨p,2,none⟩=some ov:=aa Xg 2;obtain⟨aaT,BV,agB⟩:=K3 eA dV Xg;clear Jg eA dV Xg
   go_wp2
   go_ret;have hsy:d.sync.size=d.size:=dx d;refine⟨rfl,F,⟨sb,mb,xb,.slice none 0 0,AC,keep,[],?_⟩,?_,λ_ hb=>.inl hb⟩
   ·have m4:ai (λb=>b=p) w3 (w3.setCell ⟨p,2,none⟩ (.slice none 0 0)):=(ai.refl (λb=>b=p) w3).setCell (p:=⟨p,2,none⟩) (.inl rfl) _;have mA:ai (λb=>b=sb\/b=mb) w1 w3:=(HM.mono (λ_ _ h=>.inl h)).trans BV.o (λ_ _ h=>.inr h)
    exact { own:=by
             have:=ah agB.o 2 (.slice none 0 0);have e:ow sb mb xb (.slice none 0 0) AC keep d.sync=ow sb mb xb (.slice none 0 0) AC keep d:=by unfold ow;rw[hsy]
             rw[e];exact this,
            stays:=by rw[<-akR.o];exact ab m4 (ab BV.o HB.o HX.apart.2.2.2.1) (λe=>HX.apart.1 e.symm),
            loose:=aaT.mod m4 (λe=>HX.apart.2.1 e.symm),
            bad:=(HX.bad.mod mA (λe=>e.elim (λe=>HX.apart.2.2.2.2.1 e.symm) (λe=>HX.apart.2.2.2.2.2 e.symm))).mod m4 (λe=>HX.apart.2.2.1 e.symm),
            order:=⟨rfl,.inl ⟨rfl,rfl⟩⟩,ok:=UT HX.ok,get:=λ_=>rfl,keys:=by simp,many:=av9 _,steps:=Cc.o,fp:=HX.fp,fs:=HX.fs,fm:=HX.fm,fx:=HX.fx,fo:=by simp[Value.ownBlock],
            apart:=HX.apart,aparto:=by simp[Value.ownBlock],lt:=λb hb=>awg (HX.lt b hb) (av2 mA.size m4.size) }
   ·exact(((M1.mono (T:=F) (λi _ e=>by subst e;exact H.fp)).trans (HM.mono (T:=F) (λi _ e=>by subst e;exact H.fs)) (λ_ _ h=>h)).trans (BV.mono (T:=F) (λi _ e=>by subst e;exact H.fm)) (λ_ _ h=>h)).setCell (p:=⟨p,2,none⟩) (.inl H.fp) _
  ·intro x c w' yg Cs vg FZ hg T9 aP iB oc hen;have hgx:=hg;obtain⟨m,Yq,Sr⟩:=HX.keys (x,c) (by
    unfold bM at hg;rw[axg]at hg;obtain⟨y,hy,rfl⟩:=hg;have h1:=aw1 hy;have h2:=aw2 hy;have h3:y.1=x:=by simpa using h1
    rw[<-h3];exact h2)
   subst Yq;have Kw:m<d.stays.length:=by
    cases hq:ec d.lo m with
    |none=>rw[hq]at Sr;cases Sr
    |some s=>
     unfold ec at hq;rw[axg]at hq;obtain⟨y,hy,rfl⟩:=hq;have h1:=aw1 hy;have h3:y.1=m:=by simpa using h1
     have:=(HX.ok.lo y (aw2 hy)).1;omega
   have hdg:d.get m=c:=by
    have:=HX.get m;rw[hgx]at this;unfold Dk.get;rw[<-this]
   have gi:Hid (ai (λb=>b=sb) w1 w'):=Z (HM.trans iB (λi hi e=>by subst e;omega));have hB2:=ab iB HB.o J;have e0:w'.cell? ⟨p,0,none⟩=some (.slice (some ⟨sb,0,none⟩) d.size d.size):=aa (ab gi.o HX.own HX.apart.1) 0;have fs:=ae hB2 ⟨sb,m,none⟩ rfl;have es:w'.cell? ⟨sb,m,none⟩=some (.string ⟨(dW.getD m []).toArray⟩):=by
    rw[aa hB2 m];have:m<dW.length:=by rw[Hq.1];exact Kw
    simp[aI,List.getD,this]
   have OZ:(m:Int)<(d.size:Int):=by show(m:Int)<(d.stays.length:Int);omega
   have le:d.size<=16384:=HX.ok.many;obtain⟨lJ,zm,Hlt,yB,Hdg⟩:=K5 hB2 T9 (show yg<lZ from aP) (ON.left_eq) hdg;have Hq2:Hid ((dW.set m c).length=d.stays.length/\∀ k,k<d.stays.length->(left (.int .i64 (k:Int))&&!(Lit.int .i64 (k:Int)).sameKey (.int .i64 (m:Int)))=false->(dW.set m c).getD k []=d.get k):=Z ⟨by simpa using Hq.1,λk hk hl=>by
    by_cases vd:k=m
    ·subst vd;have:k<dW.length:=by rw[Hq.1];exact hk
     simp[List.getD,this,hdg]
    ·have h1:(Lit.int .i64 (k:Int)).sameKey (.int .i64 (m:Int))=false:=by rw[cN];simp;omega
     rw[h1]at hl;have h2:=Hq.2 k hk (by simpa using hl);simp only[List.getD,List.getElem?_set]at h2 ⊢;rw[awf (λe=>vd e.symm)];exact h2⟩
   clear FZ hg hgx T9 aP iB hB2 hdg Sr Kw;go_wp2_with fail;have m5:ai (λb=>b=sb) w' (w'.setCell ⟨sb,m,none⟩ (.string ⟨c.toArray⟩)):=(ai.refl (λb=>b=sb) w').setCell (p:=⟨sb,m,none⟩) (.inl rfl) _;have ae3:=Z (zm.kept (sP m5) (by have:=HX.apart.2.2.2.1;simp;omega) (by simp;omega));refine⟨⟨_,yg,dW.set m c,ae3.o,gi.setCell (p:=⟨sb,m,none⟩) (.inl rfl) _,by rw[<-GE];exact ah lJ.o m _,Hq2⟩,?_⟩;rw[ae3.left_eq,yB.o];exact Hlt.o
end
section
open Go.RowKit Go.Shelf
attribute [local go_sem] av0
def ma (x:List UInt8)(n k:Nat):List (List UInt8):=List.replicate k x++List.replicate (n-k) []
theorem AV {P:Program}{ts te:TypeId}(hs:P.underlying ts=some (.slice te))(hi:(P.info? te).map (λi=>(i.zero,i.size,i.bytes))=some (some (.string ⟨#[]⟩),1,16))(r:Nat)(hr:r<=1000000)(W:World):
  (Instr.makeSlice ts (.int .i64 r) (.int .i64 r)).run P W=.ok (.slice (some ⟨W.heap.size,0,none⟩) r r) (W.alloc (.cells (aI (List.replicate r [])) te)):=by
 obtain⟨i0,hi,iK,lX,mJ⟩:=awj hi;have h:=run_make (P:=P) W ts te i0 (.string ⟨#[]⟩) hs hi iK .i64 .i64 (r:Int) (r:Int) J (Int.le_refl _) (by rw[mJ];omega) J;rw[awH,lX,Nat.mul_one,rz _ rfl]at h;have e:Array.replicate r (Value.string ⟨#[]⟩)=aI (List.replicate r []):=by
  apply Array.ext';simp[aI]
 rwa [e]at h
theorem rI (w:World)(c c':Array Value)(t:TypeId):(w.alloc (.cells c t)).setRow w.heap.size c'=w.alloc (.cells c' t):=by
 unfold World.setRow World.alloc
 congr 1
 apply Array.ext
 ·simp
 ·intro i h1 h2;simp only[Array.size_modify,Array.size_push]at h1;rw[Array.getElem_modify];by_cases h:i=w.heap.size
  ·subst h;simp
  ·have:i<w.heap.size:=J
   simp[Array.getElem_push,this,Ne.symm h]
theorem Pr (w:World)(x:List UInt8)(n k:Nat)(h1:1<=k)(hk:k<n)(ty:TypeId)(m c1 c2:Nat):
  (Builtin.copy_ #[149,149] ty #[.slice (some ⟨w.heap.size,k,none⟩) (n-k) c1,.slice (some ⟨w.heap.size,0,none⟩) k c2]).run prog ((w.alloc (.cells (aI (ma x n k)) 9)).drewN m)=.ok (.int .i64 ((min k (n-k):Nat):Int)) ((w.alloc (.cells (aI (ma x n (k+min k (n-k)))) 9)).drewN m):=by
 have cJ:((w.alloc (.cells (aI (ma x n k)) 9)).drewN m).heap[w.heap.size]?=some (.cells (aI (ma x n k)) 9 (0,0)):=cf (av w _ _) m;have cq:=run_copy_row (P:=prog) ((w.alloc (.cells (aI (ma x n k)) 9)).drewN m) 149 149 ty 9 w.heap.size k (n-k) c1 ⟨w.heap.size,0,none⟩ k c2 (aI (ma x n k)) 9 (List.replicate (min k (n-k)) (.string ⟨x.toArray⟩))
  underlying149 kr7 cJ sp7 (λj v hj=>by
   obtain⟨Up,rfl⟩:j<min k (n-k)/\v=.string ⟨x.toArray⟩:=by
    rw[List.getElem?_replicate]at hj;split at hj
    ·rename_i h;exact⟨h,by injection hj with e;exact e.symm⟩
    ·cases hj
   rw[ij,awR];simp only[World.cell?,cJ];have:j<k:=J
   simp[aI,ma,List.getElem?_append,this]) (by simp[aI,ma];omega) (by intro u hu;rw[List.mem_replicate]at hu;rw[hu.2];rfl)
 rw[cq];have e1:goInt (List.replicate (min k (n-k)) (Value.string ⟨x.toArray⟩)).length=.int .i64 ((min k (n-k):Nat):Int):=by simp[goInt]
 have e2:(((aI (ma x n k)).toList.take k)++List.replicate (min k (n-k)) (Value.string ⟨x.toArray⟩)++(aI (ma x n k)).toList.drop (k+(List.replicate (min k (n-k)) (Value.string ⟨x.toArray⟩)).length)).toArray=aI (ma x n (k+min k (n-k))):=by
  apply Array.ext';simp only[aI,ma,List.map_append,List.map_replicate,List.length_replicate];rw[List.take_left' sp7,List.drop_append,axu sp7,awE];simp only[List.length_replicate,List.drop_replicate];rw[List.replicate_append_replicate]
  congr 2
  omega
 rw[e1,e2]
 congr 1
 exact axi (λW=>World.drewN W m) (rI w _ _ _)
theorem Lo (w:World)(b:Nat)(x:List UInt8)(n:Nat)(h1:1<=n)(hb:World.blk w b #[.string ⟨x.toArray⟩] 9)(ty:TypeId)(c1 c2:Nat):
  (Builtin.copy_ #[149,149] ty #[.slice (some ⟨w.heap.size,0,none⟩) n c1,.slice (some ⟨b,0,none⟩) 1 c2]).run prog (w.alloc (.cells (aI (List.replicate n [])) 9))=.ok (.int .i64 1) (w.alloc (.cells (aI (ma x n 1)) 9)):=by
 have cJ:(w.alloc (.cells (aI (List.replicate n [])) 9)).heap[w.heap.size]?=some (.cells (aI (List.replicate n [])) 9 (0,0)):=av w _ _;have fh:=aE hb (.cells (aI (List.replicate n [])) 9);have cq:=run_copy_row (P:=prog) (w.alloc (.cells (aI (List.replicate n [])) 9)) 149 149 ty 9 w.heap.size 0 n c1 ⟨b,0,none⟩ 1 c2 (aI (List.replicate n [])) 9 [.string ⟨x.toArray⟩]
  underlying149 kr7 cJ (by show 1=Nat.min 1 n;exact(Nat.min_eq_left h1).symm) (λj v hj=>by
   rw[ij,awR,aa fh j];simpa using hj) (by simp[aI];omega) (by intro u hu;simp at hu;rw[hu];rfl)
 rw[cq];have e2:(((aI (List.replicate n [])).toList.take 0)++[Value.string ⟨x.toArray⟩]++(aI (List.replicate n ([]:List UInt8))).toList.drop (0+[Value.string ⟨x.toArray⟩].length)).toArray=aI (ma x n 1):=by
  apply Array.ext';simp[aI,ma]
 rw[e2]
 congr 1
 exact rI w _ _ _
theorem Lp (w:World)(b:Nat)(x:List UInt8)(n:Nat)(hn:1<=n/\n<=16384)(hb:World.blk w b #[.string ⟨x.toArray⟩] 9):
  Calls prog 94 #[.slice (some ⟨b,0,none⟩) 1 1,.int .i64 (n:Int)] w λe w'=>e=.returned (.slice (some ⟨w.heap.size,0,none⟩) n n)/\World.blk w' w.heap.size (aI (List.replicate n x)) 9/\af w w'/\w'.heap.size=w.heap.size+1:=by
 have hmu:=Z (Tryz.bits_Mul 1 n J J w);have e0:(1*n/18446744073709551616:Nat)=0:=J
 have e1:(1*n%18446744073709551616:Nat)=n:=J
 have rx:=λW=>AV (P:=prog) underlying149 vM n J W;go_enter func94,ntmps94;go_wp2_with fail;refine hmu.mono ?_;rintro e w' ⟨rfl,rfl⟩;rw[e0,e1];have hbig:¬((n:Int)>9223372036854775807):=J
 have AH:=Lo w' b x n hn.1 hb 3 n 1;go_wp2_with fail;clear AH
 go_loopw [8] (λv wr=>∃ k m:Nat,1<=k/\k<=n/\v=.int .i64 (k:Int)/\wr=(w'.alloc (.cells (aI (ma x n k)) 9)).drewN m) (λv _=>n-(intOf v).toNat)
 case atStart=>exact⟨1,0,J,J,rfl,rfl⟩
 case round=>
  obtain⟨k,m,hk1,rq,rfl,rfl⟩:=hrel;by_cases aP:k<n
  ·have dL:(k:Int)<(n:Int):=J
   have Ch:(Builtin.copy_ #[149,149] 3 #[.slice (some ⟨w'.heap.size,k,none⟩) (n-k) (n-k),.slice (some ⟨w'.heap.size,0,none⟩) k n]).run prog ((w'.alloc (.cells (aI (ma x n k)) 9)).drewN (m+1))=.ok (.int .i64 ((min k (n-k):Nat):Int)) ((w'.alloc (.cells (aI (ma x n (k+min k (n-k)))) 9)).drewN (m+1)):=Pr w' x n k hk1 aP 3 (m+1) (n-k) n;have eG:¬ n=k:=J
   have hc3:((n-k:Nat):Int)=(n:Int)-(k:Int):=J
   go_wp2_with fail
   go_region
   go_wp2_with fail
   go_roundw
   case rel=>exact⟨k+min k (n-k),m+1,J,J,by go_num,rfl⟩
   case measure=>simp[intOf];omega
  ·obtain rfl:k=n:=J
   go_wp2;go_ret;have e:ma x k k=List.replicate k x:=by simp[ma]
   rw[e];exact⟨rfl,cf (av w' _ _) m,((ai.refl _ w').alloc _).drewN m,by simp[go_sem]⟩
def gR (n:Nat):Dk:=⟨List.replicate n (List.replicate 64 0),[]⟩
theorem Ps {n:Nat}(hn:n<=16384):yH (gR n):=⟨by simp[gR],by simp[gR],by simp[gR],by simpa[gR]using hn⟩
theorem iR (n:Nat):(gR n).size=n:=by simp[gR,Dk.size]
theorem XM:Lib.repeatL [(0:UInt8)] 64=List.replicate 64 0:=by decide
theorem Dd (w:World)(n:Nat)(hn:1<=n/\n<=16384):
  Calls prog 48 #[.int .i64 (n:Int)] w λe w'=>∃ p,e=.returned (.tuple #[.pointer (some ⟨p,0,none⟩),.int .i64 0])/\af w w'/\∃ F,bE w' p (gR n) F/\∀ b,F b->w.heap.size<=b:=by
 have R:=Z (Tryz.strings_Repeat ⟨[(0:UInt8)].toArray⟩ 64 w J dc7);have h1:¬(n:Int)<1:=J
 have h2:¬(16384:Int)<(n:Int):=J
 have Ug:=@run_makeMap prog;go_enter func48,ntmps48;go_wp2_with fail;refine R.mono ?_;rintro e w1 ⟨rfl,hb1⟩;have cC:=Z (ai.ofBelow hb1);clear hb1;have er:Lib.repeatL (ByteArray.mk [(0:UInt8)].toArray).data.toList 64=List.replicate 64 0:=XM;rw[er];generalize hz:List.replicate 64 (0:UInt8)=z0;go_wp2_with fail;refine(Lp (w1.alloc (.cells #[.string ⟨z0.toArray⟩] 9)) w1.heap.size z0 n hn (av w1 _ _)).mono ?_;rintro e w2 ⟨rfl,fh,dK,j5⟩;have cJ:(w1.alloc (.cells #[.string ⟨z0.toArray⟩] 9)).heap.size=w1.heap.size+1:=by simp
 rw[cJ]at fh j5 ⊢;obtain⟨nb,Oj⟩:∃ nb,w1.heap.size+1=nb:=⟨_,rfl⟩
 rw[Oj]at fh j5 ⊢;have bJ:Hid (af w w2):=Z ((cC.alloc _).trans dK (λ_ _ h=>h));have lJ:=Z fh;have HN:Hid (w.heap.size<=nb/\w2.heap.size=nb+1):=Z ⟨by have:=cC.size;omega,j5⟩;clear fh dK j5 cJ Oj;go_wp2;go_ret2;obtain⟨FS,Fy⟩:=HN.o;obtain⟨W,hW⟩:∃ W,W=((w2.alloc (.map #[] 0)).alloc (.map #[] 0)).alloc (.cells (ow nb (nb+1) (nb+2) (.slice none 0 0) 0 [] (gR n)) 155):=⟨_,rfl⟩
 have eW:∀ W',W'=W->∃ p,Ending.returned (.tuple #[.pointer (some ⟨nb+3,0,none⟩),.int .i64 0])=Ending.returned (.tuple #[.pointer (some ⟨p,0,none⟩),.int .i64 0])/\af w W'/\∃ F,bE W' p (gR n) F/\∀ b,F b->w.heap.size<=b:=by
  rintro W' rfl;have m2:af w2 W':=by rw[hW];exact(((ai.refl _ w2).alloc _).alloc _).alloc _
  have s3:W'.heap.size=nb+4:=by rw[hW];simp;omega
  refine⟨nb+3,rfl,bJ.trans m2 (λ_ _ h=>h),λb=>b=nb\/b=nb+1\/b=nb+2\/b=nb+3,⟨nb,nb+1,nb+2,.slice none 0 0,0,[],[],?_⟩,λb hb=>J⟩
  exact { own:=by rw[hW];exact aV (by simp;omega) _ _,
          stays:=by
           have e:(gR n).stays=List.replicate n z0:=by rw[<-hz];rfl
           rw[e];exact ab m2 lJ.o id,
          loose:=by
           have h1:JX (w2.alloc (.map #[] 0)) w2.heap.size []:=eY.made w2;rw[Fy]at h1;rw[hW];exact eY.mod h1 (((ai.refl _ _).alloc _).alloc _:af _ _) id,
          bad:=by
           have h1:JY ((w2.alloc (.map #[] 0)).alloc (.map #[] 0)) (w2.alloc (.map #[] 0)).heap.size []:=eY.made _;have e:(w2.alloc (.map #[] 0)).heap.size=nb+2:=by simp;omega
           rw[e]at h1;rw[hW];exact eY.mod h1 ((ai.refl _ _).alloc _:af _ _) id,
          order:=⟨rfl,.inl ⟨rfl,rfl⟩⟩,ok:=Ps hn.2,get:=λ_=>rfl,keys:=by simp,many:=av9 _,steps:=J,fp:=J,fs:=J,fm:=J,fx:=J,fo:=by simp[Value.ownBlock],
          apart:=J,aparto:=by simp[Value.ownBlock],lt:=λb hb=>by rw[s3];omega }
 simp only[Fy];exact eW _ (by rw[hW];unfold ow;rw[iR])
end
section
open Go.RowKit
abbrev au (b:Nat):Value:=.pointer (some ⟨b,0,none⟩)
theorem UY (w:World)(c:Value)(b a1 a2:Nat)(u1 u2:Value)(h2:w.cell? ⟨b,2,none⟩=some (au a1))(h3:w.cell? ⟨b,3,none⟩=some (au a2))
  (k1:w.cell? ⟨a1,3,none⟩=some u1) (f1:w.frozen? ⟨a1,3,none⟩=false) (k2:w.cell? ⟨a2,2,none⟩=some u2) (f2:w.frozen? ⟨a2,2,none⟩=false):
  Calls prog 184 #[c,au b] w λe w'=>e=.returned (.tuple #[])/\∃ m,w'=((w.setCell ⟨a1,3,none⟩ (au a2)).setCell ⟨a2,2,none⟩ (au a1)).drewN m:=by
 go_enter func184,ntmps184;go_wp2_with fail;refine gl 18 kr7 kr7 ?_;simp only[awS,awT,awU,awV]
 repeat (quiet_step (fail))
 refine awX ?_;intro _ bD;obtain⟨nq,rfl⟩:=bD
 go_wp2
 go_end0;exact⟨rfl,nq,rfl⟩
theorem zw (w:World)(c b r n:Nat)(u1 u2 u3:Value)(hc:w.cell? ⟨c,2,none⟩=some (au r))(hr:w.cell? ⟨r,3,none⟩=some (au n))(fr:w.frozen? ⟨r,3,none⟩=false)
  (b2:w.cell? ⟨b,2,none⟩=some u1) (fb2:w.frozen? ⟨b,2,none⟩=false) (b3:w.cell? ⟨b,3,none⟩=some u2) (fb3:w.frozen? ⟨b,3,none⟩=false) (n2:w.cell? ⟨n,2,none⟩=some u3) (fn2:w.frozen? ⟨n,2,none⟩=false):
  Calls prog 185 #[au c,au b] w λe w'=>e=.returned (.tuple #[])/\∃ m,w'=((((w.setCell ⟨b,2,none⟩ (au r)).setCell ⟨b,3,none⟩ (au n)).setCell ⟨r,3,none⟩ (au b)).setCell ⟨n,2,none⟩ (au b)).drewN m:=by
 obtain⟨w1,Cy⟩:∃ w1,w1=(w.setCell ⟨b,2,none⟩ (au r)).setCell ⟨b,3,none⟩ (au n):=⟨_,rfl⟩
 have e3:w1.cell? ⟨b,3,none⟩=some (au n):=by
  obtain⟨v,hv⟩:=cell?_setCell_some (p:=⟨b,2,none⟩) (x:=au r) b3;rw[Cy];exact World.cell?_setCell_same' _ _ _ (by rw[hv];rfl)
 have e2:w1.cell? ⟨b,2,none⟩=some (au r):=by
  rw[Cy,World.cell?_setCell_other _ _ _ _ sp7];exact World.cell?_setCell_same' _ _ _ (by rw[b2];rfl)
 obtain⟨u4,er⟩:∃ u,w1.cell? ⟨r,3,none⟩=some u:=by
  obtain⟨v,hv⟩:=cell?_setCell_some (p:=⟨b,2,none⟩) (x:=au r) hr;rw[Cy];exact cell?_setCell_some hv
 obtain⟨u5,en⟩:∃ u,w1.cell? ⟨n,2,none⟩=some u:=by
  obtain⟨v,hv⟩:=cell?_setCell_some (p:=⟨b,2,none⟩) (x:=au r) n2;rw[Cy];exact cell?_setCell_some hv
 obtain⟨u6,en2⟩:∃ u,(w1.setCell ⟨r,3,none⟩ (au b)).cell? ⟨n,2,none⟩=some u:=cell?_setCell_some en;have gr:w1.frozen? ⟨r,3,none⟩=false:=by rw[Cy,World.frozen?_setCell,World.frozen?_setCell];exact fr
 have gn:w1.frozen? ⟨n,2,none⟩=false:=by rw[Cy,World.frozen?_setCell,World.frozen?_setCell];exact fn2
 obtain⟨u7,eb3⟩:∃ u,(w.setCell ⟨b,2,none⟩ (au r)).cell? ⟨b,3,none⟩=some u:=cell?_setCell_some b3;have Hw1:=Z Cy;clear Cy;go_enter func185,ntmps185;go_wp2_with fail
 go_region
 go_wp2_with fail
 go_simp
 rw[<-Hw1.o]
 go_region
 go_wp2
 go_end0;exact⟨rfl,2,by rw[Hw1.o];rfl⟩
def upd {α:Type}(f:Nat->α)(a:Nat)(x:α):Nat->α:=λb=>if b=a then x else f b
theorem kx {α:Type}(f:Nat->α)(a:Nat)(x:α):upd f a x a=x:=by simp[upd]
theorem iS {α:Type}(f:Nat->α)(x:α)(h:b≠a):upd f a x b=f b:=by simp[upd,h]
def qC (k:Int)(v:List UInt8)(p n:Value):Array Value:=#[.int .i64 k,.string ⟨v.toArray⟩,p,n]
def jI (w:World)(S:Nat->Prop)(K:Nat->Int)(V:Nat->List UInt8):Prop:=
 ∃ pv nx:Nat->Nat,∀ b,S b->World.blk w b (qC (K b) (V b) (au (pv b)) (au (nx b))) 265/\S (pv b)/\S (nx b)/\0<=K b/\K b<4096
theorem jI.next (h:jI w S K V)(hx:S x):jI (w.setCell ⟨a,3,none⟩ (au x)) S K V:=by
 obtain⟨pv,nx,h⟩:=h;refine⟨pv,upd nx a x,λb hb=>?_⟩;obtain⟨h1,h2,h3,h4⟩:=h b hb;by_cases e:b=a
 ·subst e;rw[kx];exact⟨ah h1 3 _,h2,hx,h4⟩
 ·rw[iS _ _ e];exact⟨aZ h1 ⟨a,3,none⟩ e _,h2,h3,h4⟩
theorem jI.prev (h:jI w S K V)(hx:S x):jI (w.setCell ⟨a,2,none⟩ (au x)) S K V:=by
 obtain⟨pv,nx,h⟩:=h;refine⟨upd pv a x,nx,λb hb=>?_⟩;obtain⟨h1,h2,h3,h4⟩:=h b hb;by_cases e:b=a
 ·subst e;rw[kx];exact⟨ah h1 2 _,hx,h3,h4⟩
 ·rw[iS _ _ e];exact⟨aZ h1 ⟨a,2,none⟩ e _,h2,h3,h4⟩
theorem jI.thing (h:jI w S K V)(a:Nat)(s:List UInt8):jI (w.setCell ⟨a,1,none⟩ (.string ⟨s.toArray⟩)) S K (upd V a s):=by
 obtain⟨pv,nx,h⟩:=h;refine⟨pv,nx,λb hb=>?_⟩;obtain⟨h1,h2,h3,h4⟩:=h b hb;by_cases e:b=a
 ·subst e;rw[kx];exact⟨ah h1 1 _,h2,h3,h4⟩
 ·rw[iS _ _ e];exact⟨aZ h1 ⟨a,1,none⟩ e _,h2,h3,h4⟩
theorem jI.same (h:jI w S K V)(m:∀ b,S b->w'.heap[b]?=w.heap[b]?):jI w' S K V:=by
 obtain⟨pv,nx,h⟩:=h;exact⟨pv,nx,λb hb=>⟨(m b hb).trans (h b hb).1,(h b hb).2⟩⟩
theorem jI.o (h:jI w S K V)(c:Value)(hb:S b):
  Calls prog 184 #[c,au b] w λe w'=>e=.returned (.tuple #[])/\jI w' S K V/\ai S w w'/\w'.heap.size=w.heap.size:=by
 have h0:=h;obtain⟨pv,nx,h⟩:=h;obtain⟨h1,h2,h3,_⟩:=h b hb;obtain⟨p1,_⟩:=h (pv b) h2;obtain⟨n1,_⟩:=h (nx b) h3;refine(UY w c b (pv b) (nx b) _ _ (aa h1 2) (aa h1 3) (aa p1 3) (ae p1 _ rfl) (aa n1 2) (ae n1 _ rfl)).mono ?_;rintro e w' ⟨rfl,m,rfl⟩;refine⟨rfl,?_,(((ai.refl S w).setCell (p:=⟨pv b,3,none⟩) (.inl h2) _).setCell (p:=⟨nx b,2,none⟩) (.inl h3) _).drewN m,by simp[go_sem]⟩;exact((h0.next h3).prev h2).same λb hb=>rfl
theorem jI.first (h:jI w S K V)(hc:w.cell? ⟨c,2,none⟩=some (au r))(hr:S r)(hb:S b):
  Calls prog 185 #[au c,au b] w λe w'=>e=.returned (.tuple #[])/\jI w' S K V/\ai S w w'/\w'.heap.size=w.heap.size:=by
 have h0:=h;obtain⟨pv,nx,h⟩:=h;obtain⟨r1,r2,r3,_⟩:=h r hr;obtain⟨b1,_⟩:=h b hb;obtain⟨n1,_⟩:=h (nx r) r3;refine(zw w c b r (nx r) _ _ _ hc (aa r1 3) (ae r1 _ rfl) (aa b1 2) (ae b1 _ rfl) (aa b1 3) (ae b1 _ rfl) (aa n1 2) (ae n1 _ rfl)).mono ?_;rintro e w' ⟨rfl,m,rfl⟩;refine⟨rfl,?_,(((((ai.refl S w).setCell (p:=⟨b,2,none⟩) (.inl hb) _).setCell (p:=⟨b,3,none⟩) (.inl hb) _).setCell (p:=⟨r,3,none⟩) (.inl hr) _).setCell (p:=⟨nx r,2,none⟩) (.inl r3) _).drewN m,by simp[go_sem]⟩;exact((((h0.prev hr).next r3).next hb).prev hb).same λb hb=>rfl
structure iT (w:World)(c r mb:Nat)(S:Nat->Prop)(K:Nat->Int)(V:Nat->List UInt8)(l:List (Int×Nat))(F:Nat->Prop):Prop where
 own:World.blk w c #[.int .i64 32,.map (some mb),au r] 262
 of:dJ prog 3 w mb l
 ring:jI w S K V
 root:S r
 keys:∀ x∈l,S x.2/\K x.2=x.1
 one:(l.map (·.1)).Nodup
 fc:F c
 fm:F mb
 fs:∀ b,S b->F b
 apart:c≠mb/\¬ S c/\¬ S mb
 lt:∀ b,F b->b<w.heap.size
def gz (w:World)(c:Nat)(M:Int->Option (List UInt8))(F:Nat->Prop):Prop:=∃ r mb S K V l,iT w c r mb S K V l F/\∀ k,M k=(bM k l).map V
theorem iT.same (h:iT w c r mb S K V l F)(m:fy F w w')(hs:w.heap.size<=w'.heap.size):iT w' c r mb S K V l F where
 own:=(m c h.fc (h.lt c h.fc)).trans h.own
 of:=by
  obtain⟨es,clock,hb,X,hs,hD⟩:=h.of;exact⟨es,clock,(m mb h.fm (h.lt mb h.fm)).trans hb,X,hs,hD⟩
 ring:=h.ring.same λb hb=>m b (h.fs b hb) (h.lt b (h.fs b hb))
 root:=h.root
 keys:=h.keys
 one:=h.one
 fc:=h.fc
 fm:=h.fm
 fs:=h.fs
 apart:=h.apart
 lt b hb:=awg (h.lt b hb) hs
theorem gz.same (h:gz w c M F)(m:fy F w w')(hs:w.heap.size<=w'.heap.size):gz w' c M F:=by
 obtain⟨r,mb,S,K,V,l,h,hM⟩:=h;exact⟨r,mb,S,K,V,l,h.same m hs,hM⟩
theorem iT.turn {V':Nat->List UInt8}(h:iT w c r mb S K V l F)(m:ai S w w')(hR:jI w' S K V'):iT w' c r mb S K V' l F where
 own:=ab m h.own h.apart.2.1
 of:=dJ.mod h.of m h.apart.2.2
 ring:=hR
 root:=h.root
 keys:=h.keys
 one:=h.one
 fc:=h.fc
 fm:=h.fm
 fs:=h.fs
 apart:=h.apart
 lt b hb:=awg (h.lt b hb) m.size
theorem ox {β:Type}{x:β}{l:List (Int×β)}(h:bM k l=some x):(k,x)∈l:=by
 unfold bM at h;rw[axg]at h;obtain⟨y,hy,rfl⟩:=h;have h1:=aw1 hy;have h3:y.1=k:=by simpa using h1
 rw[<-h3];exact aw2 hy
theorem qD (W:World):(zeroValue 258).run prog W=.ok (.pointer none) W:=kr7
theorem Pt (h:gz w c M F)(k:Int)(hk:0<=k/\k<4096):
  Calls prog 107 #[au c,.int .i64 k] w λe w'=>e=.returned (.tuple #[.string ⟨((M k).getD []).toArray⟩,.bool (M k).isSome])/\gz w' c M F/\dO F F w w':=by
 obtain⟨r,mb,S,K,V,l,h,hM⟩:=h;obtain⟨H,HM⟩:=K2 h hM;have c1:w.cell? ⟨c,1,none⟩=some (.map (some mb)):=aa h.own 1;have lk:=dJ.look (tm:=260) h.of underlying260 underlying3 (qD w) k ⟨by omega,J⟩;obtain⟨q,hq⟩:∃ q,bM k l=q:=⟨_,rfl⟩
 have Hq:=Z hq;rw[hq]at lk
 cases q with
 |none=>
  have Hr:Hid (M k=none):=Z (by rw[hM,hq];rfl);clear h hM hq;go_enter func107,ntmps107
  go_wp2
  go_ret2;exact⟨by rw[Hr.o];rfl,⟨r,mb,S,K,V,l,H.o,HM.o⟩,dO.refl _ _⟩
 |some b=>
  have hb:=h.keys _ (ox hq);have Hb:=Z hb.1;have Hr:Hid (M k=some (V b)):=Z (by rw[hM,hq];rfl);have O:=Z (h.ring.o (au c) hb.1);clear h hM hq hb;go_enter func107,ntmps107;go_wp2_with fail;refine O.mono ?_;rintro e w1 ⟨rfl,Zf,iB,_⟩;obtain⟨H1,rl⟩:=K2 (H.turn iB Zf) iB;clear Zf iB;go_wp2_with fail;refine(H1.ring.first (aa H1.own 2) H.root Hb.o).mono ?_;rintro e w2 ⟨rfl,SF,db,_⟩;obtain⟨H2,gi⟩:=K2 (H1.turn db SF) (rl.trans db λ_ _ h=>h);have e1:w2.cell? ⟨b,1,none⟩=some (.string ⟨(V b).toArray⟩):=by
   obtain⟨pv,nx,hr⟩:=SF;exact aa (hr b Hb.o).1 1
  clear SF db
  go_wp2
  go_ret2;exact⟨by rw[Hr.o];rfl,⟨r,mb,S,K,V,l,H2.o,HM.o⟩,gi.mono (λi _ h=>H.fs i h),λ_ h=>.inl h⟩
theorem Lq {β:Type}(k m:Int)(l:List (Int×β)):bM m (iO k l)=if m=k then none else bM m l:=by
 unfold bM iO;rw[List.find?_filter];split
 ·rename_i h
  subst h;rw[Option.map_eq_none_iff,aw4];intro x _;simp
 ·rename_i hm
  congr 1
  congr 1
  funext x
  by_cases hx:x.1=m
  ·simp[hx,hm]
  ·simp[hx]
theorem De {β:Type}{l:List (Int×β)}(h:(l.map (·.1)).Nodup):((iO k l).map (·.1)).Nodup:=List.Nodup.sublist (List.Sublist.map _ List.filter_sublist) h
theorem Df {β:Type}(x:Int×β)(l:List (Int×β)):(jH jS x l).Perm (x::l):=by
 induction l with
 |nil=>exact List.Perm.refl _
 |cons y r ih=>
  unfold jH;split
  ·exact List.Perm.refl _
  ·exact(List.Perm.cons y ih).trans (List.Perm.swap x y r)
theorem Pu {β:Type}{s:β}{l:List (Int×β)}(h:(l.map (·.1)).Nodup):((ee jS k s l).map (·.1)).Nodup:=by
 have hp:=(Df (k,s) (iO k l)).map (·.1);refine hp.nodup_iff.2 ?_;rw[av3,List.nodup_cons];refine⟨λhm=>?_,De h⟩;obtain⟨x,hx,e⟩:=awB.1 hm;have:=(av1.1 hx).2;simp at this;exact this e
theorem UZ {β:Type}{s:β}{l:List (Int×β)}{x:Int×β}(h:x∈ee jS k s l):x=(k,s)\/(x∈l/\x.1≠k):=by
 rcases aws.1 ((Df (k,s) (iO k l)).mem_iff.1 h)with h|h
 ·exact .inl h
 ·exact .inr ⟨(av1.1 h).1,by simpa using(av1.1 h).2⟩
theorem Lr (h:(l.map (·.1)).Nodup)(hk:∀ x∈l,0<=x.1/\x.1<4096):l.length<=4096:=by
 have hn:(l.map λx=>x.1.toNat).Nodup:=by
  have:=List.Pairwise.map (S:=λ(a b:Nat)=>a≠b) Int.toNat (R:=λ(a b:Int)=>0<=a/\0<=b/\a≠b) (λa b NZ e=>NZ.2.2 J) (l:=l.map (·.1)) (by
   refine List.Pairwise.imp_of_mem (R:=λa b=>a≠b) (λ{a b} ha hb NZ=>?_) h;obtain⟨x,hx,rfl⟩:=awB.1 ha;obtain⟨y,hy,rfl⟩:=awB.1 hb;exact⟨(hk x hx).1,(hk y hy).1,NZ⟩)
  show List.Pairwise (λa b=>a≠b) _;simpa[awv,Function.comp_def]using this
 have:=px hn (b:=List.range 4096) (λx hx=>by
  obtain⟨y,hy,rfl⟩:=awB.1 hx;have:=hk y hy;rw[aw0];omega)
 simpa using this
theorem iT.range (h:iT w c r mb S K V l F):∀ x∈l,0<=x.1/\x.1<4096:=by
 intro x hx;obtain⟨h1,h2⟩:=h.keys x hx;obtain⟨pv,nx,hr⟩:=h.ring;have:=(hr _ h1).2.2.2;rw[<-h2];exact this
theorem ZB (h:iT w c r mb S K V l F)(k:Int)(hk:0<=k/\k<4096):
  Calls prog 189 #[au c,.int .i64 k] w λe w'=>(∃ v,e=.returned v)/\(∃ l',iT w' c r mb S K V l' F/\∀ j,bM j l'=if j=k then none else bM j l)/\ai F w w'/\w'.heap.size=w.heap.size:=by
 have H:=Z h;have c1:w.cell? ⟨c,1,none⟩=some (.map (some mb)):=aa h.own 1;have lk:=dJ.look (tm:=260) h.of underlying260 underlying3 (qD w) k ⟨by omega,J⟩;obtain⟨q,hq⟩:∃ q,bM k l=q:=⟨_,rfl⟩
 have Hq:=Z hq;rw[hq]at lk
 cases q with
 |none=>
  clear h hq;go_enter func189,ntmps189
  go_wp2
  go_ret;exact⟨⟨_,rfl⟩,⟨l,H.o,λj=>by split;rename_i e;rw[e];exact Hq.o;rfl⟩,ai.refl _ _,rfl⟩
 |some b=>
  have hb:=h.keys _ (ox hq);obtain⟨Hb,O⟩:=K2 hb.1 (h.ring.o (au c) hb.1);clear h hq hb;go_enter func189,ntmps189;go_wp2_with fail;refine O.mono ?_;rintro e w1 ⟨rfl,Zf,iB,lX⟩;have X1:=H.turn iB Zf;obtain⟨H1,rl,Hz1⟩:=K3 X1 iB lX;have d1:w1.cell? ⟨c,1,none⟩=some (.map (some mb)):=aa X1.own 1;obtain⟨w2,hr,OE,dV⟩:=dJ.drop (tm:=260) X1.of underlying260 underlying3 k ⟨by omega,J⟩ 0;have mJ:w2.heap.size=w1.heap.size:=by
   obtain⟨w3,yF,_,_,hz⟩:=eY.drop (P:=prog) (tk:=3) (R:=ji) (ef:=yJ) X1.of (tm:=260) underlying260 underlying3 k ⟨by omega,J⟩ 0;rw[hr]at yF;injection yF with _ e3;rw[e3];exact hz
  obtain⟨Hof,BV,Hz2⟩:=K3 OE dV mJ;clear Zf iB lX X1 OE dV mJ
  go_wp2
  go_ret;refine⟨⟨_,rfl⟩,⟨iO k l,?_,λj=>Lq k j l⟩,((rl.mono (λi _ h=>H.fs i h)).trans (BV.mono (T:=F) (λi _ e=>by subst e;exact H.fm)) (λ_ _ h=>h)),by rw[Hz2.o,Hz1.o]⟩
  exact { own:=ab BV.o H1.own H1.apart.1,of:=Hof.o,ring:=H1.ring.same λb hb=>BV.block b (H1.lt b (H1.fs b hb)) (λe=>H1.apart.2.2 (e▸hb)),root:=H1.root,
          keys:=λx hx=>H1.keys x (av1.1 hx).1,one:=De H1.one,fc:=H1.fc,fm:=H1.fm,fs:=H1.fs,apart:=H1.apart,lt:=λb hb=>by rw[Hz2.o];exact H1.lt b hb }
end
end Go.Proofs.YtkghpdcloaiflaaGreatDoor
