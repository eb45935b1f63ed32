import Derived.Test.YtkghpdcloaiflaaGreatDoorH16
set_option maxHeartbeats 2000000
set_option maxRecDepth 100000
namespace Go.Proofs.YtkghpdcloaiflaaGreatDoor
open _root_.Go.Proofs.Tryz
variable {F Fd:Nat->Prop}{gen l m n pd:Nat}{lv:Value}{w w':World}
section
open Go.RowKit Go.Shelf
attribute [local go_sem] av0
theorem Ig (l:List ay)(s:ay)(h:∀ x∈l,x.length<=1000000)(hs:s.length<=1000000):(l.foldl dZ s).length<=1000000:=by
 induction l generalizing s with
 |nil=>exact hs
 |cons x r ih=>
  refine ih (dZ s x) (λy hy=>h y (by simp[hy])) ?_;have:=lA s x;have:=h x sp7;omega
theorem dp.mem {L:List ay}(h:dp w m n L):∀ x∈L,x.length<=1000000:=λx hx=>by
 obtain⟨i,hi,rfl⟩:=List.getElem_of_mem hx;have:=h.short i;rw[List.getD,av6 hi]at this;exact this
theorem Qm (a0 a1 a2 a3 a4 a5 a6 a7:Value)(W:World)(k:Nat)(hk:k<8):(Instr.index 143 (.agg #[a0,a1,a2,a3,a4,a5,a6,a7]) (.int .i64 (k:Int))).run prog W=.ok ([a0,a1,a2,a3,a4,a5,a6,a7].getD k a0) W:=by
 have CK:k=0\/k=1\/k=2\/k=3\/k=4\/k=5\/k=6\/k=7:=J
 rcases CK with rfl|rfl|rfl|rfl|rfl|rfl|rfl|rfl<;>rfl
theorem zO {L:List ay}(h:dp w m n L):
  Calls prog 127 #[au m] w λe w'=>e=.returned (az (cT L))/\af w w':=by
 have H:=Z h;have c0:w.cell? ⟨m,0,none⟩=some (.int .i64 (n:Int)):=aa h.own 0;have c1:=h.cell 0 J;have c2:=h.cell 1 J;have c3:=h.cell 2 J;have c4:=h.cell 3 J;have c5:=h.cell 4 J;have c6:=h.cell 5 J;have c7:=h.cell 6 J;have c8:=h.cell 7 J;simp only[Nat.reduceAdd]at c1 c2 c3 c4 c5 c6 c7 c8;clear h;go_enter func127,ntmps127;go_wp2_with fail;clear c0 c1 c2 c3 c4 c5 c6 c7 c8
 go_loopw [10,3] (λi v wr=>∃ k:Nat,k<=8/\i=.int .i64 (k:Int)/\v=az ((L.take k).foldl dZ [])/\af w wr) (λi _ _=>8-(intOf i).toNat)
 case atStart=>exact⟨0,J,rfl,rfl,ai.refl _ w⟩
 case round=>
  obtain⟨k,hk,rfl,rfl,hK⟩:=hrel;have HK:=Z hK;clear hK;by_cases aP:k<8
  ·have OR:=jX ((L.take k).foldl dZ []) (L.getD k []) wr (av2 (Ig _ _ (λx hx=>H.mem x (awb hx)) sp7) dc7) (av2 (H.short k) dc7);have he:(L.take (k+1)).foldl dZ []=dZ ((L.take k).foldl dZ []) (L.getD k []):=by
    have h8:=H.eight;rw[av8,List.foldl_append,List.getD,av6 (show k<L.length by omega)];rfl
   obtain⟨HO,HE⟩:=K2 OR he;clear OR he;have dL:(k:Int)<8:=J
   have hx:=λW=>Qm (az (L[0]?.getD [])) (az (L[1]?.getD [])) (az (L[2]?.getD [])) (az (L[3]?.getD [])) (az (L[4]?.getD [])) (az (L[5]?.getD [])) (az (L[6]?.getD [])) (az (L[7]?.getD [])) W k aP;have hg:[az (L[0]?.getD []),az (L[1]?.getD []),az (L[2]?.getD []),az (L[3]?.getD []),az (L[4]?.getD []),az (L[5]?.getD []),az (L[6]?.getD []),az (L[7]?.getD [])].getD k (az (L[0]?.getD []))=az (L.getD k []):=by
    have CK:k=0\/k=1\/k=2\/k=3\/k=4\/k=5\/k=6\/k=7:=J
    rcases CK with rfl|rfl|rfl|rfl|rfl|rfl|rfl|rfl<;>rfl
   rw[hg]at hx;clear hg;go_wp2_with fail;refine HO.mono ?_;rintro e w1 ⟨rfl,hk1⟩;have cC:=Z (HK.trans hk1 (λ_ _ h=>h));clear hk1 hx;go_wp2_with fail
   go_roundw
   case rel=>exact⟨k+1,J,by go_num,by rw[HE.o];rfl,cC.o⟩
   case measure=>simp[intOf];omega
  ·obtain rfl:k=8:=J
   have h8:=H.eight;rw[awQ J];go_wp2;go_ret;exact⟨rfl,HK.o⟩
theorem LZ {L:List ay}(h:dp w m n L)(h1:1<=n)(hc:(cT L).length<=100000):
  Calls prog 221 #[au m] w λe w'=>e=.returned (.int .i64 ((n:Int)-1-(jF (cT L):Int)))/\af w w':=by
 have H:=Z h;have c0:w.cell? ⟨m,0,none⟩=some (.int .i64 (n:Int)):=aa h.own 0;have HM:=h.many;have HU:Hid (∀ x,Calls prog 127 #[au m] (w.ext x) λe w'=>e=.returned (az (cT L))/\af (w.ext x) w'):=Z (λx=>zO (h.mod (aC w x) id));have HC:Hid (∀ X,Calls prog 47 #[az (cT L)] X λe w'=>e=.returned (.int .i64 (jF (cT L):Int))/\af X w'):=Z (λX=>zK _ hc X);have vh:jF (cT L)<=800000:=by
  have:=wH (cT L);unfold jF;omega
 have ce:∀ x,(w.ext x).cell? ⟨m,0,none⟩=some (.int .i64 (n:Int)):=λx=>by rw[(aC w x).cell (p:=⟨m,0,none⟩) (am c0) id];exact c0
 clear h hc;generalize jF (cT L)=q at*;generalize cT L=U at*;have e1:IntKind.i64.wrap ((n:Int)-1)=(n:Int)-1:=eZ J;have e2:IntKind.i64.wrap ((n:Int)-1-(q:Int))=(n:Int)-1-(q:Int):=eZ J;go_enter func221,ntmps221;go_wp2_with fail;refine cl kr7 kr7 ?_
 repeat (quiet_step (first|(with_reducible exact ar (HU.o _))|(with_reducible exact ar (HC.o _))))
 refine awX ?_;intro _ bD;obtain⟨xq,rfl⟩:=bD;go_wp2;go_ret;exact⟨rfl,aC w xq⟩
theorem L4 {L:List ay}(h:dp w m n L)(a b:Nat)(ha:a<8)(hb:b<8):
  Calls prog 54 #[au m,.int .i64 (a:Int),.int .i64 (b:Int)] w λe w'=>e=.returned (.tuple #[az (bV (L.getD b []) (L.getD a [])),az (bV (L.getD a []) (L.getD b [])),.int .i64 0])/\af w w':=by
 obtain⟨W,hW⟩:∃ W,w.alloc (.cells #[.int .i64 (a:Int),.int .i64 (b:Int)] 3)=W:=⟨_,rfl⟩
 have k0:af w W:=by rw[<-hW];exact(ai.refl _ w).alloc _
 have IS:=Z (Bj W w.heap.size [a,b] sp7 (by simp;omega) (by rw[<-hW];exact av w _ _));have HH:=h.mod k0 id;have ca:∀ x,(W.ext x).cell? ⟨m,1+a,none⟩=some (az (L.getD a [])):=λx=>(HH.mod (aC W x) id).cell a ha;have cb:∀ x,(W.ext x).cell? ⟨m,1+b,none⟩=some (az (L.getD b [])):=λx=>(HH.mod (aC W x) id).cell b hb;obtain⟨HK,M1,M2⟩:=K3 k0 (λX=>mW (L.getD b []) (L.getD a []) X (av2 (h.short b) dc7) (av2 (h.short a) dc7)) (λX=>mW (L.getD a []) (L.getD b []) X (av2 (h.short a) dc7) (av2 (h.short b) dc7));have h1:(a:Int)<8:=J
 have h2:(b:Int)<8:=J
 clear h k0 HH ha hb;generalize L.getD a []=A at*;generalize L.getD b []=B at*;go_enter func54,ntmps54;go_wp2_with fail;refine IS.mono ?_;rintro e w1 ⟨rfl,rfl⟩;go_wp2_with fail;refine cl kr7 kr7 ?_
 repeat (quiet_step (fail))
 refine awX ?_;intro _ bD;obtain⟨xq,rfl⟩:=bD;have cC:=Z (HK.keep (aC w1 xq));go_wp2_with fail;refine(M1.o _).mono ?_;rintro e w2 ⟨rfl,dK⟩;have bJ:=Z (cC.keep dK);clear dK;go_wp2_with fail;refine(M2.o _).mono ?_;rintro e w3 ⟨rfl,dr⟩;have ez:=Z (bJ.keep dr);clear dr;go_wp2;go_ret3;exact⟨rfl,ez.o⟩
def wV (p:Nat)(o:ay)(b:Nat):ay:=o.set b (o.getD b 0|||UInt8.ofNat (2 ^ p))
def kJ (p:Nat)(l:List Nat)(o:ay):ay:=l.foldl (wV p) o
def jO (L:List ay)(n:Nat):Nat->ay
 |0=>List.replicate n 0
 |p+1=>kJ p (cL (L.getD p [])) (jO L n p)
theorem sY (p:Nat):∀(l:List Nat) (o:ay),(kJ p l o).length=o.length
 |[],_=>rfl
 |x::r,o=>by show(kJ p r (wV p o x)).length=_;rw[sY p r];simp[wV]
theorem ke (L:List ay)(n:Nat):∀ p,(jO L n p).length=n
 |0=>by simp[jO]
 |p+1=>by rw[jO,sY,ke L n p]
theorem zP (p:Nat):∀(l:List Nat) (o:ay) (b:Nat),b<o.length->l.Nodup->(kJ p l o).getD b 0=if b∈l then o.getD b 0|||UInt8.ofNat (2 ^ p)else o.getD b 0
 |[],o,b,_,_=>by simp[kJ]
 |x::r,o,b,hb,hn=>by
  show(kJ p r (wV p o x)).getD b 0=_;rw[List.nodup_cons]at hn;rw[zP p r _ b (by simp[wV];exact hb) hn.2];by_cases hx:b=x
  ·subst hx;rw[awf hn.1,awd sp7];simp[wV,List.getD,hb]
  ·have e:(wV p o x).getD b 0=o.getD b 0:=by
    unfold wV;rw[List.getD,List.getElem?_set,awf (λe=>hx e.symm)];rfl
   rw[e];by_cases hr:b∈r
   ·rw[awd hr,awd (by simp[hr])]
   ·rw[awf hr,awf (by simp[hx,hr])]
theorem Vw (p k:Nat)(hp:p<8)(hk:k<8):(UInt8.ofNat (2 ^ p)).toNat.testBit k=decide (k=p):=by
 have key:∀ p k:Fin 8,(UInt8.ofNat (2 ^ p.1)).toNat.testBit k.1=decide (k.1=p.1):=by decide +kernel
 exact key ⟨p,hp⟩ ⟨k,hk⟩
theorem zQ (L:List ay)(n b k:Nat)(hb:b<n)(hk:k<8):∀ p,p<=8->((jO L n p).getD b 0).toNat.testBit k=(decide (k<p)&&aq (L.getD k []) b)
 |0,_=>by simp[jO,List.getD,hb]
 |p+1,hp=>by
  have ih:=zQ L n b k hb hk p J;rw[jO,zP p _ _ b (by rw[ke];exact hb) (vy _)];by_cases hm:b∈cL (L.getD p [])
  ·rw[awd hm,UInt8.toNat_or,Nat.testBit_or,ih,Vw p k J hk];rw[rC]at hm;by_cases UC:k=p
   ·subst UC;have WO:aq (L[k]?.getD []) b=true:=hm;simp[WO]
   ·have:(k<p+1)=(k<p):=by simp;omega
    simp only[UC,decide_false,Bool.or_false,this]
  ·rw[awf hm,ih];rw[rC]at hm;by_cases UC:k=p
   ·subst UC;simp at hm ⊢;exact hm
   ·have:(k<p+1)=(k<p):=by simp;omega
    simp only[this]
theorem Ii (L:List ay)(n:Nat):jO L n 8=gV L n:=by
 apply List.ext_getElem?;intro b;by_cases hb:b<n
 ·have h1:b<(jO L n 8).length:=by rw[ke];exact hb
  have h2:b<(gV L n).length:=by simp[gV];exact hb
  rw[av6 h1,av6 h2]
  congr 1
  apply vw;intro k hk;have:=zQ L n b k hb hk 8 J;rw[List.getD,av6 h1]at this;rw[show(jO L n 8)[b].toNat.testBit k=(decide (k<8)&&aq (L.getD k []) b)from this];have e:(gV L n)[b]=UInt8.ofNat ((List.range 8).foldl (λa p=>if aq (L.getD p []) b then a+2 ^ p else a) 0):=by simp[gV]
  rw[e,zt (λp=>aq (L.getD p []) b) k hk];simp[hk]
 ·rw[awY (by rw[ke];omega),awY (by simp[gV];omega)]
theorem Ij (p:Nat)(l:List Nat)(o:ay)(j:Nat)(hj:j<l.length):kJ p (l.take (j+1)) o=wV p (kJ p (l.take j) o) l[j]:=by
 unfold kJ;rw[av8,List.foldl_append,av6 hj];rfl
theorem ZM (c:UInt8)(k:Nat)(hk:k<8):bits BinOp.or IntKind.u8 (c.toNat:Int) (2 ^ k%256)=((c|||UInt8.ofNat (2 ^ k)).toNat:Int):=by
 have key:∀(n:Fin 256) (k:Fin 8),bits BinOp.or IntKind.u8 (n.1:Int) (2 ^ k.1%256)=((UInt8.ofNat n.1|||UInt8.ofNat (2 ^ k.1)).toNat:Int):=by decide +kernel
 have:=key ⟨c.toNat,c.toNat_lt⟩ ⟨k,hk⟩;simpa using this
theorem L6 {L:List ay}(h:dp w m n L)(hL:∀ p b,aq (L.getD p []) b=true->b<n)(hs:∀ p,(L.getD p []).length<=100000):
  Calls prog 218 #[au m] w λe w'=>e=.returned (az (gV L n))/\af w w':=by
 obtain⟨H,HL,HS⟩:=K3 h hL hs;have ph:=h.many;have c0:w.cell? ⟨m,0,none⟩=some (.int .i64 (n:Int)):=aa h.own 0;have rx:=jn (P:=prog) (ts:=131) (te:=5) underlying131 kr7 n J;have k1:af w (w.alloc (.cells (aR (List.replicate n 0)) 5)):=(ai.refl _ w).alloc _;have h1:=h.mod k1 id;have c1:=h1.cell 0 J;have c2:=h1.cell 1 J;have c3:=h1.cell 2 J;have c4:=h1.cell 3 J;have c5:=h1.cell 4 J;have c6:=h1.cell 5 J;have c7:=h1.cell 6 J;have c8:=h1.cell 7 J;simp only[Nat.reduceAdd]at c1 c2 c3 c4 c5 c6 c7 c8;clear h k1 h1 hL hs;go_enter func218,ntmps218;go_wp2_with fail;clear c0 c1 c2 c3 c4 c5 c6 c7 c8 rx;have HO:Hid (World.blk (w.alloc (.cells (aR (List.replicate n 0)) 5)) w.heap.size (aR (jO L n 0)) 5):=Z (av _ _ _);have HK:Hid (af w (w.alloc (.cells (aR (List.replicate n 0)) 5))):=Z ((ai.refl _ w).alloc _);generalize (w.alloc (.cells (aR (List.replicate n 0)) 5))=w0 at*;obtain⟨ob,ib⟩:∃ ob,w.heap.size=ob:=⟨_,rfl⟩
 have yj:=Z ib;rw[ib]at HO;rw[ib];clear ib
 go_loopw [17] (λi wr=>∃ k:Nat,k<=8/\i=.int .i64 (k:Int)/\af w wr/\World.blk wr ob (aR (jO L n k)) 5) (λi _=>8-(intOf i).toNat)
 case atStart=>exact⟨0,J,rfl,HK.o,HO.o⟩
 case round=>
  clear HO HK;obtain⟨wq0,rfl⟩:∃ wq0,wq0=wr:=⟨_,rfl⟩
  obtain⟨k,hk,rfl,hK,hO⟩:=hrel;obtain⟨HK,HO⟩:=K2 hK hO;clear hK hO;by_cases aP:k<8
  ·have dL:(k:Int)<8:=J
   have hx:=λW=>Qm (az (L[0]?.getD [])) (az (L[1]?.getD [])) (az (L[2]?.getD [])) (az (L[3]?.getD [])) (az (L[4]?.getD [])) (az (L[5]?.getD [])) (az (L[6]?.getD [])) (az (L[7]?.getD [])) W k aP;have hg:[az (L[0]?.getD []),az (L[1]?.getD []),az (L[2]?.getD []),az (L[3]?.getD []),az (L[4]?.getD []),az (L[5]?.getD []),az (L[6]?.getD []),az (L[7]?.getD [])].getD k (az (L[0]?.getD []))=az (L.getD k []):=by
    have CK:k=0\/k=1\/k=2\/k=3\/k=4\/k=5\/k=6\/k=7:=J
    rcases CK with rfl|rfl|rfl|rfl|rfl|rfl|rfl|rfl<;>rfl
   rw[hg]at hx;clear hg;have LI:=zJ (L.getD k []) (HS.o k) wq0;have gx:Hid (∀ x∈cL (L.getD k []),x<n):=Z (λx hx=>HL.o k x (rC.1 hx));have yl:Hid ((cL (L.getD k [])).length<=800000):=Z (by have:=wH (L.getD k []);have:=HS.o k;omega);have pn:Hid (jO L n (k+1)=kJ k (cL (L.getD k [])) (jO L n k)):=Z rfl;have bt:Hid ((jO L n k).length=n):=Z (ke L n k);have HLI:=Z LI;clear LI;generalize jO L n k=o at*;generalize hl:cL (L.getD k [])=l at*;clear hl;have O0:L.getD k []=L[k]?.getD []:=rfl;rw[O0]at HLI hx;clear O0;generalize L[k]?.getD []=S at*;go_wp2_with fail;refine HLI.mono ?_;rintro e wl ⟨v,rfl,ho,hr,yA⟩;obtain⟨a,cap,rfl,hr⟩:=hr;rw[awz]at ho ⊢;have HB:Hid (ob<wq0.heap.size/\w.heap.size<=ob):=Z ⟨ak HO.o,by rw[yj.o];exact av9 _⟩;obtain⟨HO1,cC,sI⟩:=K3 (ab yA HO.o id) (HK.keep yA) ho;have FK:(l.length:Int)<=800000:=by have:=yl.o;omega
   clear yA ho hr hx HO HK HLI;go_wp2_with fail
   go_loopw [24] (λi wq=>∃ j:Nat,j<=l.length/\i=.int .i64 (j:Int)/\af w wq/\World.blk wq ob (aR (kJ k (l.take j) o)) 5/\aO wq wq0.heap.size (.slice a l.length cap) (gh l)) (λi _=>l.length-(intOf i).toNat)
   case atStart=>exact⟨0,J,rfl,cC.o,HO1.o,sI.o⟩
   case round=>
    clear HO1 cC sI;obtain⟨j,hj,rfl,hK2,hO2,SF⟩:=hrel;obtain⟨bJ,zi,ru⟩:=K3 hK2 hO2 SF;obtain⟨a',WP,ea,eH⟩:=bh SF;by_cases Ox:j<l.length
    ·have ajo:(j:Int)<l.length:=J
     obtain⟨b,off,rfl,cj⟩:=eH j (.int .i64 (l[j]:Int)) (by simp[bu,gh,Ox]);have ea':a=some ⟨b,off,none⟩:=by injection ea
     subst ea';have aeI:Hid (kJ k (l.take (j+1)) o=wV k (kJ k (l.take j) o) l[j]):=Z (Ij k l o j Ox);have Yq:=gx.o l[j] (awF _);have hlc:(kJ k (l.take j) o).length=n:=by rw[sY];exact bt.o
     clear hK2 hO2 SF ea eH;generalize hx:l[j]=x at*;clear hx;generalize kJ k (l.take j) o=dW at*;have hc:∀ X,(wr.ext X).cell? ⟨ob,x,none⟩=some (.int .u8 ((dW.getD x 0).toNat:Int)):=λX=>by
      rw[(aC wr X).cell (p:=⟨ob,x,none⟩) (ak zi.o) id,aa zi.o x];simp[aR,gg,av6 (show x<dW.length by omega),List.getD]
     have hf:∀ X,(wr.ext X).frozen? ⟨ob,x,none⟩=false:=λX=>ae (ab (aC wr X) zi.o id) _ rfl;have hxi:(x:Int)<(n:Int):=J
     generalize ym:dW.getD x 0=c at*;have Hcv:=Z ym;clear ym;go_wp2_with fail;refine rG 8 kr7 kr7 ?_;simp only[awS,awT,awU,awV]
     repeat (quiet_step (fail))
     refine awX ?_;intro _ bD;obtain⟨xq,rfl⟩:=bD;have f1:=hf xq;have c1:=hc xq;go_wp2_with fail;have nG:=aC wr xq;refine⟨⟨j+1,J,by go_num,(bJ.keep nG).setCell (p:=⟨ob,x,none⟩) (.inr HB.2) _,?_,?_⟩,by simp[intOf];omega⟩
     ·have h:=ah (ab nG zi.o id) x (.int .u8 (((c|||UInt8.ofNat (2 ^ k)).toNat:Nat):Int));rw[Gx]at h;rw[aeI.o];unfold wV;rw[Hcv.o,ZM c k aP];exact h
     ·exact JW (ip ru.o nG) ((ai.refl (λb=>b=ob) _).setCell (p:=⟨ob,x,none⟩) (.inl rfl) _) (λb hb e=>by have:=HB.1;omega)
    ·obtain rfl:j=l.length:=J
     have ht:l.take l.length=l:=awa;rw[ht]at zi;have FC:¬((l.length:Int)<(l.length:Int)):=J
     clear hK2 hO2 SF ea eH;go_wp2_with fail;refine⟨⟨k+1,J,by go_num,bJ.o,by rw[pn.o];exact zi.o⟩,by simp[intOf];omega⟩
  ·obtain rfl:k=8:=J
   have dh:=tU (P:=prog) (ts:=131) (td:=9) underlying131 underlying5 underlying9 n HO.o (ke L n 8);rw[Ii]at dh;go_wp2;go_ret;exact⟨rfl,HK.o⟩
def wW (gen used:Nat):ay:=[78,86]++eE gen 6++eE used 4++List.replicate 52 0
def eh (d:Dk)(gen used:Nat):Dk:=(d.put 0 (wW gen used)).sync
theorem L9 (gen used:Nat):(wW gen used).length=64:=by simp[wW,gW]
theorem wY (x n:Nat)(hx:x<=1099511627776)(hn:n<=6)(w:World):
  Calls prog 150 #[.int .i64 (x:Int),.int .i64 (n:Int)] w λe w'=>e=.returned (az (eE x n))/\af w w':=by
 have rx:=jn (P:=prog) (ts:=131) (te:=5) underlying131 kr7 n J;have HX:=Z hx;clear hx;go_enter func150,ntmps150;go_wp2_with fail;clear rx;have HO:Hid (World.blk (w.alloc (.cells (aR (List.replicate n 0)) 5)) w.heap.size (aR (eE x 0++List.replicate (n-0) 0)) 5):=Z (av _ _ _);have HK:Hid (af w (w.alloc (.cells (aR (List.replicate n 0)) 5))):=Z ((ai.refl _ w).alloc _);generalize (w.alloc (.cells (aR (List.replicate n 0)) 5))=w0 at*;obtain⟨ob,ib⟩:∃ ob,w.heap.size=ob:=⟨_,rfl⟩
 have yj:=Z ib;rw[ib]at HO;rw[ib];clear ib
 go_loopw [11] (λi wr=>∃ k:Nat,k<=n/\i=.int .i64 (k:Int)/\af w wr/\World.blk wr ob (aR (eE x k++List.replicate (n-k) 0)) 5) (λi _=>n-(intOf i).toNat)
 case atStart=>exact⟨0,J,rfl,HK.o,HO.o⟩
 case round=>
  clear HO HK;obtain⟨k,hk,rfl,hK,hO⟩:=hrel;obtain⟨HK,HO⟩:=K2 hK hO;clear hK hO;by_cases aP:k<n
  ·have dL:(k:Int)<n:=J
   have c0:wr.cell? ⟨ob,k,none⟩=some (.int .u8 0):=by
    rw[aa HO.o];have hl:=gW x k;simp[aR,gg,hl,show 0<n-k by omega]
   have f0:wr.frozen? ⟨ob,k,none⟩=false:=ae HO.o _ rfl;have Sc:(8*(k:Int))<=40:=J
   have eb:((UInt8.ofNat (x/256 ^ k%256)).toNat:Int)=(x:Int)/2 ^ (8*k)%256:=by
    rw[show(UInt8.ofNat (x/256 ^ k%256)).toNat=x/256 ^ k%256 by simp,show(256:Nat) ^ k=2 ^ (8*k) by rw[Nat.pow_mul]];simp
   have EB:=Z eb;clear eb;go_wp2_with fail;refine⟨⟨k+1,J,by go_num,HK.setCell (p:=⟨ob,k,none⟩) (.inr (by rw[yj.o];exact av9 _)) _,?_⟩,by simp[intOf];omega⟩;have h:=ah HO.o k (.int .u8 ((UInt8.ofNat (x/256 ^ k%256)).toNat:Int));rw[adc,EB.o]at h;have e:(eE x k++List.replicate (n-k) 0).set k (UInt8.ofNat (x/256 ^ k%256))=eE x (k+1)++List.replicate (n-(k+1)) 0:=by
    rw[wK,List.set_append,awf (by rw[gW];omega),gW,Nat.sub_self,show n-k=(n-(k+1))+1 by omega,List.replicate_succ,List.set_cons_zero,awN];rfl
   rw[e]at h;exact h
  ·obtain rfl:k=n:=J
   have dh:=tU (P:=prog) (ts:=131) (td:=9) underlying131 underlying5 underlying9 (len:=k) k HO.o (by simp[gW]);have e0:eE x k++List.replicate (k-k) 0=eE x k:=by simp
   rw[e0]at dh;go_wp2;go_ret;exact⟨rfl,HK.o⟩
def bH (d:Dk):Nat:=(d.size-1)/2
def gI (pd gen:Nat)(text:ay)(lv:Value):Array Value:=#[au pd,.int .i64 (gen:Int),az text,lv,.bool false]
abbrev yO (l:List ay):List Value:=l.map λs=>az s
structure Vx (w:World)(l pd:Nat)(lv:Value)(d:Dk)(gen:Nat)(text:ay)(recs:List ay)(Fd F:Nat->Prop):Prop where
 own:World.blk w l (gI pd gen text lv) 196
 disk:bE w pd d Fd
 list:w.ownsRow 0 9 1 lv recs.length (yO recs)
 fl:F l
 fd:∀ b,Fd b->F b
 fv:∀ b,lv.ownBlock=some b->F b/\¬ Fd b/\b≠l
 nd:¬ Fd l
 many:5<=d.size/\d.size<=16384
 gen:gen<=1099511627776
 eqT:text=kY recs
 room:text.length<=bH d*64
 lt:∀ b,F b->b<w.heap.size
def kK (w:World)(l:Nat)(d:Dk)(gen:Nat)(recs:List ay)(F:Nat->Prop):Prop:=∃ pd lv Fd,Vx w l pd lv d gen (kY recs) recs Fd F
theorem Vx.same {d:Dk}{text:ay}{recs:List ay}(h:Vx w l pd lv d gen text recs Fd F)(m:fy F w w')(hs:w.heap.size<=w'.heap.size):Vx w' l pd lv d gen text recs Fd F where
 own:=(m l h.fl (h.lt l h.fl)).trans h.own
 disk:=h.disk.same (λb hb=>m b (h.fd b hb)) hs
 list:=aA h.list (λb hb=>m b (h.fv b hb).1 (h.lt b (h.fv b hb).1))
 fl:=h.fl
 fd:=h.fd
 fv:=h.fv
 nd:=h.nd
 many:=h.many
 gen:=h.gen
 eqT:=h.eqT
 room:=h.room
 lt b hb:=awg (h.lt b hb) hs
theorem kK.same {d:Dk}{recs:List ay}(h:kK w l d gen recs F)(m:fy F w w')(hs:w.heap.size<=w'.heap.size):kK w' l d gen recs F:=by
 obtain⟨pd,lv,Fd,h⟩:=h;exact⟨pd,lv,Fd,h.same m hs⟩
theorem zR {d:Dk}{text:ay}(h:World.blk w l (gI pd gen text lv) 196)(hd:bE w pd d Fd)(hm:5<=d.size):
  Calls prog 123 #[au l] w λe w'=>e=.returned (.int .i64 (bH d:Int))/\w'=w:=by
 have c0:w.cell? ⟨l,0,none⟩=some (au pd):=aa h 0;have S:=Z (jt hd);have ph:d.size<=16384:=hd.ok.many;have e2:((bH d:Nat):Int)=((d.size:Int)-1)/2:=by unfold bH;omega
 have e1:IntKind.i64.wrap ((d.size:Int)-1)=(d.size:Int)-1:=eZ J;have e3:((d.size:Int)-1).tdiv 2=((d.size:Int)-1)/2:=axf J;have E2:=Z e2;clear h e2;generalize hq:d.size=q at*;go_enter func123,ntmps123;go_wp2_with fail;refine S.mono ?_;rintro e w1 ⟨rfl,rfl⟩;go_wp2;go_ret;exact⟨by rw[E2.o];rfl,rfl⟩
theorem pF {text:ay}(h:World.blk w l (gI pd gen text lv) 196):
  Calls prog 151 #[au l,.int .i64 0] w λe w'=>e=.returned (.int .i64 0)/\World.blk w' l (gI pd gen text lv) 196/\ai (λb=>b=l) w w':=by
 have c4:w.cell? ⟨l,4,none⟩=some (.bool false):=aa h 4;have f4:=ae h ⟨l,4,none⟩ rfl;obtain⟨HM,H⟩:=K2 ((ai.refl (λb=>b=l) w).setCell (p:=⟨l,4,none⟩) (.inl rfl) (.bool false)) (ah h 4 (.bool false));clear h;go_enter func151,ntmps151
 go_wp2
 go_ret;exact⟨rfl,H.o,HM.o⟩
theorem Ik {g:Nat}{d:Dk}{text:ay}(h:World.blk w l (gI pd gen text lv) 196)(hd:bE w pd d Fd)(hm:5<=d.size)(hg:g<=1099511627776):
  Calls prog 153 #[au l,.int .i64 (g:Int)] w λe w'=>e=.returned (.int .i64 ((1+g%2*bH d:Nat):Int))/\w'=w:=by
 have HH:=Z (zR h hd hm);have ph:d.size<=16384:=hd.ok.many;have hh:bH d<=16384:=by unfold bH;omega
 have hr:(g:Int).tmod 2=((g%2:Nat):Int):=by rw[Int.tmod_eq_emod_of_nonneg J];rfl
 obtain⟨r,hrr⟩:∃ r,g%2=r:=⟨_,rfl⟩
 have nU:r<2:=J
 have hgi:(g:Int)%2=(r:Int):=J
 rw[hrr]at hr ⊢;generalize bH d=q at*;have hrq:r*q<=16384:=by
  have:r=0\/r=1:=J
  rcases this with rfl|rfl<;>simp<;>omega
 have e0:((1+r*q:Nat):Int)=1+(r:Int)*(q:Int):=by simp
 have asS:(r:Int)*(q:Int)<=16384:=by rw[<-Int.natCast_mul];omega
 have asl:(0:Int)<=(r:Int)*(q:Int):=by rw[<-Int.natCast_mul];omega
 have e1:IntKind.i64.wrap ((r:Int)*(q:Int))=(r:Int)*(q:Int):=eZ J;have e2:IntKind.i64.wrap (1+(r:Int)*(q:Int))=1+(r:Int)*(q:Int):=eZ J;have E0:=Z e0;clear e0 h hg hrr;go_enter func153,ntmps153;go_wp2_with fail;refine HH.mono ?_;rintro e w1 ⟨rfl,rfl⟩;go_wp2;go_ret;exact⟨by rw[E0.o];rfl,rfl⟩
theorem zS (n:Nat)(hn:n<=64)(X:World):Calls prog 95 #[.string ⟨#[0]⟩,.int .i64 (n:Int)] X λe w'=>e=.returned (az (List.replicate n 0))/\af X w':=by
 refine(Tryz.strings_Repeat ⟨[(0:UInt8)].toArray⟩ n X J (by show 1*n<=_;omega)).mono ?_;rintro e w' ⟨rfl,hb⟩;refine⟨?_,ai.ofBelow hb⟩;have er:Lib.repeatL (ByteArray.mk [(0:UInt8)].toArray).data.toList n=List.replicate n 0:=JZ n;rw[er]
theorem qO {d:Dk}{text:ay}(h:World.blk w l (gI pd gen text lv) 196)(hd:bE w pd d Fd)(hm:5<=d.size)(nd:¬ Fd l)(g2 u2:Nat)(hg:g2<=1099511627776)(hu:u2<=1099511627776):
  Calls prog 155 #[au l,.int .i64 (g2:Int),.int .i64 (u2:Int)] w λe w'=>e=.returned (.int .i64 0)/\∃ uC,World.blk w' l (gI pd gen text lv) 196/\bE w' pd (eh d g2 u2) uC/\ai (λb=>b=l\/Fd b) w w'/\(∀ b,uC b->Fd b\/w.heap.size<=b):=by
 obtain⟨H,HD,ND,HM,P1,P2⟩:=K6 h hd nd hm (wY g2 6 hg J) (wY u2 4 hu J);have ZR:Hid (∀ X,Calls prog 95 #[.string ⟨#[0]⟩,.int .i64 52] X λe w'=>e=.returned (az (List.replicate 52 0))/\af X w'):=Z (zS 52 J);have KF:=gW g2 6;have kX:=gW u2 4;have Ut:(List.replicate 52 (0:UInt8)).length=52:=by simp
 have HS:Hid (78::86::(eE g2 6++(eE u2 4++List.replicate 52 0))=wW g2 u2):=Z (by simp[wW]);have atB:IntKind.i64.wrap 52=52:=by decide
 have HHD:Hid (eh d g2 u2=(d.put 0 (wW g2 u2)).sync):=Z rfl;clear h hd nd hg hu hm;generalize eE g2 6=a at*;generalize eE u2 4=b at*;generalize List.replicate 52 (0:UInt8)=z at*;go_enter func155,ntmps155;go_wp2_with fail;refine(P1.o w).mono ?_;rintro e w1 ⟨rfl,hk1⟩;have cC:=Z hk1;clear hk1;go_wp2_with fail;refine(P2.o w1).mono ?_;rintro e w2 ⟨rfl,dK⟩;have bJ:=Z (cC.keep dK);clear dK;have c0:w2.cell? ⟨l,0,none⟩=some (au pd):=(bJ.cell (p:=⟨l,0,none⟩) (ak H.o) id).trans (aa H.o 0);have hl:l<w2.heap.size:=awg (ak H.o) bJ.size;go_wp2_with fail;refine im 1 11 kr7 kr7 (λ_ o _ _ _ h=>by cases o<;>exact h) ?_;simp only[awS,awT,awU,awV];refine fq (λL hL=>?_)
 go_simp
 first|refine hL _ ?_|refine⟨_,λ_=>rfl,hL _ ?_⟩
 clear hL L;refine ko ?_
 repeat (quiet_step (with_reducible exact ar (ZR.o _)))
 refine awX ?_;intro _ bD;obtain⟨xq,rfl⟩:=bD;have nG:=bJ.keep (aC w2 xq);have Ot:=Z (ab nG H.o id);have HD3:=HD.mod nG (λ_ _=>id);have ez:=Z nG;have WR:=kw HD3 0 (by have:=HM.o;omega) (wW g2 u2) (L9 _ _);rw[<-HS.o]at WR;have HWR:=Z WR;clear nG HD3 WR;go_wp2_with fail;refine HWR.mono ?_;rintro e w3 ⟨rfl,NQ,O5,dr⟩;have Gh:=ab dr.mod Ot.o ND.o;have n3:¬ NQ l:=λhv=>(dr.foot l hv).elim ND.o (λhge=>by have:=ak Ot.o;omega);have pU:Hid (ai (λb=>b=l\/Fd b) w w3):=Z ((ez.mono (λ_ _ h=>h.elim)).trans (dr.mod.mono (T:=λb=>b=l\/Fd b) (λ_ _ h=>.inr h)) (λ_ _ h=>h));have Gc:Hid (∀ b,NQ b->Fd b\/w.heap.size<=b):=Z (λb hb=>(dr.foot b hb).imp id (λh=>by have:=ez.size;omega));obtain⟨Xr,Tq,N3⟩:=K3 O5 Gh n3;clear O5 dr Gh n3 HWR Ot c0 hl;go_wp2_with fail;refine(pF Tq.o).mono ?_;rintro e w4 ⟨rfl,Us,AG⟩;have Hd4:=Z (Xr.mod AG (λb hb e=>N3.o (e▸hb)));have sG:Hid (ai (λb=>b=l\/Fd b) w w4):=Z (pU.trans (AG.mono (T:=λb=>b=l\/Fd b) (λ_ _ h=>.inl h)) (λ_ _ h=>h));have c0:w4.cell? ⟨l,0,none⟩=some (au pd):=aa Us 0;obtain⟨Ho4,SY⟩:=K2 Us (pz Hd4.o);clear Us AG Xr Tq pU;go_wp2_with fail;refine SY.mono ?_;rintro e w5 ⟨rfl,WS,hd5,kV⟩;have N9:=ab kV.mod Ho4.o N3.o;have n5:¬ WS l:=λhv=>(kV.foot l hv).elim N3.o (λhge=>by have:=ak Ho4.o;omega);have hs4:=sG.size;have Gk:Hid (ai (λb=>b=l\/Fd b) w w5):=Z (sG.trans kV.mod (λi hi h=>(Gc.o i h).elim .inr (λhge=>J)));have FY:Hid (∀ b,WS b->Fd b\/w.heap.size<=b):=Z (λb hb=>(kV.foot b hb).elim (Gc.o b) (λh=>.inr J));obtain⟨Hd5,UE,N5⟩:=K3 hd5 N9 n5;clear hd5 kV N9 n5 SY c0 Hd4 Ho4 sG;go_wp2_with fail;refine(pF UE.o).mono ?_;rintro e w6 ⟨rfl,Ob,tM⟩;have Hd6:=Z (Hd5.mod tM (λb hb e=>N5.o (e▸hb)));have Uu:Hid (ai (λb=>b=l\/Fd b) w w6):=Z (Gk.trans (tM.mono (T:=λb=>b=l\/Fd b) (λ_ _ h=>.inl h)) (λ_ _ h=>h));have Ho6:=Z Ob;clear Ob tM;go_wp2;go_ret;exact⟨rfl,WS,Ho6.o,by rw[HHD.o,<-HS.o];exact Hd6.o,Uu.o,FY.o⟩
theorem D0 {p:Nat}{d:Dk}(h:bE w p d F)(hm:5<=d.size)(g:Nat)(hg:g<=1099511627776):
  Calls prog 100 #[au p,.int .i64 (g:Int)] w λe w'=>∃ l,e=.returned (.tuple #[au l,.int .i64 0])/\w.heap.size<=l/\∃ F',kK w' l (eh d g 0) g [] F'/\dO F F' w w':=by
 obtain⟨SE,H⟩:=K2 (jt h) h;have ph:d.size<=16384:=h.ok.many;have q1:¬(d.size:Int)<5:=J
 have q2:(0:Int)<=(g:Int):=J
 have q3:¬(1099511627776:Int)<(g:Int):=J
 obtain⟨HM,HG,HN⟩:=K3 hm hg ph;obtain⟨W,hW⟩:∃ W,w.alloc (.cells (gI p g [] (.slice none 0 0)) 196)=W:=⟨_,rfl⟩
 have hW':w.alloc (.cells #[au p,.int .i64 (g:Int),.string ⟨#[]⟩,.slice none 0 0,.bool false] 196)=W:=hW;have k0:af w W:=by rw[<-hW];exact(ai.refl _ w).alloc _
 have oc:W.heap.size=w.heap.size+1:=by rw[<-hW];simp
 have o0:World.blk W w.heap.size (gI p g [] (.slice none 0 0)) 196:=by rw[<-hW];exact av w _ _
 have hnf:¬ F w.heap.size:=λhv=>by have:=h.lt _ hv;omega
 have HE:=qO o0 (h.mod k0 (λ_ _=>id)) hm hnf g 0 hg J;have HHE:Hid (Calls prog 155 #[au w.heap.size,.int .i64 (g:Int),.int .i64 0] W λe w'=>e=.returned (.int .i64 0)/\∃ uC,World.blk w' w.heap.size (gI p g [] (.slice none 0 0)) 196/\bE w' p (eh d g 0) uC/\ai (λb=>b=w.heap.size\/F b) W w'/\(∀ b,uC b->F b\/W.heap.size<=b)):=Z HE;obtain⟨HK,NF⟩:=K2 k0 hnf;clear HE hW k0 o0 h hm hg ph hnf;generalize hq:d.size=q at*;have HQ:=Z hq;clear hq;go_enter func100,ntmps100;go_wp2_with fail;refine SE.mono ?_;rintro e w1 ⟨rfl,rfl⟩;go_wp2_with fail;refine HHE.mono ?_;rintro e w2 ⟨rfl,Fd,ho,hd,db,hf⟩;obtain⟨Ho,Hd,Hm,Hf⟩:=K4 ho hd db hf;clear ho hd db hf HHE;go_wp2;go_ret2;have j5:=Hm.size;have rk:¬ Fd w1.heap.size:=λhv=>(Hf.o _ hv).elim NF.o (λhge=>J);have cJ:(eh d g 0).size=q:=by unfold eh;rw[dx,ft];exact HQ.o
 refine⟨w1.heap.size,rfl,av9 _,λb=>Fd b\/b=w1.heap.size,⟨p,.slice none 0 0,Fd,?_⟩,?_⟩
 ·exact { own:=Ho.o,disk:=Hd.o,list:=⟨rfl,.inl ⟨rfl,rfl⟩⟩,fl:=.inr rfl,fd:=λb hb=>.inl hb,fv:=λb e=>by cases e
          nd:=rk,many:=by rw[cJ];exact⟨HM.o,HN.o⟩,gen:=HG.o,eqT:=rfl,room:=by simp[kY],lt:=λb hb=>hb.elim (λh=>Hd.lt b h) (λh=>J) }
 ·refine⟨⟨Hm.os.trans HK.os,Hm.tape.trans HK.tape,Hm.output.trans HK.output,J,λb hb hn=>?_⟩,λb hb=>hb.elim (λh=>(Hf.o b h).imp id (λh=>J)) (λh=>.inr J)⟩;rw[Hm.block b J (λe=>e.elim (λe=>J) hn)];exact HK.block b hb id
theorem zT {d:Dk}{recs:List ay}(h:kK w l d gen recs F):
  Calls prog 63 #[au l] w λe w'=>e=.returned (.int .i64 ((bH d*64-(kY recs).length:Nat):Int))/\af w w':=by
 obtain⟨pd,lv,Fd,h⟩:=h;have hh:bH d<=16384:=by have:=h.many;unfold bH;omega
 have hr:=h.room;have c2:∀ x,(w.ext x).cell? ⟨l,2,none⟩=some (az (kY recs)):=λx=>((aC w x).cell (p:=⟨l,2,none⟩) (ak h.own) id).trans (aa h.own 2);have HH:Hid (∀ x,Calls prog 123 #[au l] (w.ext x) λe w'=>e=.returned (.int .i64 (bH d:Int))/\af (w.ext x) w'):=Z (λx=>(zR (ab (aC w x) h.own id) (h.disk.mod (aC w x) (λ_ _=>id)) h.many.1).mono (by rintro e w' ⟨rfl,rfl⟩;exact⟨rfl,ai.refl _ _⟩));have hl:l<w.heap.size:=ak h.own;clear h;generalize kY recs=t at*;generalize bH d=q at*;have e0:((q*64-t.length:Nat):Int)=(q:Int)*64-(t.length:Int):=J
 have e1:IntKind.i64.wrap ((q:Int)*64)=(q:Int)*64:=eZ J;have e2:IntKind.i64.wrap ((q:Int)*64-(t.length:Int))=(q:Int)*64-(t.length:Int):=eZ J;rw[e0];clear e0;go_enter func63,ntmps63;go_wp2_with fail;refine cl kr7 kr7 ?_
 repeat (quiet_step (with_reducible exact ar (HH.o _)))
 refine awX ?_;intro _ bD;obtain⟨xq,rfl⟩:=bD;go_wp2;go_ret;exact⟨rfl,aC w xq⟩
theorem Il {d:Dk}{recs:List ay}(h:kK w l d gen recs F)(g2:Nat)(h1:gen<g2)(h2:g2<=1099511627776):
  Calls prog 143 #[au l,.int .i64 (g2:Int)] w λe w'=>e=.returned (.int .i64 0)/\∃ F',kK w' l (eh d g2 0) g2 [] F'/\dO F F' w w':=by
 obtain⟨pd,lv,Fd,h⟩:=h;have H:=Z h;have c1:w.cell? ⟨l,1,none⟩=some (.int .i64 (gen:Int)):=aa h.own 1;have c4:w.cell? ⟨l,4,none⟩=some (.bool false):=aa h.own 4;have q1:¬(g2:Int)<=(gen:Int):=J
 have q2:¬(1099511627776:Int)<(g2:Int):=J
 have HE:=qO h.own h.disk h.many.1 h.nd g2 0 h2 J;have HHE:Hid (Calls prog 155 #[au l,.int .i64 (g2:Int),.int .i64 0] w λe w'=>e=.returned (.int .i64 0)/\∃ uC,World.blk w' l (gI pd gen (kY recs) lv) 196/\bE w' pd (eh d g2 0) uC/\ai (λb=>b=l\/Fd b) w w'/\(∀ b,uC b->Fd b\/w.heap.size<=b)):=Z HE;have HG:=Z h2;clear HE h h1 h2;go_enter func143,ntmps143;go_wp2_with fail;refine HHE.mono ?_;rintro e w2 ⟨rfl,O6,ho,hd,db,hf⟩;have c1:w2.cell? ⟨l,1,none⟩=some (.int .i64 (gen:Int)):=aa ho 1;have c2:w2.cell? ⟨l,2,none⟩=some (az (kY recs)):=aa ho 2;have c3:w2.cell? ⟨l,3,none⟩=some lv:=aa ho 3;have f1:=ae ho ⟨l,1,none⟩ rfl;have f2:=ae ho ⟨l,2,none⟩ rfl;have f3:=ae ho ⟨l,3,none⟩ rfl;obtain⟨Ho,Hd,Hm,Hf⟩:=K4 ho hd db hf;clear ho hd db hf HHE;go_wp2;go_ret;have m7:ai (λb=>b=l) w2 (((w2.setCell ⟨l,1,none⟩ (.int .i64 (g2:Int))).setCell ⟨l,2,none⟩ (.string ⟨#[]⟩)).setCell ⟨l,3,none⟩ (.slice none 0 0)):=(((ai.refl (λb=>b=l) w2).setCell (p:=⟨l,1,none⟩) (.inl rfl) _).setCell (p:=⟨l,2,none⟩) (.inl rfl) _).setCell (p:=⟨l,3,none⟩) (.inl rfl) _;have o7:World.blk (((w2.setCell ⟨l,1,none⟩ (.int .i64 (g2:Int))).setCell ⟨l,2,none⟩ (.string ⟨#[]⟩)).setCell ⟨l,3,none⟩ (.slice none 0 0)) l (gI pd g2 [] (.slice none 0 0)) 196:=ah (ah (ah Ho.o 1 _) 2 _) 3 _;generalize ((w2.setCell ⟨l,1,none⟩ (.int .i64 (g2:Int))).setCell ⟨l,2,none⟩ (.string ⟨#[]⟩)).setCell ⟨l,3,none⟩ (.slice none 0 0)=w6 at*;have oc:=Hm.size;have j5:=m7.size;have n2:¬ O6 l:=λhv=>(Hf.o l hv).elim H.nd (λhge=>by have:=H.lt l H.fl;omega);have cJ:(eh d g2 0).size=d.size:=by unfold eh;rw[dx,ft]
 refine⟨rfl,λb=>F b\/O6 b,⟨pd,.slice none 0 0,O6,?_⟩,?_⟩
 ·exact { own:=o7,disk:=Hd.mod m7 (λb hb e=>n2 (e▸hb)),list:=⟨rfl,.inl ⟨rfl,rfl⟩⟩,fl:=.inl H.fl,fd:=λb hb=>.inr hb,fv:=λb e=>by cases e
          nd:=n2,many:=by rw[cJ];exact H.many,gen:=HG.o,eqT:=rfl,room:=by simp[kY],lt:=λb hb=>hb.elim (λh=>by have:=H.lt b h;omega) (λh=>by have:=Hd.lt b h;omega) }
 ·exact⟨(Hm.mono (T:=F) (λi _ h=>h.elim (λe=>by subst e;exact H.fl) (H.fd i))).trans (m7.mono (T:=F) (λi _ e=>by subst e;exact H.fl)) (λ_ _ h=>h),λb hb=>hb.elim .inl (λh=>(Hf.o b h).imp (H.fd b) id)⟩
end
end Go.Proofs.YtkghpdcloaiflaaGreatDoor
